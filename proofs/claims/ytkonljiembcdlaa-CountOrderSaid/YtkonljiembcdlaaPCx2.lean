import Derived.Test.YtkonljiembcdlaaPCx0
import Derived.Test.YtkonljiembcdlaaPCx1
import Derived.Test.YtkonljiembcdlaaMyTiny
namespace Go.Proofs.Ytkonljiembcdlaa.PC
open Go.Proofs.MyWords Go.RowKit Go.Proofs.YtkonljiembcdlaaW.PrintWords Go.Proofs.YtkonljiembcdlaaW.PrintLast Go.Proofs.YtkonljiembcdlaaW.PrintMore
attribute [local go_sem] max2_int min2_int max_two min_two max_three min_three max_four min_four   -- for this text's walks alone
set_option linter.unusedVariables false
set_option linter.unusedSimpArgs false
attribute [local go_sem] eqGuard_slices eqlnil23 neqnil23 eqlnil58 neqnil58
def mok (m:FoundW.V3):Prop:=(0 ≤ m.1∧m.1 ≤ 8)∧(0 ≤ m.2.1∧m.2.1 ≤ 8)∧(0 ≤ m.2.2∧m.2.2 ≤ 8)
def good3 (m s:FoundW.V3):Prop:=(0 ≤ s.1∧0 ≤ s.2.1∧0 ≤ s.2.2)∧inBox m s=true
def RepF (m:FoundW.V3) (w:World) (b:Nat) (L:List FoundW.V3):Prop:=∃ S,FoundT w b S∧(∀ s,s ∈ S ↔ s ∈ L)∧∀ s,s ∈ L → good3 m s
def boxL:List FoundW.V3:=(List.range 9).flatMap fun a=>(List.range 9).flatMap fun b=>(List.range 9).map fun c=>(((a:Nat):Int),((b:Nat):Int),((c:Nat):Int))
theorem boxL_len:boxL.length=729:=by kernel_rfl
theorem mem_boxL {s:FoundW.V3} (h:mok s):s ∈ boxL:=by obtain ⟨⟨a1,a2⟩,⟨b1,b2⟩,⟨c1,c2⟩⟩:=h;obtain ⟨a,b,c⟩:=s;simp only at a1 a2 b1 b2 c1 c2;unfold boxL;refine List.mem_flatMap.2 ⟨a.toNat,by rw [List.mem_range];omega,List.mem_flatMap.2 ⟨b.toNat,by rw [List.mem_range];omega,List.mem_map.2 ⟨c.toNat,by rw [List.mem_range];omega,?_⟩⟩⟩;rw [Int.toNat_of_nonneg a1,Int.toNat_of_nonneg b1,Int.toNat_of_nonneg c1]
theorem good3.mok {m s:FoundW.V3} (hm:PC.mok m) (h:good3 m s):PC.mok s:=by obtain ⟨⟨a1,a2,a3⟩,h⟩:=h;obtain ⟨b1,b2,b3⟩:=of_decide_eq_true h;obtain ⟨⟨_,c1⟩,⟨_,c2⟩,⟨_,c3⟩⟩:=hm;exact ⟨⟨a1,by omega⟩,⟨a2,by omega⟩,⟨a3,by omega⟩⟩
theorem mok.small {s:FoundW.V3} (h:mok s):small3 s:=by obtain ⟨⟨a1,a2⟩,⟨b1,b2⟩,⟨c1,c2⟩⟩:=h;exact ⟨⟨a1,by omega⟩,⟨b1,by omega⟩,⟨c1,by omega⟩⟩
theorem RepF.len {m:FoundW.V3} {L S:List FoundW.V3} (hm:mok m) (hn:S.Nodup) (h1:∀ s,s ∈ S ↔ s ∈ L) (h2:∀ s,s ∈ L → good3 m s):S.length ≤ 729:=by rw [← boxL_len];exact nodup_len3 S boxL hn (fun s hs=>mem_boxL ((h2 s ((h1 s).1 hs)).mok hm))
theorem RepF.below {m:FoundW.V3} {w w':World} {b:Nat} {L:List FoundW.V3} (h:RepF m w b L) (hb:Below w.heap.size w w'):RepF m w' b L:=by obtain ⟨S,h1,h2⟩:=h;exact ⟨S,h1.below hb,h2⟩
theorem RepF.lt {m:FoundW.V3} {w:World} {b:Nat} {L:List FoundW.V3} (h:RepF m w b L):b < w.heap.size:=by obtain ⟨S,h1,h2⟩:=h;exact h1.lt
theorem ins_run {W:World} {b:Nat} {S:List FoundW.V3} {x y z:Int} (h:FoundT W b S) (hs:FoundW.ok3 (x,y,z)) (hl:S.length < maxLen) :
    ∃ V,(Instr.mapUpdate 88 (.map (some b)) (.agg #[.int .i64 x,.int .i64 y,.int .i64 z]) (.bool true)).run Try.prog W=.ok () V∧FoundT V b (FoundW.ins S (x,y,z))∧W.grownBy V (some b):=by
  obtain ⟨D,h1,h2⟩:=h;obtain ⟨V,hrun,ho,hg⟩:=h1.update okf.K okf.hm hl (FoundW.keyOf_vec okf hs) (plainElem_bool okf.he true);exact ⟨V,hrun,.mk ho (h2.put (h1.tidy okf.K) hs),hg⟩
theorem made_drew (w:World):FoundT (w.alloc (.map #[] 0)).drew w.heap.size []:=FoundW.FoundOf.made w
def unit3 (i:Int):FoundW.V3:=(if i=0 then 1 else 0,if i=1 then 1 else 0,if i=2 then 1 else 0)
def fLetter (m:FoundW.V3) (i:Int):List FoundW.V3:=[unit3 i].filter (inBox m)
theorem fLetter_good (m:FoundW.V3) (i:Int):∀ s,s ∈ fLetter m i → good3 m s:=fun s hs=>by obtain ⟨h1,h2⟩:=List.mem_filter.1 hs;refine ⟨?_,h2⟩;(obtain rfl:s=unit3 i:=by simpa using h1);unfold unit3;refine ⟨?_,?_,?_⟩ <;> (simp only;split <;> omega)
theorem unit3_ok (i:Int):FoundW.ok3 (unit3 i):=by unfold unit3;refine ⟨FoundW.in64_of ?_ ?_,FoundW.in64_of ?_ ?_,FoundW.in64_of ?_ ?_⟩ <;> (simp only;split <;> omega)
theorem ins_nil (s:FoundW.V3):FoundW.ins [] s=[s]:=by simp [FoundW.ins]
set_option maxHeartbeats 4000000 in
set_option maxRecDepth 100000 in
theorem Accepts_letter.calls (gm:Nat) (m1 m2 m3 i:Int) (hi:i=-1 ∨ i=0 ∨ i=1 ∨ i=2) (w:World) (B:w.heap[gm]?=some (.cells #[.int .i64 m1,.int .i64 m2,.int .i64 m3] 86 (0,0))) :
    Calls Try.prog 55 #[.int .i64 i,.pointer (some ⟨gm,0,none⟩)] w fun e w'=>∃ b,e=.returned (.map (some b))∧RepF (m1,m2,m3) w' b (fLetter (m1,m2,m3) i)∧Below w.heap.size w w':=by
  have HM:=mk0 B;clear B;rcases hi with rfl|rfl|rfl|rfl
  · go_enter Try.func55,Try.ntmps55
    go_wp2_with (first
      | ((with_reducible refine gate_dst (N:=4) rfl ?_);refine box_event ?hg (N:=4) ?hd (cs:=#[.int .i64 0,.int .i64 0,.int .i64 0]) (t:=86) ?hr ?_;(case hd=>rfl);(case hg=>rfl);(case hr=>first|(go_simp;done)|(go_simp;rfl));intro gv hg D B hb;have BV:=mk0 B;have E:=mk0 hb;have F:=mk0 (blk_below HM.1 hb);have HGV:=mk0 hg;have G:D.cell? ⟨gv,0,none⟩=some (.int .i64 0):=(blk_cell B 0).trans rfl;have I:D.cell? ⟨gv,1,none⟩=some (.int .i64 0):=(blk_cell B 1).trans rfl;have J:D.cell? ⟨gv,2,none⟩=some (.int .i64 0):=(blk_cell B 2).trans rfl;have L:D.frozen? ⟨gv,0,none⟩=false:=blk_frozen B 0;have M:D.frozen? ⟨gv,1,none⟩=false:=blk_frozen B 1;have O:D.frozen? ⟨gv,2,none⟩=false:=blk_frozen B 2;clear hb B hg)
      | fail)
    have HF:=mk0 (show D.heap[gv]?=some (.cells #[.int .i64 0,.int .i64 0,.int .i64 0] 86 (0,0))∧D.heap[gm]?=some (.cells #[.int .i64 m1,.int .i64 m2,.int .i64 m3] 86 (0,0))∧Below w.heap.size w D from ⟨BV.1,F.1,E.1⟩)
    clear G I J L M O BV F E
    obtain ⟨C,rfl⟩:∃ C,C=D:=⟨_,rfl⟩
    have HSOF:Aside0 (∀ w',Below C.heap.size C w' → w'.cell? ⟨gv,0,none⟩=some (.int .i64 0)∧w'.cell? ⟨gv,1,none⟩=some (.int .i64 0)∧w'.cell? ⟨gv,2,none⟩=some (.int .i64 0)∧w'.cell? ⟨gm,0,none⟩=some (.int .i64 m1)∧w'.cell? ⟨gm,1,none⟩=some (.int .i64 m2)∧w'.cell? ⟨gm,2,none⟩=some (.int .i64 m3)):=⟨fun w' hb=>⟨(blk_cell (blk_below HF.1.1 hb) 0).trans rfl,(blk_cell (blk_below HF.1.1 hb) 1).trans rfl,(blk_cell (blk_below HF.1.1 hb) 2).trans rfl,(blk_cell (blk_below HF.1.2.1 hb) 0).trans rfl,(blk_cell (blk_below HF.1.2.1 hb) 1).trans rfl,(blk_cell (blk_below HF.1.2.1 hb) 2).trans rfl⟩⟩
    have HOK:Aside0 (FoundW.ok3 (0,0,0)):=⟨by have h:=unit3_ok (-1);simpa [unit3] using h⟩
    go_region_held3 (fun w'=>w'.cell? ⟨gv,0,none⟩=some (.int .i64 0)∧w'.cell? ⟨gv,1,none⟩=some (.int .i64 0)∧w'.cell? ⟨gv,2,none⟩=some (.int .i64 0)∧w'.cell? ⟨gm,0,none⟩=some (.int .i64 m1)∧w'.cell? ⟨gm,1,none⟩=some (.int .i64 m2)∧w'.cell? ⟨gm,2,none⟩=some (.int .i64 m3))
      (exact HSOF.1 _ (by ((repeat (first|exact Below.refl _ _|assumption|exact HBV.1|exact HBX.1|apply Below.drew|apply below_alloc));done)))
      (first
        | (go_at_call 56;(with_reducible refine (found_within.calls C.heap.size [(0,0,0)] m1 m2 m3 _ ?hs).mono ?_);(case hs=>exact HFV.1);rintro e wx ⟨rfl,hFx,hgx⟩;have HFX:=mk0 hFx;have HBX:=mk0 (Below.grown HBV.1 hgx HBV.1.size (fun k hk=>by injection hk with hk;omega));clear hFx hgx)
        | (simp only [run_makeMap])
        | (obtain ⟨V,hrun,hF,hgV⟩:=ins_run (made_drew C) HOK.1 (by decide);simp only [hrun];have HFV:=mk0 (show FoundT V C.heap.size [(0,0,0)] from by rw [ins_nil] at hF;exact hF);have HBV:=mk0 (show Below C.heap.size C V from Below.grown (Below.drew (below_alloc (Below.refl _ _) _)) hgV (by simp) (fun k hk=>by injection hk with hk;omega));clear hrun hF hgV)
        | (obtain ⟨V,hrun,hF,hgV⟩:=ins_run (FoundW.FoundOf.made C.drew) HOK.1 (by decide);simp only [hrun];have HFV:=mk0 (show FoundT V C.heap.size [(0,0,0)] from by rw [ins_nil] at hF;exact hF);have HBV:=mk0 (show Below C.heap.size C V from Below.grown (below_alloc (Below.drew (Below.refl _ _)) _) hgV (by simp) (fun k hk=>by injection hk with hk;omega));clear hrun hF hgV)
        | fail)
    go_wp2
    go_ret
    exact ⟨C.heap.size,rfl,⟨_,HFX.1,fun s=>Iff.rfl,fLetter_good (m1,m2,m3) (-1)⟩,HF.1.2.2.trans (HBX.1.mono HF.1.2.2.size)⟩
  · go_enter Try.func55,Try.ntmps55
    go_wp2_with (first
      | ((with_reducible refine gate_dst (N:=4) rfl ?_);refine box_event ?hg (N:=4) ?hd (cs:=#[.int .i64 0,.int .i64 0,.int .i64 0]) (t:=86) ?hr ?_;(case hd=>rfl);(case hg=>rfl);(case hr=>first|(go_simp;done)|(go_simp;rfl));intro gv hg D B hb;have BV:=mk0 B;have E:=mk0 hb;have F:=mk0 (blk_below HM.1 hb);have HGV:=mk0 hg;have G:D.cell? ⟨gv,0,none⟩=some (.int .i64 0):=(blk_cell B 0).trans rfl;have I:D.cell? ⟨gv,1,none⟩=some (.int .i64 0):=(blk_cell B 1).trans rfl;have J:D.cell? ⟨gv,2,none⟩=some (.int .i64 0):=(blk_cell B 2).trans rfl;have L:D.frozen? ⟨gv,0,none⟩=false:=blk_frozen B 0;have M:D.frozen? ⟨gv,1,none⟩=false:=blk_frozen B 1;have O:D.frozen? ⟨gv,2,none⟩=false:=blk_frozen B 2;clear hb B hg)
      | fail)
    have HF:=mk0 (show (D.setCell ⟨gv,0,none⟩ (.int .i64 1)).heap[gv]?=some (.cells #[.int .i64 1,.int .i64 0,.int .i64 0] 86 (0,0))∧(D.setCell ⟨gv,0,none⟩ (.int .i64 1)).heap[gm]?=some (.cells #[.int .i64 m1,.int .i64 m2,.int .i64 m3] 86 (0,0))∧Below w.heap.size w (D.setCell ⟨gv,0,none⟩ (.int .i64 1)) from ⟨blk_put BV.1 0 _ rfl,blk_far F.1 (by have:=blk_lt HM.1;have:=HGV.1;show gm ≠ gv;omega) _,below_set E.1 (by have:=HGV.1;omega)⟩)
    clear G I J L M O BV F E
    generalize hW:D.setCell ⟨gv,0,none⟩ (.int .i64 1)=C at HF ⊢
    clear hW
    have HSOF:Aside0 (∀ w',Below C.heap.size C w' → w'.cell? ⟨gv,0,none⟩=some (.int .i64 1)∧w'.cell? ⟨gv,1,none⟩=some (.int .i64 0)∧w'.cell? ⟨gv,2,none⟩=some (.int .i64 0)∧w'.cell? ⟨gm,0,none⟩=some (.int .i64 m1)∧w'.cell? ⟨gm,1,none⟩=some (.int .i64 m2)∧w'.cell? ⟨gm,2,none⟩=some (.int .i64 m3)):=⟨fun w' hb=>⟨(blk_cell (blk_below HF.1.1 hb) 0).trans rfl,(blk_cell (blk_below HF.1.1 hb) 1).trans rfl,(blk_cell (blk_below HF.1.1 hb) 2).trans rfl,(blk_cell (blk_below HF.1.2.1 hb) 0).trans rfl,(blk_cell (blk_below HF.1.2.1 hb) 1).trans rfl,(blk_cell (blk_below HF.1.2.1 hb) 2).trans rfl⟩⟩
    have HOK:Aside0 (FoundW.ok3 (1,0,0)):=⟨by have h:=unit3_ok (0);simpa [unit3] using h⟩
    go_region_held3 (fun w'=>w'.cell? ⟨gv,0,none⟩=some (.int .i64 1)∧w'.cell? ⟨gv,1,none⟩=some (.int .i64 0)∧w'.cell? ⟨gv,2,none⟩=some (.int .i64 0)∧w'.cell? ⟨gm,0,none⟩=some (.int .i64 m1)∧w'.cell? ⟨gm,1,none⟩=some (.int .i64 m2)∧w'.cell? ⟨gm,2,none⟩=some (.int .i64 m3))
      (exact HSOF.1 _ (by ((repeat (first|exact Below.refl _ _|assumption|exact HBV.1|exact HBX.1|apply Below.drew|apply below_alloc));done)))
      (first
        | (go_at_call 56;(with_reducible refine (found_within.calls C.heap.size [(1,0,0)] m1 m2 m3 _ ?hs).mono ?_);(case hs=>exact HFV.1);rintro e wx ⟨rfl,hFx,hgx⟩;have HFX:=mk0 hFx;have HBX:=mk0 (Below.grown HBV.1 hgx HBV.1.size (fun k hk=>by injection hk with hk;omega));clear hFx hgx)
        | (simp only [run_makeMap])
        | (obtain ⟨V,hrun,hF,hgV⟩:=ins_run (made_drew C) HOK.1 (by decide);simp only [hrun];have HFV:=mk0 (show FoundT V C.heap.size [(1,0,0)] from by rw [ins_nil] at hF;exact hF);have HBV:=mk0 (show Below C.heap.size C V from Below.grown (Below.drew (below_alloc (Below.refl _ _) _)) hgV (by simp) (fun k hk=>by injection hk with hk;omega));clear hrun hF hgV)
        | (obtain ⟨V,hrun,hF,hgV⟩:=ins_run (FoundW.FoundOf.made C.drew) HOK.1 (by decide);simp only [hrun];have HFV:=mk0 (show FoundT V C.heap.size [(1,0,0)] from by rw [ins_nil] at hF;exact hF);have HBV:=mk0 (show Below C.heap.size C V from Below.grown (below_alloc (Below.drew (Below.refl _ _)) _) hgV (by simp) (fun k hk=>by injection hk with hk;omega));clear hrun hF hgV)
        | fail)
    go_wp2
    go_ret
    exact ⟨C.heap.size,rfl,⟨_,HFX.1,fun s=>Iff.rfl,fLetter_good (m1,m2,m3) (0)⟩,HF.1.2.2.trans (HBX.1.mono HF.1.2.2.size)⟩
  · go_enter Try.func55,Try.ntmps55
    go_wp2_with (first
      | ((with_reducible refine gate_dst (N:=4) rfl ?_);refine box_event ?hg (N:=4) ?hd (cs:=#[.int .i64 0,.int .i64 0,.int .i64 0]) (t:=86) ?hr ?_;(case hd=>rfl);(case hg=>rfl);(case hr=>first|(go_simp;done)|(go_simp;rfl));intro gv hg D B hb;have BV:=mk0 B;have E:=mk0 hb;have F:=mk0 (blk_below HM.1 hb);have HGV:=mk0 hg;have G:D.cell? ⟨gv,0,none⟩=some (.int .i64 0):=(blk_cell B 0).trans rfl;have I:D.cell? ⟨gv,1,none⟩=some (.int .i64 0):=(blk_cell B 1).trans rfl;have J:D.cell? ⟨gv,2,none⟩=some (.int .i64 0):=(blk_cell B 2).trans rfl;have L:D.frozen? ⟨gv,0,none⟩=false:=blk_frozen B 0;have M:D.frozen? ⟨gv,1,none⟩=false:=blk_frozen B 1;have O:D.frozen? ⟨gv,2,none⟩=false:=blk_frozen B 2;clear hb B hg)
      | fail)
    have HF:=mk0 (show (D.setCell ⟨gv,1,none⟩ (.int .i64 1)).heap[gv]?=some (.cells #[.int .i64 0,.int .i64 1,.int .i64 0] 86 (0,0))∧(D.setCell ⟨gv,1,none⟩ (.int .i64 1)).heap[gm]?=some (.cells #[.int .i64 m1,.int .i64 m2,.int .i64 m3] 86 (0,0))∧Below w.heap.size w (D.setCell ⟨gv,1,none⟩ (.int .i64 1)) from ⟨blk_put BV.1 1 _ rfl,blk_far F.1 (by have:=blk_lt HM.1;have:=HGV.1;show gm ≠ gv;omega) _,below_set E.1 (by have:=HGV.1;omega)⟩)
    clear G I J L M O BV F E
    generalize hW:D.setCell ⟨gv,1,none⟩ (.int .i64 1)=C at HF ⊢
    clear hW
    have HSOF:Aside0 (∀ w',Below C.heap.size C w' → w'.cell? ⟨gv,0,none⟩=some (.int .i64 0)∧w'.cell? ⟨gv,1,none⟩=some (.int .i64 1)∧w'.cell? ⟨gv,2,none⟩=some (.int .i64 0)∧w'.cell? ⟨gm,0,none⟩=some (.int .i64 m1)∧w'.cell? ⟨gm,1,none⟩=some (.int .i64 m2)∧w'.cell? ⟨gm,2,none⟩=some (.int .i64 m3)):=⟨fun w' hb=>⟨(blk_cell (blk_below HF.1.1 hb) 0).trans rfl,(blk_cell (blk_below HF.1.1 hb) 1).trans rfl,(blk_cell (blk_below HF.1.1 hb) 2).trans rfl,(blk_cell (blk_below HF.1.2.1 hb) 0).trans rfl,(blk_cell (blk_below HF.1.2.1 hb) 1).trans rfl,(blk_cell (blk_below HF.1.2.1 hb) 2).trans rfl⟩⟩
    have HOK:Aside0 (FoundW.ok3 (0,1,0)):=⟨by have h:=unit3_ok (1);simpa [unit3] using h⟩
    go_region_held3 (fun w'=>w'.cell? ⟨gv,0,none⟩=some (.int .i64 0)∧w'.cell? ⟨gv,1,none⟩=some (.int .i64 1)∧w'.cell? ⟨gv,2,none⟩=some (.int .i64 0)∧w'.cell? ⟨gm,0,none⟩=some (.int .i64 m1)∧w'.cell? ⟨gm,1,none⟩=some (.int .i64 m2)∧w'.cell? ⟨gm,2,none⟩=some (.int .i64 m3))
      (exact HSOF.1 _ (by ((repeat (first|exact Below.refl _ _|assumption|exact HBV.1|exact HBX.1|apply Below.drew|apply below_alloc));done)))
      (first
        | (go_at_call 56;(with_reducible refine (found_within.calls C.heap.size [(0,1,0)] m1 m2 m3 _ ?hs).mono ?_);(case hs=>exact HFV.1);rintro e wx ⟨rfl,hFx,hgx⟩;have HFX:=mk0 hFx;have HBX:=mk0 (Below.grown HBV.1 hgx HBV.1.size (fun k hk=>by injection hk with hk;omega));clear hFx hgx)
        | (simp only [run_makeMap])
        | (obtain ⟨V,hrun,hF,hgV⟩:=ins_run (made_drew C) HOK.1 (by decide);simp only [hrun];have HFV:=mk0 (show FoundT V C.heap.size [(0,1,0)] from by rw [ins_nil] at hF;exact hF);have HBV:=mk0 (show Below C.heap.size C V from Below.grown (Below.drew (below_alloc (Below.refl _ _) _)) hgV (by simp) (fun k hk=>by injection hk with hk;omega));clear hrun hF hgV)
        | (obtain ⟨V,hrun,hF,hgV⟩:=ins_run (FoundW.FoundOf.made C.drew) HOK.1 (by decide);simp only [hrun];have HFV:=mk0 (show FoundT V C.heap.size [(0,1,0)] from by rw [ins_nil] at hF;exact hF);have HBV:=mk0 (show Below C.heap.size C V from Below.grown (below_alloc (Below.drew (Below.refl _ _)) _) hgV (by simp) (fun k hk=>by injection hk with hk;omega));clear hrun hF hgV)
        | fail)
    go_wp2
    go_ret
    exact ⟨C.heap.size,rfl,⟨_,HFX.1,fun s=>Iff.rfl,fLetter_good (m1,m2,m3) (1)⟩,HF.1.2.2.trans (HBX.1.mono HF.1.2.2.size)⟩
  · go_enter Try.func55,Try.ntmps55
    go_wp2_with (first
      | ((with_reducible refine gate_dst (N:=4) rfl ?_);refine box_event ?hg (N:=4) ?hd (cs:=#[.int .i64 0,.int .i64 0,.int .i64 0]) (t:=86) ?hr ?_;(case hd=>rfl);(case hg=>rfl);(case hr=>first|(go_simp;done)|(go_simp;rfl));intro gv hg D B hb;have BV:=mk0 B;have E:=mk0 hb;have F:=mk0 (blk_below HM.1 hb);have HGV:=mk0 hg;have G:D.cell? ⟨gv,0,none⟩=some (.int .i64 0):=(blk_cell B 0).trans rfl;have I:D.cell? ⟨gv,1,none⟩=some (.int .i64 0):=(blk_cell B 1).trans rfl;have J:D.cell? ⟨gv,2,none⟩=some (.int .i64 0):=(blk_cell B 2).trans rfl;have L:D.frozen? ⟨gv,0,none⟩=false:=blk_frozen B 0;have M:D.frozen? ⟨gv,1,none⟩=false:=blk_frozen B 1;have O:D.frozen? ⟨gv,2,none⟩=false:=blk_frozen B 2;clear hb B hg)
      | fail)
    have HF:=mk0 (show (D.setCell ⟨gv,2,none⟩ (.int .i64 1)).heap[gv]?=some (.cells #[.int .i64 0,.int .i64 0,.int .i64 1] 86 (0,0))∧(D.setCell ⟨gv,2,none⟩ (.int .i64 1)).heap[gm]?=some (.cells #[.int .i64 m1,.int .i64 m2,.int .i64 m3] 86 (0,0))∧Below w.heap.size w (D.setCell ⟨gv,2,none⟩ (.int .i64 1)) from ⟨blk_put BV.1 2 _ rfl,blk_far F.1 (by have:=blk_lt HM.1;have:=HGV.1;show gm ≠ gv;omega) _,below_set E.1 (by have:=HGV.1;omega)⟩)
    clear G I J L M O BV F E
    generalize hW:D.setCell ⟨gv,2,none⟩ (.int .i64 1)=C at HF ⊢
    clear hW
    have HSOF:Aside0 (∀ w',Below C.heap.size C w' → w'.cell? ⟨gv,0,none⟩=some (.int .i64 0)∧w'.cell? ⟨gv,1,none⟩=some (.int .i64 0)∧w'.cell? ⟨gv,2,none⟩=some (.int .i64 1)∧w'.cell? ⟨gm,0,none⟩=some (.int .i64 m1)∧w'.cell? ⟨gm,1,none⟩=some (.int .i64 m2)∧w'.cell? ⟨gm,2,none⟩=some (.int .i64 m3)):=⟨fun w' hb=>⟨(blk_cell (blk_below HF.1.1 hb) 0).trans rfl,(blk_cell (blk_below HF.1.1 hb) 1).trans rfl,(blk_cell (blk_below HF.1.1 hb) 2).trans rfl,(blk_cell (blk_below HF.1.2.1 hb) 0).trans rfl,(blk_cell (blk_below HF.1.2.1 hb) 1).trans rfl,(blk_cell (blk_below HF.1.2.1 hb) 2).trans rfl⟩⟩
    have HOK:Aside0 (FoundW.ok3 (0,0,1)):=⟨by have h:=unit3_ok (2);simpa [unit3] using h⟩
    go_region_held3 (fun w'=>w'.cell? ⟨gv,0,none⟩=some (.int .i64 0)∧w'.cell? ⟨gv,1,none⟩=some (.int .i64 0)∧w'.cell? ⟨gv,2,none⟩=some (.int .i64 1)∧w'.cell? ⟨gm,0,none⟩=some (.int .i64 m1)∧w'.cell? ⟨gm,1,none⟩=some (.int .i64 m2)∧w'.cell? ⟨gm,2,none⟩=some (.int .i64 m3))
      (exact HSOF.1 _ (by ((repeat (first|exact Below.refl _ _|assumption|exact HBV.1|exact HBX.1|apply Below.drew|apply below_alloc));done)))
      (first
        | (go_at_call 56;(with_reducible refine (found_within.calls C.heap.size [(0,0,1)] m1 m2 m3 _ ?hs).mono ?_);(case hs=>exact HFV.1);rintro e wx ⟨rfl,hFx,hgx⟩;have HFX:=mk0 hFx;have HBX:=mk0 (Below.grown HBV.1 hgx HBV.1.size (fun k hk=>by injection hk with hk;omega));clear hFx hgx)
        | (simp only [run_makeMap])
        | (obtain ⟨V,hrun,hF,hgV⟩:=ins_run (made_drew C) HOK.1 (by decide);simp only [hrun];have HFV:=mk0 (show FoundT V C.heap.size [(0,0,1)] from by rw [ins_nil] at hF;exact hF);have HBV:=mk0 (show Below C.heap.size C V from Below.grown (Below.drew (below_alloc (Below.refl _ _) _)) hgV (by simp) (fun k hk=>by injection hk with hk;omega));clear hrun hF hgV)
        | (obtain ⟨V,hrun,hF,hgV⟩:=ins_run (FoundW.FoundOf.made C.drew) HOK.1 (by decide);simp only [hrun];have HFV:=mk0 (show FoundT V C.heap.size [(0,0,1)] from by rw [ins_nil] at hF;exact hF);have HBV:=mk0 (show Below C.heap.size C V from Below.grown (below_alloc (Below.drew (Below.refl _ _)) _) hgV (by simp) (fun k hk=>by injection hk with hk;omega));clear hrun hF hgV)
        | fail)
    go_wp2
    go_ret
    exact ⟨C.heap.size,rfl,⟨_,HFX.1,fun s=>Iff.rfl,fLetter_good (m1,m2,m3) (2)⟩,HF.1.2.2.trans (HBX.1.mono HF.1.2.2.size)⟩
def add3 (v u:FoundW.V3):FoundW.V3:=(v.1 + u.1,v.2.1 + u.2.1,v.2.2 + u.2.2)
theorem small3.add {v u:FoundW.V3} (hv:small3 v) (hu:small3 u):FoundW.ok3 (add3 v u):=by obtain ⟨⟨a1,a2⟩,⟨a3,a4⟩,⟨a5,a6⟩⟩:=hv;obtain ⟨⟨b1,b2⟩,⟨b3,b4⟩,⟨b5,b6⟩⟩:=hu;exact ⟨FoundW.in64_of (by show _ ≤ v.1 + u.1;omega) (by show v.1 + u.1 ≤ _;omega),FoundW.in64_of (by show _ ≤ v.2.1 + u.2.1;omega) (by show v.2.1 + u.2.1 ≤ _;omega),FoundW.in64_of (by show _ ≤ v.2.2 + u.2.2;omega) (by show v.2.2 + u.2.2 ≤ _;omega)⟩
def SumsTo (A B S:List FoundW.V3) (L:FoundW.V3 → Bool):Prop:=∀ s,s ∈ S ↔ ∃ v,v ∈ A∧L v=false∧∃ u,u ∈ B∧s=add3 v u
def SumsIn (A B S:List FoundW.V3) (L:FoundW.V3 → Bool) (c:FoundW.V3) (L2:FoundW.V3 → Bool):Prop:=∀ s,s ∈ S ↔ (∃ v,v ∈ A∧L v=false∧∃ u,u ∈ B∧s=add3 v u) ∨ ∃ u,u ∈ B∧L2 u=false∧s=add3 c u
theorem SumsIn.len {A B S:List FoundW.V3} {L:FoundW.V3 → Bool} {c:FoundW.V3} {L2:FoundW.V3 → Bool} (h:SumsIn A B S L c L2) (hc:c ∈ A) (hn:S.Nodup) (ha:A.length ≤ 10000) (hb:B.length ≤ 10000):S.length < maxLen:=by
  have h1:S.length ≤ (A.flatMap fun v=>B.map (add3 v)).length:=nodup_len3 _ _ hn (fun s hs=>by
    rw [List.mem_flatMap];(rcases (h s).1 hs with ⟨v,hv,_,u,hu,rfl⟩|⟨u,hu,_,rfl⟩);· exact ⟨v,hv,List.mem_map.2 ⟨u,hu,rfl⟩⟩
    · exact ⟨c,hc,List.mem_map.2 ⟨u,hu,rfl⟩⟩)
  have h2:∀ l:List FoundW.V3,(l.flatMap fun v=>B.map (add3 v)).length=l.length * B.length:=fun l=>by
    induction l with
    | nil=>simp
    | cons a l ih=>rw [List.flatMap_cons,List.length_append,ih,List.length_map,List.length_cons,Nat.succ_mul];omega
  rw [h2] at h1;have:A.length * B.length ≤ 10000 * 10000:=Nat.mul_le_mul ha hb;unfold maxLen;omega
theorem SumsIn.start {A B S:List FoundW.V3} {L:FoundW.V3 → Bool} (h:SumsTo A B S L) (c:FoundW.V3):SumsIn A B S L c (fun s=>decide (s ∈ B)):=fun s=>by
  rw [h s];constructor;· exact Or.inl
  · rintro (h|⟨u,hu,hu2,_⟩)
    · exact h
    · simp [hu] at hu2
theorem SumsIn.done {A B S:List FoundW.V3} {L L2:FoundW.V3 → Bool} {c:FoundW.V3} (h:SumsIn A B S L c L2) (hc:c ∈ A) (hB:∀ u,u ∈ B → L2 u=false):SumsTo A B S (fun z=>L z && !decide (z=c)):=fun s=>by
  rw [h s];constructor
  · rintro (⟨v,hv,hL,r⟩|⟨u,hu,_,rfl⟩)
    · exact ⟨v,hv,by simp [hL],r⟩
    · exact ⟨c,hc,by simp,u,hu,rfl⟩
  · rintro ⟨v,hv,hL,u,hu,rfl⟩
    by_cases e:v=c
    · subst e;exact .inr ⟨u,hu,hB u hu,rfl⟩
    · simp [e] at hL
      exact .inl ⟨v,hv,hL,u,hu,rfl⟩
theorem SumsIn.step {A B S:List FoundW.V3} {L L2:FoundW.V3 → Bool} {c d:FoundW.V3} (h:SumsIn A B S L c L2) (hd:d ∈ B):SumsIn A B (FoundW.ins S (add3 c d)) L c (fun z=>L2 z && !decide (z=d)):=fun s=>by
  rw [FoundW.mem_ins,h s];constructor
  · rintro ((h|⟨u,hu,hL,rfl⟩)|rfl)
    · exact .inl h
    · exact .inr ⟨u,hu,by simp [hL],rfl⟩
    · exact .inr ⟨d,hd,by simp,rfl⟩
  · rintro (h|⟨u,hu,hL,rfl⟩)
    · exact .inl (.inl h)
    · by_cases e:u=d
      · subst e;exact .inr rfl
      · simp [e] at hL
        exact .inl (.inr ⟨u,hu,hL,rfl⟩)
theorem gate_upd {P:Program} {w:World} {ops:Array Oper} {rest:List Oper} {o:Oper} {a:Act} {Q:Exit → Act → World → Prop} {t:TypeId} {m x v:Operand} (_ho:o.op=.mapUpdate t m x v) (h:wpList P ops Q (o :: rest) a w):wpList P ops Q (o :: rest) a w:=h
theorem box_set3 {w:World} {g:Nat} (x y z:Int) (h:w.heap[g]?=some (.cells #[.int .i64 0,.int .i64 0,.int .i64 0] 86 (0,0))):(((w.setCell ⟨g,0,none⟩ (.int .i64 x)).setCell ⟨g,1,none⟩ (.int .i64 y)).setCell ⟨g,2,none⟩ (.int .i64 z)).heap[g]?=some (.cells #[.int .i64 x,.int .i64 y,.int .i64 z] 86 (0,0)) :=
  blk_put (blk_put (blk_put h 0 _ rfl) 1 _ rfl) 2 _ rfl
theorem below_set3 {w0 w w1:World} {g:Nat} (x y z:Int) (h:Below w0.heap.size w0 w) (hb:Below w.heap.size w w1) (hg:g=w.heap.size):Below w0.heap.size w0 (((w1.setCell ⟨g,0,none⟩ (.int .i64 x)).setCell ⟨g,1,none⟩ (.int .i64 y)).setCell ⟨g,2,none⟩ (.int .i64 z)) :=
  below_set (below_set (below_set (below_step h hb) (by have:=h.size;omega)) (by have:=h.size;omega)) (by have:=h.size;omega)
set_option maxHeartbeats 4000000 in
set_option maxRecDepth 100000 in
theorem count_sums.calls (a b:Nat) (A B:List FoundW.V3) (w:World) (hA:FoundT w a A) (hB:FoundT w b B) (hsA:∀ v,v ∈ A → small3 v) (hsB:∀ v,v ∈ B → small3 v) (hlA:A.length ≤ 10000) (hlB:B.length ≤ 10000) :
    Calls Try.prog 58 #[.map (some a),.map (some b)] w fun e w'=>∃ nb S,e=.returned (.map (some nb))∧w.heap.size ≤ nb∧FoundT w' nb S∧(∀ s,s ∈ S ↔ ∃ v,v ∈ A∧∃ u,u ∈ B∧s=add3 v u)∧Below w.heap.size w w':=by
  have HA:=mk0 hA;have HBB:=mk0 hB;have HLT:Aside0 (a < w.heap.size∧b < w.heap.size):=⟨hA.lt,hB.lt⟩;have HSA:=mk0 hsA;have HSB:=mk0 hsB;have HLA:=mk0 hlA;have HLB:=mk0 hlB;clear hA hB hsA hsB hlA hlB;go_enter Try.func58,Try.ntmps58
  go_wp2_with (first
    | ((with_reducible refine gate_dst (N:=8) rfl ?_);refine FoundW.made_found _ rfl 88 86 4 rfl ?_;intro nb w1 c1 Q c2;have HN:=mk0 Q;have a0:=mk0 c2;have c3:=mk0 c1;clear Q c2 c1)
    | ((with_reducible refine gate_dst (N:=10) rfl ?_);refine FoundW.range_found okf _ rfl (.tmp 9) rfl a A rfl (HA.1.below a0.1) ?_;intro r w2 hr hrg a7;have HR:=mk0 hrg;have HRW:=mk0 hr;have c4:=mk0 (HN.1.below a7);have c5:=mk0 (below_step a0.1 a7);have HZN:Aside0 (w.heap.size ≤ nb∧nb < r):=⟨by have:=HN.1.lt;have:=c3.1;omega⟩;clear hr hrg a7)
    | go_in)
  go_frame;go_loopw [] (fun wr=>∃ (L:FoundW.V3 → Bool) (S:List FoundW.V3),RangeT wr a r A L∧FoundT wr nb S∧SumsTo A B S L∧Below w.heap.size w wr) (fun wr=>wr.rangeLeft a r);case atStart=>exact ⟨_,[],HR.1,c4.1,fun s=>⟨fun h=>by simp at h,fun ⟨v,hv,hL,_⟩=>by simp [hv] at hL⟩,c5.1⟩
  case round =>
    clear HR c4 c5 HN a0 c3 HRW;obtain ⟨L,S,hR,hN,hT,hB⟩:=hrel;have HR:=mk0 hR;have HN:=mk0 hN;have HT:=mk0 hT;have R:=mk0 hB;clear hR hN hT hB
    go_wp2_with (first
      | (at_next;refine FoundW.next_found okf _ rfl (.tmp 10) rfl a r _ L rfl HR.1 (fun hall=>stop_ ?_) (fun s c w5 hok hsS hsL c6 c7 a8 f2 hen=>stop_ ?_))
      | go_in)
    · delta Stop
      have HAL:=mk0 hall
      clear hall
      go_wp2
      go_ret
      refine ⟨nb,S,rfl,HZN.1.1,HN.1,fun s=>?_,R.1⟩
      rw [HT.1 s]
      exact ⟨fun ⟨v,hv,_,u,hu,e⟩=>⟨v,hv,u,hu,e⟩,fun ⟨v,hv,u,hu,e⟩=>⟨v,hv,HAL.1 v (HR.1.found.ok v hv),u,hu,e⟩⟩
    · delta Stop
      obtain ⟨x,y,z⟩:=s
      simp only [FoundW.vec3] at hen
      have X:=mk0 c6
      have f3:=mk0 c7
      have c8:=mk0 (HN.1.kept a8 (by have:=HZN.1;omega))
      have U:=mk0 (Below.grown R.1 a8 R.1.size (fun k hk=>by injection hk with hk;have:=HZN.1;omega))
      have HSS:=mk0 hsS
      clear c6 c7 a8 f2 hsL hsS hok
      go_wp2_with (first
        | ((with_reducible refine gate_dst (N:=6) rfl ?_);refine box_event ?hg (N:=6) ?hd (cs:=#[.int .i64 0,.int .i64 0,.int .i64 0]) (t:=86) ?hr ?_;(case hd=>rfl);(case hg=>rfl);(case hr=>first|(go_simp;done)|(go_simp;rfl));intro gv hg Z C hb;have HRS:=mk0 (range_set3 x y z X.1 hb hg);have HNS:=mk0 (found_set3 x y z c8.1 hb hg);have HLS:=mk0 (left_set3 x y z X.1 hb hg);have HVS:=mk0 (box_set3 x y z C);have HBS:=mk0 (below_set3 x y z U.1 hb hg);have HGV:=mk0 (show w.heap.size ≤ gv∧r < gv from ⟨by have:=U.1.size;omega,by have:=X.1.lt;omega⟩);have e1:Z.cell? ⟨gv,0,none⟩=some (.int .i64 0):=(blk_cell C 0).trans rfl;have e2:Z.cell? ⟨gv,1,none⟩=some (.int .i64 0):=(blk_cell C 1).trans rfl;have e3:Z.cell? ⟨gv,2,none⟩=some (.int .i64 0):=(blk_cell C 2).trans rfl;have e4:Z.frozen? ⟨gv,0,none⟩=false:=blk_frozen C 0;have e5:Z.frozen? ⟨gv,1,none⟩=false:=blk_frozen C 1;have e6:Z.frozen? ⟨gv,2,none⟩=false:=blk_frozen C 2;clear hb C hg)
        | ((with_reducible refine gate_dst (N:=16) rfl ?_);refine FoundW.range_found okf _ rfl (.tmp 15) rfl b B rfl (HBB.1.below HBS.1) ?_;intro M w7 hr hrg E;have c9:=mk0 hrg;have HRW:=mk0 hr;have d0:=mk0 (HNS.1.below E);have HRO:=mk0 (HRS.1.below E);have d1:=mk0 (blk_below HVS.1 E);have d2:=mk0 (below_step HBS.1 E);have f4:=mk0 (FoundW.left_heap (E.block a HRS.1.lt.1) (E.block r HRS.1.lt.2));have Y:Aside0 (gv < M):=⟨by have:=blk_lt HVS.1;omega⟩;clear hr hrg E)
        | go_in)
      go_frame
      go_loopw [] (fun wr=>∃ (L2:FoundW.V3 → Bool) (S2:List FoundW.V3),RangeT wr b M B L2∧RangeT wr a r A (fun v=>L v && !decide (v=(x,y,z)))∧FoundT wr nb S2∧SumsIn A B S2 L (x,y,z) L2∧Aside0 (wr.heap[gv]?=some (.cells #[.int .i64 x,.int .i64 y,.int .i64 z] 86 (0,0)))∧Below w.heap.size w wr∧Aside0 (wr.rangeLeft a r=w7.rangeLeft a r)) (fun wr=>wr.rangeLeft b M)
      case atStart=>exact ⟨_,S,c9.1,HRO.1,d0.1,SumsIn.start HT.1 _,d1,d2.1,⟨rfl⟩⟩
      case round =>
        clear c9 HRO d0 d1 d2 HRS HNS HVS HBS HRW HN R X c8 U;obtain ⟨L2,S2,d3,hRo,hN,hT,hV,hB,hLl⟩:=hrel;have f5:=mk0 d3;have HRo:=mk0 hRo;have HN:=mk0 hN;have a9:=mk0 hT;have R:=mk0 hB;clear d3 hRo hN hT hB
        go_wp2_with (first
          | (at_next;refine FoundW.next_found okf _ rfl (.tmp 16) rfl b M _ L2 rfl f5.1 (fun hall=>stop_ ?_) (fun s c w8 hok hsS hsL d4 d5 F f6 hen=>stop_ ?_))
          | go_in)
        · delta Stop
          have HAL:=mk0 hall
          clear hall
          go_wp2
          go_roundw
          case rel=>exact ⟨_,S2,HRo.1,HN.1,a9.1.done HSS.1 (fun u hu=>HAL.1 u (HBB.1.ok u hu)),R.1⟩
          case measure=>rw [hLl.1,f4.1,HLS.1];exact f3.1
        · delta Stop
          obtain ⟨G,I,J⟩:=s
          simp only [FoundW.vec3] at hen
          have d6:=mk0 d4
          have f7:=mk0 d5
          have hne:=HRo.1.lt
          have hrr:M ≠ r∧M ≠ a∧M ≠ nb:=by have:=Y.1;have:=HGV.1;have:=HZN.1;have:=HLT.1;omega
          have b0:=mk0 (HRo.1.kept F (by omega) (by omega))
          have f8:=mk0 (HN.1.kept F (by omega))
          have T:=mk0 ((F.block gv (blk_lt hV.1) (fun e=>by injection e with e;have:=Y.1;omega)).trans hV.1)
          have e7:=mk0 (Below.grown R.1 F R.1.size (fun k hk=>by injection hk with hk;have:=Y.1;have:=HGV.1;omega))
          have e8:=mk0 ((FoundW.left_heap (F.block a HRo.1.lt.1 (fun e=>by injection e with e;omega)) (F.block r HRo.1.lt.2 (fun e=>by injection e with e;omega))).trans hLl.1)
          have e9:=mk0 hsS
          have Q:=HSA.1 _ HSS.1
          have d7:=HSB.1 _ hsS
          have HOK:=mk0 (Q.add d7)
          obtain ⟨⟨a1,a2⟩,⟨a3,a4⟩,⟨a5,a6⟩⟩:=Q
          obtain ⟨⟨b1,b2⟩,⟨b3,b4⟩,⟨b5,b6⟩⟩:=d7
          simp only at a1 a2 a3 a4 a5 a6 b1 b2 b3 b4 b5 b6
          have h3:wrap64 (x + G)=x + G:=by unfold wrap64;omega
          have h4:wrap64 (y + I)=y + I:=by unfold wrap64;omega
          have h5:wrap64 (z + J)=z + J:=by unfold wrap64;omega
          clear d4 d5 F f6 hsL hsS hok hne hrr a1 a2 a3 a4 a5 a6 b1 b2 b3 b4 b5 b6
          go_wp2_with (first
            | ((with_reducible refine gate_dst (N:=7) rfl ?_);refine box_event ?hg (N:=7) ?hd (cs:=#[.int .i64 0,.int .i64 0,.int .i64 0]) (t:=86) ?hr ?_;(case hd=>rfl);(case hg=>rfl);(case hr=>first|(go_simp;done)|(go_simp;rfl));intro gu hg O C hb;have b7:=mk0 (range_set3 G I J d6.1 hb hg);have V:=mk0 (range_set3 G I J b0.1 hb hg);have d8:=mk0 (found_set3 G I J f8.1 hb hg);have h1:=mk0 (left_set3 G I J d6.1 hb hg);have f0:=mk0 (left_set3 G I J b0.1 hb hg);have d9:=mk0 (mem_set3 G I J T.1 hb hg);have e0:=mk0 (below_set3 G I J e7.1 hb hg);have e1:O.cell? ⟨gu,0,none⟩=some (.int .i64 0):=(blk_cell C 0).trans rfl;have e2:O.cell? ⟨gu,1,none⟩=some (.int .i64 0):=(blk_cell C 1).trans rfl;have e3:O.cell? ⟨gu,2,none⟩=some (.int .i64 0):=(blk_cell C 2).trans rfl;have e4:O.frozen? ⟨gu,0,none⟩=false:=blk_frozen C 0;have e5:O.frozen? ⟨gu,1,none⟩=false:=blk_frozen C 1;have e6:O.frozen? ⟨gu,2,none⟩=false:=blk_frozen C 2;have h6:O.cell? ⟨gv,0,none⟩=some (.int .i64 x):=(blk_cell (blk_below T.1 hb) 0).trans rfl;have h7:O.cell? ⟨gv,1,none⟩=some (.int .i64 y):=(blk_cell (blk_below T.1 hb) 1).trans rfl;have h8:O.cell? ⟨gv,2,none⟩=some (.int .i64 z):=(blk_cell (blk_below T.1 hb) 2).trans rfl;have hnv:gv ≠ gu:=(by have:=blk_lt T.1;omega);clear hb C hg)
            | ((with_reducible refine gate_upd (t:=88) rfl ?_);refine FoundW.update_found okf _ rfl (.tmp 21) (.tmp 37) _ rfl nb S2 rfl d8.1 (a9.1.len HSS.1 d8.1.nodup HLA.1 HLB.1) (add3 (x,y,z) (G,I,J)) rfl HOK.1 rfl ?_;intro h9 b8 b9;have f1:=mk0 b8;have D:=mk0 b9;clear b8 b9))
          go_frame
          have hnn:b ≠ nb∧M ≠ nb∧a ≠ nb∧r ≠ nb∧gv ≠ nb:=by have:=Y.1;have:=HGV.1;have:=HZN.1;have:=HLT.1;omega
          go_roundw
          case rel=>exact ⟨_,_,b7.1.kept D.1 hnn.1 hnn.2.1,V.1.kept D.1 hnn.2.2.1 hnn.2.2.2.1,f1.1,a9.1.step e9.1,⟨(D.1.block gv (blk_lt d9.1) (fun e=>hnn.2.2.2.2 (by injection e))).trans d9.1⟩,Below.grown e0.1 D.1 e0.1.size (fun k hk=>by injection hk with hk;have:=HZN.1;omega),⟨(FoundW.left_heap (D.1.block a V.1.lt.1 (fun e=>hnn.2.2.1 (by injection e))) (D.1.block r V.1.lt.2 (fun e=>hnn.2.2.2.1 (by injection e)))).trans (f0.1.trans e8.1)⟩⟩
          case measure=>rw [FoundW.left_heap (D.1.block b b7.1.lt.1 (fun e=>hnn.1 (by injection e))) (D.1.block M b7.1.lt.2 (fun e=>hnn.2.1 (by injection e))),h1.1];exact f7.1
def dd:List FoundW.V3 → List FoundW.V3
  | []=>[]
  | x :: r=>if x ∈ dd r then dd r else x :: dd r
theorem mem_dd {s:FoundW.V3}:∀ {l:List FoundW.V3},s ∈ dd l ↔ s ∈ l
  | []=>Iff.rfl
  | x :: r=>by
    unfold dd;split
    · rename_i h
      rw [mem_dd,List.mem_cons]
      constructor
      · exact Or.inr
      · rintro (rfl|h2)
        · exact mem_dd.1 h
        · exact h2
    · rw [List.mem_cons,List.mem_cons,mem_dd]
theorem dd_nodup:∀ l:List FoundW.V3,(dd l).Nodup
  | []=>by simp [dd]
  | x :: r=>by
    unfold dd;split;· exact dd_nodup r
    · rename_i h
      exact List.nodup_cons.2 ⟨h,dd_nodup r⟩
def fJoin (m:FoundW.V3) (A B:List FoundW.V3):List FoundW.V3:=dd ((A.flatMap fun v=>B.map (add3 v)).filter (inBox m))
def fBoth (A B:List FoundW.V3):List FoundW.V3:=dd (A ++ B)
theorem mem_fJoin {m s:FoundW.V3} {A B:List FoundW.V3}:s ∈ fJoin m A B ↔ (∃ v,v ∈ A∧∃ u,u ∈ B∧s=add3 v u)∧inBox m s=true:=by
  unfold fJoin;rw [mem_dd,List.mem_filter,List.mem_flatMap];constructor
  · rintro ⟨⟨v,hv,h⟩,h2⟩
    obtain ⟨u,hu,rfl⟩:=List.mem_map.1 h
    exact ⟨⟨v,hv,u,hu,rfl⟩,h2⟩
  · rintro ⟨⟨v,hv,u,hu,rfl⟩,h2⟩
    exact ⟨⟨v,hv,List.mem_map.2 ⟨u,hu,rfl⟩⟩,h2⟩
theorem mem_fBoth {s:FoundW.V3} {A B:List FoundW.V3}:s ∈ fBoth A B ↔ s ∈ A ∨ s ∈ B:=by unfold fBoth;rw [mem_dd,List.mem_append]
theorem fJoin_good {m:FoundW.V3} {A B:List FoundW.V3} (hA:∀ s,s ∈ A → good3 m s) (hB:∀ s,s ∈ B → good3 m s):∀ s,s ∈ fJoin m A B → good3 m s:=fun s hs=>by obtain ⟨⟨v,hv,u,hu,rfl⟩,h⟩:=mem_fJoin.1 hs;obtain ⟨a1,a2,a3⟩:=(hA v hv).1;obtain ⟨b1,b2,b3⟩:=(hB u hu).1;exact ⟨⟨by show 0 ≤ v.1 + u.1;omega,by show 0 ≤ v.2.1 + u.2.1;omega,by show 0 ≤ v.2.2 + u.2.2;omega⟩,h⟩
theorem fBoth_good {m:FoundW.V3} {A B:List FoundW.V3} (hA:∀ s,s ∈ A → good3 m s) (hB:∀ s,s ∈ B → good3 m s):∀ s,s ∈ fBoth A B → good3 m s:=fun s hs=>by (rcases mem_fBoth.1 hs with h|h);(· exact hA s h);· exact hB s h
theorem sums_rep (m:FoundW.V3) (hm:mok m) (a b:Nat) (A B:List FoundW.V3) (w:World) (hA:RepF m w a A) (hB:RepF m w b B) :
    Calls Try.prog 58 #[.map (some a),.map (some b)] w fun e w'=>∃ nb S,e=.returned (.map (some nb))∧w.heap.size ≤ nb∧FoundT w' nb S∧(∀ s,s ∈ S ↔ ∃ v,v ∈ A∧∃ u,u ∈ B∧s=add3 v u)∧Below w.heap.size w w':=by
  obtain ⟨SA,hA1,hA2,hA3⟩:=hA;obtain ⟨SB,hB1,hB2,hB3⟩:=hB;have l1:=RepF.len hm hA1.nodup hA2 hA3;have l2:=RepF.len hm hB1.nodup hB2 hB3;refine (count_sums.calls a b SA SB w hA1 hB1 (fun v hv=>((hA3 v ((hA2 v).1 hv)).mok hm).small) (fun v hv=>((hB3 v ((hB2 v).1 hv)).mok hm).small) (by omega) (by omega)).mono ?_;rintro e w' ⟨nb,S,rfl,h1,h2,h3,h4⟩;refine ⟨nb,S,rfl,h1,h2,fun s=>?_,h4⟩;rw [h3 s];constructor
  · rintro ⟨v,hv,u,hu,rfl⟩
    exact ⟨v,(hA2 v).1 hv,u,(hB2 u).1 hu,rfl⟩
  · rintro ⟨v,hv,u,hu,rfl⟩
    exact ⟨v,(hA2 v).2 hv,u,(hB2 u).2 hu,rfl⟩
theorem join_rep {m:FoundW.V3} {A B S:List FoundW.V3} {w:World} {b:Nat} (h:FoundT w b (S.filter (inBox m))) (hS:∀ s,s ∈ S ↔ ∃ v,v ∈ A∧∃ u,u ∈ B∧s=add3 v u) (hA:∀ s,s ∈ A → good3 m s) (hB:∀ s,s ∈ B → good3 m s):RepF m w b (fJoin m A B) :=
  ⟨_,h,fun s=>by rw [List.mem_filter,mem_fJoin,hS s],fJoin_good hA hB⟩
theorem RepF.good {m:FoundW.V3} {w:World} {b:Nat} {L:List FoundW.V3} (h:RepF m w b L):∀ s,s ∈ L → good3 m s:=by obtain ⟨S,_,_,h⟩:=h;exact h
set_option maxHeartbeats 4000000 in
set_option maxRecDepth 100000 in
theorem Accepts_join.calls (gm:Nat) (m1 m2 C:Int) (hm:mok (m1,m2,C)) (a b:Nat) (A B:List FoundW.V3) (w:World) (D:w.heap[gm]?=some (.cells #[.int .i64 m1,.int .i64 m2,.int .i64 C] 86 (0,0))) (hA:RepF (m1,m2,C) w a A) (hB:RepF (m1,m2,C) w b B) :
    Calls Try.prog 57 #[.map (some a),.map (some b),.pointer (some ⟨gm,0,none⟩)] w fun e w'=>∃ nb,e=.returned (.map (some nb))∧RepF (m1,m2,C) w' nb (fJoin (m1,m2,C) A B)∧Below w.heap.size w w':=by
  have HSOF:Aside0 (∀ w',Below w.heap.size w w' → w'.cell? ⟨gm,0,none⟩=some (.int .i64 m1)∧w'.cell? ⟨gm,1,none⟩=some (.int .i64 m2)∧w'.cell? ⟨gm,2,none⟩=some (.int .i64 C)):=⟨fun w' hb=>⟨(blk_cell (blk_below D hb) 0).trans rfl,(blk_cell (blk_below D hb) 1).trans rfl,(blk_cell (blk_below D hb) 2).trans rfl⟩⟩;obtain ⟨E,F,G⟩:=HSOF.1 w (Below.refl _ _);have HSUM:Aside0 (∀ W,Below w.heap.size w W → _):=⟨fun W hW=>sums_rep (m1,m2,C) hm a b A B W (hA.below hW) (hB.below hW)⟩;have HGA:=mk0 hA.good;have HGB:=mk0 hB.good;clear D hA hB;go_enter Try.func57,Try.ntmps57;go_wp2_with fail
  go_region_held3 (fun w'=>w'.cell? ⟨gm,0,none⟩=some (.int .i64 m1)∧w'.cell? ⟨gm,1,none⟩=some (.int .i64 m2)∧w'.cell? ⟨gm,2,none⟩=some (.int .i64 C))
    (exact HSOF.1 _ (by ((repeat (first|exact Below.refl _ _|assumption|exact HBV.1|exact HBX.1|apply Below.drew|apply below_alloc));done)))
    (first
      | (go_at_call 58;(with_reducible refine (HSUM.1 _ ?bc).mono ?_);(case bc=>(repeat (first|exact Below.refl _ _|assumption|exact HBV.1|exact HBX.1|apply Below.drew|apply below_alloc)));rintro e ws ⟨nb,S,rfl,hnb,hFs,hSs,hbs⟩;have HFS:=mk0 hFs;have HSS:=mk0 hSs;have HBV:Aside0 (Below w.heap.size w ws):=⟨below_step (by ((repeat (first|exact Below.refl _ _|assumption|exact HBV.1|exact HBX.1|apply Below.drew|apply below_alloc));done)) hbs⟩;have HNB:Aside0 (w.heap.size ≤ nb):=⟨hnb⟩;clear hFs hSs hbs hnb)
      | (go_at_call 56;(with_reducible refine (found_within.calls nb S m1 m2 C _ ?hs).mono ?_);(case hs=>exact HFS.1);rintro e wx ⟨rfl,hFx,hgx⟩;have HFX:=mk0 hFx;have HBX:=mk0 (Below.grown HBV.1 hgx HBV.1.size (fun k hk=>by injection hk with hk;have:=HNB.1;omega));clear hFx hgx)
      | fail)
  go_wp2;go_ret;exact ⟨nb,rfl,join_rep HFX.1 HSS.1 HGA.1 HGB.1,HBX.1⟩
def BothTo (A B S:List FoundW.V3) (i:Nat):Prop:=∀ s,s ∈ S ↔ (1 ≤ i∧s ∈ A) ∨ (2 ≤ i∧s ∈ B)
def BothIn (A B S:List FoundW.V3) (i:Nat) (C:List FoundW.V3) (L:FoundW.V3 → Bool):Prop:=∀ s,s ∈ S ↔ ((1 ≤ i∧s ∈ A) ∨ (2 ≤ i∧s ∈ B)) ∨ (s ∈ C∧L s=false)
theorem BothIn.step {A B S C:List FoundW.V3} {i:Nat} {L:FoundW.V3 → Bool} (h:BothIn A B S i C L) {c:FoundW.V3} (hc:c ∈ C):BothIn A B (FoundW.ins S c) i C (fun z=>L z && !decide (z=c)):=fun s=>by rw [FoundW.mem_ins,h s];by_cases e:s=c;(· subst e;simp [hc]);· simp [e]
theorem BothIn.len {A B S C:List FoundW.V3} {i:Nat} {L:FoundW.V3 → Bool} (h:BothIn A B S i C L) (hn:S.Nodup) (hC:C=A ∨ C=B) (ha:A.length ≤ 10000) (hb:B.length ≤ 10000):S.length < maxLen:=by
  have h1:S.length ≤ (A ++ B).length:=nodup_len3 _ _ hn (fun s hs=>by
    rw [List.mem_append];(rcases (h s).1 hs with (⟨_,q⟩|⟨_,q⟩)|⟨q,_⟩);(· exact .inl q);· exact .inr q
    · rcases hC with rfl|rfl
      · exact .inl q
      · exact .inr q)
  rw [List.length_append] at h1;unfold maxLen;omega
theorem BothIn.doneA {A B S:List FoundW.V3} {L:FoundW.V3 → Bool} (h:BothIn A B S 0 A L) (hL:∀ u,u ∈ A → L u=false):BothTo A B S 1:=fun s=>by
  rw [h s];constructor
  · rintro ((⟨h,_⟩|⟨h,_⟩)|⟨h,_⟩)
    · omega
    · omega
    · exact .inl ⟨by omega,h⟩
  · rintro (⟨_,h⟩|⟨h,_⟩)
    · exact .inr ⟨h,hL s h⟩
    · omega
theorem BothIn.doneB {A B S:List FoundW.V3} {L:FoundW.V3 → Bool} (h:BothIn A B S 1 B L) (hL:∀ u,u ∈ B → L u=false):BothTo A B S 2:=fun s=>by
  rw [h s];constructor
  · rintro ((⟨_,h⟩|⟨h,_⟩)|⟨h,_⟩)
    · exact .inl ⟨by omega,h⟩
    · omega
    · exact .inr ⟨by omega,h⟩
  · rintro (⟨_,h⟩|⟨_,h⟩)
    · exact .inl (.inl ⟨by omega,h⟩)
    · exact .inr ⟨h,hL s h⟩
theorem BothTo.start {A B S:List FoundW.V3} {i:Nat} (h:BothTo A B S i) (C:List FoundW.V3):BothIn A B S i C (fun s=>decide (s ∈ C)):=fun s=>by
  rw [h s];constructor;· exact Or.inl
  · rintro (h|⟨h1,h2⟩)
    · exact h
    · simp [h1] at h2
theorem lit_event {P:Program} {ops:Array Oper} {rest:List Oper} {o:Oper} {a:Act} {Q:Exit → Act → World → Prop} {W:World} (hgd:o.guard=none) {N:Tmp} (_hd:o.dst=some N) {cs:Array Value} {t:TypeId} {n m:Nat}
    (hrun:(execOp a.eval o).run P W=.ok (.value (.slice (some ⟨W.heap.size,0,none⟩) n m)) (W.alloc (.cells cs t)))
    (h:∀ g,W.heap.size=g → ∀ w1,w1.heap[g]?=some (.cells cs t (0,0)) → Below W.heap.size W w1 → wpList P ops Q rest (a.put o.dst (.slice (some ⟨g,0,none⟩) n m)) w1):wpList P ops Q (o :: rest) a W :=
  Kd.event_run hgd hrun (h _ rfl _ (blk_new W _) (below_alloc (Below.refl _ _) _))
set_option maxHeartbeats 4000000 in
set_option maxRecDepth 100000 in
theorem count_both.calls (a b:Nat) (A B:List FoundW.V3) (w:World) (hA:FoundT w a A) (hB:FoundT w b B) (hlA:A.length ≤ 10000) (hlB:B.length ≤ 10000) :
    Calls Try.prog 59 #[.map (some a),.map (some b)] w fun e w'=>∃ nb S,e=.returned (.map (some nb))∧w.heap.size ≤ nb∧FoundT w' nb S∧(∀ s,s ∈ S ↔ s ∈ A ∨ s ∈ B)∧Below w.heap.size w w':=by
  have HA:=mk0 hA;have HBB:=mk0 hB;have HLT:Aside0 (a < w.heap.size∧b < w.heap.size):=⟨hA.lt,hB.lt⟩;have HLA:=mk0 hlA;have HLB:=mk0 hlB;clear hA hB hlA hlB;go_enter Try.func59,Try.ntmps59
  go_wp2_with (first
    | ((with_reducible refine gate_dst (N:=9) rfl ?_);refine FoundW.made_found _ rfl 88 86 4 rfl ?_;intro nb w1 b2 b3 b4;have HN:=mk0 b3;have b5:=mk0 b4;have b6:=mk0 b2;clear b3 b4 b2)
    | ((with_reducible refine gate_dst (N:=12) rfl ?_);refine lit_event ?hg (N:=12) ?hd (cs:=#[.map (some a),.map (some b)]) (t:=88) (n:=2) (m:=2) ?hr ?_;(case hd=>rfl);(case hg=>rfl);(case hr=>first|(go_simp;done)|(go_simp;rfl));intro gl hgl w2 hbl a6;have HLI:=mk0 hbl;have b7:=mk0 (HN.1.below a6);have b8:=mk0 (below_step b5.1 a6);have HZN:Aside0 (w.heap.size ≤ nb∧nb < gl):=⟨by have:=HN.1.lt;have:=b6.1;omega⟩;clear hgl hbl a6)
    | go_in)
  (try go_frame);go_loopw [14] (fun R wr=>∃ (i:Nat) (S:List FoundW.V3),(R=.int .i64 0∧i=0 ∨ R=.int .i64 1∧i=1 ∨ R=.int .i64 2∧i=2)∧FoundT wr nb S∧BothTo A B S i∧Aside0 (wr.heap[gl]?=some (.cells #[.map (some a),.map (some b)] 88 (0,0)))∧Below w.heap.size w wr) (fun R _=>2 - (intOf R).toNat);case atStart=>exact ⟨0,[],.inl ⟨rfl,rfl⟩,b7.1,fun s=>⟨fun h=>by simp at h,fun h=>by omega⟩,HLI,b8.1⟩
  case round =>
    clear b7 b8 HN b5 b6 HLI;obtain ⟨i,S,hi,hN,hT,hLI,hB⟩:=hrel;have HN:=mk0 hN;have HT:=mk0 hT;have E:=mk0 hB;clear hN hT hB;have b9:=q0_ hLI;have c0:=q1_ hLI;rcases hi with ⟨rfl,rfl⟩|⟨rfl,rfl⟩|⟨rfl,rfl⟩
    · go_wp2_with (first
        | ((with_reducible refine gate_dst (N:=19) rfl ?_);refine FoundW.range_found okf _ rfl (.tmp 18) rfl a A rfl (HA.1.below E.1) ?_;intro r w3 hr hrg F;have HR:=mk0 hrg;have T:=mk0 (HN.1.below F);have U:=mk0 (blk_below hLI.1 F);have V:=mk0 (below_step E.1 F);have HZR:Aside0 (gl < r):=⟨by have:=blk_lt hLI.1;omega⟩;clear hr hrg F)
        | go_in)
      go_frame
      go_loopw [] (fun wq=>∃ (L:FoundW.V3 → Bool) (S2:List FoundW.V3),RangeT wq a r A L∧FoundT wq nb S2∧BothIn A B S2 0 A L∧Aside0 (wq.heap[gl]?=some (.cells #[.map (some a),.map (some b)] 88 (0,0)))∧Below w.heap.size w wq) (fun wq=>wq.rangeLeft a r)
      case atStart=>exact ⟨_,S,HR.1,T.1,HT.1.start _,U,V.1⟩
      case round =>
        clear HR T U V HN E b9 c0 hLI;obtain ⟨L,S2,hR,hN,X,hLI,hB⟩:=hrel;have HR:=mk0 hR;have HN:=mk0 hN;have J:=mk0 X;have E:=mk0 hB;clear hR hN X hB
        go_wp2_with (first
          | (at_next;refine FoundW.next_found okf _ rfl (.tmp 19) rfl a r _ L rfl HR.1 (fun hall=>stop_ ?_) (fun s c w8 hok hsS hsL Y Z G a7 hen=>stop_ ?_))
          | go_in)
        · delta Stop
          have HAL:=mk0 hall
          clear hall
          go_wp2
          go_roundw
          case rel=>exact ⟨1,S2,.inr (.inl ⟨rfl,rfl⟩),HN.1,J.1.doneA (fun u hu=>HAL.1 u (HR.1.found.ok u hu)),hLI,E.1⟩
          case measure=>simp [intOf]
        · delta Stop
          obtain ⟨x,y,z⟩:=s
          simp only [FoundW.vec3] at hen
          have a0:=mk0 Y
          have a8:=mk0 Z
          have hzz:=HZR.1
          have a9:=mk0 (HN.1.kept G (by have:=HZN.1;omega))
          have b0:=mk0 ((G.block gl (blk_lt hLI.1) (fun e=>by injection e with e;omega)).trans hLI.1)
          have a4:=mk0 (Below.grown E.1 G E.1.size (fun k hk=>by injection hk with hk;have:=HZN.1;omega))
          have HSS:=mk0 hsS
          have HOK:=mk0 hok
          clear Y Z G a7 hsL hsS hok hzz
          go_wp2_with (first
            | ((with_reducible refine gate_dst (N:=8) rfl ?_);refine box_event ?hg (N:=8) ?hd (cs:=#[.int .i64 0,.int .i64 0,.int .i64 0]) (t:=86) ?hr ?_;(case hd=>rfl);(case hg=>rfl);(case hr=>first|(go_simp;done)|(go_simp;rfl));intro gu hg I C hb;have M:=mk0 (range_set3 x y z a0.1 hb hg);have a1:=mk0 (found_set3 x y z a9.1 hb hg);have b1:=mk0 (left_set3 x y z a0.1 hb hg);have a2:=mk0 (mem_set3 x y z b0.1 hb hg);have a3:=mk0 (below_set3 x y z a4.1 hb hg);have c1:I.cell? ⟨gu,0,none⟩=some (.int .i64 0):=(blk_cell C 0).trans rfl;have c2:I.cell? ⟨gu,1,none⟩=some (.int .i64 0):=(blk_cell C 1).trans rfl;have c3:I.cell? ⟨gu,2,none⟩=some (.int .i64 0):=(blk_cell C 2).trans rfl;have c4:I.frozen? ⟨gu,0,none⟩=false:=blk_frozen C 0;have c5:I.frozen? ⟨gu,1,none⟩=false:=blk_frozen C 1;have c6:I.frozen? ⟨gu,2,none⟩=false:=blk_frozen C 2;clear hb C hg)
            | ((with_reducible refine gate_upd (t:=88) rfl ?_);refine FoundW.update_found okf _ rfl (.tmp 24) (.tmp 25) _ rfl nb S2 rfl a1.1 (J.1.len a1.1.nodup (.inl rfl) HLA.1 HLB.1) (x,y,z) rfl HOK.1 rfl ?_;intro c7 O Q;have a5:=mk0 O;have D:=mk0 Q;clear O Q))
          go_frame
          have hnn:a ≠ nb∧r ≠ nb∧gl ≠ nb:=by have:=HZR.1;have:=HZN.1;have:=HLT.1;omega
          go_roundw
          case rel=>exact ⟨_,_,M.1.kept D.1 hnn.1 hnn.2.1,a5.1,J.1.step HSS.1,⟨(D.1.block gl (blk_lt a2.1) (fun e=>hnn.2.2 (by injection e))).trans a2.1⟩,Below.grown a3.1 D.1 a3.1.size (fun k hk=>by injection hk with hk;have:=HZN.1;omega)⟩
          case measure=>rw [FoundW.left_heap (D.1.block a M.1.lt.1 (fun e=>hnn.1 (by injection e))) (D.1.block r M.1.lt.2 (fun e=>hnn.2.1 (by injection e))),b1.1];exact a8.1
    · go_wp2_with (first
        | ((with_reducible refine gate_dst (N:=19) rfl ?_);refine FoundW.range_found okf _ rfl (.tmp 18) rfl b B rfl (HBB.1.below E.1) ?_;intro r w3 hr hrg F;have HR:=mk0 hrg;have T:=mk0 (HN.1.below F);have U:=mk0 (blk_below hLI.1 F);have V:=mk0 (below_step E.1 F);have HZR:Aside0 (gl < r):=⟨by have:=blk_lt hLI.1;omega⟩;clear hr hrg F)
        | go_in)
      go_frame
      go_loopw [] (fun wq=>∃ (L:FoundW.V3 → Bool) (S2:List FoundW.V3),RangeT wq b r B L∧FoundT wq nb S2∧BothIn A B S2 1 B L∧Aside0 (wq.heap[gl]?=some (.cells #[.map (some a),.map (some b)] 88 (0,0)))∧Below w.heap.size w wq) (fun wq=>wq.rangeLeft b r)
      case atStart=>exact ⟨_,S,HR.1,T.1,HT.1.start _,U,V.1⟩
      case round =>
        clear HR T U V HN E b9 c0 hLI;obtain ⟨L,S2,hR,hN,X,hLI,hB⟩:=hrel;have HR:=mk0 hR;have HN:=mk0 hN;have J:=mk0 X;have E:=mk0 hB;clear hR hN X hB
        go_wp2_with (first
          | (at_next;refine FoundW.next_found okf _ rfl (.tmp 19) rfl b r _ L rfl HR.1 (fun hall=>stop_ ?_) (fun s c w8 hok hsS hsL Y Z G a7 hen=>stop_ ?_))
          | go_in)
        · delta Stop
          have HAL:=mk0 hall
          clear hall
          go_wp2
          go_roundw
          case rel=>exact ⟨2,S2,.inr (.inr ⟨rfl,rfl⟩),HN.1,J.1.doneB (fun u hu=>HAL.1 u (HR.1.found.ok u hu)),hLI,E.1⟩
          case measure=>simp [intOf]
        · delta Stop
          obtain ⟨x,y,z⟩:=s
          simp only [FoundW.vec3] at hen
          have a0:=mk0 Y
          have a8:=mk0 Z
          have hzz:=HZR.1
          have a9:=mk0 (HN.1.kept G (by have:=HZN.1;omega))
          have b0:=mk0 ((G.block gl (blk_lt hLI.1) (fun e=>by injection e with e;omega)).trans hLI.1)
          have a4:=mk0 (Below.grown E.1 G E.1.size (fun k hk=>by injection hk with hk;have:=HZN.1;omega))
          have HSS:=mk0 hsS
          have HOK:=mk0 hok
          clear Y Z G a7 hsL hsS hok hzz
          go_wp2_with (first
            | ((with_reducible refine gate_dst (N:=8) rfl ?_);refine box_event ?hg (N:=8) ?hd (cs:=#[.int .i64 0,.int .i64 0,.int .i64 0]) (t:=86) ?hr ?_;(case hd=>rfl);(case hg=>rfl);(case hr=>first|(go_simp;done)|(go_simp;rfl));intro gu hg I C hb;have M:=mk0 (range_set3 x y z a0.1 hb hg);have a1:=mk0 (found_set3 x y z a9.1 hb hg);have b1:=mk0 (left_set3 x y z a0.1 hb hg);have a2:=mk0 (mem_set3 x y z b0.1 hb hg);have a3:=mk0 (below_set3 x y z a4.1 hb hg);have c1:I.cell? ⟨gu,0,none⟩=some (.int .i64 0):=(blk_cell C 0).trans rfl;have c2:I.cell? ⟨gu,1,none⟩=some (.int .i64 0):=(blk_cell C 1).trans rfl;have c3:I.cell? ⟨gu,2,none⟩=some (.int .i64 0):=(blk_cell C 2).trans rfl;have c4:I.frozen? ⟨gu,0,none⟩=false:=blk_frozen C 0;have c5:I.frozen? ⟨gu,1,none⟩=false:=blk_frozen C 1;have c6:I.frozen? ⟨gu,2,none⟩=false:=blk_frozen C 2;clear hb C hg)
            | ((with_reducible refine gate_upd (t:=88) rfl ?_);refine FoundW.update_found okf _ rfl (.tmp 24) (.tmp 25) _ rfl nb S2 rfl a1.1 (J.1.len a1.1.nodup (.inr rfl) HLA.1 HLB.1) (x,y,z) rfl HOK.1 rfl ?_;intro c7 O Q;have a5:=mk0 O;have D:=mk0 Q;clear O Q))
          go_frame
          have hnn:b ≠ nb∧r ≠ nb∧gl ≠ nb:=by have:=HZR.1;have:=HZN.1;have:=HLT.1;omega
          go_roundw
          case rel=>exact ⟨_,_,M.1.kept D.1 hnn.1 hnn.2.1,a5.1,J.1.step HSS.1,⟨(D.1.block gl (blk_lt a2.1) (fun e=>hnn.2.2 (by injection e))).trans a2.1⟩,Below.grown a3.1 D.1 a3.1.size (fun k hk=>by injection hk with hk;have:=HZN.1;omega)⟩
          case measure=>rw [FoundW.left_heap (D.1.block b M.1.lt.1 (fun e=>hnn.1 (by injection e))) (D.1.block r M.1.lt.2 (fun e=>hnn.2.1 (by injection e))),b1.1];exact a8.1
    · go_wp2
      go_ret
      refine ⟨nb,S,rfl,HZN.1.1,HN.1,fun s=>?_,E.1⟩
      rw [HT.1 s]
      simp
theorem both_rep (m:FoundW.V3) (hm:mok m) (a b:Nat) (A B:List FoundW.V3) (w:World) (hA:RepF m w a A) (hB:RepF m w b B) :
    Calls Try.prog 59 #[.map (some a),.map (some b)] w fun e w'=>∃ nb,e=.returned (.map (some nb))∧w.heap.size ≤ nb∧RepF m w' nb (fBoth A B)∧Below w.heap.size w w':=by
  obtain ⟨SA,hA1,hA2,hA3⟩:=hA;obtain ⟨SB,hB1,hB2,hB3⟩:=hB;have l1:=RepF.len hm hA1.nodup hA2 hA3;have l2:=RepF.len hm hB1.nodup hB2 hB3;refine (count_both.calls a b SA SB w hA1 hB1 (by omega) (by omega)).mono ?_;rintro e w' ⟨nb,S,rfl,h1,h2,h3,h4⟩;refine ⟨nb,rfl,h1,⟨S,h2,fun s=>?_,fBoth_good hA3 hB3⟩,h4⟩;rw [h3 s,mem_fBoth,hA2 s,hB2 s]
def fStar (m:FoundW.V3) (A:List FoundW.V3):Nat → List FoundW.V3 → Option (List FoundW.V3)
  | 0,_=>none
  | k + 1,O=>if (fBoth O (fJoin m O A)).length=O.length then some O else fStar m A k (fBoth O (fJoin m O A))
theorem fStar.mono (m:FoundW.V3) (A:List FoundW.V3):∀ k O,LeO (fStar m A k O) (fStar m A (k + 1) O)
  | 0,O=>fun r h=>by simp [fStar] at h
  | k + 1,O=>by
    intro r h;rw [fStar] at h ⊢;split
    · rename_i h2
      rw [if_pos h2] at h
      exact h
    · rename_i h2
      rw [if_neg h2] at h
      exact fStar.mono m A k _ r h
def mapSz (w:World) (v:Value):Nat:=match v with|.map (some b)=>(match w.heap[b]? with|some (.map es _)=>es.size|_=>0)|_=>0
open Go.Maps Go.WideMaps in
theorem mapSz_of {w:World} {b:Nat} {S:List FoundW.V3} (h:FoundT w b S):mapSz w (.map (some b))=S.length:=by obtain ⟨D,⟨es,clock,hb,F,hs,rfl⟩,h2⟩:=h;have:=h2.size;unfold mapSz;simp only [hb];simpa [Maps.size,length_sorted] using this
theorem sz_rep {m:FoundW.V3} {w:World} {b:Nat} {L:List FoundW.V3} (h:RepF m w b L) (hn:L.Nodup):∃ S,FoundT w b S∧(∀ s,s ∈ S ↔ s ∈ L)∧S.length=L.length:=by obtain ⟨S,h1,h2,h3⟩:=h;refine ⟨S,h1,h2,Nat.le_antisymm ?_ ?_⟩;(· exact nodup_len3 _ _ h1.nodup (fun s hs=>(h2 s).1 hs));· exact nodup_len3 _ _ hn (fun s hs=>(h2 s).2 hs)
theorem fBoth_len (A B:List FoundW.V3) (hA:A.Nodup):A.length ≤ (fBoth A B).length:=nodup_len3 _ _ hA (fun s hs=>mem_fBoth.2 (.inl hs))
theorem zero_good {m:FoundW.V3} (hm:mok m):∀ s,s ∈ ([(0,0,0)]:List FoundW.V3) → good3 m s:=fun s hs=>by (obtain rfl:s=(0,0,0):=by simpa using hs);exact ⟨⟨by decide,by decide,by decide⟩,decide_eq_true ⟨hm.1.1,hm.2.1.1,hm.2.2.1⟩⟩
theorem gate_ins {P:Program} {w:World} {ops:Array Oper} {rest:List Oper} {o:Oper} {a:Act} {Q:Exit → Act → World → Prop} {t:TypeId} {m x v:Operand} (_ho:o.op=.insert t m x v) (h:wpList P ops Q (o :: rest) a w):wpList P ops Q (o :: rest) a w:=h
set_option maxHeartbeats 4000000 in
set_option maxRecDepth 100000 in
theorem Accepts_star.calls (k gm:Nat) (m1 m2 B:Int) (hm:mok (m1,m2,B)) (a:Nat) (A r:List FoundW.V3) (w:World) (D:w.heap[gm]?=some (.cells #[.int .i64 m1,.int .i64 m2,.int .i64 B] 86 (0,0))) (hA:RepF (m1,m2,B) w a A) (h:fStar (m1,m2,B) A k [(0,0,0)]=some r) :
    Calls Try.prog 60 #[.map (some a),.pointer (some ⟨gm,0,none⟩)] w fun e w'=>∃ nb,e=.returned (.map (some nb))∧RepF (m1,m2,B) w' nb r∧Below w.heap.size w w':=by
  have HM:=mk0 D;have HMO:=mk0 hm;have HA:=mk0 hA;have HR:=mk0 h;clear D hm hA h;go_enter Try.func60,Try.ntmps60
  go_wp2_with (first
    | ((with_reducible refine gate_dst (N:=6) rfl ?_);refine FoundW.made_found _ rfl 88 86 4 rfl ?_;intro nb w1 I J L;have HN:=mk0 J;have E:=mk0 L;have M:=mk0 I;clear J L I)
    | ((with_reducible refine gate_ins (t:=88) rfl ?_);refine FoundW.insert_found okf _ rfl (.tmp 6) (.tmp 7) _ rfl nb [] rfl HN.1 (by decide) (0,0,0) rfl (by have h:=unit3_ok (-1);simpa [unit3] using h) rfl ?_;intro w2 F Q;have R:=mk0 (show FoundT w2 nb [(0,0,0)] from by rw [ins_nil] at F;exact F);have T:=mk0 (Below.grown E.1 Q E.1.size (fun k hk=>by injection hk with hk;have:=M.1;omega));clear F Q)
    | go_in)
  go_loopw [4] (fun Z wr=>∃ (kq bo:Nat) (O:List FoundW.V3),Z=.map (some bo)∧Aside0 (fStar (m1,m2,B) A kq O=some r)∧Aside0 (O.Nodup)∧Aside0 (RepF (m1,m2,B) wr bo O)∧Aside0 (Below w.heap.size w wr)) (fun Z wr=>1000 - mapSz wr Z);case atStart=>exact ⟨k,nb,[(0,0,0)],rfl,HR,⟨by simp⟩,⟨[(0,0,0)],R.1,fun s=>Iff.rfl,zero_good HMO.1⟩,T⟩
  case round =>
    clear HN E M R T HR;obtain ⟨kq,bo,O,rfl,HR,HND,HO,C⟩:=hrel
    cases kq with
    | zero=>have:=HR.1;simp [fStar] at this
    | succ kq =>
    have HSOF:Aside0 (∀ w',Below wr.heap.size wr w' → w'.cell? ⟨gm,0,none⟩=some (.int .i64 m1)∧w'.cell? ⟨gm,1,none⟩=some (.int .i64 m2)∧w'.cell? ⟨gm,2,none⟩=some (.int .i64 B)):=⟨fun w' hb=>⟨(blk_cell (blk_below (blk_below HM.1 C.1) hb) 0).trans rfl,(blk_cell (blk_below (blk_below HM.1 C.1) hb) 1).trans rfl,(blk_cell (blk_below (blk_below HM.1 C.1) hb) 2).trans rfl⟩⟩;obtain ⟨b0,b1,b2⟩:=HSOF.1 wr (Below.refl _ _);have HSUM:Aside0 (∀ W,Below wr.heap.size wr W → _):=⟨fun W hW=>sums_rep (m1,m2,B) HMO.1 bo a O A W (HO.1.below hW) ((HA.1.below C.1).below hW)⟩;have HBOTH:Aside0 (∀ (nb:Nat) (N:List FoundW.V3) W,Below wr.heap.size wr W → RepF (m1,m2,B) W nb N → _):=⟨fun nb N W hW hN=>both_rep (m1,m2,B) HMO.1 bo nb O N W (HO.1.below hW) hN⟩;have HGO:=mk0 HO.1.good;have HGA:=mk0 HA.1.good;go_wp2_with fail
    go_region_held3 (fun w'=>w'.cell? ⟨gm,0,none⟩=some (.int .i64 m1)∧w'.cell? ⟨gm,1,none⟩=some (.int .i64 m2)∧w'.cell? ⟨gm,2,none⟩=some (.int .i64 B))
      (exact HSOF.1 _ (by ((repeat (first|exact Below.refl _ _|assumption|exact HBV.1|exact HBX.1|exact HBY.1|apply Below.drew|apply below_alloc));done)))
      (first
        | (go_at_call 58;(with_reducible refine (HSUM.1 _ ?bc).mono ?_);(case bc=>(repeat (first|exact Below.refl _ _|assumption|exact HBV.1|exact HBX.1|exact HBY.1|apply Below.drew|apply below_alloc)));rintro e ws ⟨nb,S,rfl,hnb,hFs,hSs,hbs⟩;have HFS:=mk0 hFs;have HSS:=mk0 hSs;have HBV:Aside0 (Below wr.heap.size wr ws):=⟨below_step (by ((repeat (first|exact Below.refl _ _|assumption|exact HBV.1|exact HBX.1|exact HBY.1|apply Below.drew|apply below_alloc));done)) hbs⟩;have HNB:Aside0 (wr.heap.size ≤ nb):=⟨hnb⟩;clear hFs hSs hbs hnb)
        | (go_at_call 56;(with_reducible refine (found_within.calls nb S m1 m2 B _ ?hs).mono ?_);(case hs=>exact HFS.1);rintro e wx ⟨rfl,hFx,hgx⟩;have HFX:=mk0 (join_rep hFx HSS.1 HGO.1 HGA.1);have HBX:=mk0 (Below.grown HBV.1 hgx HBV.1.size (fun k hk=>by injection hk with hk;have:=HNB.1;omega));clear hFx hgx)
        | (go_at_call 59;(with_reducible refine (HBOTH.1 nb (fJoin (m1,m2,B) O A) _ ?bc ?hn).mono ?_);(case bc=>(repeat (first|exact Below.refl _ _|assumption|exact HBV.1|exact HBX.1|exact HBY.1|apply Below.drew|apply below_alloc)));(case hn=>exact HFX.1);rintro e wy ⟨ny,rfl,hny,hRy,hby⟩;have HRY:=mk0 hRy;have HBY:Aside0 (Below wr.heap.size wr wy):=⟨below_step (by ((repeat (first|exact Below.refl _ _|assumption|exact HBV.1|exact HBX.1|exact HBY.1|apply Below.drew|apply below_alloc));done)) hby⟩;clear hRy hby)
        | fail)
    obtain ⟨N,hN⟩:∃ N,N=fBoth O (fJoin (m1,m2,B) O A):=⟨_,rfl⟩;(have hNN:N.Nodup:=by rw [hN];exact dd_nodup _);(have hNL:O.length ≤ N.length:=by rw [hN];exact fBoth_len _ _ HND.1);rw [← hN] at HRY;have hst:=HR.1;rw [fStar,← hN] at hst;obtain ⟨S1,G,U,V⟩:=sz_rep HRY.1 hNN;obtain ⟨S2,X,a0,Y⟩:=sz_rep (HO.1.below HBY.1) HND.1;have hsz:S1.length ≤ 729:=RepF.len HMO.1 G.nodup U HRY.1.good;have HSZ:=mk0 hsz;have HNN:=mk0 hNN;have HLL:=mk0 (And.intro V Y);have HFF:=mk0 (And.intro G X);have HNL:=mk0 hNL;have a2:Aside0 (∃ S0,FoundT wr bo S0∧S0.length=O.length):=⟨by obtain ⟨S0,a1,_,a3⟩:=sz_rep HO.1 HND.1;exact ⟨S0,a1,a3⟩⟩;clear hN hNN hNL G U V X a0 Y hsz;by_cases he:N.length=O.length
    · rw [if_pos he] at hst
      obtain rfl:=Option.some.inj hst
      have a4:((S1.length:Int) == (S2.length:Int))=true:=beq_iff_eq.mpr (by have:=HLL.1;omega)
      have a5:(S1.length == S2.length)=true:=beq_iff_eq.mpr (by have:=HLL.1;omega)
      clear hst he
      go_wp2_with (first
        | ((with_reducible refine gate_builtin (b:=.len) (xs:=#[.tmp 16]) rfl ?_);refine FoundW.len_found okf _ rfl (.tmp 16) rfl ny S1 rfl HFF.1.1 ?_)
        | ((with_reducible refine gate_builtin (b:=.len) (xs:=#[.tmp 18]) rfl ?_);refine FoundW.len_found okf _ rfl (.tmp 18) rfl bo S2 rfl HFF.1.2 ?_))
      go_ret
      exact ⟨bo,rfl,HO.1.below HBY.1,below_step C.1 HBY.1⟩
    · rw [if_neg he] at hst
      have HST:=mk0 hst
      have HNE:=mk0 he
      have a4:((S1.length:Int) == (S2.length:Int))=false:=beq_eq_false_iff_ne.mpr (by have:=HLL.1;omega)
      have a5:(S1.length == S2.length)=false:=beq_eq_false_iff_ne.mpr (by have:=HLL.1;omega)
      clear hst he
      go_wp2_with (first
        | ((with_reducible refine gate_builtin (b:=.len) (xs:=#[.tmp 16]) rfl ?_);refine FoundW.len_found okf _ rfl (.tmp 16) rfl ny S1 rfl HFF.1.1 ?_)
        | ((with_reducible refine gate_builtin (b:=.len) (xs:=#[.tmp 18]) rfl ?_);refine FoundW.len_found okf _ rfl (.tmp 18) rfl bo S2 rfl HFF.1.2 ?_))
      go_roundw
      case rel=>exact ⟨kq,ny,N,rfl,HST,HNN,HRY,⟨below_step C.1 HBY.1⟩⟩
      case measure =>obtain ⟨S0,g1,g2⟩:=a2.1;rw [mapSz_of HFF.1.1,mapSz_of g1];have:=HLL.1;have:=HNL.1;have:=HNE.1;have:=HSZ.1;omega
-- NOT PRINTED: function 113 (bytealg_IndexByteString)
set_option maxHeartbeats 1000000 in
set_option maxRecDepth 100000 in
theorem slite_IndexByte.calls (s:ByteArray) (c:Int) (w:World) :
    Calls Try.prog 106 #[.string s,.int .u8 c] w fun e w'=>e=.returned (.int .i64 (Lib.indexByte s.data.toList c.toNat.toUInt8))∧w'=w:=by
  go_enter Try.func106,Try.ntmps106;go_wp2;rw [run_callFunc_extern Try.func113 (by kernel_rfl) (by kernel_rfl) (by kernel_rfl) (e:=Extern.BytealgIndexByte.indexByte) (by kernel_rfl),Lib.run_indexByteString];simp only [Result.andThen];rw [Oper.upon_value];go_wp2;go_ret;exact ⟨rfl,rfl⟩
set_option maxHeartbeats 1000000 in
set_option maxRecDepth 100000 in
theorem strings_IndexByte.calls (s:ByteArray) (c:Int) (w:World) :
    Calls Try.prog 91 #[.string s,.int .u8 c] w fun e w'=>e=.returned (.int .i64 (Lib.indexByte s.data.toList c.toNat.toUInt8))∧w'=w:=by
  go_enter Try.func91,Try.ntmps91;go_wp2_with (go_at_call 106;refine (slite_IndexByte.calls _ _ _).mono ?_;rintro e w' ⟨rfl,rfl⟩);go_ret;exact ⟨rfl,rfl⟩
abbrev kmap:Kd Nat:=Kd.scalar (fun b:Nat=>Value.map (some b)) (fun _=>rfl)
def RowT (w wr:World) (v:Value) (bs:List Nat):Prop:=kmap.R 88 wr w.heap.size (fun _=>True) v bs
def Reps3 (m:FoundW.V3) (w:World) (bs:List Nat) (st:List (List FoundW.V3)):Prop:=bs.length=st.length∧∀ (j b:Nat) (L:List FoundW.V3),bs[j]?=some b → st[j]?=some L → RepF m w b L
def runF (k:Nat) (m:FoundW.V3):List UInt8 → List (List FoundW.V3) → Option (Option (List FoundW.V3)):=Mach.run (fun i=>some (fLetter m i)) (fun a b=>some (fJoin m a b)) (fun a b=>some (fBoth a b)) (fun a=>fStar m a k [(0,0,0)])
theorem info88m:(Try.prog.info? 88).map (fun i=>(i.zero,i.size,i.bytes))=some (some (.map none),1,8):=by kernel_rfl
theorem RepF.grown {m:FoundW.V3} {w w':World} {b:Nat} {L:List FoundW.V3} {row:Option Nat} (h:RepF m w b L) (hg:w.grownBy w' row) (ht:∀ g,row=some g → ∃ cells,w.heap[g]?=some (.cells cells 88 (0,0))):RepF m w' b L:=by obtain ⟨S,h1,h2⟩:=h;refine ⟨S,h1.heap (hg.block b h1.lt (fun e=>?_)),h2⟩;obtain ⟨cells,hc⟩:=ht b e.symm;obtain ⟨D,⟨es,clock,hb,_⟩,_⟩:=h1;rw [hb] at hc;cases hc
theorem Reps3.below {m:FoundW.V3} {w w':World} {bs:List Nat} {st:List (List FoundW.V3)} (h:Reps3 m w bs st) (hb:Below w.heap.size w w'):Reps3 m w' bs st:=⟨h.1,fun j b L h1 h2=>(h.2 j b L h1 h2).below hb⟩
theorem Reps3.push {m:FoundW.V3} {w w':World} {bs:List Nat} {st:List (List FoundW.V3)} {b:Nat} {L:List FoundW.V3} {row:Option Nat} (h:Reps3 m w bs st) (hb:RepF m w b L) (hg:w.grownBy w' row) (ht:∀ g,row=some g → ∃ cells,w.heap[g]?=some (.cells cells 88 (0,0))):Reps3 m w' (bs ++ [b]) (st ++ [L]):=by
  refine ⟨by simp [h.1],fun j c K h1 h2=>?_⟩;by_cases hj:j < bs.length
  · rw [List.getElem?_append_left hj] at h1
    rw [List.getElem?_append_left (by have:=h.1;omega)] at h2
    exact (h.2 j c K h1 h2).grown hg ht
  · rw [List.getElem?_append_right (by omega)] at h1
    rw [List.getElem?_append_right (by have:=h.1;omega)] at h2
    have e:j - bs.length=j - st.length:=by have:=h.1;omega
    rw [e] at h1
    rcases hq:j - st.length with _|q
    · rw [hq] at h1 h2
      simp at h1 h2
      subst h1;subst h2
      exact hb.grown hg ht
    · rw [hq] at h1
      simp at h1
theorem Reps3.take {m:FoundW.V3} {w:World} {bs cs:List Nat} {st tt:List (List FoundW.V3)} (h:Reps3 m w (bs ++ cs) (st ++ tt)) (hl:bs.length=st.length):Reps3 m w bs st:=by refine ⟨hl,fun j c K h1 h2=>h.2 j c K ?_ ?_⟩;(· rw [List.getElem?_append_left (List.getElem?_eq_some_iff.1 h1).1];exact h1);· rw [List.getElem?_append_left (List.getElem?_eq_some_iff.1 h2).1];exact h2
theorem grown_below {w0 W W':World} {v:Value} {bs:List Nat} (hB:Below w0.heap.size w0 W) (hO:kmap.R 88 W w0.heap.size (fun _=>True) v bs) (hg:W.grownBy W' v.ownBlock):Below w0.heap.size w0 W':=Below.grown hB hg hB.size (fun k hk=>Kd.R_base hO k hk)
theorem drop_cons (code:ByteArray) (i:Nat) (h:i < code.size):code.data.toList.drop i=code[i] :: code.data.toList.drop (i + 1):=by have hl:i < code.data.toList.length:=h;rw [List.drop_eq_getElem_cons hl];rfl
theorem found_push {m:FoundW.V3} {w W w10:World} {A:Option Addr} {n cc gb bl:Nat} {bs:List Nat} {st:List (List FoundW.V3)} {L:List FoundW.V3} {cells:Array Value} {v1:Value} (hO:kmap.R 88 W w.heap.size (fun _=>True) (.slice A n cc) bs) (hP:Reps3 m W bs st) (hL:RepF m W bl L) (hB:Below w.heap.size w W)
    (hbk:W.heap[gb]?=some (.cells cells 94 (0,0))) (hR1:kmap.R 88 w10 w.heap.size (fun _=>True) v1 (bs ++ [bl])) (hg:W.grownBy w10 (Value.slice A n cc).ownBlock) :
    RowT w w10 v1 (bs ++ [bl])∧Reps3 m w10 (bs ++ [bl]) (st ++ [L])∧w10.heap[gb]?=some (.cells cells 94 (0,0))∧Below w.heap.size w w10:=by
  refine ⟨hR1,hP.push hL hg (fun g hk=>Kd.R_typed hO g hk),(hg.block gb (blk_lt hbk) (fun e=>?_)).trans hbk,grown_below hB hO hg⟩;obtain ⟨c2,h2⟩:=Kd.R_typed hO gb e.symm;rw [hbk] at h2;injection h2 with h2;injection h2 with _ h2;cases h2
def endOf (st:List (List FoundW.V3)):Option (List FoundW.V3):=match st with|[x]=>some x|_=>none
theorem endOf_run {k:Nat} {m:FoundW.V3} {st:List (List FoundW.V3)} {r:Option (List FoundW.V3)} (h:runF k m [] st=some r):r=endOf st:=by
  match st,h with
  | [],h=>exact (Option.some.inj h).symm
  | [x],h=>exact (Option.some.inj h).symm
  | x :: y :: t,h=>exact (Option.some.inj h).symm
theorem endOf_none {st:List (List FoundW.V3)} (h:st.length ≠ 1):endOf st=none:=by
  match st,h with
  | [],_=>rfl
  | [x],h=>exact absurd rfl h
  | x :: y :: t,_=>rfl
theorem signs (c:UInt8):c=97 ∨ c=98 ∨ c=99 ∨ c=101 ∨ c=46 ∨ c=43 ∨ c=42 ∨ (c ≠ 97∧c ≠ 98∧c ≠ 99∧c ≠ 101∧c ≠ 46∧c ≠ 43∧c ≠ 42):=by by_cases h1:c=97;(· exact .inl h1);by_cases h2:c=98;(· exact .inr (.inl h2));by_cases h3:c=99;(· exact .inr (.inr (.inl h3)));by_cases h4:c=101;(· exact .inr (.inr (.inr (.inl h4))));by_cases h5:c=46;(· exact .inr (.inr (.inr (.inr (.inl h5)))));by_cases h6:c=43;(· exact .inr (.inr (.inr (.inr (.inr (.inl h6))))));by_cases h7:c=42;(· exact .inr (.inr (.inr (.inr (.inr (.inr (.inl h7)))))));· exact .inr (.inr (.inr (.inr (.inr (.inr (.inr ⟨h1,h2,h3,h4,h5,h6,h7⟩))))))
theorem both_rep' (m:FoundW.V3) (hm:mok m) (a b:Nat) (A B:List FoundW.V3) (w:World) (hA:RepF m w a A) (hB:RepF m w b B) :
    Calls Try.prog 59 #[.map (some a),.map (some b)] w fun e w'=>∃ nb,e=.returned (.map (some nb))∧RepF m w' nb (fBoth A B)∧Below w.heap.size w w':=by
  refine (both_rep m hm a b A B w hA hB).mono ?_;rintro e w' ⟨nb,rfl,_,h1,h2⟩;exact ⟨nb,rfl,h1,h2⟩
def StopM (p:Prop):Prop:=p
theorem stopm_ {p:Prop} (h:StopM p):p:=h
theorem idx_one (c:UInt8) (q:Int) (hq:0 ≤ q) (d:UInt8) (e:q.toNat.toUInt8=d):Lib.indexByte [c] q.toNat.toUInt8=if c=d then 0 else -1:=by rw [e];unfold Lib.indexByte;by_cases h:c=d <;> simp [h,Lib.indexByte]
theorem IndexByte_one (s c d:UInt8) (q:Int) (hq:0 ≤ q) (e:q.toNat.toUInt8=d) (z:Int) (hz:z=if s=d then 0 else -1) (w:World) :
    Calls Try.prog 91 #[.string ⟨#[s]⟩,.int .u8 q] w fun e w'=>e=.returned (.int .i64 z)∧w'=w:=by
  refine (strings_IndexByte.calls ⟨#[s]⟩ q w).mono ?_;rintro e w' ⟨rfl,rfl⟩;refine ⟨?_,rfl⟩;have h:=idx_one s q hq d ‹_›;rw [hz];exact congrArg (fun z=>Ending.returned (Value.int .i64 z)) h
set_option maxHeartbeats 8000000 in
set_option maxRecDepth 100000 in
theorem found_run.calls (k gm:Nat) (m1 m2 U:Int) (hm:mok (m1,m2,U)) (code:ByteArray) (r:Option (List FoundW.V3)) (w:World) (a1:w.heap[gm]?=some (.cells #[.int .i64 m1,.int .i64 m2,.int .i64 U] 86 (0,0))) (hsz:code.size ≤ 1000) (h:runF k (m1,m2,U) code.data.toList []=some r) :
    Calls Try.prog 61 #[.agg #[.func (.func 55) #[] #[.pointer (some ⟨gm,0,none⟩)],.func (.func 57) #[] #[.pointer (some ⟨gm,0,none⟩)],.func (.func 59) #[] #[],.func (.func 60) #[] #[.pointer (some ⟨gm,0,none⟩)]],.string code] w fun e w'=>∃ v,e=.returned (.tuple #[v,.bool r.isSome])∧(∀ L,r=some L → ∃ b,v=.map (some b)∧RepF (m1,m2,U) w' b L)∧Below w.heap.size w w':=by
  have HM:=mk0 a1;have HMO:=mk0 hm;have HSZ:=mk0 hsz;have HRUN:=mk0 h;have hlen:code.size=code.data.toList.length:=rfl;have HLEN:=mk0 hlen;clear a1 hm hsz h hlen;go_enter Try.func61,Try.ntmps61
  go_wp2_with (first
    | ((with_reducible refine gate_dst (N:=2) rfl ?_);refine box_event ?hg (N:=2) ?hd (cs:=#[.func (.func 55) #[] #[.pointer (some ⟨gm,0,none⟩)],.func (.func 57) #[] #[.pointer (some ⟨gm,0,none⟩)],.func (.func 59) #[] #[],.func (.func 60) #[] #[.pointer (some ⟨gm,0,none⟩)]]) (t:=94) ?hr ?_;(case hd=>rfl);(case hg=>rfl);(case hr=>first|(go_simp;done)|(go_simp;rfl));intro gb hg w1 a1 hb;have BK:=mk0 a1;have c6:=mk0 hb;have HG:=mk0 hg;clear hb a1 hg)
    | fail)
  go_loopw [6,16] (fun v6 b4 wr=>∃ (i:Nat) (bs:List Nat) (st:List (List FoundW.V3)),b4=.int .i64 (i:Int)∧Aside0 (i ≤ code.size)∧Aside0 (RowT w wr v6 bs)∧Aside0 (Reps3 (m1,m2,U) wr bs st)∧Aside0 (bs.length ≤ i)∧Aside0 (runF k (m1,m2,U) (code.data.toList.drop i) st=some r)∧Aside0 (wr.heap[gb]?=some (.cells #[.func (.func 55) #[] #[.pointer (some ⟨gm,0,none⟩)],.func (.func 57) #[] #[.pointer (some ⟨gm,0,none⟩)],.func (.func 59) #[] #[],.func (.func 60) #[] #[.pointer (some ⟨gm,0,none⟩)]] 94 (0,0)))∧Aside0 (Below w.heap.size w wr)) (fun _ b4 _=>code.size - (intOf b4).toNat);case atStart=>exact ⟨0,[],[],rfl,⟨Nat.zero_le _⟩,⟨Kd.R_nil _ _ _ _ _⟩,⟨⟨rfl,fun j b L h=>by simp at h⟩⟩,⟨Nat.le_refl _⟩,HRUN,BK,c6⟩
  case round =>
    obtain ⟨i,bs,st,rfl,HI,HO,HRP,HBL,HR,HGB,Z⟩:=hrel;by_cases hlt:i < code.size
    · have hd:decide ((i:Int) < (code.size:Int))=true:=decide_eq_true (by omega)
      have c7:decide (i < code.size)=true:=decide_eq_true hlt
      have q0:((0:Int) ≤ (i:Int))=True:=eq_true (by omega)
      have q1:((i:Int) < (code.size:Int))=True:=eq_true (by omega)
      have HCD:=mk0 (drop_cons code i hlt)
      obtain ⟨c,hc⟩:∃ c,c=code[i]'hlt:=⟨_,rfl⟩
      rw [← hc] at HCD
      have HRC:=mk0 (Mach.run_cons _ _ _ _ (show runF k (m1,m2,U) (c :: code.data.toList.drop (i + 1)) st=some r from by rw [← HCD.1];exact HR.1))
      have d0:∀ args w,(callFunc 55 args).run Try.prog w=.ok (.enter 55 args) w:=enters_of Try.func55 (by kernel_rfl) rfl
      have d1:∀ args w,(callFunc 57 args).run Try.prog w=.ok (.enter 57 args) w:=enters_of Try.func57 (by kernel_rfl) rfl
      have d2:∀ args w,(callFunc 60 args).run Try.prog w=.ok (.enter 60 args) w:=enters_of Try.func60 (by kernel_rfl) rfl
      have d3:∀ args w,(callFunc 59 args).run Try.prog w=.ok (.enter 59 args) w:=enters_of Try.func59 (by kernel_rfl) rfl
      obtain ⟨A,cc,rfl⟩:=Kd.R_slice HO.1
      have hcap:=(Kd.R_reads' HO.1).2.1
      obtain ⟨d4,hii,hiz⟩:=Option.map_eq_some_iff.1 info88m
      simp only [Prod.mk.injEq] at hiz
      have hBK:wr.heap[gb]?=some (.cells #[.func (.func 55) #[] #[.pointer (some ⟨gm,0,none⟩)],.func (.func 57) #[] #[.pointer (some ⟨gm,0,none⟩)],.func (.func 59) #[] #[],.func (.func 60) #[] #[.pointer (some ⟨gm,0,none⟩)]] 94 (0,0)):=HGB.1
      have HBK:=mk0 hBK
      have d5:wr.cell? ⟨gb,0,none⟩=some (.func (.func 55) #[] #[.pointer (some ⟨gm,0,none⟩)]):=(blk_cell hBK 0).trans rfl
      have V:wr.cell? ⟨gb,1,none⟩=some (.func (.func 57) #[] #[.pointer (some ⟨gm,0,none⟩)]):=(blk_cell hBK 1).trans rfl
      have b9:wr.cell? ⟨gb,2,none⟩=some (.func (.func 59) #[] #[]):=(blk_cell hBK 2).trans rfl
      have c0:wr.cell? ⟨gb,3,none⟩=some (.func (.func 60) #[] #[.pointer (some ⟨gm,0,none⟩)]):=(blk_cell hBK 3).trans rfl
      have hww:wrap64 ((i:Int) + 1)=((i + 1:Nat):Int):=by have:=HSZ.1;unfold wrap64;omega
      have HW:=mk0 hww
      have HLT:=mk0 hlt
      clear hww hBK HGB HR
      rcases signs c with rfl|rfl|rfl|rfl|rfl|rfl|rfl|hoth
      · have hci:(code[i]'hlt).toNat=97:=by rw [← hc];rfl
        have I:=mk0 (fun W=>IndexByte_one 42 97 97 97 (by decide) (by decide) (-1) (by decide) W)
        have J:=mk0 (fun W=>IndexByte_one 46 97 97 97 (by decide) (by decide) (-1) (by decide) W)
        have M:=mk0 (fun W=>IndexByte_one 43 97 97 97 (by decide) (by decide) (-1) (by decide) W)
        have C:=cut_to (P:=Try.prog) 126 88 .i64 Try.underlying126 hii A bs.length cc (bs.length:Int) (by omega) (by omega) hcap
        have B:=cut_from (P:=Try.prog) 126 88 .i64 Try.underlying126 hii 1 hiz.2.1 A bs.length cc (bs.length:Int) (by omega) (by omega)
        simp only [Int.toNat_natCast] at C B
        generalize Value.slice (if cc=bs.length then A else A.map (·.add (bs.length * 1))) (bs.length - bs.length) (cc - bs.length)=vt at B
        have hwn:wrap64 ((bs.length:Int) - 0)=(bs.length:Int):=by have:=HSZ.1;have:=HBL.1;unfold wrap64;omega
        have a5:wrap64 (bs.length:Int)=(bs.length:Int):=by have:=HSZ.1;have:=HBL.1;unfold wrap64;omega
        have a6:IntKind.i64.wrap ((bs.length:Int) - 0)=(bs.length:Int):=by have:=HSZ.1;have:=HBL.1;simp only [IntKind.wrap];simp [IntKind.signed,IntKind.bits];omega
        have a7:IntKind.i64.wrap (bs.length:Int)=(bs.length:Int):=by have:=HSZ.1;have:=HBL.1;simp only [IntKind.wrap];simp [IntKind.signed,IntKind.bits];omega
        have a2:((0:Int) ≤ (bs.length:Int))=True:=eq_true (by omega)
        obtain ⟨q,hq,hqr⟩:=HRC.1
        have HQ:=mk0 hq
        have HQR:=mk0 hqr
        clear hq hqr HRC hc hii hiz hcap
        go_wp2_with (first
          | (go_at_call 91;(with_reducible refine (I.1 _).mono ?_);rintro e F ⟨rfl,rfl⟩)
          | (go_at_call 91;(with_reducible refine (J.1 _).mono ?_);rintro e F ⟨rfl,rfl⟩)
          | (go_at_call 91;(with_reducible refine (M.1 _).mono ?_);rintro e F ⟨rfl,rfl⟩))
        go_region_held3 (fun _=>True) (trivial) (first|fail|fail)
        clear C B
        have HLET:Aside0 (∀ W,Below w.heap.size w W → _):=⟨fun W hW=>Accepts_letter.calls gm m1 m2 U (0) (by decide) W (blk_below HM.1 hW)⟩
        go_wp2_with (first
          | (go_at_call 55;(with_reducible refine (HLET.1 _ ?bc).mono ?_);(case bc=>exact Z.1.drew);rintro e wl ⟨bl,rfl,hRl,hbl⟩;have HRL:=mk0 hRl;have HOL:=mk0 (Kd.R_below (Kd.R_drew HO.1) hbl);have HPL:=mk0 ((Reps3.below (Reps3.below HRP.1 (Below.refl _ _).drew) hbl));have HKL:=mk0 (blk_below (blk_below HBK.1 (Below.refl _ _).drew) hbl);have D:=mk0 (below_step Z.1.drew hbl);clear hRl hbl)
          | ((with_reducible refine gate_builtin (b:=.append) (xs:=#[.tmp 97,.tmp 99]) rfl ?_);at_builtin;refine Kd.R_append kmap (w0:=w) w.heap.size rfl (.tmp 97) (.tmp 99) 126 88 (.map none) 8 rfl Try.underlying126 info88m rfl (by decide) (by omega) (.slice A bs.length cc) bs bl [.map (some bl)] (fun _=>True) (fun _=>False) rfl rfl rfl (fun _ h=>h.elim) (fun _ _=>trivial) HOL.1 D.1 (below_size D.1) (by have:=HBL.1;have:=HSZ.1;have:=HI.1;omega) ?_;intro v1 a4 O V Q T;have HALL:=mk0 (found_push HOL.1 HPL.1 HRL.1 D.1 HKL.1 O Q);clear O V Q T))
        have hst:=HQ.1
        rw [Mach.step_letter _ _ _ _ (i:=0) (by decide)] at hst
        obtain rfl:=Option.some.inj hst
        rcases HQR.1 with ⟨h,_⟩|⟨st',E,h2⟩
        · cases h
        obtain rfl:=Option.some.inj E
        have G:=mk0 h2
        clear hst E h2
        go_roundw
        case rel=>exact ⟨i + 1,bs ++ [bl],st ++ [fLetter (m1,m2,U) (0)],congrArg _ HW.1,⟨HLT.1⟩,⟨HALL.1.1⟩,⟨HALL.1.2.1⟩,⟨by rw [List.length_append];have:=HBL.1;simp;omega⟩,G,⟨HALL.1.2.2.1⟩,⟨HALL.1.2.2.2⟩⟩
        case measure=>rw [HW.1];simp only [intOf];have:=HLT.1;omega
      · have hci:(code[i]'hlt).toNat=98:=by rw [← hc];rfl
        have I:=mk0 (fun W=>IndexByte_one 42 98 98 98 (by decide) (by decide) (-1) (by decide) W)
        have J:=mk0 (fun W=>IndexByte_one 46 98 98 98 (by decide) (by decide) (-1) (by decide) W)
        have M:=mk0 (fun W=>IndexByte_one 43 98 98 98 (by decide) (by decide) (-1) (by decide) W)
        have C:=cut_to (P:=Try.prog) 126 88 .i64 Try.underlying126 hii A bs.length cc (bs.length:Int) (by omega) (by omega) hcap
        have B:=cut_from (P:=Try.prog) 126 88 .i64 Try.underlying126 hii 1 hiz.2.1 A bs.length cc (bs.length:Int) (by omega) (by omega)
        simp only [Int.toNat_natCast] at C B
        generalize Value.slice (if cc=bs.length then A else A.map (·.add (bs.length * 1))) (bs.length - bs.length) (cc - bs.length)=vt at B
        have hwn:wrap64 ((bs.length:Int) - 0)=(bs.length:Int):=by have:=HSZ.1;have:=HBL.1;unfold wrap64;omega
        have a5:wrap64 (bs.length:Int)=(bs.length:Int):=by have:=HSZ.1;have:=HBL.1;unfold wrap64;omega
        have a6:IntKind.i64.wrap ((bs.length:Int) - 0)=(bs.length:Int):=by have:=HSZ.1;have:=HBL.1;simp only [IntKind.wrap];simp [IntKind.signed,IntKind.bits];omega
        have a7:IntKind.i64.wrap (bs.length:Int)=(bs.length:Int):=by have:=HSZ.1;have:=HBL.1;simp only [IntKind.wrap];simp [IntKind.signed,IntKind.bits];omega
        have a2:((0:Int) ≤ (bs.length:Int))=True:=eq_true (by omega)
        obtain ⟨q,hq,hqr⟩:=HRC.1
        have HQ:=mk0 hq
        have HQR:=mk0 hqr
        clear hq hqr HRC hc hii hiz hcap
        go_wp2_with (first
          | (go_at_call 91;(with_reducible refine (I.1 _).mono ?_);rintro e F ⟨rfl,rfl⟩)
          | (go_at_call 91;(with_reducible refine (J.1 _).mono ?_);rintro e F ⟨rfl,rfl⟩)
          | (go_at_call 91;(with_reducible refine (M.1 _).mono ?_);rintro e F ⟨rfl,rfl⟩))
        go_region_held3 (fun _=>True) (trivial) (first|fail|fail)
        clear C B
        have HLET:Aside0 (∀ W,Below w.heap.size w W → _):=⟨fun W hW=>Accepts_letter.calls gm m1 m2 U (1) (by decide) W (blk_below HM.1 hW)⟩
        go_wp2_with (first
          | (go_at_call 55;(with_reducible refine (HLET.1 _ ?bc).mono ?_);(case bc=>exact Z.1.drew);rintro e wl ⟨bl,rfl,hRl,hbl⟩;have HRL:=mk0 hRl;have HOL:=mk0 (Kd.R_below (Kd.R_drew HO.1) hbl);have HPL:=mk0 ((Reps3.below (Reps3.below HRP.1 (Below.refl _ _).drew) hbl));have HKL:=mk0 (blk_below (blk_below HBK.1 (Below.refl _ _).drew) hbl);have D:=mk0 (below_step Z.1.drew hbl);clear hRl hbl)
          | ((with_reducible refine gate_builtin (b:=.append) (xs:=#[.tmp 97,.tmp 99]) rfl ?_);at_builtin;refine Kd.R_append kmap (w0:=w) w.heap.size rfl (.tmp 97) (.tmp 99) 126 88 (.map none) 8 rfl Try.underlying126 info88m rfl (by decide) (by omega) (.slice A bs.length cc) bs bl [.map (some bl)] (fun _=>True) (fun _=>False) rfl rfl rfl (fun _ h=>h.elim) (fun _ _=>trivial) HOL.1 D.1 (below_size D.1) (by have:=HBL.1;have:=HSZ.1;have:=HI.1;omega) ?_;intro v1 a4 O V Q T;have HALL:=mk0 (found_push HOL.1 HPL.1 HRL.1 D.1 HKL.1 O Q);clear O V Q T))
        have hst:=HQ.1
        rw [Mach.step_letter _ _ _ _ (i:=1) (by decide)] at hst
        obtain rfl:=Option.some.inj hst
        rcases HQR.1 with ⟨h,_⟩|⟨st',E,h2⟩
        · cases h
        obtain rfl:=Option.some.inj E
        have G:=mk0 h2
        clear hst E h2
        go_roundw
        case rel=>exact ⟨i + 1,bs ++ [bl],st ++ [fLetter (m1,m2,U) (1)],congrArg _ HW.1,⟨HLT.1⟩,⟨HALL.1.1⟩,⟨HALL.1.2.1⟩,⟨by rw [List.length_append];have:=HBL.1;simp;omega⟩,G,⟨HALL.1.2.2.1⟩,⟨HALL.1.2.2.2⟩⟩
        case measure=>rw [HW.1];simp only [intOf];have:=HLT.1;omega
      · have hci:(code[i]'hlt).toNat=99:=by rw [← hc];rfl
        have I:=mk0 (fun W=>IndexByte_one 42 99 99 99 (by decide) (by decide) (-1) (by decide) W)
        have J:=mk0 (fun W=>IndexByte_one 46 99 99 99 (by decide) (by decide) (-1) (by decide) W)
        have M:=mk0 (fun W=>IndexByte_one 43 99 99 99 (by decide) (by decide) (-1) (by decide) W)
        have C:=cut_to (P:=Try.prog) 126 88 .i64 Try.underlying126 hii A bs.length cc (bs.length:Int) (by omega) (by omega) hcap
        have B:=cut_from (P:=Try.prog) 126 88 .i64 Try.underlying126 hii 1 hiz.2.1 A bs.length cc (bs.length:Int) (by omega) (by omega)
        simp only [Int.toNat_natCast] at C B
        generalize Value.slice (if cc=bs.length then A else A.map (·.add (bs.length * 1))) (bs.length - bs.length) (cc - bs.length)=vt at B
        have hwn:wrap64 ((bs.length:Int) - 0)=(bs.length:Int):=by have:=HSZ.1;have:=HBL.1;unfold wrap64;omega
        have a5:wrap64 (bs.length:Int)=(bs.length:Int):=by have:=HSZ.1;have:=HBL.1;unfold wrap64;omega
        have a6:IntKind.i64.wrap ((bs.length:Int) - 0)=(bs.length:Int):=by have:=HSZ.1;have:=HBL.1;simp only [IntKind.wrap];simp [IntKind.signed,IntKind.bits];omega
        have a7:IntKind.i64.wrap (bs.length:Int)=(bs.length:Int):=by have:=HSZ.1;have:=HBL.1;simp only [IntKind.wrap];simp [IntKind.signed,IntKind.bits];omega
        have a2:((0:Int) ≤ (bs.length:Int))=True:=eq_true (by omega)
        obtain ⟨q,hq,hqr⟩:=HRC.1
        have HQ:=mk0 hq
        have HQR:=mk0 hqr
        clear hq hqr HRC hc hii hiz hcap
        go_wp2_with (first
          | (go_at_call 91;(with_reducible refine (I.1 _).mono ?_);rintro e F ⟨rfl,rfl⟩)
          | (go_at_call 91;(with_reducible refine (J.1 _).mono ?_);rintro e F ⟨rfl,rfl⟩)
          | (go_at_call 91;(with_reducible refine (M.1 _).mono ?_);rintro e F ⟨rfl,rfl⟩))
        go_region_held3 (fun _=>True) (trivial) (first|fail|fail)
        clear C B
        have HLET:Aside0 (∀ W,Below w.heap.size w W → _):=⟨fun W hW=>Accepts_letter.calls gm m1 m2 U (2) (by decide) W (blk_below HM.1 hW)⟩
        go_wp2_with (first
          | (go_at_call 55;(with_reducible refine (HLET.1 _ ?bc).mono ?_);(case bc=>exact Z.1.drew);rintro e wl ⟨bl,rfl,hRl,hbl⟩;have HRL:=mk0 hRl;have HOL:=mk0 (Kd.R_below (Kd.R_drew HO.1) hbl);have HPL:=mk0 ((Reps3.below (Reps3.below HRP.1 (Below.refl _ _).drew) hbl));have HKL:=mk0 (blk_below (blk_below HBK.1 (Below.refl _ _).drew) hbl);have D:=mk0 (below_step Z.1.drew hbl);clear hRl hbl)
          | ((with_reducible refine gate_builtin (b:=.append) (xs:=#[.tmp 97,.tmp 99]) rfl ?_);at_builtin;refine Kd.R_append kmap (w0:=w) w.heap.size rfl (.tmp 97) (.tmp 99) 126 88 (.map none) 8 rfl Try.underlying126 info88m rfl (by decide) (by omega) (.slice A bs.length cc) bs bl [.map (some bl)] (fun _=>True) (fun _=>False) rfl rfl rfl (fun _ h=>h.elim) (fun _ _=>trivial) HOL.1 D.1 (below_size D.1) (by have:=HBL.1;have:=HSZ.1;have:=HI.1;omega) ?_;intro v1 a4 O V Q T;have HALL:=mk0 (found_push HOL.1 HPL.1 HRL.1 D.1 HKL.1 O Q);clear O V Q T))
        have hst:=HQ.1
        rw [Mach.step_letter _ _ _ _ (i:=2) (by decide)] at hst
        obtain rfl:=Option.some.inj hst
        rcases HQR.1 with ⟨h,_⟩|⟨st',E,h2⟩
        · cases h
        obtain rfl:=Option.some.inj E
        have G:=mk0 h2
        clear hst E h2
        go_roundw
        case rel=>exact ⟨i + 1,bs ++ [bl],st ++ [fLetter (m1,m2,U) (2)],congrArg _ HW.1,⟨HLT.1⟩,⟨HALL.1.1⟩,⟨HALL.1.2.1⟩,⟨by rw [List.length_append];have:=HBL.1;simp;omega⟩,G,⟨HALL.1.2.2.1⟩,⟨HALL.1.2.2.2⟩⟩
        case measure=>rw [HW.1];simp only [intOf];have:=HLT.1;omega
      · have hci:(code[i]'hlt).toNat=101:=by rw [← hc];rfl
        have I:=mk0 (fun W=>IndexByte_one 42 101 101 101 (by decide) (by decide) (-1) (by decide) W)
        have J:=mk0 (fun W=>IndexByte_one 46 101 101 101 (by decide) (by decide) (-1) (by decide) W)
        have M:=mk0 (fun W=>IndexByte_one 43 101 101 101 (by decide) (by decide) (-1) (by decide) W)
        have C:=cut_to (P:=Try.prog) 126 88 .i64 Try.underlying126 hii A bs.length cc (bs.length:Int) (by omega) (by omega) hcap
        have B:=cut_from (P:=Try.prog) 126 88 .i64 Try.underlying126 hii 1 hiz.2.1 A bs.length cc (bs.length:Int) (by omega) (by omega)
        simp only [Int.toNat_natCast] at C B
        generalize Value.slice (if cc=bs.length then A else A.map (·.add (bs.length * 1))) (bs.length - bs.length) (cc - bs.length)=vt at B
        have hwn:wrap64 ((bs.length:Int) - 0)=(bs.length:Int):=by have:=HSZ.1;have:=HBL.1;unfold wrap64;omega
        have a5:wrap64 (bs.length:Int)=(bs.length:Int):=by have:=HSZ.1;have:=HBL.1;unfold wrap64;omega
        have a6:IntKind.i64.wrap ((bs.length:Int) - 0)=(bs.length:Int):=by have:=HSZ.1;have:=HBL.1;simp only [IntKind.wrap];simp [IntKind.signed,IntKind.bits];omega
        have a7:IntKind.i64.wrap (bs.length:Int)=(bs.length:Int):=by have:=HSZ.1;have:=HBL.1;simp only [IntKind.wrap];simp [IntKind.signed,IntKind.bits];omega
        have a2:((0:Int) ≤ (bs.length:Int))=True:=eq_true (by omega)
        obtain ⟨q,hq,hqr⟩:=HRC.1
        have HQ:=mk0 hq
        have HQR:=mk0 hqr
        clear hq hqr HRC hc hii hiz hcap
        go_wp2_with (first
          | (go_at_call 91;(with_reducible refine (I.1 _).mono ?_);rintro e F ⟨rfl,rfl⟩)
          | (go_at_call 91;(with_reducible refine (J.1 _).mono ?_);rintro e F ⟨rfl,rfl⟩)
          | (go_at_call 91;(with_reducible refine (M.1 _).mono ?_);rintro e F ⟨rfl,rfl⟩))
        go_region_held3 (fun _=>True) (trivial) (first|fail|fail)
        clear C B
        have HLET:Aside0 (∀ W,Below w.heap.size w W → _):=⟨fun W hW=>Accepts_letter.calls gm m1 m2 U (-1) (by decide) W (blk_below HM.1 hW)⟩
        go_wp2_with (first
          | (go_at_call 55;(with_reducible refine (HLET.1 _ ?bc).mono ?_);(case bc=>exact Z.1.drew);rintro e wl ⟨bl,rfl,hRl,hbl⟩;have HRL:=mk0 hRl;have HOL:=mk0 (Kd.R_below (Kd.R_drew HO.1) hbl);have HPL:=mk0 ((Reps3.below (Reps3.below HRP.1 (Below.refl _ _).drew) hbl));have HKL:=mk0 (blk_below (blk_below HBK.1 (Below.refl _ _).drew) hbl);have D:=mk0 (below_step Z.1.drew hbl);clear hRl hbl)
          | ((with_reducible refine gate_builtin (b:=.append) (xs:=#[.tmp 97,.tmp 99]) rfl ?_);at_builtin;refine Kd.R_append kmap (w0:=w) w.heap.size rfl (.tmp 97) (.tmp 99) 126 88 (.map none) 8 rfl Try.underlying126 info88m rfl (by decide) (by omega) (.slice A bs.length cc) bs bl [.map (some bl)] (fun _=>True) (fun _=>False) rfl rfl rfl (fun _ h=>h.elim) (fun _ _=>trivial) HOL.1 D.1 (below_size D.1) (by have:=HBL.1;have:=HSZ.1;have:=HI.1;omega) ?_;intro v1 a4 O V Q T;have HALL:=mk0 (found_push HOL.1 HPL.1 HRL.1 D.1 HKL.1 O Q);clear O V Q T))
        have hst:=HQ.1
        rw [Mach.step_letter _ _ _ _ (i:=-1) (by decide)] at hst
        obtain rfl:=Option.some.inj hst
        rcases HQR.1 with ⟨h,_⟩|⟨st',E,h2⟩
        · cases h
        obtain rfl:=Option.some.inj E
        have G:=mk0 h2
        clear hst E h2
        go_roundw
        case rel=>exact ⟨i + 1,bs ++ [bl],st ++ [fLetter (m1,m2,U) (-1)],congrArg _ HW.1,⟨HLT.1⟩,⟨HALL.1.1⟩,⟨HALL.1.2.1⟩,⟨by rw [List.length_append];have:=HBL.1;simp;omega⟩,G,⟨HALL.1.2.2.1⟩,⟨HALL.1.2.2.2⟩⟩
        case measure=>rw [HW.1];simp only [intOf];have:=HLT.1;omega
      · by_cases hen:2 ≤ st.length
        · have hci:(code[i]'hlt).toNat=46:=by rw [← hc];rfl
          have I:=mk0 (fun W=>IndexByte_one 42 46 46 46 (by decide) (by decide) (-1) (by decide) W)
          have J:=mk0 (fun W=>IndexByte_one 46 46 46 46 (by decide) (by decide) 0 (by decide) W)
          have M:=mk0 (fun W=>IndexByte_one 43 46 46 46 (by decide) (by decide) (-1) (by decide) W)
          obtain ⟨s,a,b,hbs⟩:=Mach.last_two (st:=bs) (by have:=HRP.1.1;omega)
          obtain ⟨t,X,Y,hstt⟩:=Mach.last_two hen
          have hjn:bs.length=s.length + 2:=by rw [hbs];simp
          have hjt:s.length=t.length:=by have E:=HRP.1.1;rw [hbs,hstt] at E;simp at E;exact E
          have hRa:RepF (m1,m2,U) wr a X:=HRP.1.2 s.length a X (by rw [hbs];simp) (by rw [hstt,hjt];simp)
          have hRb:RepF (m1,m2,U) wr b Y:=HRP.1.2 (s.length + 1) b Y (by rw [hbs];simp) (by rw [hstt,hjt];simp)
          have HPT:=mk0 (Reps3.take (bs:=s) (cs:=[a,b]) (st:=t) (tt:=[X,Y]) (by rw [← hbs,← hstt];exact HRP.1) hjt)
          have HTK:=mk0 (show bs.take s.length=s from by rw [hbs];simp)
          have hgc:∀ q x:Nat,bs.getD q 0=x → q < bs.length → wr.cell? ⟨0,0,none⟩=wr.cell? ⟨0,0,none⟩:=fun _ _ _ _=>rfl
          clear hgc
          have hpos:0 < bs.length:=by omega
          obtain ⟨g,cap,ef,_,_,_⟩:=Kd.R_form HO.1 hpos
          injection ef with e1 e2 e3
          subst e1
          have a0:wr.cell? ⟨g,s.length,none⟩=some (.map (some a)):=by have h:=(Kd.R_celln 0 HO.1 (s.length:Int) (by omega) (by omega)).1;simp only [Int.toNat_natCast] at h;rw [h];simp [rdOf,hbs]
          have b1:wr.cell? ⟨g,s.length + 1,none⟩=some (.map (some b)):=by have h:=(Kd.R_celln 0 HO.1 ((s.length + 1:Nat):Int) (by omega) (by omega)).1;simp only [Int.toNat_natCast] at h;rw [h];simp [rdOf,hbs]
          have C:=cut_to (P:=Try.prog) 126 88 .i64 Try.underlying126 hii (some ⟨g,0,none⟩) bs.length cc (s.length:Int) (by omega) (by omega) hcap
          have B:=cut_from (P:=Try.prog) 126 88 .i64 Try.underlying126 hii 1 hiz.2.1 (some ⟨g,0,none⟩) bs.length cc (s.length:Int) (by omega) (by omega)
          have hadd:(⟨g,0,none⟩:Addr).add s.length=⟨g,s.length,none⟩:=by simp only [Addr.add,Nat.zero_add];split <;> simp_all
          have hsub:bs.length - s.length=2:=by omega
          have hnc:¬ cc=s.length:=by omega
          simp only [Int.toNat_natCast,if_neg hnc,Option.map_some,Nat.mul_one,hadd,hsub] at C B
          have hwn:wrap64 ((bs.length:Int) - 2)=(s.length:Int):=by have:=HSZ.1;have:=HBL.1;unfold wrap64;omega
          have hwk:IntKind.i64.wrap ((bs.length:Int) - 2)=(s.length:Int):=by have:=HSZ.1;have:=HBL.1;simp only [IntKind.wrap];simp [IntKind.signed,IntKind.bits];omega
          have hdn:decide ((bs.length:Int) < 2)=false:=decide_eq_false (by omega)
          have a3:decide (bs.length < 2)=false:=decide_eq_false (by omega)
          have a2:((0:Int) ≤ (s.length:Int))=True:=eq_true (by omega)
          have c1:((s.length:Int) ≤ (bs.length:Int))=True:=eq_true (by omega)
          have HSOF:Aside0 (∀ w',Below wr.heap.size wr w' → w'.cell? ⟨gb,1,none⟩=some (.func (.func 57) #[] #[.pointer (some ⟨gm,0,none⟩)])∧w'.cell? ⟨g,s.length,none⟩=some (.map (some a))∧w'.cell? ⟨g,s.length + 1,none⟩=some (.map (some b))):=⟨fun w' hb=>⟨(hb.cell (World.block_lt_of_cell? wr _ V)).trans V,(hb.cell (World.block_lt_of_cell? wr _ a0)).trans a0,(hb.cell (World.block_lt_of_cell? wr _ b1)).trans b1⟩⟩
          obtain ⟨q,hq,hqr⟩:=HRC.1
          rw [hstt] at hq
          have HJC:Aside0 (∀ W,Below wr.heap.size wr W → _):=⟨fun W hW=>Accepts_join.calls gm m1 m2 U HMO.1 a b X Y W (blk_below HM.1 (below_step Z.1 hW)) (hRa.below hW) (hRb.below hW)⟩
          have HQ:=mk0 hq
          have HQR:=mk0 hqr
          have HLS:Aside0 (s.length ≤ i):=⟨by have:=HBL.1;omega⟩
          have HTT:=mk0 hjt
          have HJN:=mk0 hjn
          clear hq hqr HRC hc hii hiz hcap hbs hstt hjn hjt hRa hRb hadd hsub hnc hpos e2 e3
          go_wp2_with (first
          | (go_at_call 91;(with_reducible refine (I.1 _).mono ?_);rintro e F ⟨rfl,rfl⟩)
          | (go_at_call 91;(with_reducible refine (J.1 _).mono ?_);rintro e F ⟨rfl,rfl⟩)
          | (go_at_call 91;(with_reducible refine (M.1 _).mono ?_);rintro e F ⟨rfl,rfl⟩))
          go_region_held3 (fun _=>True) (trivial) (first|fail|fail)
          clear C B
          go_wp2_with fail
          go_region_held3 (fun w'=>w'.cell? ⟨gb,1,none⟩=some (.func (.func 57) #[] #[.pointer (some ⟨gm,0,none⟩)])∧w'.cell? ⟨g,s.length,none⟩=some (.map (some a))∧w'.cell? ⟨g,s.length + 1,none⟩=some (.map (some b)))
            (exact HSOF.1 _ (by ((repeat (first|exact Below.refl _ _|assumption|exact HBWL.1|apply Below.drew|apply below_alloc));done)))
            (first
              | (go_at_call 57;(with_reducible refine (HJC.1 _ ?bc).mono ?_);(case bc=>(repeat (first|exact Below.refl _ _|assumption|exact HBWL.1|apply Below.drew|apply below_alloc)));rintro e wl ⟨bl,rfl,hRl,hbl⟩;have HBWL:Aside0 (Below F.heap.size F wl):=⟨below_step (by ((repeat (first|exact Below.refl _ _|assumption|exact HBWL.1|apply Below.drew|apply below_alloc));done)) hbl⟩;have HRL:=mk0 hRl;clear hRl hbl)
              | fail)
          have HOL:Aside0 (kmap.R 88 wl w.heap.size (fun _=>True) (.slice (some ⟨g,0,none⟩) s.length cc) s):=⟨by
            have h:=Kd.R_take (m:=s.length) (Kd.R_below HO.1 HBWL.1) (by have:=HJN.1;omega);rw [HTK.1] at h
            exact h⟩
          have HPL:=mk0 (Reps3.below HPT.1 HBWL.1)
          have HKL:=mk0 (blk_below HBK.1 HBWL.1)
          have D:=mk0 (below_step Z.1 HBWL.1)
          go_wp2_with (first
            | ((with_reducible refine gate_builtin (b:=.append) (xs:=#[.tmp 97,.tmp 99]) rfl ?_);at_builtin;refine Kd.R_append kmap (w0:=w) w.heap.size rfl (.tmp 97) (.tmp 99) 126 88 (.map none) 8 rfl Try.underlying126 info88m rfl (by decide) (by omega) (.slice (some ⟨g,0,none⟩) s.length cc) s bl [.map (some bl)] (fun _=>True) (fun _=>False) rfl rfl rfl (fun _ h=>h.elim) (fun _ _=>trivial) HOL.1 D.1 (below_size D.1) (by have:=HLS.1;have:=HSZ.1;have:=HI.1;omega) ?_;intro v1 a4 O V Q T;have HALL:=mk0 (found_push HOL.1 HPL.1 HRL.1 D.1 HKL.1 O Q);clear O V Q T))
          have hst:=HQ.1
          rw [Mach.step_dot] at hst
          obtain rfl:=Option.some.inj hst
          rcases HQR.1 with ⟨h,_⟩|⟨st',E,h2⟩
          · cases h
          obtain rfl:=Option.some.inj E
          have G:=mk0 h2
          clear E h2
          go_roundw
          case rel=>exact ⟨i + 1,s ++ [bl],t ++ [fJoin (m1,m2,U) X Y],congrArg _ HW.1,⟨HLT.1⟩,⟨HALL.1.1⟩,⟨HALL.1.2.1⟩,⟨by rw [List.length_append];have:=HLS.1;simp;omega⟩,G,⟨HALL.1.2.2.1⟩,⟨HALL.1.2.2.2⟩⟩
          case measure=>rw [HW.1];simp only [intOf];have:=HLT.1;omega
        · have hci:(code[i]'hlt).toNat=46:=by rw [← hc];rfl
          have I:=mk0 (fun W=>IndexByte_one 42 46 46 46 (by decide) (by decide) (-1) (by decide) W)
          have J:=mk0 (fun W=>IndexByte_one 46 46 46 46 (by decide) (by decide) 0 (by decide) W)
          have M:=mk0 (fun W=>IndexByte_one 43 46 46 46 (by decide) (by decide) (-1) (by decide) W)
          have hdn:decide ((bs.length:Int) < 2)=true:=decide_eq_true (by have:=HRP.1.1;omega)
          have a3:decide (bs.length < 2)=true:=decide_eq_true (by have:=HRP.1.1;omega)
          obtain ⟨q,hq,hqr⟩:=HRC.1
          rw [Mach.step_few _ _ _ _ (.inl ⟨.inl rfl,by omega⟩)] at hq
          obtain rfl:=Option.some.inj hq
          have hr:r=none:=by (rcases hqr with ⟨_,h⟩|⟨st',E,_⟩);(· exact h);· cases E
          subst hr
          clear hq hqr HRC hc hii hiz hcap hen
          go_wp2_with (first
          | (go_at_call 91;(with_reducible refine (I.1 _).mono ?_);rintro e F ⟨rfl,rfl⟩)
          | (go_at_call 91;(with_reducible refine (J.1 _).mono ?_);rintro e F ⟨rfl,rfl⟩)
          | (go_at_call 91;(with_reducible refine (M.1 _).mono ?_);rintro e F ⟨rfl,rfl⟩))
          go_ret2
          exact ⟨_,rfl,fun L h=>by (cases h),Z.1⟩
      · by_cases hen:2 ≤ st.length
        · have hci:(code[i]'hlt).toNat=43:=by rw [← hc];rfl
          have I:=mk0 (fun W=>IndexByte_one 42 43 43 43 (by decide) (by decide) (-1) (by decide) W)
          have J:=mk0 (fun W=>IndexByte_one 46 43 43 43 (by decide) (by decide) (-1) (by decide) W)
          have M:=mk0 (fun W=>IndexByte_one 43 43 43 43 (by decide) (by decide) 0 (by decide) W)
          obtain ⟨s,a,b,hbs⟩:=Mach.last_two (st:=bs) (by have:=HRP.1.1;omega)
          obtain ⟨t,X,Y,hstt⟩:=Mach.last_two hen
          have hjn:bs.length=s.length + 2:=by rw [hbs];simp
          have hjt:s.length=t.length:=by have E:=HRP.1.1;rw [hbs,hstt] at E;simp at E;exact E
          have hRa:RepF (m1,m2,U) wr a X:=HRP.1.2 s.length a X (by rw [hbs];simp) (by rw [hstt,hjt];simp)
          have hRb:RepF (m1,m2,U) wr b Y:=HRP.1.2 (s.length + 1) b Y (by rw [hbs];simp) (by rw [hstt,hjt];simp)
          have HPT:=mk0 (Reps3.take (bs:=s) (cs:=[a,b]) (st:=t) (tt:=[X,Y]) (by rw [← hbs,← hstt];exact HRP.1) hjt)
          have HTK:=mk0 (show bs.take s.length=s from by rw [hbs];simp)
          have hgc:∀ q x:Nat,bs.getD q 0=x → q < bs.length → wr.cell? ⟨0,0,none⟩=wr.cell? ⟨0,0,none⟩:=fun _ _ _ _=>rfl
          clear hgc
          have hpos:0 < bs.length:=by omega
          obtain ⟨g,cap,ef,_,_,_⟩:=Kd.R_form HO.1 hpos
          injection ef with e1 e2 e3
          subst e1
          have a0:wr.cell? ⟨g,s.length,none⟩=some (.map (some a)):=by have h:=(Kd.R_celln 0 HO.1 (s.length:Int) (by omega) (by omega)).1;simp only [Int.toNat_natCast] at h;rw [h];simp [rdOf,hbs]
          have b1:wr.cell? ⟨g,s.length + 1,none⟩=some (.map (some b)):=by have h:=(Kd.R_celln 0 HO.1 ((s.length + 1:Nat):Int) (by omega) (by omega)).1;simp only [Int.toNat_natCast] at h;rw [h];simp [rdOf,hbs]
          have C:=cut_to (P:=Try.prog) 126 88 .i64 Try.underlying126 hii (some ⟨g,0,none⟩) bs.length cc (s.length:Int) (by omega) (by omega) hcap
          have B:=cut_from (P:=Try.prog) 126 88 .i64 Try.underlying126 hii 1 hiz.2.1 (some ⟨g,0,none⟩) bs.length cc (s.length:Int) (by omega) (by omega)
          have hadd:(⟨g,0,none⟩:Addr).add s.length=⟨g,s.length,none⟩:=by simp only [Addr.add,Nat.zero_add];split <;> simp_all
          have hsub:bs.length - s.length=2:=by omega
          have hnc:¬ cc=s.length:=by omega
          simp only [Int.toNat_natCast,if_neg hnc,Option.map_some,Nat.mul_one,hadd,hsub] at C B
          have hwn:wrap64 ((bs.length:Int) - 2)=(s.length:Int):=by have:=HSZ.1;have:=HBL.1;unfold wrap64;omega
          have hwk:IntKind.i64.wrap ((bs.length:Int) - 2)=(s.length:Int):=by have:=HSZ.1;have:=HBL.1;simp only [IntKind.wrap];simp [IntKind.signed,IntKind.bits];omega
          have hdn:decide ((bs.length:Int) < 2)=false:=decide_eq_false (by omega)
          have a3:decide (bs.length < 2)=false:=decide_eq_false (by omega)
          have a2:((0:Int) ≤ (s.length:Int))=True:=eq_true (by omega)
          have c1:((s.length:Int) ≤ (bs.length:Int))=True:=eq_true (by omega)
          have HSOF:Aside0 (∀ w',Below wr.heap.size wr w' → w'.cell? ⟨gb,2,none⟩=some (.func (.func 59) #[] #[])∧w'.cell? ⟨g,s.length,none⟩=some (.map (some a))∧w'.cell? ⟨g,s.length + 1,none⟩=some (.map (some b))):=⟨fun w' hb=>⟨(hb.cell (World.block_lt_of_cell? wr _ b9)).trans b9,(hb.cell (World.block_lt_of_cell? wr _ a0)).trans a0,(hb.cell (World.block_lt_of_cell? wr _ b1)).trans b1⟩⟩
          obtain ⟨q,hq,hqr⟩:=HRC.1
          rw [hstt] at hq
          have HJC:Aside0 (∀ W,Below wr.heap.size wr W → _):=⟨fun W hW=>both_rep' (m1,m2,U) HMO.1 a b X Y W (hRa.below hW) (hRb.below hW)⟩
          have HQ:=mk0 hq
          have HQR:=mk0 hqr
          have HLS:Aside0 (s.length ≤ i):=⟨by have:=HBL.1;omega⟩
          have HTT:=mk0 hjt
          have HJN:=mk0 hjn
          clear hq hqr HRC hc hii hiz hcap hbs hstt hjn hjt hRa hRb hadd hsub hnc hpos e2 e3
          go_wp2_with (first
          | (go_at_call 91;(with_reducible refine (I.1 _).mono ?_);rintro e F ⟨rfl,rfl⟩)
          | (go_at_call 91;(with_reducible refine (J.1 _).mono ?_);rintro e F ⟨rfl,rfl⟩)
          | (go_at_call 91;(with_reducible refine (M.1 _).mono ?_);rintro e F ⟨rfl,rfl⟩))
          go_region_held3 (fun _=>True) (trivial) (first|fail|fail)
          clear C B
          go_wp2_with fail
          go_region_held3 (fun w'=>w'.cell? ⟨gb,2,none⟩=some (.func (.func 59) #[] #[])∧w'.cell? ⟨g,s.length,none⟩=some (.map (some a))∧w'.cell? ⟨g,s.length + 1,none⟩=some (.map (some b)))
            (exact HSOF.1 _ (by ((repeat (first|exact Below.refl _ _|assumption|exact HBWL.1|apply Below.drew|apply below_alloc));done)))
            (first
              | (go_at_call 59;(with_reducible refine (HJC.1 _ ?bc).mono ?_);(case bc=>(repeat (first|exact Below.refl _ _|assumption|exact HBWL.1|apply Below.drew|apply below_alloc)));rintro e wl ⟨bl,rfl,hRl,hbl⟩;have HBWL:Aside0 (Below F.heap.size F wl):=⟨below_step (by ((repeat (first|exact Below.refl _ _|assumption|exact HBWL.1|apply Below.drew|apply below_alloc));done)) hbl⟩;have HRL:=mk0 hRl;clear hRl hbl)
              | fail)
          have HOL:Aside0 (kmap.R 88 wl w.heap.size (fun _=>True) (.slice (some ⟨g,0,none⟩) s.length cc) s):=⟨by
            have h:=Kd.R_take (m:=s.length) (Kd.R_below HO.1 HBWL.1) (by have:=HJN.1;omega);rw [HTK.1] at h
            exact h⟩
          have HPL:=mk0 (Reps3.below HPT.1 HBWL.1)
          have HKL:=mk0 (blk_below HBK.1 HBWL.1)
          have D:=mk0 (below_step Z.1 HBWL.1)
          go_wp2_with (first
            | ((with_reducible refine gate_builtin (b:=.append) (xs:=#[.tmp 97,.tmp 99]) rfl ?_);at_builtin;refine Kd.R_append kmap (w0:=w) w.heap.size rfl (.tmp 97) (.tmp 99) 126 88 (.map none) 8 rfl Try.underlying126 info88m rfl (by decide) (by omega) (.slice (some ⟨g,0,none⟩) s.length cc) s bl [.map (some bl)] (fun _=>True) (fun _=>False) rfl rfl rfl (fun _ h=>h.elim) (fun _ _=>trivial) HOL.1 D.1 (below_size D.1) (by have:=HLS.1;have:=HSZ.1;have:=HI.1;omega) ?_;intro v1 a4 O V Q T;have HALL:=mk0 (found_push HOL.1 HPL.1 HRL.1 D.1 HKL.1 O Q);clear O V Q T))
          have hst:=HQ.1
          rw [Mach.step_plus] at hst
          obtain rfl:=Option.some.inj hst
          rcases HQR.1 with ⟨h,_⟩|⟨st',E,h2⟩
          · cases h
          obtain rfl:=Option.some.inj E
          have G:=mk0 h2
          clear E h2
          go_roundw
          case rel=>exact ⟨i + 1,s ++ [bl],t ++ [fBoth X Y],congrArg _ HW.1,⟨HLT.1⟩,⟨HALL.1.1⟩,⟨HALL.1.2.1⟩,⟨by rw [List.length_append];have:=HLS.1;simp;omega⟩,G,⟨HALL.1.2.2.1⟩,⟨HALL.1.2.2.2⟩⟩
          case measure=>rw [HW.1];simp only [intOf];have:=HLT.1;omega
        · have hci:(code[i]'hlt).toNat=43:=by rw [← hc];rfl
          have I:=mk0 (fun W=>IndexByte_one 42 43 43 43 (by decide) (by decide) (-1) (by decide) W)
          have J:=mk0 (fun W=>IndexByte_one 46 43 43 43 (by decide) (by decide) (-1) (by decide) W)
          have M:=mk0 (fun W=>IndexByte_one 43 43 43 43 (by decide) (by decide) 0 (by decide) W)
          have hdn:decide ((bs.length:Int) < 2)=true:=decide_eq_true (by have:=HRP.1.1;omega)
          have a3:decide (bs.length < 2)=true:=decide_eq_true (by have:=HRP.1.1;omega)
          obtain ⟨q,hq,hqr⟩:=HRC.1
          rw [Mach.step_few _ _ _ _ (.inl ⟨.inr rfl,by omega⟩)] at hq
          obtain rfl:=Option.some.inj hq
          have hr:r=none:=by (rcases hqr with ⟨_,h⟩|⟨st',E,_⟩);(· exact h);· cases E
          subst hr
          clear hq hqr HRC hc hii hiz hcap hen
          go_wp2_with (first
          | (go_at_call 91;(with_reducible refine (I.1 _).mono ?_);rintro e F ⟨rfl,rfl⟩)
          | (go_at_call 91;(with_reducible refine (J.1 _).mono ?_);rintro e F ⟨rfl,rfl⟩)
          | (go_at_call 91;(with_reducible refine (M.1 _).mono ?_);rintro e F ⟨rfl,rfl⟩))
          go_ret2
          exact ⟨_,rfl,fun L h=>by (cases h),Z.1⟩
      · by_cases hen:1 ≤ st.length
        · have hci:(code[i]'hlt).toNat=42:=by rw [← hc];rfl
          have I:=mk0 (fun W=>IndexByte_one 42 42 42 42 (by decide) (by decide) 0 (by decide) W)
          have J:=mk0 (fun W=>IndexByte_one 46 42 42 42 (by decide) (by decide) (-1) (by decide) W)
          have M:=mk0 (fun W=>IndexByte_one 43 42 42 42 (by decide) (by decide) (-1) (by decide) W)
          obtain ⟨s,a,hbs⟩:=Mach.last_one (st:=bs) (by have:=HRP.1.1;omega)
          obtain ⟨t,X,hstt⟩:=Mach.last_one hen
          have hjn:bs.length=s.length + 1:=by rw [hbs];simp
          have hjt:s.length=t.length:=by have E:=HRP.1.1;rw [hbs,hstt] at E;simp at E;exact E
          have hRa:RepF (m1,m2,U) wr a X:=HRP.1.2 s.length a X (by rw [hbs];simp) (by rw [hstt,hjt];simp)
          have HPT:=mk0 (Reps3.take (bs:=s) (cs:=[a]) (st:=t) (tt:=[X]) (by rw [← hbs,← hstt];exact HRP.1) hjt)
          have HTK:=mk0 (show bs.take s.length=s from by rw [hbs];simp)
          have hgc:∀ q x:Nat,bs.getD q 0=x → q < bs.length → wr.cell? ⟨0,0,none⟩=wr.cell? ⟨0,0,none⟩:=fun _ _ _ _=>rfl
          clear hgc
          have hpos:0 < bs.length:=by omega
          obtain ⟨g,cap,ef,_,_,_⟩:=Kd.R_form HO.1 hpos
          injection ef with e1 e2 e3
          subst e1
          have a0:wr.cell? ⟨g,s.length,none⟩=some (.map (some a)):=by have h:=(Kd.R_celln 0 HO.1 (s.length:Int) (by omega) (by omega)).1;simp only [Int.toNat_natCast] at h;rw [h];simp [rdOf,hbs]
          have C:=cut_to (P:=Try.prog) 126 88 .i64 Try.underlying126 hii (some ⟨g,0,none⟩) bs.length cc (s.length:Int) (by omega) (by omega) hcap
          have B:=cut_from (P:=Try.prog) 126 88 .i64 Try.underlying126 hii 1 hiz.2.1 (some ⟨g,0,none⟩) bs.length cc (s.length:Int) (by omega) (by omega)
          have hadd:(⟨g,0,none⟩:Addr).add s.length=⟨g,s.length,none⟩:=by simp only [Addr.add,Nat.zero_add];split <;> simp_all
          have hsub:bs.length - s.length=1:=by omega
          have hnc:¬ cc=s.length:=by omega
          simp only [Int.toNat_natCast,if_neg hnc,Option.map_some,Nat.mul_one,hadd,hsub] at C B
          have hwn:wrap64 ((bs.length:Int) - 1)=(s.length:Int):=by have:=HSZ.1;have:=HBL.1;unfold wrap64;omega
          have hwk:IntKind.i64.wrap ((bs.length:Int) - 1)=(s.length:Int):=by have:=HSZ.1;have:=HBL.1;simp only [IntKind.wrap];simp [IntKind.signed,IntKind.bits];omega
          have hdn:decide ((bs.length:Int) < 1)=false:=decide_eq_false (by omega)
          have a3:decide (bs.length < 1)=false:=decide_eq_false (by omega)
          have a2:((0:Int) ≤ (s.length:Int))=True:=eq_true (by omega)
          have c1:((s.length:Int) ≤ (bs.length:Int))=True:=eq_true (by omega)
          have HSOF:Aside0 (∀ w',Below wr.heap.size wr w' → w'.cell? ⟨gb,3,none⟩=some (.func (.func 60) #[] #[.pointer (some ⟨gm,0,none⟩)])∧w'.cell? ⟨g,s.length,none⟩=some (.map (some a))):=⟨fun w' hb=>⟨(hb.cell (World.block_lt_of_cell? wr _ c0)).trans c0,(hb.cell (World.block_lt_of_cell? wr _ a0)).trans a0⟩⟩
          obtain ⟨q,hq,hqr⟩:=HRC.1
          rw [hstt] at hq
          rw [Mach.step_star] at hq
          obtain ⟨R,hR,rfl⟩:=Option.map_eq_some_iff.mp hq
          have HJC:Aside0 (∀ W,Below wr.heap.size wr W → _):=⟨fun W hW=>Accepts_star.calls k gm m1 m2 U HMO.1 a X R W (blk_below HM.1 (below_step Z.1 hW)) (hRa.below hW) hR⟩
          have HQ:=mk0 hq
          have HQR:=mk0 hqr
          have HLS:Aside0 (s.length ≤ i):=⟨by have:=HBL.1;omega⟩
          have HTT:=mk0 hjt
          have HJN:=mk0 hjn
          clear hq hqr HRC hc hii hiz hcap hbs hstt hjn hjt hRa  hadd hsub hnc hpos e2 e3
          go_wp2_with (first
          | (go_at_call 91;(with_reducible refine (I.1 _).mono ?_);rintro e F ⟨rfl,rfl⟩)
          | (go_at_call 91;(with_reducible refine (J.1 _).mono ?_);rintro e F ⟨rfl,rfl⟩)
          | (go_at_call 91;(with_reducible refine (M.1 _).mono ?_);rintro e F ⟨rfl,rfl⟩))
          go_region_held3 (fun _=>True) (trivial) (first|fail|fail)
          clear C B
          go_wp2_with fail
          go_region_held3 (fun w'=>w'.cell? ⟨gb,3,none⟩=some (.func (.func 60) #[] #[.pointer (some ⟨gm,0,none⟩)])∧w'.cell? ⟨g,s.length,none⟩=some (.map (some a)))
            (exact HSOF.1 _ (by ((repeat (first|exact Below.refl _ _|assumption|exact HBWL.1|apply Below.drew|apply below_alloc));done)))
            (first
              | (go_at_call 60;(with_reducible refine (HJC.1 _ ?bc).mono ?_);(case bc=>(repeat (first|exact Below.refl _ _|assumption|exact HBWL.1|apply Below.drew|apply below_alloc)));rintro e wl ⟨bl,rfl,hRl,hbl⟩;have HBWL:Aside0 (Below F.heap.size F wl):=⟨below_step (by ((repeat (first|exact Below.refl _ _|assumption|exact HBWL.1|apply Below.drew|apply below_alloc));done)) hbl⟩;have HRL:=mk0 hRl;clear hRl hbl)
              | fail)
          have HOL:Aside0 (kmap.R 88 wl w.heap.size (fun _=>True) (.slice (some ⟨g,0,none⟩) s.length cc) s):=⟨by
            have h:=Kd.R_take (m:=s.length) (Kd.R_below HO.1 HBWL.1) (by have:=HJN.1;omega);rw [HTK.1] at h
            exact h⟩
          have HPL:=mk0 (Reps3.below HPT.1 HBWL.1)
          have HKL:=mk0 (blk_below HBK.1 HBWL.1)
          have D:=mk0 (below_step Z.1 HBWL.1)
          go_wp2_with (first
            | ((with_reducible refine gate_builtin (b:=.append) (xs:=#[.tmp 97,.tmp 99]) rfl ?_);at_builtin;refine Kd.R_append kmap (w0:=w) w.heap.size rfl (.tmp 97) (.tmp 99) 126 88 (.map none) 8 rfl Try.underlying126 info88m rfl (by decide) (by omega) (.slice (some ⟨g,0,none⟩) s.length cc) s bl [.map (some bl)] (fun _=>True) (fun _=>False) rfl rfl rfl (fun _ h=>h.elim) (fun _ _=>trivial) HOL.1 D.1 (below_size D.1) (by have:=HLS.1;have:=HSZ.1;have:=HI.1;omega) ?_;intro v1 a4 O V Q T;have HALL:=mk0 (found_push HOL.1 HPL.1 HRL.1 D.1 HKL.1 O Q);clear O V Q T))
          skip
          rcases HQR.1 with ⟨h,_⟩|⟨st',E,h2⟩
          · cases h
          obtain rfl:=Option.some.inj E
          have G:=mk0 h2
          clear E h2
          go_roundw
          case rel=>exact ⟨i + 1,s ++ [bl],t ++ [R],congrArg _ HW.1,⟨HLT.1⟩,⟨HALL.1.1⟩,⟨HALL.1.2.1⟩,⟨by rw [List.length_append];have:=HLS.1;simp;omega⟩,G,⟨HALL.1.2.2.1⟩,⟨HALL.1.2.2.2⟩⟩
          case measure=>rw [HW.1];simp only [intOf];have:=HLT.1;omega
        · have hci:(code[i]'hlt).toNat=42:=by rw [← hc];rfl
          have I:=mk0 (fun W=>IndexByte_one 42 42 42 42 (by decide) (by decide) 0 (by decide) W)
          have J:=mk0 (fun W=>IndexByte_one 46 42 42 42 (by decide) (by decide) (-1) (by decide) W)
          have M:=mk0 (fun W=>IndexByte_one 43 42 42 42 (by decide) (by decide) (-1) (by decide) W)
          have hdn:decide ((bs.length:Int) < 1)=true:=decide_eq_true (by have:=HRP.1.1;omega)
          have a3:decide (bs.length < 1)=true:=decide_eq_true (by have:=HRP.1.1;omega)
          obtain ⟨q,hq,hqr⟩:=HRC.1
          rw [Mach.step_few _ _ _ _ (.inr ⟨rfl,by omega⟩)] at hq
          obtain rfl:=Option.some.inj hq
          have hr:r=none:=by (rcases hqr with ⟨_,h⟩|⟨st',E,_⟩);(· exact h);· cases E
          subst hr
          clear hq hqr HRC hc hii hiz hcap hen
          go_wp2_with (first
          | (go_at_call 91;(with_reducible refine (I.1 _).mono ?_);rintro e F ⟨rfl,rfl⟩)
          | (go_at_call 91;(with_reducible refine (J.1 _).mono ?_);rintro e F ⟨rfl,rfl⟩)
          | (go_at_call 91;(with_reducible refine (M.1 _).mono ?_);rintro e F ⟨rfl,rfl⟩))
          go_ret2
          exact ⟨_,rfl,fun L h=>by (cases h),Z.1⟩
      · obtain ⟨n1,n2,n3,n4,n5,n6,n7⟩:=hoth
        have hcc:code[i]'hlt=c:=hc.symm
        have hpc:(0:Int) ≤ ((c.toNat:Nat):Int):=Int.natCast_nonneg _
        have I:=mk0 (fun W=>IndexByte_one 42 c c ((c.toNat:Nat):Int) hpc (by simp) (-1) (by rw [if_neg (fun e=>n7 e.symm)]) W)
        have J:=mk0 (fun W=>IndexByte_one 46 c c ((c.toNat:Nat):Int) hpc (by simp) (-1) (by rw [if_neg (fun e=>n5 e.symm)]) W)
        have M:=mk0 (fun W=>IndexByte_one 43 c c ((c.toNat:Nat):Int) hpc (by simp) (-1) (by rw [if_neg (fun e=>n6 e.symm)]) W)
        have ne:∀ d:UInt8,c ≠ d → ((c.toNat:Int) == (d.toNat:Int))=false:=fun d h=>beq_eq_false_iff_ne.mpr (fun e=>h (UInt8.toNat_inj.mp (by omega)))
        have e1:((c.toNat:Int) == 97)=false:=ne 97 n1
        have e2:((c.toNat:Int) == 98)=false:=ne 98 n2
        have e3:((c.toNat:Int) == 99)=false:=ne 99 n3
        have e4:((c.toNat:Int) == 101)=false:=ne 101 n4
        have e5:((c.toNat:Int) == 46)=false:=ne 46 n5
        have e6:((c.toNat:Int) == 43)=false:=ne 43 n6
        have e7:((c.toNat:Int) == 42)=false:=ne 42 n7
        obtain ⟨q,hq,hqr⟩:=HRC.1
        rw [Mach.step_other _ _ _ _ ⟨n1,n2,n3,n4,n5,n6,n7⟩] at hq
        obtain rfl:=Option.some.inj hq
        have hr:r=none:=by (rcases hqr with ⟨_,h⟩|⟨st',E,_⟩);(· exact h);· cases E
        subst hr
        have C:=cut_to (P:=Try.prog) 126 88 .i64 Try.underlying126 hii A bs.length cc (bs.length:Int) (by omega) (by omega) hcap
        have B:=cut_from (P:=Try.prog) 126 88 .i64 Try.underlying126 hii 1 hiz.2.1 A bs.length cc (bs.length:Int) (by omega) (by omega)
        simp only [Int.toNat_natCast] at C B
        generalize Value.slice (if cc=bs.length then A else A.map (·.add (bs.length * 1))) (bs.length - bs.length) (cc - bs.length)=vt at B
        have hwn:wrap64 ((bs.length:Int) - 0)=(bs.length:Int):=by have:=HSZ.1;have:=HBL.1;unfold wrap64;omega
        have a5:wrap64 (bs.length:Int)=(bs.length:Int):=by have:=HSZ.1;have:=HBL.1;unfold wrap64;omega
        have a6:IntKind.i64.wrap ((bs.length:Int) - 0)=(bs.length:Int):=by have:=HSZ.1;have:=HBL.1;simp only [IntKind.wrap];simp [IntKind.signed,IntKind.bits];omega
        have a7:IntKind.i64.wrap (bs.length:Int)=(bs.length:Int):=by have:=HSZ.1;have:=HBL.1;simp only [IntKind.wrap];simp [IntKind.signed,IntKind.bits];omega
        have a2:((0:Int) ≤ (bs.length:Int))=True:=eq_true (by omega)
        clear hq hqr HRC hc hii hiz hcap ne n1 n2 n3 n4 n5 n6 n7
        go_wp2_with (first
          | (go_at_call 91;(with_reducible refine (I.1 _).mono ?_);rintro e F ⟨rfl,rfl⟩)
          | (go_at_call 91;(with_reducible refine (J.1 _).mono ?_);rintro e F ⟨rfl,rfl⟩)
          | (go_at_call 91;(with_reducible refine (M.1 _).mono ?_);rintro e F ⟨rfl,rfl⟩))
        go_region_held3 (fun _=>True) (trivial) (first|fail|fail)
        clear C B
        go_wp2
        go_ret2
        exact ⟨_,rfl,fun L h=>by (cases h),Z.1.drew⟩
    · have hd:decide ((i:Int) < (code.size:Int))=false:=decide_eq_false (by omega)
      have c7:decide (i < code.size)=false:=decide_eq_false hlt
      have hi:i=code.size:=by have:=HI.1;omega
      have b5:runF k (m1,m2,U) [] st=some r:=by have h:=HR.1;rw [hi,show code.data.toList.drop code.size=[] from List.drop_eq_nil_of_le (Nat.le_of_eq HLEN.1.symm)] at h;exact h
      have b2:r=endOf st:=endOf_run b5
      obtain ⟨A,cc,rfl⟩:=Kd.R_slice HO.1
      by_cases E:bs.length=1
      · obtain ⟨b,rfl⟩:∃ b,bs=[b]:=List.length_eq_one_iff.mp E
        obtain ⟨L,rfl⟩:∃ L,st=[L]:=List.length_eq_one_iff.mp (by have:=HRP.1.1;simpa using this.symm)
        have hL:=mk0 (HRP.1.2 0 b L rfl rfl)
        obtain ⟨g,cap,ef,_,_,_⟩:=Kd.R_form HO.1 (by simp)
        injection ef with e1 e2 e3
        subst e1
        have hx:wr.cell? ⟨g,0,none⟩=some (.map (some b)):=by have h:=(Kd.R_celln 0 HO.1 (0:Int) (by omega) (by simp)).1;simpa [rdOf] using h
        have b2:r=some L:=b2
        subst b2
        clear E b5 hlt hi e2 e3
        go_wp2
        go_ret2
        exact ⟨_,rfl,fun L' h=>⟨b,rfl,by obtain rfl:=Option.some.inj h;exact hL.1⟩,Z.1⟩
      · have c8:r=none:=by
          rw [b2];exact endOf_none (by have:=HRP.1.1;omega)
        subst c8
        have d6:((bs.length:Int) != 1)=true:=bne_iff_ne.mpr (by omega)
        have d7:(bs.length != 1)=true:=bne_iff_ne.mpr E
        clear E b5 b2 hlt hi
        go_wp2
        go_ret2
        exact ⟨_,rfl,fun L' h=>by (cases h),Z.1⟩
def v3of (l:List Int):FoundW.V3:=(l.getD 0 0,l.getD 1 0,l.getD 2 0)
def count_Accepts.f (k:Nat) (a0:ByteArray) (l1:List Int):Option (Bool × Int) :=
  if 30 < a0.size then some (false,3) else if l1.any (fun x=>decide (x < 0) || decide (8 < x))=true then some (false,1) else if l1.length=3 then (runF k (v3of l1) a0.data.toList []).bind fun r=>match r with|none=>some (false,2)|some L=>some (decide (v3of l1 ∈ L),0) else some (false,2)
theorem set4_all {w0 w w1:World} {gm g:Nat} {cs:Array Value} {t:TypeId} (h:w.heap[gm]?=some (.cells cs t (0,0))) (hB:Below w0.heap.size w0 w) (hb:Below w.heap.size w w1) (hg:g=w.heap.size) (a b c d:Value) :
    ((((w1.setCell ⟨g,0,none⟩ a).setCell ⟨g,1,none⟩ b).setCell ⟨g,2,none⟩ c).setCell ⟨g,3,none⟩ d).heap[gm]?=some (.cells cs t (0,0))∧Below w0.heap.size w0 ((((w1.setCell ⟨g,0,none⟩ a).setCell ⟨g,1,none⟩ b).setCell ⟨g,2,none⟩ c).setCell ⟨g,3,none⟩ d):=by
  (have hne:gm ≠ g:=by have:=blk_lt h;omega);(have hs:w0.heap.size ≤ g:=by have:=hB.size;omega);exact ⟨blk_far (blk_far (blk_far (blk_far (blk_below h hb) hne _) hne _) hne _) hne _,below_set (below_set (below_set (below_set (below_step hB hb) hs) hs) hs) hs⟩
theorem mach_mono {M:Type} {l1 l2:Int → Option M} {j1 j2 e1 e2:M → M → Option M} {s1 s2:M → Option M} (hl:∀ i,LeO (l1 i) (l2 i)) (hj:∀ a b,LeO (j1 a b) (j2 a b)) (he:∀ a b,LeO (e1 a b) (e2 a b)) (hs:∀ a,LeO (s1 a) (s2 a)):∀ (c:List UInt8) (st:List M),LeO (Mach.run l1 j1 e1 s1 c st) (Mach.run l2 j2 e2 s2 c st)
  | [],st=>LeO.refl _
  | c :: r,st=>by
    (have hm:∀ {a b:Option M} (f:M → Option (List M)),LeO a b → LeO (a.map f) (b.map f):=fun f h q hq=>by obtain ⟨x,hx,rfl⟩:=Option.map_eq_some_iff.mp hq;rw [h x hx];rfl);unfold Mach.run;refine LeO.bind ?_ (fun o=>?_)
    · unfold Mach.step
      refine LeO.ite (hm _ (hl _)) (LeO.ite (hm _ (hl _)) (LeO.ite (hm _ (hl _)) (LeO.ite (hm _ (hl _)) (LeO.ite ?_ (LeO.ite ?_ (LeO.ite ?_ (LeO.refl _)))))))
      · split
        · exact hm _ (hj _ _)
        · exact LeO.refl _
      · split
        · exact hm _ (he _ _)
        · exact LeO.refl _
      · split
        · exact hm _ (hs _)
        · exact LeO.refl _
    · cases o with
      | none=>exact LeO.refl _
      | some st'=>exact mach_mono hl hj he hs r st'
theorem runF_mono (k:Nat) (m:FoundW.V3) (c:List UInt8) (st:List (List FoundW.V3)):LeO (runF k m c st) (runF (k + 1) m c st) :=
  mach_mono (fun _=>LeO.refl _) (fun _ _=>LeO.refl _) (fun _ _=>LeO.refl _) (fun a=>fStar.mono m a k _) c st
theorem count_Accepts.mono:∀ a0 a1 k,LeO (count_Accepts.f k a0 a1) (count_Accepts.f (k + 1) a0 a1):=fun a0 a1 k=>by unfold count_Accepts.f;exact LeO.ite (LeO.refl _) (LeO.ite (LeO.refl _) (LeO.ite (LeO.bind (runF_mono k _ _ _) (fun _=>LeO.refl _)) (LeO.refl _)))
theorem mok_of {l:List Int} (h:l.any (fun x=>decide (x < 0) || decide (8 < x))=false) (hl:l.length=3):mok (v3of l):=by
  match l,hl with
  | [a,b,c],_ =>simp at h;obtain ⟨h1,h2,h3⟩:=h;exact ⟨⟨by show 0 ≤ a;omega,by show a ≤ 8;omega⟩,⟨by show 0 ≤ b;omega,by show b ≤ 8;omega⟩,⟨by show 0 ≤ c;omega,by show c ≤ 8;omega⟩⟩
theorem stf {P:Program} {w:World} {a:Addr} {m:Mode} (fn:Fn) (first captured:Array Value):(store a (.func fn first captured) m).run P w=stored P w a (.func fn first captured) m:=run_store P w a _ m rfl
attribute [local go_sem] stf in
set_option maxHeartbeats 4000000 in
set_option maxRecDepth 100000 in
theorem count_Accepts.calls (k:Nat) (R:ByteArray) (A1:Option Addr) (V:Nat) (O:List Int) (r1:Bool) (r2:Int) (w:World) (J:Kd.C (Kd.int .i64) w A1 O.length O) (M:O.length ≤ V) (h:count_Accepts.f k R O=some (r1,r2)) :
    Calls Try.prog 26 #[.string R,.slice A1 O.length V] w fun e w'=>e=.returned (.tuple #[.bool r1,.int .i64 r2])∧Below w.heap.size w w':=by
  have U:=mk0 J;have a8:=mk0 M;have hout:=mk0 (count_outside.calls A1 V O 8 (O.any (fun x=>decide (x < 0) || decide (8 < x))) w J M rfl);unfold count_Accepts.f at h;by_cases h30:30 < R.size
  · rw [if_pos h30] at h
    obtain ⟨rfl,rfl⟩:=Prod.mk.inj (Option.some.inj h)
    have hd:decide ((30:Int) < (R.size:Int))=true:=decide_eq_true (by omega)
    have d8:decide (30 < R.size)=true:=decide_eq_true h30
    clear h J M
    go_enter Try.func26,Try.ntmps26
    go_wp2
    go_ret2
    exact ⟨rfl,Below.refl _ _⟩
  rw [if_neg h30] at h;have hd:decide ((30:Int) < (R.size:Int))=false:=decide_eq_false (by omega);have d8:decide (30 < R.size)=false:=decide_eq_false h30;have HSZ:=mk0 (show R.size ≤ 1000 from by omega)
  cases ho:O.any (fun x=>decide (x < 0) || decide (8 < x)) with
  | true =>rw [if_pos ho] at h;obtain ⟨rfl,rfl⟩:=Prod.mk.inj (Option.some.inj h);rw [ho] at hout;clear h J M ho h30;go_enter Try.func26,Try.ntmps26;go_wp2_with (go_at_call 52;(with_reducible refine hout.1.mono ?_);rintro e T ⟨rfl,D⟩;have Q:=mk0 D;clear D);go_ret2;exact ⟨rfl,Q.1⟩
  | false =>
    rw [if_neg (by rw [ho];decide)] at h;rw [ho] at hout;by_cases hl:O.length=3
    · rw [if_pos hl] at h
      obtain ⟨q,hq,h⟩:=Option.bind_eq_some_iff.mp h
      have HMO:=mk0 (mok_of ho hl)
      match O,hl,U,hout,HMO,hq,a8,h with
      | [x,y,z],_,U,hout,HMO,hq,a8,h =>
        have HQ:=mk0 (show runF k (x,y,z) R.data.toList []=some q from hq);have HH:=mk0 h;obtain ⟨ad,rfl,a9⟩:=Kd.at_int U.1 0 (by omega) (by simp);obtain ⟨_,e1,b0⟩:=Kd.at_int U.1 1 (by omega) (by simp);obtain ⟨_,e2,b3⟩:=Kd.at_int U.1 2 (by omega) (by simp);(cases e1);(cases e2);simp only [List.length_cons,List.length_nil] at hout ⊢;(have X:w.cell? ad=some (.int .i64 x):=by simpa [Addr.add,rd] using a9);(have hc1':w.cell? ⟨ad.block,ad.off + 1,none⟩=some (.int .i64 y):=by simpa [Addr.add,rd] using b0);(have Y:w.cell? ⟨ad.block,ad.off + 2,none⟩=some (.int .i64 z):=by simpa [Addr.add,rd] using b3);have Z:=mk0 X;have a3:=mk0 hc1';have a4:=mk0 Y;have HRUNC:Aside0 (∀ (gm:Nat) (W:World),W.heap[gm]?=some (.cells #[.int .i64 x,.int .i64 y,.int .i64 z] 86 (0,0)) → _):=⟨fun gm W hb=>found_run.calls k gm x y z HMO.1 R q W hb HSZ.1 HQ.1⟩;(have harr:∀ W:World,(Instr.arrayAt 86 (.slice (some ad) 3 V)).run Try.prog W=.ok (.pointer (some ad)) W:=fun W=>run_arrayAt W 86 3 3 (some ad) 3 V Try.underlying86 (by decide));clear J M ho h30 hq h a9 b0 b3 X hc1' Y;have d9:Aside0 (∀ W:World,(zeroValue 4).run Try.prog W=.ok (.bool false) W):=⟨fun W=>by kernel_rfl⟩;have b9:Aside0 (FoundW.ok3 (x,y,z)):=⟨by obtain ⟨⟨a1,a2⟩,⟨b1,b2⟩,⟨V,c2⟩⟩:=HMO.1;exact ⟨FoundW.in64_of (by show _ ≤ x;have:0 ≤ x:=a1;omega) (by show x ≤ _;have:x ≤ 8:=a2;omega),FoundW.in64_of (by show _ ≤ y;have:0 ≤ y:=b1;omega) (by show y ≤ _;have:y ≤ 8:=b2;omega),FoundW.in64_of (by show _ ≤ z;have:0 ≤ z:=V;omega) (by show z ≤ _;have:z ≤ 8:=c2;omega)⟩⟩
        cases q with
        | none =>
          have c0:=Try.underlying94;go_enter Try.func26,Try.ntmps26
          go_wp2_with (first
            | (go_at_call 52;(with_reducible refine hout.1.mono ?_);rintro e T ⟨rfl,D⟩;have Q:=mk0 D;have X:T.cell? ad=some (.int .i64 x):=(D.cell (World.block_lt_of_cell? w _ Z.1)).trans Z.1;have M:T.cell? ⟨ad.block,ad.off + 1,none⟩=some (.int .i64 y):=(D.cell (World.block_lt_of_cell? w _ a3.1)).trans a3.1;have Y:T.cell? ⟨ad.block,ad.off + 2,none⟩=some (.int .i64 z):=(D.cell (World.block_lt_of_cell? w _ a4.1)).trans a4.1;clear D)
            | ((with_reducible refine gate_dst (N:=6) rfl ?_);refine box_event ?hg (N:=6) ?hd (cs:=#[.int .i64 0,.int .i64 0,.int .i64 0]) (t:=86) ?hr ?_;(case hd=>rfl);(case hg=>rfl);(case hr=>first|(go_simp;done)|(go_simp;rfl));intro gm hgm I B hb;have BM:=mk0 (box_set3 x y z B);have a5:=mk0 (below_set3 x y z Q.1 hb hgm);have c3:I.cell? ⟨gm,0,none⟩=some (.int .i64 0):=(blk_cell B 0).trans rfl;have c4:I.cell? ⟨gm,1,none⟩=some (.int .i64 0):=(blk_cell B 1).trans rfl;have c5:I.cell? ⟨gm,2,none⟩=some (.int .i64 0):=(blk_cell B 2).trans rfl;have c6:I.frozen? ⟨gm,0,none⟩=false:=blk_frozen B 0;have c7:I.frozen? ⟨gm,1,none⟩=false:=blk_frozen B 1;have c8:I.frozen? ⟨gm,2,none⟩=false:=blk_frozen B 2;clear hb B hgm)
            | ((with_reducible refine gate_dst (N:=7) rfl ?_);refine box_event ?hg (N:=7) ?hd (cs:=#[.nilFunc,.nilFunc,.nilFunc,.nilFunc]) (t:=94) ?hr ?_;(case hd=>rfl);(case hg=>rfl);(case hr=>first|(go_simp;done)|(go_simp;rfl));intro gb hgb E B hb;have F:=mk0 (set4_all BM.1 a5.1 hb hgb (.func (.func 55) #[] #[.pointer (some ⟨gm,0,none⟩)]) (.func (.func 57) #[] #[.pointer (some ⟨gm,0,none⟩)]) (.func (.func 59) #[] #[]) (.func (.func 60) #[] #[.pointer (some ⟨gm,0,none⟩)]));have c9:E.cell? ⟨gb,0,none⟩=some .nilFunc:=(blk_cell B 0).trans rfl;have d0:E.cell? ⟨gb,1,none⟩=some .nilFunc:=(blk_cell B 1).trans rfl;have d1:E.cell? ⟨gb,2,none⟩=some .nilFunc:=(blk_cell B 2).trans rfl;have d2:E.cell? ⟨gb,3,none⟩=some .nilFunc:=(blk_cell B 3).trans rfl;have d3:E.frozen? ⟨gb,0,none⟩=false:=blk_frozen B 0;have d4:E.frozen? ⟨gb,1,none⟩=false:=blk_frozen B 1;have d5:E.frozen? ⟨gb,2,none⟩=false:=blk_frozen B 2;have d6:E.frozen? ⟨gb,3,none⟩=false:=blk_frozen B 3;clear hb B hgb)
            | (go_at_call 61;(with_reducible refine (HRUNC.1 gm _ ?hb).mono ?_);(case hb=>exact F.1.1);rintro e w8 ⟨v8,rfl,hrep,G⟩;have HREP:=mk0 hrep;have f4:=mk0 (blk_below F.1.1 G);have a6:=mk0 (below_step F.1.2 G);clear hrep G))
          obtain ⟨rfl,rfl⟩:=Prod.mk.inj (Option.some.inj HH.1);go_ret2;exact ⟨rfl,a6.1⟩
        | some L =>
          have c0:=Try.underlying94;go_enter Try.func26,Try.ntmps26
          go_wp2_with (first
            | (go_at_call 52;(with_reducible refine hout.1.mono ?_);rintro e T ⟨rfl,D⟩;have Q:=mk0 D;have X:T.cell? ad=some (.int .i64 x):=(D.cell (World.block_lt_of_cell? w _ Z.1)).trans Z.1;have M:T.cell? ⟨ad.block,ad.off + 1,none⟩=some (.int .i64 y):=(D.cell (World.block_lt_of_cell? w _ a3.1)).trans a3.1;have Y:T.cell? ⟨ad.block,ad.off + 2,none⟩=some (.int .i64 z):=(D.cell (World.block_lt_of_cell? w _ a4.1)).trans a4.1;clear D)
            | ((with_reducible refine gate_dst (N:=6) rfl ?_);refine box_event ?hg (N:=6) ?hd (cs:=#[.int .i64 0,.int .i64 0,.int .i64 0]) (t:=86) ?hr ?_;(case hd=>rfl);(case hg=>rfl);(case hr=>first|(go_simp;done)|(go_simp;rfl));intro gm hgm I B hb;have BM:=mk0 (box_set3 x y z B);have a5:=mk0 (below_set3 x y z Q.1 hb hgm);have c3:I.cell? ⟨gm,0,none⟩=some (.int .i64 0):=(blk_cell B 0).trans rfl;have c4:I.cell? ⟨gm,1,none⟩=some (.int .i64 0):=(blk_cell B 1).trans rfl;have c5:I.cell? ⟨gm,2,none⟩=some (.int .i64 0):=(blk_cell B 2).trans rfl;have c6:I.frozen? ⟨gm,0,none⟩=false:=blk_frozen B 0;have c7:I.frozen? ⟨gm,1,none⟩=false:=blk_frozen B 1;have c8:I.frozen? ⟨gm,2,none⟩=false:=blk_frozen B 2;clear hb B hgm)
            | ((with_reducible refine gate_dst (N:=7) rfl ?_);refine box_event ?hg (N:=7) ?hd (cs:=#[.nilFunc,.nilFunc,.nilFunc,.nilFunc]) (t:=94) ?hr ?_;(case hd=>rfl);(case hg=>rfl);(case hr=>first|(go_simp;done)|(go_simp;rfl));intro gb hgb E B hb;have F:=mk0 (set4_all BM.1 a5.1 hb hgb (.func (.func 55) #[] #[.pointer (some ⟨gm,0,none⟩)]) (.func (.func 57) #[] #[.pointer (some ⟨gm,0,none⟩)]) (.func (.func 59) #[] #[]) (.func (.func 60) #[] #[.pointer (some ⟨gm,0,none⟩)]));have c9:E.cell? ⟨gb,0,none⟩=some .nilFunc:=(blk_cell B 0).trans rfl;have d0:E.cell? ⟨gb,1,none⟩=some .nilFunc:=(blk_cell B 1).trans rfl;have d1:E.cell? ⟨gb,2,none⟩=some .nilFunc:=(blk_cell B 2).trans rfl;have d2:E.cell? ⟨gb,3,none⟩=some .nilFunc:=(blk_cell B 3).trans rfl;have d3:E.frozen? ⟨gb,0,none⟩=false:=blk_frozen B 0;have d4:E.frozen? ⟨gb,1,none⟩=false:=blk_frozen B 1;have d5:E.frozen? ⟨gb,2,none⟩=false:=blk_frozen B 2;have d6:E.frozen? ⟨gb,3,none⟩=false:=blk_frozen B 3;clear hb B hgb)
            | (go_at_call 61;(with_reducible refine (HRUNC.1 gm _ ?hb).mono ?_);(case hb=>exact F.1.1);rintro e w8 ⟨v8,rfl,hrep,G⟩;obtain ⟨b8,rfl,S8,b4,b5,_⟩:=hrep L rfl;have e0:=mk0 b4;have e3:=mk0 b5;have f5:w8.cell? ⟨gm,0,none⟩=some (.int .i64 x):=(blk_cell (blk_below F.1.1 G) 0).trans rfl;have f6:w8.cell? ⟨gm,1,none⟩=some (.int .i64 y):=(blk_cell (blk_below F.1.1 G) 1).trans rfl;have f7:w8.cell? ⟨gm,2,none⟩=some (.int .i64 z):=(blk_cell (blk_below F.1.1 G) 2).trans rfl;have a6:=mk0 (below_step F.1.2 G);clear hrep G b4 b5)
            | ((with_reducible refine gate_dst (N:=38) rfl ?_);refine FoundW.lookup_found okf _ rfl (.tmp 36) (.tmp 37) rfl (d9.1 _) b8 S8 rfl e0.1 (x,y,z) rfl b9.1 ?_))
          obtain ⟨h1,rfl⟩:=Prod.mk.inj (Option.some.inj HH.1);(have J:r1=decide ((x,y,z) ∈ S8):=by rw [← h1];exact decide_eq_decide.mpr (e3.1 (x,y,z)).symm);go_ret2;exact ⟨by rw [J];rfl,a6.1⟩
    · rw [if_neg hl] at h
      obtain ⟨rfl,rfl⟩:=Prod.mk.inj (Option.some.inj h)
      have hn:((O.length:Int) != 3)=true:=bne_iff_ne.mpr (by omega)
      have f8:(O.length != 3)=true:=bne_iff_ne.mpr hl
      clear h J M ho h30 hl
      go_enter Try.func26,Try.ntmps26
      go_wp2_with (go_at_call 52;(with_reducible refine hout.1.mono ?_);rintro e T ⟨rfl,D⟩;have Q:=mk0 D;clear D)
      go_ret2
      exact ⟨rfl,Q.1⟩
def unitL (i:Int):List Int:=[if i=0 then 1 else 0,if i=1 then 1 else 0,if i=2 then 1 else 0]
def count_Image_1.f (a0:Int):Option (List S60 × Bool):=if -1 ≤ a0∧a0 ≤ 2 then some ([⟨unitL a0,[]⟩],false) else none
theorem img_one {w:World} {g h lo:Nat} {x y z:Int} (hg:w.heap[g]?=some (.cells #[.int .i64 x,.int .i64 y,.int .i64 z] 3 (0,0))) (hh:w.heap[h]?=some (.cells #[.slice (some ⟨g,0,none⟩) 3 3,.slice none 0 0] 60 (0,0))) (h1:lo ≤ g) (h2:lo ≤ h) :
    Kd.V k60 60 w w.heap.size (fun k=>lo ≤ k) (.slice (some ⟨h,0,none⟩) 1 1) [(⟨[x,y,z],[]⟩:S60)]:=by
  refine ⟨some ⟨h,0,none⟩,1,rfl,Nat.le_refl _,fun W' hW=>?_⟩;have e1:=(hW g h1 (blk_lt hg)).trans hg;have e2:=(hW h h2 (blk_lt hh)).trans hh;refine ⟨rfl,by simp,fun _=>⟨⟨h,0,none⟩,rfl,fun q u hq=>?_⟩⟩
  have hq0:q=0:=by
    cases q with
    | zero=>rfl
    | succ q=>simp at hq
  subst hq0;(have hu:u=(⟨[x,y,z],[]⟩:S60):=by simpa using hq.symm);subst hu;refine ⟨[.slice (some ⟨g,0,none⟩) 3 3,.slice none 0 0],rfl,k60_mk W' (⟨[x,y,z],[]⟩:S60) (A0:=some ⟨g,0,none⟩) (c0:=3) (Nat.le_refl _) (MyWords.C_box (t:=3) e1 (by rfl) (by simp)) (A1:=none) (c1:=0) (Nat.le_refl _) (Kd.C_nil _ _),fun a b hab=>?_⟩
  match a,hab with
  | 0,hab =>(have hb:b=.slice (some ⟨g,0,none⟩) 3 3:=by simpa using hab.symm);subst hb;(have e:(⟨h,0,none⟩:Addr).add (0 * k60.sz + 0)=⟨h,0,none⟩:=by simp [Addr.add]);rw [e,blk_cell e2];rfl
  | 1,hab =>(have hb:b=.slice none 0 0:=by simpa using hab.symm);subst hb;(have e:(⟨h,0,none⟩:Addr).add (0 * k60.sz + 1)=⟨h,1,none⟩:=by simp [Addr.add]);rw [e,blk_cell e2];rfl
  | a + 2,hab=>simp at hab
theorem img_lit {P:Program} {ops:Array Oper} {rest:List Oper} {o:Oper} {a:Act} {Q:Exit → Act → World → Prop} {W:World} (hgd:o.guard=none) {N:Tmp} (_hd:o.dst=some N) {cs:Array Value} {t:TypeId} {n m:Nat}
    (hrun:(execOp a.eval o).run P W=.ok (.value (.slice (some ⟨W.heap.size,0,none⟩) n m)) (W.alloc (.cells cs t)))
    (h:∀ g,W.heap.size=g → ∀ w1,w1.heap[g]?=some (.cells cs t (0,0)) → Below W.heap.size W w1 → wpList P ops Q rest (a.put o.dst (.slice (some ⟨g,0,none⟩) n m)) w1):wpList P ops Q (o :: rest) a W :=
  Kd.event_run hgd hrun (h _ rfl _ (blk_new W _) (below_alloc (Below.refl _ _) _))
theorem img_end {w w3:World} {gb gv gl:Nat} {x y z:Int} {f b:Value} (hB:Below w.heap.size w w3) (hgb:w.heap.size ≤ gb) (hgv:w.heap.size ≤ gv) (hgl:w.heap.size ≤ gl) (bv:w3.heap[gv]?=some (.cells #[.int .i64 x,.int .i64 y,.int .i64 z] 3 (0,0))) (bl:w3.heap[gl]?=some (.cells #[.slice (some ⟨gv,0,none⟩) 3 3,.slice none 0 0] 60 (0,0))) (bg:w3.heap[gb]?=some (.cells #[f,b] 102 (0,0))) (u v:Value) :
    Kd.V k60 60 ((w3.setCell ⟨gb,0,none⟩ u).setCell ⟨gb,1,none⟩ v) w.heap.size (fun k_=>w.heap.size ≤ k_) (.slice (some ⟨gl,0,none⟩) 1 1) [(⟨[x,y,z],[]⟩:S60)]∧Below w.heap.size w ((w3.setCell ⟨gb,0,none⟩ u).setCell ⟨gb,1,none⟩ v)∧((w3.setCell ⟨gb,0,none⟩ u).setCell ⟨gb,1,none⟩ v).heap[gb]?=some (.cells #[u,v] 102 (0,0)):=by
  have b1:=blk_far (blk_far bv (p:=⟨gb,0,none⟩) (blk_ne bv bg (by decide)) u) (p:=⟨gb,1,none⟩) (blk_ne bv bg (by decide)) v;have b2:=blk_far (blk_far bl (p:=⟨gb,0,none⟩) (blk_ne bl bg (by decide)) u) (p:=⟨gb,1,none⟩) (blk_ne bl bg (by decide)) v;have hBB:=below_set (below_set (j:=0) (v:=u) hB hgb) (j:=1) (v:=v) hgb;exact ⟨Kd.V_lower (img_one b1 b2 hgv hgl) hBB.size,hBB,blk_put (blk_put bg 0 u rfl) 1 v rfl⟩
theorem img_lo1 {w w2:World} (h:Below w.heap.size w w2) {g:Nat} (hg:w2.heap.size=g):w.heap.size ≤ g:=hg ▸ h.size
theorem img_lo2 {w w1 w2:World} (h:Below w.heap.size w w1) (_h2:Below w1.heap.size w1 w2) {g:Nat} (hg:w1.heap.size=g):w.heap.size ≤ g:=hg ▸ h.size
theorem make_three (w:World):(Instr.makeSlice 23 (.int .i64 3) (.int .i64 3)).run Try.prog w=.ok (.slice (some ⟨w.heap.size,0,none⟩) 3 3) (w.alloc (.cells #[.int .i64 0,.int .i64 0,.int .i64 0] 3)):=by obtain ⟨i0,hi,hzz⟩:=Option.map_eq_some_iff.1 info3;simp only [Prod.mk.injEq] at hzz;obtain ⟨hz0,hz1,hz2⟩:=hzz;have h:=run_make (P:=Try.prog) w 23 3 i0 (.int .i64 0) Try.underlying23 hi hz0 .i64 .i64 3 3 (by omega) (by omega) (by rw [hz2];decide) (by omega);rw [hz1] at h;(have e:madeCells (Value.int .i64 0).cells (Int.toNat 3 * 1)=#[.int .i64 0,.int .i64 0,.int .i64 0]:=by kernel_rfl);rw [e] at h;exact h
set_option maxHeartbeats 4000000 in
set_option maxRecDepth 100000 in
theorem count_Image_1.calls (a0:Int) (r1:List S60) (r2:Bool) (w:World) (h:count_Image_1.f a0=some (r1,r2)) :
    Calls Try.prog 64 #[.int .i64 a0] w fun e w'=>∃ a7:Value,e=.returned (.agg #[a7,.bool r2])∧Kd.V k60 60 w' w.heap.size (fun k_=>w.heap.size ≤ k_) a7 r1∧Below w.heap.size w w':=by
  unfold count_Image_1.f at h;split at h;(case isFalse=>cases h);rename_i hr;obtain ⟨rfl,rfl⟩:=Prod.mk.inj (Option.some.inj h);have b2:=Try.underlying60;have b1:=Try.underlying102;clear h;(have hi:a0=-1 ∨ a0=0 ∨ a0=1 ∨ a0=2:=by omega);clear hr;rcases hi with rfl|rfl|rfl|rfl
  · go_enter Try.func64,Try.ntmps64
    go_wp2_with (first
      | ((with_reducible refine gate_dst (N:=2) rfl ?_);refine box_event ?hg (N:=2) ?hd (cs:=#[.slice none 0 0,.bool false]) (t:=102) ?hr ?_;(case hd=>rfl);(case hg=>rfl);(case hr=>first|(go_simp;done)|(go_simp;rfl));intro gb hgb w1 B hb;have BG:=mk0 B;have GB:=mk0 hgb;have D:=mk0 hb;clear hb B hgb)
      | ((with_reducible refine gate_dst (N:=4) rfl ?_);refine img_lit ?hg (N:=4) ?hd (cs:=#[.int .i64 0,.int .i64 0,.int .i64 0]) (t:=3) (n:=3) (m:=3) ?hr ?_;(case hd=>rfl);(case hg=>rfl);(case hr=>go_simp;rw [make_three];rfl);intro gv hgv F B hb;have BV:=mk0 B;have GV:=mk0 hgv;have E:=mk0 hb;have L:=mk0 (blk_below BG.1 hb);have T:F.cell? ⟨gv,0,none⟩=some (.int .i64 0):=(blk_cell B 0).trans rfl;have U:F.cell? ⟨gv,1,none⟩=some (.int .i64 0):=(blk_cell B 1).trans rfl;have X:F.cell? ⟨gv,2,none⟩=some (.int .i64 0):=(blk_cell B 2).trans rfl;have Y:F.frozen? ⟨gv,0,none⟩=false:=blk_frozen B 0;have Z:F.frozen? ⟨gv,1,none⟩=false:=blk_frozen B 1;have a1:F.frozen? ⟨gv,2,none⟩=false:=blk_frozen B 2;clear hb B hgv)
      | ((with_reducible refine gate_dst (N:=12) rfl ?_);refine img_lit ?hg (N:=12) ?hd (cs:=#[.slice (some ⟨gv,0,none⟩) 3 3,.slice none 0 0]) (t:=60) (n:=1) (m:=1) ?hr ?_;(case hd=>rfl);(case hg=>rfl);(case hr=>first|(go_simp;done)|(go_simp;rfl));intro gl hgl I B hb;have J:=blk_below BV.1 hb;have C:=blk_below L.1 hb;have hbb:=below_step (below_step D.1 E.1) hb;have G:=img_lo1 (below_step D.1 E.1) hgl;have M:=mk0 J;have O:=mk0 C;have Q:=mk0 hbb;have R:=mk0 G;have BL:=mk0 B;have a2:I.cell? ⟨gb,0,none⟩=some (.slice none 0 0):=(blk_cell C 0).trans rfl;have a3:I.cell? ⟨gb,1,none⟩=some (.bool false):=(blk_cell C 1).trans rfl;have a4:I.frozen? ⟨gb,0,none⟩=false:=blk_frozen C 0;have a5:I.frozen? ⟨gb,1,none⟩=false:=blk_frozen C 1;clear G hbb C J hb B hgl)
      | fail)
    have hE:=img_end Q.1 (Nat.le_of_eq GB.1.symm) (img_lo2 D.1 E.1 GV.1) R.1 M.1 BL.1 O.1 (.slice (some ⟨gl,0,none⟩) 1 1) (.bool false)
    refine bodyPost_ret (results_cell_row rfl _ _ gb 102 #[.slice (some ⟨gl,0,none⟩) 1 1,.bool false] (0,0) _ rfl hE.2.2 Try.underlying102 rfl (by kernel_rfl)) rfl ?_
    exact ⟨_,rfl,hE.1,hE.2.1⟩
  · go_enter Try.func64,Try.ntmps64
    go_wp2_with (first
      | ((with_reducible refine gate_dst (N:=2) rfl ?_);refine box_event ?hg (N:=2) ?hd (cs:=#[.slice none 0 0,.bool false]) (t:=102) ?hr ?_;(case hd=>rfl);(case hg=>rfl);(case hr=>first|(go_simp;done)|(go_simp;rfl));intro gb hgb w1 B hb;have BG:=mk0 B;have GB:=mk0 hgb;have D:=mk0 hb;clear hb B hgb)
      | ((with_reducible refine gate_dst (N:=4) rfl ?_);refine img_lit ?hg (N:=4) ?hd (cs:=#[.int .i64 0,.int .i64 0,.int .i64 0]) (t:=3) (n:=3) (m:=3) ?hr ?_;(case hd=>rfl);(case hg=>rfl);(case hr=>go_simp;rw [make_three];rfl);intro gv hgv F B hb;have BV:=mk0 B;have GV:=mk0 hgv;have E:=mk0 hb;have L:=mk0 (blk_below BG.1 hb);have T:F.cell? ⟨gv,0,none⟩=some (.int .i64 0):=(blk_cell B 0).trans rfl;have U:F.cell? ⟨gv,1,none⟩=some (.int .i64 0):=(blk_cell B 1).trans rfl;have X:F.cell? ⟨gv,2,none⟩=some (.int .i64 0):=(blk_cell B 2).trans rfl;have Y:F.frozen? ⟨gv,0,none⟩=false:=blk_frozen B 0;have Z:F.frozen? ⟨gv,1,none⟩=false:=blk_frozen B 1;have a1:F.frozen? ⟨gv,2,none⟩=false:=blk_frozen B 2;clear hb B hgv)
      | ((with_reducible refine gate_dst (N:=12) rfl ?_);refine img_lit ?hg (N:=12) ?hd (cs:=#[.slice (some ⟨gv,0,none⟩) 3 3,.slice none 0 0]) (t:=60) (n:=1) (m:=1) ?hr ?_;(case hd=>rfl);(case hg=>rfl);(case hr=>first|(go_simp;done)|(go_simp;rfl));intro gl hgl I B hb;have J:=blk_below (blk_put (cs':=#[.int .i64 1,.int .i64 0,.int .i64 0]) BV.1 0 (.int .i64 1) rfl) hb;have C:=blk_below (blk_far L.1 (p:=⟨gv,0,none⟩) (blk_ne L.1 BV.1 (by decide)) (.int .i64 1)) hb;have hbb:=below_step (below_set (j:=0) (v:=.int .i64 1) (below_step D.1 E.1) (img_lo2 D.1 E.1 GV.1)) hb;have G:=img_lo1 (below_set (j:=0) (v:=.int .i64 1) (below_step D.1 E.1) (img_lo2 D.1 E.1 GV.1)) hgl;have M:=mk0 J;have O:=mk0 C;have Q:=mk0 hbb;have R:=mk0 G;have BL:=mk0 B;have a2:I.cell? ⟨gb,0,none⟩=some (.slice none 0 0):=(blk_cell C 0).trans rfl;have a3:I.cell? ⟨gb,1,none⟩=some (.bool false):=(blk_cell C 1).trans rfl;have a4:I.frozen? ⟨gb,0,none⟩=false:=blk_frozen C 0;have a5:I.frozen? ⟨gb,1,none⟩=false:=blk_frozen C 1;clear G hbb C J hb B hgl)
      | fail)
    have hE:=img_end Q.1 (Nat.le_of_eq GB.1.symm) (img_lo2 D.1 E.1 GV.1) R.1 M.1 BL.1 O.1 (.slice (some ⟨gl,0,none⟩) 1 1) (.bool false)
    refine bodyPost_ret (results_cell_row rfl _ _ gb 102 #[.slice (some ⟨gl,0,none⟩) 1 1,.bool false] (0,0) _ rfl hE.2.2 Try.underlying102 rfl (by kernel_rfl)) rfl ?_
    exact ⟨_,rfl,hE.1,hE.2.1⟩
  · go_enter Try.func64,Try.ntmps64
    go_wp2_with (first
      | ((with_reducible refine gate_dst (N:=2) rfl ?_);refine box_event ?hg (N:=2) ?hd (cs:=#[.slice none 0 0,.bool false]) (t:=102) ?hr ?_;(case hd=>rfl);(case hg=>rfl);(case hr=>first|(go_simp;done)|(go_simp;rfl));intro gb hgb w1 B hb;have BG:=mk0 B;have GB:=mk0 hgb;have D:=mk0 hb;clear hb B hgb)
      | ((with_reducible refine gate_dst (N:=4) rfl ?_);refine img_lit ?hg (N:=4) ?hd (cs:=#[.int .i64 0,.int .i64 0,.int .i64 0]) (t:=3) (n:=3) (m:=3) ?hr ?_;(case hd=>rfl);(case hg=>rfl);(case hr=>go_simp;rw [make_three];rfl);intro gv hgv F B hb;have BV:=mk0 B;have GV:=mk0 hgv;have E:=mk0 hb;have L:=mk0 (blk_below BG.1 hb);have T:F.cell? ⟨gv,0,none⟩=some (.int .i64 0):=(blk_cell B 0).trans rfl;have U:F.cell? ⟨gv,1,none⟩=some (.int .i64 0):=(blk_cell B 1).trans rfl;have X:F.cell? ⟨gv,2,none⟩=some (.int .i64 0):=(blk_cell B 2).trans rfl;have Y:F.frozen? ⟨gv,0,none⟩=false:=blk_frozen B 0;have Z:F.frozen? ⟨gv,1,none⟩=false:=blk_frozen B 1;have a1:F.frozen? ⟨gv,2,none⟩=false:=blk_frozen B 2;clear hb B hgv)
      | ((with_reducible refine gate_dst (N:=12) rfl ?_);refine img_lit ?hg (N:=12) ?hd (cs:=#[.slice (some ⟨gv,0,none⟩) 3 3,.slice none 0 0]) (t:=60) (n:=1) (m:=1) ?hr ?_;(case hd=>rfl);(case hg=>rfl);(case hr=>first|(go_simp;done)|(go_simp;rfl));intro gl hgl I B hb;have J:=blk_below (blk_put (cs':=#[.int .i64 0,.int .i64 1,.int .i64 0]) BV.1 1 (.int .i64 1) rfl) hb;have C:=blk_below (blk_far L.1 (p:=⟨gv,1,none⟩) (blk_ne L.1 BV.1 (by decide)) (.int .i64 1)) hb;have hbb:=below_step (below_set (j:=1) (v:=.int .i64 1) (below_step D.1 E.1) (img_lo2 D.1 E.1 GV.1)) hb;have G:=img_lo1 (below_set (j:=1) (v:=.int .i64 1) (below_step D.1 E.1) (img_lo2 D.1 E.1 GV.1)) hgl;have M:=mk0 J;have O:=mk0 C;have Q:=mk0 hbb;have R:=mk0 G;have BL:=mk0 B;have a2:I.cell? ⟨gb,0,none⟩=some (.slice none 0 0):=(blk_cell C 0).trans rfl;have a3:I.cell? ⟨gb,1,none⟩=some (.bool false):=(blk_cell C 1).trans rfl;have a4:I.frozen? ⟨gb,0,none⟩=false:=blk_frozen C 0;have a5:I.frozen? ⟨gb,1,none⟩=false:=blk_frozen C 1;clear G hbb C J hb B hgl)
      | fail)
    have hE:=img_end Q.1 (Nat.le_of_eq GB.1.symm) (img_lo2 D.1 E.1 GV.1) R.1 M.1 BL.1 O.1 (.slice (some ⟨gl,0,none⟩) 1 1) (.bool false)
    refine bodyPost_ret (results_cell_row rfl _ _ gb 102 #[.slice (some ⟨gl,0,none⟩) 1 1,.bool false] (0,0) _ rfl hE.2.2 Try.underlying102 rfl (by kernel_rfl)) rfl ?_
    exact ⟨_,rfl,hE.1,hE.2.1⟩
  · go_enter Try.func64,Try.ntmps64
    go_wp2_with (first
      | ((with_reducible refine gate_dst (N:=2) rfl ?_);refine box_event ?hg (N:=2) ?hd (cs:=#[.slice none 0 0,.bool false]) (t:=102) ?hr ?_;(case hd=>rfl);(case hg=>rfl);(case hr=>first|(go_simp;done)|(go_simp;rfl));intro gb hgb w1 B hb;have BG:=mk0 B;have GB:=mk0 hgb;have D:=mk0 hb;clear hb B hgb)
      | ((with_reducible refine gate_dst (N:=4) rfl ?_);refine img_lit ?hg (N:=4) ?hd (cs:=#[.int .i64 0,.int .i64 0,.int .i64 0]) (t:=3) (n:=3) (m:=3) ?hr ?_;(case hd=>rfl);(case hg=>rfl);(case hr=>go_simp;rw [make_three];rfl);intro gv hgv F B hb;have BV:=mk0 B;have GV:=mk0 hgv;have E:=mk0 hb;have L:=mk0 (blk_below BG.1 hb);have T:F.cell? ⟨gv,0,none⟩=some (.int .i64 0):=(blk_cell B 0).trans rfl;have U:F.cell? ⟨gv,1,none⟩=some (.int .i64 0):=(blk_cell B 1).trans rfl;have X:F.cell? ⟨gv,2,none⟩=some (.int .i64 0):=(blk_cell B 2).trans rfl;have Y:F.frozen? ⟨gv,0,none⟩=false:=blk_frozen B 0;have Z:F.frozen? ⟨gv,1,none⟩=false:=blk_frozen B 1;have a1:F.frozen? ⟨gv,2,none⟩=false:=blk_frozen B 2;clear hb B hgv)
      | ((with_reducible refine gate_dst (N:=12) rfl ?_);refine img_lit ?hg (N:=12) ?hd (cs:=#[.slice (some ⟨gv,0,none⟩) 3 3,.slice none 0 0]) (t:=60) (n:=1) (m:=1) ?hr ?_;(case hd=>rfl);(case hg=>rfl);(case hr=>first|(go_simp;done)|(go_simp;rfl));intro gl hgl I B hb;have J:=blk_below (blk_put (cs':=#[.int .i64 0,.int .i64 0,.int .i64 1]) BV.1 2 (.int .i64 1) rfl) hb;have C:=blk_below (blk_far L.1 (p:=⟨gv,2,none⟩) (blk_ne L.1 BV.1 (by decide)) (.int .i64 1)) hb;have hbb:=below_step (below_set (j:=2) (v:=.int .i64 1) (below_step D.1 E.1) (img_lo2 D.1 E.1 GV.1)) hb;have G:=img_lo1 (below_set (j:=2) (v:=.int .i64 1) (below_step D.1 E.1) (img_lo2 D.1 E.1 GV.1)) hgl;have M:=mk0 J;have O:=mk0 C;have Q:=mk0 hbb;have R:=mk0 G;have BL:=mk0 B;have a2:I.cell? ⟨gb,0,none⟩=some (.slice none 0 0):=(blk_cell C 0).trans rfl;have a3:I.cell? ⟨gb,1,none⟩=some (.bool false):=(blk_cell C 1).trans rfl;have a4:I.frozen? ⟨gb,0,none⟩=false:=blk_frozen C 0;have a5:I.frozen? ⟨gb,1,none⟩=false:=blk_frozen C 1;clear G hbb C J hb B hgl)
      | fail)
    have hE:=img_end Q.1 (Nat.le_of_eq GB.1.symm) (img_lo2 D.1 E.1 GV.1) R.1 M.1 BL.1 O.1 (.slice (some ⟨gl,0,none⟩) 1 1) (.bool false)
    refine bodyPost_ret (results_cell_row rfl _ _ gb 102 #[.slice (some ⟨gl,0,none⟩) 1 1,.bool false] (0,0) _ rfl hE.2.2 Try.underlying102 rfl (by kernel_rfl)) rfl ?_
    exact ⟨_,rfl,hE.1,hE.2.1⟩
def count_full.f (k:Nat) (a0:Int) (l1:List (S60)):Option ((List (S60)) × Int):=(count_check.f k a0 (([l1]:List (List (S60))))).bind fun t135=>(if t135=0 then (some (l1,0)) else (some (([]:List (S60)),7)))
theorem count_full.mono:∀ a0 a1 k,LeO (count_full.f k a0 a1) (count_full.f (k + 1) a0 a1):=by intro a0 a1 k;unfold count_full.f;with_reducible repeat' first|exact count_check.mono _ _ _|exact LeO.refl _|exact LeO.none _|refine LeO.ite ?_ ?_|refine LeO.bind ?_ (fun _=>?_)
set_option maxHeartbeats 8000000 in
set_option maxRecDepth 100000 in
theorem count_full.calls (k:Nat) (R:Int) (D:Nat → Prop) (T:Option Addr) (U:Nat) (F:List (S60)) (Y:List (S60)) (Z:Int) (w:World) (a7:Kd.V k60 60 w w.heap.size (fun k_=>D k_) (.slice T F.length U) F) (h:count_full.f k R F=some (Y,Z)) :
    Calls Try.prog 80 #[.int .i64 R,.slice T F.length U] w fun e w'=>∃ a1:Value,e=.returned (.tuple #[a1,.int .i64 Z])∧Kd.V k60 60 w' w.heap.size (fun k_=>(D k_ ∨ w.heap.size ≤ k_)) a1 Y∧Below w.heap.size w w':=by
 have E:=mk0 (show Kd.V k60 60 w w.heap.size (fun k_=>(D k_ ∨ w.heap.size ≤ k_)) (.slice T F.length U) F from Kd.V_mono a7 (fun k_ hk=>.inl hk));have I:=mk0 (Below.refl w.heap.size w);have H:((count_check.f k R (([F]:List (List (S60))))).bind fun C=>(if C=0 then (some (F,0)) else (some (([]:List (S60)),7))))=some (Y,Z):=h;clear h;obtain ⟨O,J⟩:∃ y_:List (List (S60)),y_=(([F]:List (List (S60)))):=⟨_,rfl⟩;(replace H:((count_check.f k R O).bind fun C=>(if C=0 then (some (F,0)) else (some (([]:List (S60)),7))))=some (Y,Z):=by first|(rw [J];with_reducible exact H)|(have X:=(Option.bind_some _ _).symm.trans H;rw [J];with_reducible exact X)|(have X:=(Option.bind_some _ _).symm.trans H;with_reducible exact X)|with_reducible exact H|(rw [J];exact H)|exact H);have M:=mk0 J;clear J;replace H:=Option.bind_eq_some_iff.mp H;obtain ⟨C,a2,H⟩:=H;(try dsimp only at H);have A3:=mk0 a2;clear a2;by_cases c4:C=0;(· rw [if_pos c4] at H;have c4b0:(C == 0)=true:=beq_iff_eq.mpr c4;have c4b1:(C != 0)=false:=bne_eq_false_iff_eq.mpr c4;clear c4;simp only [Option.some.injEq,Prod.mk.injEq] at H;obtain ⟨rfl,rfl⟩:=H;go_enter Try.func80,Try.ntmps80;go_wp2_with (first|((with_reducible refine gate_dst (N:=8) rfl ?_);refine Kd.N_lit (Kd.slice 60 k60) _ 22 ?hg (N':=8) ?hd (xs:=([F]:List (List (S60)))) (inner:=[.slice T F.length U]) (ok:=(fun k_=>(D k_ ∨ w.heap.size ≤ k_))) (okp:=(fun k_=>(D k_ ∨ w.heap.size ≤ k_))) ?hr ?hp (fun _ hk=>hk) ((show ∀ k_,w.heap.size ≤ k_ → (fun k_=>(D k_ ∨ w.heap.size ≤ k_)) k_ from fun k_ hk=>(.inr (Nat.le_trans (below_size I.1) hk))) _ (Nat.le_refl _)) (Below.refl _ _) (Nat.le_refl _) (by simp) ?_;(case hd=>rfl);(case hg=>rfl);(case hr=>first|(go_simp;done)|(go_simp;rfl));(case hp=>exact (Reps.one (show Kd.FK (Kd.slice 60 k60) _ _ F [.slice T F.length U] from (Kd.FK_slice_mk (Kd.V_reads' (Kd.V_mono (e:=0) (base:=0) (ok':=(fun k_=>(D k_ ∨ w.heap.size ≤ k_))) (E.1) (fun k_ hk=>hk))).2.1 (Kd.V_F (Kd.V_mono (e:=0) (base:=0) (ok':=(fun k_=>(D k_ ∨ w.heap.size ≤ k_))) (E.1) (fun k_ hk=>hk))))) (Reps.none _ _)));intro a3 w5 L hb hg_ Q;clear hg_ Q;(first|rw [← M.1] at L|(simp only [Int.reduceToNat] at L;rw [← M.1] at L));have B:=mk0 (Kd.N_lower L (below_size I.1));replace E:=mk0 (Kd.V_elder' E.1 (by first|exact Kd.N_base L|exact Kd.S_base L|exact Kd.R_base L) hb);replace I:=bst I hb;clear hb L;obtain ⟨a9,b0,b1⟩:=Kd.N_slice B.1;subst b1)|((with_reducible refine gate_callee (f:=51) rfl ?_);refine goesL_ (some 9) rfl rfl Try.func51 (by kernel_rfl) rfl #[.int .i64 R,.slice a9 O.length b0] rfl (by (try simp only [m0_,m1_,m2_]);first|done|rfl|(simp only [l0_,l1_];rfl)) ?_;(with_reducible refine (count_check.calls k R _ _ O C _ ?side1 ?side2 A3.1).mono ?_);(case side1=>repeat (first|exact (Kd.N_reads' B.1).2.2|(with_reducible refine Kd.C_alloc ?_ _)|(with_reducible refine Kd.C_drewN ?_ _)|(with_reducible refine Kd.C_drew ?_)));(case side2=>exact (Kd.N_reads' B.1).2.1);rintro e w8 ⟨rfl,hb⟩;refine ⟨_,rfl,?_⟩;replace E:=mk0 (Kd.V_below E.1 hb);replace B:=mk0 (Kd.N_below B.1 hb);replace I:=bst I hb;(try clear hb);(try clear hk)));go_ret2;exact ⟨_,by first|rfl|(simp [errW_none,errW_some] <;> rfl)|(simp [*,errW_none,errW_some] <;> rfl),by exact Kd.V_mono E.1 (fun _ hk=>hk.1),by exact I.1⟩);· rw [if_neg c4] at H;have c4b0:(C == 0)=false:=beq_eq_false_iff_ne.mpr c4;have c4b1:(C != 0)=true:=bne_iff_ne.mpr c4;simp only [Option.some.injEq,Prod.mk.injEq] at H;obtain ⟨rfl,rfl⟩:=H;go_enter Try.func80,Try.ntmps80;go_wp2_with (first|((with_reducible refine gate_dst (N:=8) rfl ?_);refine Kd.N_lit (Kd.slice 60 k60) _ 22 ?hg (N':=8) ?hd (xs:=([F]:List (List (S60)))) (inner:=[.slice T F.length U]) (ok:=(fun k_=>(D k_ ∨ w.heap.size ≤ k_))) (okp:=(fun k_=>(D k_ ∨ w.heap.size ≤ k_))) ?hr ?hp (fun _ hk=>hk) ((show ∀ k_,w.heap.size ≤ k_ → (fun k_=>(D k_ ∨ w.heap.size ≤ k_)) k_ from fun k_ hk=>(.inr (Nat.le_trans (below_size I.1) hk))) _ (Nat.le_refl _)) (Below.refl _ _) (Nat.le_refl _) (by simp) ?_;(case hd=>rfl);(case hg=>rfl);(case hr=>first|(go_simp;done)|(go_simp;rfl));(case hp=>exact (Reps.one (show Kd.FK (Kd.slice 60 k60) _ _ F [.slice T F.length U] from (Kd.FK_slice_mk (Kd.V_reads' (Kd.V_mono (e:=0) (base:=0) (ok':=(fun k_=>(D k_ ∨ w.heap.size ≤ k_))) (E.1) (fun k_ hk=>hk))).2.1 (Kd.V_F (Kd.V_mono (e:=0) (base:=0) (ok':=(fun k_=>(D k_ ∨ w.heap.size ≤ k_))) (E.1) (fun k_ hk=>hk))))) (Reps.none _ _)));intro a3 w9 G hb hg_ Q;clear hg_ Q;(first|rw [← M.1] at G|(simp only [Int.reduceToNat] at G;rw [← M.1] at G));have B:=mk0 (Kd.N_lower G (below_size I.1));replace E:=mk0 (Kd.V_elder' E.1 (by first|exact Kd.N_base G|exact Kd.S_base G|exact Kd.R_base G) hb);replace I:=bst I hb;clear hb G;obtain ⟨a4,a5,a6⟩:=Kd.N_slice B.1;subst a6)|((with_reducible refine gate_callee (f:=51) rfl ?_);refine goesL_ (some 9) rfl rfl Try.func51 (by kernel_rfl) rfl #[.int .i64 R,.slice a4 O.length a5] rfl (by (try simp only [m0_,m1_,m2_]);first|done|rfl|(simp only [l0_,l1_];rfl)) ?_;(with_reducible refine (count_check.calls k R _ _ O C _ ?side1 ?side2 A3.1).mono ?_);(case side1=>repeat (first|exact (Kd.N_reads' B.1).2.2|(with_reducible refine Kd.C_alloc ?_ _)|(with_reducible refine Kd.C_drewN ?_ _)|(with_reducible refine Kd.C_drew ?_)));(case side2=>exact (Kd.N_reads' B.1).2.1);rintro e b2 ⟨rfl,hb⟩;refine ⟨_,rfl,?_⟩;replace E:=mk0 (Kd.V_below E.1 hb);replace B:=mk0 (Kd.N_below B.1 hb);replace I:=bst I hb;(try clear hb);(try clear hk)));go_ret2;exact ⟨_,by first|rfl|(simp [errW_none,errW_some] <;> rfl)|(simp [*,errW_none,errW_some] <;> rfl),Kd.N_V (base:=0) (by first|exact Kd.R_nil _ _ _ _ _|exact Kd.N_nil _ _ _ _ _|exact Kd.V_nil _ _ _ _ _|exact Kd.Q_nil _ _ _ _ _|exact Kd.S_nil _ _ _ _ _),by exact I.1⟩
def count_valid.l0:Nat → List (S60) → List (S102) → Int → Int → List (S60) → Bool → Option ((List (S60)) × Bool)
  | 0,_,_,_,_,_,_=>none
  | k + 1,x0,x12,x13,x14,x138000,x138001=>if x14 < x13 then (if 0 ≤ x14 then (if x14 < (x12.length:Int) then (if x138001=true then (count_valid.l0 k x0 x12 x13 (wrap64 (x14 + 1)) x138000 true) else (count_valid.l0 k x0 x12 x13 (wrap64 (x14 + 1)) x138000 ((rd_T102 x12 x14).f1))) else (none)) else (none)) else ((count_full.f k 3 x0).bind fun bt140=>(if bt140.2=0 then (some (x138000,x138001)) else (some (x138000,true))))
def count_valid.f (k:Nat) (l0:List (S60)) (l1:List (S102)):Option ((List (S60)) × Bool):=count_valid.l0 k l0 l1 (l1.length:Int) 0 l0 false
theorem count_valid.mono_l:∀ k,(∀ y0 y1 y2 y3 y4 y5,LeO (count_valid.l0 k y0 y1 y2 y3 y4 y5) (count_valid.l0 (k + 1) y0 y1 y2 y3 y4 y5))
  | 0=>fun _ _ _ _ _ _ r h=>by simp [count_valid.l0] at h
  | k + 1=>by
    have ih0:=count_valid.mono_l k
    · intro y0 y1 y2 y3 y4 y5
      unfold count_valid.l0
      with_reducible repeat' first|exact ih0 _ _ _ _ _ _|exact count_full.mono _ _ _|exact LeO.refl _|exact LeO.none _|refine LeO.ite ?_ ?_|refine LeO.bind ?_ (fun _=>?_)
theorem count_valid.mono:∀ a0 a1 k,LeO (count_valid.f k a0 a1) (count_valid.f (k + 1) a0 a1):=by intro a0 a1 k;have ih0:=count_valid.mono_l k;unfold count_valid.f;with_reducible repeat' first|exact ih0 _ _ _ _ _ _|exact count_full.mono _ _ _|exact LeO.refl _|exact LeO.none _|refine LeO.ite ?_ ?_|refine LeO.bind ?_ (fun _=>?_)
set_option maxHeartbeats 8000000 in
set_option maxRecDepth 100000 in
theorem count_valid.calls (k:Nat) (b4:Nat → Prop) (A0:Option Addr) (c0:Nat) (O:List (S60)) (A1:Option Addr) (c1:Nat) (R:List (S102)) (r1:List (S60)) (r2:Bool) (w:World) (i8:Kd.V k60 60 w w.heap.size (fun k_=>b4 k_) (.slice A0 O.length c0) O) (e6:Kd.C k102 w A1 R.length R) (e7:R.length ≤ c1) (h:count_valid.f k O R=some (r1,r2)) :
    Calls Try.prog 66 #[.slice A0 O.length c0,.slice A1 R.length c1] w fun e w'=>∃ e8:Value,e=.returned (.agg #[e8,.bool r2])∧Kd.V k60 60 w' w.heap.size (fun k_=>(b4 k_ ∨ w.heap.size ≤ k_)) e8 r1∧Below w.heap.size w w':=by
 have j0:=Try.underlying102;have b7:=mk0 (show Kd.V k60 60 w w.heap.size (fun k_=>(b4 k_ ∨ w.heap.size ≤ k_)) (.slice A0 O.length c0) O from Kd.V_mono i8 (fun k_ hk=>.inl hk));have e9:=mk0 e6;have m1:=mk0 e7;clear e6 e7;have Q:=mk0 (Below.refl w.heap.size w);have H:(count_valid.l0 k O R (R.length:Int) 0 O false)=some (r1,r2):=h;clear h;have H':=mk0 H;clear H;go_enter Try.func66,Try.ntmps66;go_wp2_with (first|((with_reducible refine gate_dst (N:=4) rfl ?_);refine box_event ?hg (N:=4) ?hd (cs:=#[.slice none 0 0,.bool false]) (t:=102) ?hr ?_;(case hd=>rfl);(case hg=>rfl);(case hr=>first|(go_simp;done)|(go_simp;rfl));intro I hg w3 a2 hb;have D:=mk0 (a2);have e2:=szw hg Q;have b5:=e2;replace b7:=mk0 (Kd.V_below (Kd.V_elderB b7.1 I (Nat.le_of_eq hg.symm)) hb);replace Q:=bst Q hb;clear hb a2 hg)|((with_reducible refine gate_dst (N:=5) rfl ?_);refine box_event ?hg (N:=5) ?hd (cs:=#[.slice none 0 0,.bool false]) (t:=102) ?hr ?_;(case hd=>rfl);(case hg=>rfl);(case hr=>first|(go_simp;done)|(go_simp;rfl));intro F hg w4 a2 hb;have B:=mk0 (a2);have e3:=szw hg Q;have b6:=e3;have J:=nlt hg D;have X:=ngt hg D;replace b7:=mk0 (Kd.V_below (Kd.V_elderB b7.1 F (Nat.le_of_eq hg.symm)) hb);replace D:=bkb D hb;replace Q:=bst Q hb;clear hb a2 hg;have l9:=X.1;have m0:=J.1;have d5:=q0_ B;have d6:=q1_ B;have d7:=blk_frozen B.1 0;have d8:=blk_frozen B.1 1));go_loopg [14] k (fun kq i9 w'=>∃ (E:Int) (M:Bool),i9=.int .i64 E∧Aside0 (count_valid.l0 kq O R (R.length:Int) E O M=some (r1,r2))∧Aside0 (kq ≤ k)∧Aside0 (Kd.V k60 60 w' w.heap.size (fun k_=>(b4 k_ ∨ w.heap.size ≤ k_)∧k_ ≠ I∧k_ ≠ F) (.slice A0 O.length c0) O)∧Aside0 (Kd.V k60 60 w' w.heap.size (fun k_=>(b4 k_ ∨ w.heap.size ≤ k_)∧k_ ≠ I∧k_ ≠ F) (.slice A0 O.length c0) O)∧Aside0 (w'.heap[I]?=some (.cells #[(.slice none 0 0),.bool false] 102 (0,0)))∧Aside0 (w'.heap[F]?=some (.cells #[(.slice A0 O.length c0),.bool M] 102 (0,0)))∧Aside0 (Below w.heap.size w w'));case atStart=>exact ⟨(0),(false),(by first|rfl|(simp;done)|(simp [*];done)),H',⟨Nat.le_refl _⟩,⟨by exact Kd.V_mono (Kd.V_far (p:=⟨F,1,none⟩) (Kd.V_far (p:=⟨F,0,none⟩) (Kd.V_mono b7.1 (fun k_ hk=>(⟨hk,hk.2⟩:_∧k_ ≠ F))) (fun _ hk=>hk.2) (.slice A0 O.length c0)) (fun _ hk=>hk.2) (.bool false)) (fun _ hk=>⟨hk.1.1.1,⟨hk.1.1.2,hk.1.2⟩⟩)⟩,⟨by exact Kd.V_mono (Kd.V_far (p:=⟨F,1,none⟩) (Kd.V_far (p:=⟨F,0,none⟩) (Kd.V_mono b7.1 (fun k_ hk=>(⟨hk,hk.2⟩:_∧k_ ≠ F))) (fun _ hk=>hk.2) (.slice A0 O.length c0)) (fun _ hk=>hk.2) (.bool false)) (fun _ hk=>⟨hk.1.1.1,⟨hk.1.1.2,hk.1.2⟩⟩)⟩,⟨by (iterate 2 refine blk_far ?_ J.1 _);exact D.1⟩,⟨by refine blk_put (cs:=#[.slice A0 O.length c0,.bool false]) ?_ 1 _ rfl;refine blk_put (cs:=#[.slice none 0 0,.bool false]) ?_ 0 _ rfl;exact B.1⟩,⟨by repeat (first|(with_reducible first|exact Q.1|apply below_alloc|apply pw_below_drewN|apply below_drew1|refine below_set ?_ b5.1|refine below_set ?_ b6.1)|exact Q.1)⟩⟩
 case round =>
  (clear H';try clear c1);(try clear p2);(try clear c5);(try clear c6);(try clear d5);(try clear d6);(try clear d7);try clear d8
  obtain ⟨E,M,rfl,HA,c4,a0,G,D,B,Q⟩:=hrel;cases gk with
  | zero=>exact absurd HA.1 (by simp [count_valid.l0])
  | succ k1 =>have H:=HA.1;clear HA;simp only [count_valid.l0] at H;by_cases c7:E < (R.length:Int);(· rw [if_pos c7] at H;have c7b0:decide (E < (R.length:Int))=true:=decide_eq_true c7;clear c7;by_cases c8:0 ≤ E;(· rw [if_pos c8] at H;have c8b0:decide (0 ≤ E)=true:=decide_eq_true c8;clear c8;by_cases c9:E < (R.length:Int);(· rw [if_pos c9] at H;have c9b0:decide (E < (R.length:Int))=true:=decide_eq_true c9;clear c9;by_cases d0:M=true;(· (subst d0;have H1:(count_valid.l0 k1 O R (R.length:Int) (wrap64 (E + 1)) O true)=some (r1,r2):=by rw [if_pos rfl] at H;exact H);clear H;have H:=H1;clear H1;have H':=mk0 H;clear H;have b1:0 ≤ (E:Int):=of_decide_eq_true (by assumption);have b2:E < (R.length:Int):=of_decide_eq_true (by assumption);obtain ⟨e4,a7,a8,c3,T,U,a5,a6⟩:=at_T102 e9.1 E b1 b2;cases c3;replace T:=bd_ Q T;replace U:=bd_ Q U;have d3:=mk0 a6;have d4:=mk0 a5;clear a6 a5;replace b1:=eq_true b1;replace b2:=eq_true b2;go_wp2_with (first|((with_reducible refine gate_dst (N:=7) rfl ?_);refine box_event ?hg (N:=7) ?hd (cs:=#[.slice none 0 0,.bool false]) (t:=102) ?hr ?_;(case hd=>rfl);(case hg=>rfl);(case hr=>first|(go_simp;done)|(go_simp;rfl));intro L hg m2 a2 hb;have a1:=mk0 (a2);have b8:=szw hg Q;have b9:=b8;have Y:=nlt hg D;have a9:=ngt hg D;have Z:=nlt hg B;have b0:=ngt hg B;replace a0:=mk0 (Kd.V_below (Kd.V_elderB a0.1 L (Nat.le_of_eq hg.symm)) hb);replace G:=mk0 (Kd.V_below (Kd.V_elderB G.1 L (Nat.le_of_eq hg.symm)) hb);replace D:=bkb D hb;replace B:=bkb B hb;replace Q:=bst Q hb;clear hb a2 hg;have j1:=a9.1;have j2:=Y.1;have j3:=b0.1;have j4:=Z.1;have f5:=q0_ a1;have f6:=q1_ a1;have f7:=blk_frozen a1.1 0;have f8:=blk_frozen a1.1 1;have j5:=X.1;have j6:=J.1;have f9:=q0_ B;have g0:=q1_ B;have g1:=blk_frozen B.1 0;have g2:=blk_frozen B.1 1));go_roundg k1;(case measure=>have:=c4.1;omega);case rel=>exact ⟨(wrap64 (E + 1)),(true),(by first|rfl|(simp;done)|(simp [*];done)),H',⟨by have:=c4.1;omega⟩,⟨by exact Kd.V_mono (Kd.V_far (p:=⟨F,1,none⟩) (Kd.V_far (p:=⟨L,1,none⟩) (Kd.V_far (p:=⟨L,0,none⟩) (Kd.V_mono (Kd.V_mono a0.1 (fun k_ hk=>(⟨hk,hk.2⟩:_∧k_ ≠ L))) (fun k_ hk=>(⟨hk,hk.1.1.2.2⟩:_∧k_ ≠ F))) (fun _ hk=>hk.1.2) (.slice a7 ((rd_T102 R E).f0).length a8)) (fun _ hk=>hk.1.2) (.bool ((rd_T102 R E).f1))) (fun _ hk=>hk.2) (.bool true)) (fun _ hk=>⟨hk.1.1.1.1,⟨hk.1.1.1.2.1,hk.1.1.1.2.2⟩⟩)⟩,⟨by exact Kd.V_mono (Kd.V_far (p:=⟨F,1,none⟩) (Kd.V_far (p:=⟨L,1,none⟩) (Kd.V_far (p:=⟨L,0,none⟩) (Kd.V_mono (Kd.V_mono G.1 (fun k_ hk=>(⟨hk,hk.2⟩:_∧k_ ≠ L))) (fun k_ hk=>(⟨hk,hk.1.1.2.2⟩:_∧k_ ≠ F))) (fun _ hk=>hk.1.2) (.slice a7 ((rd_T102 R E).f0).length a8)) (fun _ hk=>hk.1.2) (.bool ((rd_T102 R E).f1))) (fun _ hk=>hk.2) (.bool true)) (fun _ hk=>⟨hk.1.1.1.1,⟨hk.1.1.1.2.1,hk.1.1.1.2.2⟩⟩)⟩,⟨by refine blk_far ?_ J.1 _;(iterate 2 refine blk_far ?_ Y.1 _);exact D.1⟩,⟨by refine blk_put (cs:=#[.slice A0 O.length c0,.bool true]) ?_ 1 _ rfl;(iterate 2 refine blk_far ?_ Z.1 _);exact B.1⟩,⟨by repeat (first|(with_reducible first|exact Q.1|apply below_alloc|apply pw_below_drewN|apply below_drew1|refine below_set ?_ b5.1|refine below_set ?_ b6.1|refine below_set ?_ b9.1)|exact Q.1)⟩⟩);· (replace d0:=Bool.eq_false_iff.mpr d0;subst d0;have H1:(count_valid.l0 k1 O R (R.length:Int) (wrap64 (E + 1)) O ((rd_T102 R E).f1))=some (r1,r2):=by rw [if_neg (show ¬ (false=true) by decide)] at H;exact H);clear H;have H:=H1;clear H1;have H':=mk0 H;clear H;have b1:0 ≤ (E:Int):=of_decide_eq_true (by assumption);have b2:E < (R.length:Int):=of_decide_eq_true (by assumption);obtain ⟨e4,a7,a8,c3,T,U,a5,a6⟩:=at_T102 e9.1 E b1 b2;cases c3;replace T:=bd_ Q T;replace U:=bd_ Q U;have d3:=mk0 a6;have d4:=mk0 a5;clear a6 a5;replace b1:=eq_true b1;replace b2:=eq_true b2;go_wp2_with (first|((with_reducible refine gate_dst (N:=7) rfl ?_);refine box_event ?hg (N:=7) ?hd (cs:=#[.slice none 0 0,.bool false]) (t:=102) ?hr ?_;(case hd=>rfl);(case hg=>rfl);(case hr=>first|(go_simp;done)|(go_simp;rfl));intro L hg m3 a2 hb;have a1:=mk0 (a2);have b8:=szw hg Q;have b9:=b8;have Y:=nlt hg D;have a9:=ngt hg D;have Z:=nlt hg B;have b0:=ngt hg B;replace a0:=mk0 (Kd.V_below (Kd.V_elderB a0.1 L (Nat.le_of_eq hg.symm)) hb);replace G:=mk0 (Kd.V_below (Kd.V_elderB G.1 L (Nat.le_of_eq hg.symm)) hb);replace D:=bkb D hb;replace B:=bkb B hb;replace Q:=bst Q hb;clear hb a2 hg;have j7:=a9.1;have j8:=Y.1;have j9:=b0.1;have l2:=Z.1;have g3:=q0_ a1;have g4:=q1_ a1;have g5:=blk_frozen a1.1 0;have g6:=blk_frozen a1.1 1;have l3:=X.1;have l4:=J.1;have g7:=q0_ B;have g8:=q1_ B;have g9:=blk_frozen B.1 0;have h0:=blk_frozen B.1 1));go_roundg k1;(case measure=>have:=c4.1;omega);case rel=>exact ⟨(wrap64 (E + 1)),((rd_T102 R E).f1),(by first|rfl|(simp;done)|(simp [*];done)),H',⟨by have:=c4.1;omega⟩,⟨by exact Kd.V_mono (Kd.V_far (p:=⟨F,1,none⟩) (Kd.V_far (p:=⟨L,1,none⟩) (Kd.V_far (p:=⟨L,0,none⟩) (Kd.V_mono (Kd.V_mono a0.1 (fun k_ hk=>(⟨hk,hk.2⟩:_∧k_ ≠ L))) (fun k_ hk=>(⟨hk,hk.1.1.2.2⟩:_∧k_ ≠ F))) (fun _ hk=>hk.1.2) (.slice a7 ((rd_T102 R E).f0).length a8)) (fun _ hk=>hk.1.2) (.bool ((rd_T102 R E).f1))) (fun _ hk=>hk.2) (.bool ((rd_T102 R E).f1))) (fun _ hk=>⟨hk.1.1.1.1,⟨hk.1.1.1.2.1,hk.1.1.1.2.2⟩⟩)⟩,⟨by exact Kd.V_mono (Kd.V_far (p:=⟨F,1,none⟩) (Kd.V_far (p:=⟨L,1,none⟩) (Kd.V_far (p:=⟨L,0,none⟩) (Kd.V_mono (Kd.V_mono G.1 (fun k_ hk=>(⟨hk,hk.2⟩:_∧k_ ≠ L))) (fun k_ hk=>(⟨hk,hk.1.1.2.2⟩:_∧k_ ≠ F))) (fun _ hk=>hk.1.2) (.slice a7 ((rd_T102 R E).f0).length a8)) (fun _ hk=>hk.1.2) (.bool ((rd_T102 R E).f1))) (fun _ hk=>hk.2) (.bool ((rd_T102 R E).f1))) (fun _ hk=>⟨hk.1.1.1.1,⟨hk.1.1.1.2.1,hk.1.1.1.2.2⟩⟩)⟩,⟨by refine blk_far ?_ J.1 _;(iterate 2 refine blk_far ?_ Y.1 _);exact D.1⟩,⟨by refine blk_put (cs:=#[.slice A0 O.length c0,.bool false]) ?_ 1 _ rfl;(iterate 2 refine blk_far ?_ Z.1 _);exact B.1⟩,⟨by repeat (first|(with_reducible first|exact Q.1|apply below_alloc|apply pw_below_drewN|apply below_drew1|refine below_set ?_ b5.1|refine below_set ?_ b6.1|refine below_set ?_ b9.1)|exact Q.1)⟩⟩);· rw [if_neg c9] at H;exact absurd H (by simp));· rw [if_neg c8] at H;exact absurd H (by simp));· rw [if_neg c7] at H;have c7b0:decide (E < (R.length:Int))=false:=decide_eq_false c7;clear c7;replace H:=Option.bind_eq_some_iff.mp H;obtain ⟨⟨e0,b3⟩,e1,H⟩:=H;(try dsimp only at H);have f2:=mk0 e1;clear e1;by_cases c24:b3=0;(· rw [if_pos c24] at H;have c24b0:(b3 == 0)=true:=beq_iff_eq.mpr c24;have c24b1:(b3 != 0)=false:=bne_eq_false_iff_eq.mpr c24;clear c24;simp only [Option.some.injEq,Prod.mk.injEq] at H;obtain ⟨rfl,rfl⟩:=H;go_wp2_with (first|((with_reducible refine gate_callee (f:=80) rfl ?_);refine goesL_ (some 28) rfl rfl Try.func80 (by kernel_rfl) rfl #[.int .i64 3,.slice A0 O.length c0] rfl (by (try simp only [m0_,m1_,m2_]);first|done|rfl|(simp only [l0_,l1_];rfl)) ?_;(with_reducible refine (count_full.calls k1 3 (fun k_=>((b4 k_ ∨ w.heap.size ≤ k_)∧(k_ ≠ I∧k_ ≠ F))) _ _ O e0 b3 _ ?side1 f2.1).mono ?_);(case side1=>exact a0.1);rintro e m4 ⟨f4,rfl,c2,hb⟩;refine ⟨_,rfl,?_⟩;have e5:=mk0 (Kd.V_lower (Kd.V_mono (ok':=fun k_=>(b4 k_ ∨ w.heap.size ≤ k_)∧k_ ≠ I∧k_ ≠ F) c2 (fun k_ hk_=>⟨Or.elim hk_ (fun hs_=>hs_.1) (fun hn_=>(.inr (Nat.le_trans (below_size Q.1) hn_))),Or.elim hk_ (fun hs_=>hs_.2.1) (fun hn_=>(Kd.freshB (g:=I) (o:=.cells #[.slice none 0 0,.bool false] 102 (0,0)) D.1 k_ hn_)),Or.elim hk_ (fun hs_=>hs_.2.2) (fun hn_=>(Kd.freshB (g:=F) (o:=.cells #[.slice A0 O.length c0,.bool M] 102 (0,0)) B.1 k_ hn_))⟩)) (below_size Q.1));replace a0:=mk0 (Kd.V_below a0.1 hb);replace G:=mk0 (Kd.V_below G.1 hb);replace D:=bkb D hb;replace B:=bkb B hb;replace Q:=bst Q hb;(try clear hb);(try clear c2);have l5:=X.1;have l6:=J.1;have h1:=q0_ B;have h2:=q1_ B;have h3:=blk_frozen B.1 0;have h4:=blk_frozen B.1 1;have h5:=q0_ D;have h6:=q1_ D;have h7:=blk_frozen D.1 0;have h8:=blk_frozen D.1 1));refine bodyPost_ret (results_cell_row rfl _ _ I 102 #[.slice A0 O.length c0,.bool M] (0,0) _ rfl (by refine blk_put (cs:=#[.slice A0 O.length c0,.bool false]) ?_ 1 _ rfl;refine blk_put (cs:=#[.slice none 0 0,.bool false]) ?_ 0 _ rfl;exact D.1) Try.underlying102 rfl (by kernel_rfl)) rfl ?_;exact ⟨_,by first|rfl|(simp [errW_none,errW_some] <;> rfl)|(simp [*,errW_none,errW_some] <;> rfl),by exact Kd.V_mono (Kd.V_far (p:=⟨I,1,none⟩) (Kd.V_far (p:=⟨I,0,none⟩) (Kd.V_mono G.1 (fun k_ hk=>(⟨hk,hk.2.1⟩:_∧k_ ≠ I))) (fun _ hk=>hk.2) (.slice A0 O.length c0)) (fun _ hk=>hk.2) (.bool M)) (fun _ hk=>hk.1.1),by repeat (first|(with_reducible first|exact Q.1|apply below_alloc|apply pw_below_drewN|apply below_drew1|refine below_set ?_ b5.1|refine below_set ?_ b6.1)|exact Q.1)⟩);· rw [if_neg c24] at H;have c24b0:(b3 == 0)=false:=beq_eq_false_iff_ne.mpr c24;have c24b1:(b3 != 0)=true:=bne_iff_ne.mpr c24;simp only [Option.some.injEq,Prod.mk.injEq] at H;obtain ⟨rfl,rfl⟩:=H;go_wp2_with (first|((with_reducible refine gate_callee (f:=80) rfl ?_);refine goesL_ (some 28) rfl rfl Try.func80 (by kernel_rfl) rfl #[.int .i64 3,.slice A0 O.length c0] rfl (by (try simp only [m0_,m1_,m2_]);first|done|rfl|(simp only [l0_,l1_];rfl)) ?_;(with_reducible refine (count_full.calls k1 3 (fun k_=>((b4 k_ ∨ w.heap.size ≤ k_)∧(k_ ≠ I∧k_ ≠ F))) _ _ O e0 b3 _ ?side1 f2.1).mono ?_);(case side1=>exact a0.1);rintro e m5 ⟨f4,rfl,c2,hb⟩;refine ⟨_,rfl,?_⟩;have e5:=mk0 (Kd.V_lower (Kd.V_mono (ok':=fun k_=>(b4 k_ ∨ w.heap.size ≤ k_)∧k_ ≠ I∧k_ ≠ F) c2 (fun k_ hk_=>⟨Or.elim hk_ (fun hs_=>hs_.1) (fun hn_=>(.inr (Nat.le_trans (below_size Q.1) hn_))),Or.elim hk_ (fun hs_=>hs_.2.1) (fun hn_=>(Kd.freshB (g:=I) (o:=.cells #[.slice none 0 0,.bool false] 102 (0,0)) D.1 k_ hn_)),Or.elim hk_ (fun hs_=>hs_.2.2) (fun hn_=>(Kd.freshB (g:=F) (o:=.cells #[.slice A0 O.length c0,.bool M] 102 (0,0)) B.1 k_ hn_))⟩)) (below_size Q.1));replace a0:=mk0 (Kd.V_below a0.1 hb);replace G:=mk0 (Kd.V_below G.1 hb);replace D:=bkb D hb;replace B:=bkb B hb;replace Q:=bst Q hb;(try clear hb);(try clear c2);have l7:=X.1;have l8:=J.1;have h9:=q0_ B;have i0:=q1_ B;have i1:=blk_frozen B.1 0;have i2:=blk_frozen B.1 1;have i3:=q0_ D;have i4:=q1_ D;have i5:=blk_frozen D.1 0;have i6:=blk_frozen D.1 1));refine bodyPost_ret (results_cell_row rfl _ _ I 102 #[.slice A0 O.length c0,.bool true] (0,0) _ rfl (by refine blk_put (cs:=#[.slice A0 O.length c0,.bool false]) ?_ 1 _ rfl;refine blk_put (cs:=#[.slice none 0 0,.bool false]) ?_ 0 _ rfl;refine blk_far ?_ J.1 _;exact D.1) Try.underlying102 rfl (by kernel_rfl)) rfl ?_;exact ⟨_,by first|rfl|(simp [errW_none,errW_some] <;> rfl)|(simp [*,errW_none,errW_some] <;> rfl),by exact Kd.V_mono (Kd.V_far (p:=⟨I,1,none⟩) (Kd.V_far (p:=⟨I,0,none⟩) (Kd.V_far (p:=⟨F,1,none⟩) (Kd.V_mono (Kd.V_mono G.1 (fun k_ hk=>(⟨hk,hk.2.2⟩:_∧k_ ≠ F))) (fun k_ hk=>(⟨hk,hk.1.2.1⟩:_∧k_ ≠ I))) (fun _ hk=>hk.1.2) (.bool true)) (fun _ hk=>hk.2) (.slice A0 O.length c0)) (fun _ hk=>hk.2) (.bool true)) (fun _ hk=>hk.1.1.1),by repeat (first|(with_reducible first|exact Q.1|apply below_alloc|apply pw_below_drewN|apply below_drew1|refine below_set ?_ b5.1|refine below_set ?_ b6.1)|exact Q.1)⟩
end Go.Proofs.Ytkonljiembcdlaa.PC
