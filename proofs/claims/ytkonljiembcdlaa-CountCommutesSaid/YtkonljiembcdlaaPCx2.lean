import Derived.Test.YtkonljiembcdlaaPCx0
import Derived.Test.YtkonljiembcdlaaPCx1
namespace Go.Proofs.Ytkonljiembcdlaa.PC
open Go.Proofs.MyWords Go.RowKit Go.Proofs.YtkonljiembcdlaaW.PrintWords Go.Proofs.YtkonljiembcdlaaW.PrintLast Go.Proofs.YtkonljiembcdlaaW.PrintMore
attribute [local go_sem] max2_int min2_int max_two min_two max_three min_three max_four min_four   -- for this text's walks alone
set_option linter.unusedVariables false
set_option linter.unusedSimpArgs false
attribute [local go_sem] eqGuard_slices eqlnil23 neqnil23 eqlnil58 neqnil58
def mok (m:FoundW.V3):Prop:=(0 ≤ m.1∧m.1 ≤ 8)∧(0 ≤ m.2.1∧m.2.1 ≤ 8)∧(0 ≤ m.2.2∧m.2.2 ≤ 8)
def good3 (m s:FoundW.V3):Prop:=(0 ≤ s.1∧0 ≤ s.2.1∧0 ≤ s.2.2)∧inBox m s=true
def RepF (m:FoundW.V3) (w:World) (b:Nat) (L:List FoundW.V3):Prop:=∃ S,FoundT w b S∧(∀ s,s ∈ S ↔ s ∈ L)∧∀ s,s ∈ L → good3 m s
def boxL:List FoundW.V3:=(List.range 9).flatMap fun a=>(List.range 9).flatMap fun b=>(List.range 9).map fun c=>(((a:Nat):Int),((b:Nat):Int),((c:Nat):Int))
theorem boxL_len:boxL.length=729:=by kernel_rfl
theorem mem_boxL {s:FoundW.V3} (h:mok s):s ∈ boxL:=by
  obtain ⟨⟨a1,a2⟩,⟨b1,b2⟩,⟨c1,c2⟩⟩:=h
  obtain ⟨a,b,c⟩:=s
  simp only at a1 a2 b1 b2 c1 c2
  unfold boxL
  refine List.mem_flatMap.2 ⟨a.toNat,by rw [List.mem_range];omega,List.mem_flatMap.2 ⟨b.toNat,by rw [List.mem_range];omega,List.mem_map.2 ⟨c.toNat,by rw [List.mem_range];omega,?_⟩⟩⟩
  rw [Int.toNat_of_nonneg a1,Int.toNat_of_nonneg b1,Int.toNat_of_nonneg c1]
theorem good3.mok {m s:FoundW.V3} (hm:PC.mok m) (h:good3 m s):PC.mok s:=by
  obtain ⟨⟨a1,a2,a3⟩,h⟩:=h
  obtain ⟨b1,b2,b3⟩:=of_decide_eq_true h
  obtain ⟨⟨_,c1⟩,⟨_,c2⟩,⟨_,c3⟩⟩:=hm
  exact ⟨⟨a1,by omega⟩,⟨a2,by omega⟩,⟨a3,by omega⟩⟩
theorem mok.small {s:FoundW.V3} (h:mok s):small3 s:=by
  obtain ⟨⟨a1,a2⟩,⟨b1,b2⟩,⟨c1,c2⟩⟩:=h
  exact ⟨⟨a1,by omega⟩,⟨b1,by omega⟩,⟨c1,by omega⟩⟩
theorem RepF.len {m:FoundW.V3} {L S:List FoundW.V3} (hm:mok m) (hn:S.Nodup) (h1:∀ s,s ∈ S ↔ s ∈ L) (h2:∀ s,s ∈ L → good3 m s):S.length ≤ 729:=by
  rw [← boxL_len]
  exact nodup_len3 S boxL hn (fun s hs=>mem_boxL ((h2 s ((h1 s).1 hs)).mok hm))
theorem RepF.below {m:FoundW.V3} {w w':World} {b:Nat} {L:List FoundW.V3} (h:RepF m w b L) (hb:Below w.heap.size w w'):RepF m w' b L:=by
  obtain ⟨S,h1,h2⟩:=h
  exact ⟨S,h1.below hb,h2⟩
theorem ins_run {W:World} {b:Nat} {S:List FoundW.V3} {x y z:Int} (h:FoundT W b S) (hs:FoundW.ok3 (x,y,z)) (hl:S.length < maxLen) :
    ∃ V,(Instr.mapUpdate 88 (.map (some b)) (.agg #[.int .i64 x,.int .i64 y,.int .i64 z]) (.bool true)).run Try.prog W=.ok () V∧FoundT V b (FoundW.ins S (x,y,z))∧W.grownBy V (some b):=by
  obtain ⟨D,h1,h2⟩:=h
  obtain ⟨V,hrun,ho,hg⟩:=h1.update okf.K okf.hm hl (FoundW.keyOf_vec okf hs) (plainElem_bool okf.he true)
  exact ⟨V,hrun,.mk ho (h2.put (h1.tidy okf.K) hs),hg⟩
theorem made_drew (w:World):FoundT (w.alloc (.map #[] 0)).drew w.heap.size []:=FoundW.FoundOf.made w
def unit3 (i:Int):FoundW.V3:=(if i=0 then 1 else 0,if i=1 then 1 else 0,if i=2 then 1 else 0)
def fLetter (m:FoundW.V3) (i:Int):List FoundW.V3:=[unit3 i].filter (inBox m)
theorem fLetter_good (m:FoundW.V3) (i:Int):∀ s,s ∈ fLetter m i → good3 m s:=fun s hs=>by
  obtain ⟨h1,h2⟩:=List.mem_filter.1 hs
  refine ⟨?_,h2⟩
  obtain rfl:s=unit3 i:=by simpa using h1
  unfold unit3
  refine ⟨?_,?_,?_⟩ <;> (simp only;split <;> omega)
theorem unit3_ok (i:Int):FoundW.ok3 (unit3 i):=by
  unfold unit3
  refine ⟨FoundW.in64_of ?_ ?_,FoundW.in64_of ?_ ?_,FoundW.in64_of ?_ ?_⟩ <;> (simp only;split <;> omega)
theorem ins_nil (s:FoundW.V3):FoundW.ins [] s=[s]:=by simp [FoundW.ins]
set_option maxHeartbeats 4000000 in
set_option maxRecDepth 100000 in
theorem Accepts_letter.calls (gm:Nat) (m1 m2 m3 i:Int) (hi:i=-1 ∨ i=0 ∨ i=1 ∨ i=2) (w:World) (hbox:w.heap[gm]?=some (.cells #[.int .i64 m1,.int .i64 m2,.int .i64 m3] 86 (0,0))) :
    Calls Try.prog 55 #[.int .i64 i,.pointer (some ⟨gm,0,none⟩)] w fun e w'=>∃ b,e=.returned (.map (some b))∧RepF (m1,m2,m3) w' b (fLetter (m1,m2,m3) i)∧Below w.heap.size w w':=by
  have HM:=Aside0.mk hbox
  clear hbox
  rcases hi with rfl|rfl|rfl|rfl
  · go_enter Try.func55,Try.ntmps55
    go_wp2_with (first
      | ((with_reducible refine gate_dst (N:=4) rfl ?_);refine box_event ?hg (N:=4) ?hd (cs:=#[.int .i64 0,.int .i64 0,.int .i64 0]) (t:=86) ?hr ?_;(case hd=>rfl);(case hg=>rfl);(case hr=>first|(go_simp;done)|(go_simp;rfl));intro gv hg w6 hbox hb;have BV:=Aside0.mk hbox;have HB6:=Aside0.mk hb;have HM6:=Aside0.mk (blk_below HM.out hb);have HGV:=Aside0.mk hg;have hcz0:w6.cell? ⟨gv,0,none⟩=some (.int .i64 0):=(blk_cell hbox 0).trans rfl;have hcz1:w6.cell? ⟨gv,1,none⟩=some (.int .i64 0):=(blk_cell hbox 1).trans rfl;have hcz2:w6.cell? ⟨gv,2,none⟩=some (.int .i64 0):=(blk_cell hbox 2).trans rfl;have hcf0:w6.frozen? ⟨gv,0,none⟩=false:=blk_frozen hbox 0;have hcf1:w6.frozen? ⟨gv,1,none⟩=false:=blk_frozen hbox 1;have hcf2:w6.frozen? ⟨gv,2,none⟩=false:=blk_frozen hbox 2;clear hb hbox hg)
      | fail)
    have HF:=Aside0.mk (show w6.heap[gv]?=some (.cells #[.int .i64 0,.int .i64 0,.int .i64 0] 86 (0,0))∧w6.heap[gm]?=some (.cells #[.int .i64 m1,.int .i64 m2,.int .i64 m3] 86 (0,0))∧Below w.heap.size w w6 from ⟨BV.out,HM6.out,HB6.out⟩)
    clear hcz0 hcz1 hcz2 hcf0 hcf1 hcf2 BV HM6 HB6
    obtain ⟨W0,rfl⟩:∃ W0,W0=w6:=⟨_,rfl⟩
    have HSOF:Aside0 (∀ w',Below W0.heap.size W0 w' → w'.cell? ⟨gv,0,none⟩=some (.int .i64 0)∧w'.cell? ⟨gv,1,none⟩=some (.int .i64 0)∧w'.cell? ⟨gv,2,none⟩=some (.int .i64 0)∧w'.cell? ⟨gm,0,none⟩=some (.int .i64 m1)∧w'.cell? ⟨gm,1,none⟩=some (.int .i64 m2)∧w'.cell? ⟨gm,2,none⟩=some (.int .i64 m3)):=⟨fun w' hb=>⟨(blk_cell (blk_below HF.out.1 hb) 0).trans rfl,(blk_cell (blk_below HF.out.1 hb) 1).trans rfl,(blk_cell (blk_below HF.out.1 hb) 2).trans rfl,(blk_cell (blk_below HF.out.2.1 hb) 0).trans rfl,(blk_cell (blk_below HF.out.2.1 hb) 1).trans rfl,(blk_cell (blk_below HF.out.2.1 hb) 2).trans rfl⟩⟩
    have HOK:Aside0 (FoundW.ok3 (0,0,0)):=⟨by have h:=unit3_ok (-1);simpa [unit3] using h⟩
    go_region_held3 (fun w'=>w'.cell? ⟨gv,0,none⟩=some (.int .i64 0)∧w'.cell? ⟨gv,1,none⟩=some (.int .i64 0)∧w'.cell? ⟨gv,2,none⟩=some (.int .i64 0)∧w'.cell? ⟨gm,0,none⟩=some (.int .i64 m1)∧w'.cell? ⟨gm,1,none⟩=some (.int .i64 m2)∧w'.cell? ⟨gm,2,none⟩=some (.int .i64 m3))
      (exact HSOF.out _ (by ((repeat (first|exact Below.refl _ _|assumption|exact HBV.out|exact HBX.out|apply Below.drew|apply below_alloc));done)))
      (first
        | (go_at_call 56;(with_reducible refine (found_within.calls W0.heap.size [(0,0,0)] m1 m2 m3 _ ?hs).mono ?_);(case hs=>exact HFV.out);rintro e wx ⟨rfl,hFx,hgx⟩;have HFX:=Aside0.mk hFx;have HBX:=Aside0.mk (Below.grown HBV.out hgx HBV.out.size (fun k hk=>by injection hk with hk;omega));clear hFx hgx)
        | (simp only [run_makeMap])
        | (obtain ⟨V,hrun,hF,hgV⟩:=ins_run (made_drew W0) HOK.out (by decide);simp only [hrun];have HFV:=Aside0.mk (show FoundT V W0.heap.size [(0,0,0)] from by rw [ins_nil] at hF;exact hF);have HBV:=Aside0.mk (show Below W0.heap.size W0 V from Below.grown (Below.drew (below_alloc (Below.refl _ _) _)) hgV (by simp) (fun k hk=>by injection hk with hk;omega));clear hrun hF hgV)
        | (obtain ⟨V,hrun,hF,hgV⟩:=ins_run (FoundW.FoundOf.made W0.drew) HOK.out (by decide);simp only [hrun];have HFV:=Aside0.mk (show FoundT V W0.heap.size [(0,0,0)] from by rw [ins_nil] at hF;exact hF);have HBV:=Aside0.mk (show Below W0.heap.size W0 V from Below.grown (below_alloc (Below.drew (Below.refl _ _)) _) hgV (by simp) (fun k hk=>by injection hk with hk;omega));clear hrun hF hgV)
        | fail)
    go_wp2
    go_ret
    exact ⟨W0.heap.size,rfl,⟨_,HFX.out,fun s=>Iff.rfl,fLetter_good (m1,m2,m3) (-1)⟩,HF.out.2.2.trans (HBX.out.mono HF.out.2.2.size)⟩
  · go_enter Try.func55,Try.ntmps55
    go_wp2_with (first
      | ((with_reducible refine gate_dst (N:=4) rfl ?_);refine box_event ?hg (N:=4) ?hd (cs:=#[.int .i64 0,.int .i64 0,.int .i64 0]) (t:=86) ?hr ?_;(case hd=>rfl);(case hg=>rfl);(case hr=>first|(go_simp;done)|(go_simp;rfl));intro gv hg w6 hbox hb;have BV:=Aside0.mk hbox;have HB6:=Aside0.mk hb;have HM6:=Aside0.mk (blk_below HM.out hb);have HGV:=Aside0.mk hg;have hcz0:w6.cell? ⟨gv,0,none⟩=some (.int .i64 0):=(blk_cell hbox 0).trans rfl;have hcz1:w6.cell? ⟨gv,1,none⟩=some (.int .i64 0):=(blk_cell hbox 1).trans rfl;have hcz2:w6.cell? ⟨gv,2,none⟩=some (.int .i64 0):=(blk_cell hbox 2).trans rfl;have hcf0:w6.frozen? ⟨gv,0,none⟩=false:=blk_frozen hbox 0;have hcf1:w6.frozen? ⟨gv,1,none⟩=false:=blk_frozen hbox 1;have hcf2:w6.frozen? ⟨gv,2,none⟩=false:=blk_frozen hbox 2;clear hb hbox hg)
      | fail)
    have HF:=Aside0.mk (show (w6.setCell ⟨gv,0,none⟩ (.int .i64 1)).heap[gv]?=some (.cells #[.int .i64 1,.int .i64 0,.int .i64 0] 86 (0,0))∧(w6.setCell ⟨gv,0,none⟩ (.int .i64 1)).heap[gm]?=some (.cells #[.int .i64 m1,.int .i64 m2,.int .i64 m3] 86 (0,0))∧Below w.heap.size w (w6.setCell ⟨gv,0,none⟩ (.int .i64 1)) from ⟨blk_put BV.out 0 _ rfl,blk_far HM6.out (by have:=blk_lt HM.out;have:=HGV.out;show gm ≠ gv;omega) _,below_set HB6.out (by have:=HGV.out;omega)⟩)
    clear hcz0 hcz1 hcz2 hcf0 hcf1 hcf2 BV HM6 HB6
    generalize hW:w6.setCell ⟨gv,0,none⟩ (.int .i64 1)=W0 at HF ⊢
    clear hW
    have HSOF:Aside0 (∀ w',Below W0.heap.size W0 w' → w'.cell? ⟨gv,0,none⟩=some (.int .i64 1)∧w'.cell? ⟨gv,1,none⟩=some (.int .i64 0)∧w'.cell? ⟨gv,2,none⟩=some (.int .i64 0)∧w'.cell? ⟨gm,0,none⟩=some (.int .i64 m1)∧w'.cell? ⟨gm,1,none⟩=some (.int .i64 m2)∧w'.cell? ⟨gm,2,none⟩=some (.int .i64 m3)):=⟨fun w' hb=>⟨(blk_cell (blk_below HF.out.1 hb) 0).trans rfl,(blk_cell (blk_below HF.out.1 hb) 1).trans rfl,(blk_cell (blk_below HF.out.1 hb) 2).trans rfl,(blk_cell (blk_below HF.out.2.1 hb) 0).trans rfl,(blk_cell (blk_below HF.out.2.1 hb) 1).trans rfl,(blk_cell (blk_below HF.out.2.1 hb) 2).trans rfl⟩⟩
    have HOK:Aside0 (FoundW.ok3 (1,0,0)):=⟨by have h:=unit3_ok (0);simpa [unit3] using h⟩
    go_region_held3 (fun w'=>w'.cell? ⟨gv,0,none⟩=some (.int .i64 1)∧w'.cell? ⟨gv,1,none⟩=some (.int .i64 0)∧w'.cell? ⟨gv,2,none⟩=some (.int .i64 0)∧w'.cell? ⟨gm,0,none⟩=some (.int .i64 m1)∧w'.cell? ⟨gm,1,none⟩=some (.int .i64 m2)∧w'.cell? ⟨gm,2,none⟩=some (.int .i64 m3))
      (exact HSOF.out _ (by ((repeat (first|exact Below.refl _ _|assumption|exact HBV.out|exact HBX.out|apply Below.drew|apply below_alloc));done)))
      (first
        | (go_at_call 56;(with_reducible refine (found_within.calls W0.heap.size [(1,0,0)] m1 m2 m3 _ ?hs).mono ?_);(case hs=>exact HFV.out);rintro e wx ⟨rfl,hFx,hgx⟩;have HFX:=Aside0.mk hFx;have HBX:=Aside0.mk (Below.grown HBV.out hgx HBV.out.size (fun k hk=>by injection hk with hk;omega));clear hFx hgx)
        | (simp only [run_makeMap])
        | (obtain ⟨V,hrun,hF,hgV⟩:=ins_run (made_drew W0) HOK.out (by decide);simp only [hrun];have HFV:=Aside0.mk (show FoundT V W0.heap.size [(1,0,0)] from by rw [ins_nil] at hF;exact hF);have HBV:=Aside0.mk (show Below W0.heap.size W0 V from Below.grown (Below.drew (below_alloc (Below.refl _ _) _)) hgV (by simp) (fun k hk=>by injection hk with hk;omega));clear hrun hF hgV)
        | (obtain ⟨V,hrun,hF,hgV⟩:=ins_run (FoundW.FoundOf.made W0.drew) HOK.out (by decide);simp only [hrun];have HFV:=Aside0.mk (show FoundT V W0.heap.size [(1,0,0)] from by rw [ins_nil] at hF;exact hF);have HBV:=Aside0.mk (show Below W0.heap.size W0 V from Below.grown (below_alloc (Below.drew (Below.refl _ _)) _) hgV (by simp) (fun k hk=>by injection hk with hk;omega));clear hrun hF hgV)
        | fail)
    go_wp2
    go_ret
    exact ⟨W0.heap.size,rfl,⟨_,HFX.out,fun s=>Iff.rfl,fLetter_good (m1,m2,m3) (0)⟩,HF.out.2.2.trans (HBX.out.mono HF.out.2.2.size)⟩
  · go_enter Try.func55,Try.ntmps55
    go_wp2_with (first
      | ((with_reducible refine gate_dst (N:=4) rfl ?_);refine box_event ?hg (N:=4) ?hd (cs:=#[.int .i64 0,.int .i64 0,.int .i64 0]) (t:=86) ?hr ?_;(case hd=>rfl);(case hg=>rfl);(case hr=>first|(go_simp;done)|(go_simp;rfl));intro gv hg w6 hbox hb;have BV:=Aside0.mk hbox;have HB6:=Aside0.mk hb;have HM6:=Aside0.mk (blk_below HM.out hb);have HGV:=Aside0.mk hg;have hcz0:w6.cell? ⟨gv,0,none⟩=some (.int .i64 0):=(blk_cell hbox 0).trans rfl;have hcz1:w6.cell? ⟨gv,1,none⟩=some (.int .i64 0):=(blk_cell hbox 1).trans rfl;have hcz2:w6.cell? ⟨gv,2,none⟩=some (.int .i64 0):=(blk_cell hbox 2).trans rfl;have hcf0:w6.frozen? ⟨gv,0,none⟩=false:=blk_frozen hbox 0;have hcf1:w6.frozen? ⟨gv,1,none⟩=false:=blk_frozen hbox 1;have hcf2:w6.frozen? ⟨gv,2,none⟩=false:=blk_frozen hbox 2;clear hb hbox hg)
      | fail)
    have HF:=Aside0.mk (show (w6.setCell ⟨gv,1,none⟩ (.int .i64 1)).heap[gv]?=some (.cells #[.int .i64 0,.int .i64 1,.int .i64 0] 86 (0,0))∧(w6.setCell ⟨gv,1,none⟩ (.int .i64 1)).heap[gm]?=some (.cells #[.int .i64 m1,.int .i64 m2,.int .i64 m3] 86 (0,0))∧Below w.heap.size w (w6.setCell ⟨gv,1,none⟩ (.int .i64 1)) from ⟨blk_put BV.out 1 _ rfl,blk_far HM6.out (by have:=blk_lt HM.out;have:=HGV.out;show gm ≠ gv;omega) _,below_set HB6.out (by have:=HGV.out;omega)⟩)
    clear hcz0 hcz1 hcz2 hcf0 hcf1 hcf2 BV HM6 HB6
    generalize hW:w6.setCell ⟨gv,1,none⟩ (.int .i64 1)=W0 at HF ⊢
    clear hW
    have HSOF:Aside0 (∀ w',Below W0.heap.size W0 w' → w'.cell? ⟨gv,0,none⟩=some (.int .i64 0)∧w'.cell? ⟨gv,1,none⟩=some (.int .i64 1)∧w'.cell? ⟨gv,2,none⟩=some (.int .i64 0)∧w'.cell? ⟨gm,0,none⟩=some (.int .i64 m1)∧w'.cell? ⟨gm,1,none⟩=some (.int .i64 m2)∧w'.cell? ⟨gm,2,none⟩=some (.int .i64 m3)):=⟨fun w' hb=>⟨(blk_cell (blk_below HF.out.1 hb) 0).trans rfl,(blk_cell (blk_below HF.out.1 hb) 1).trans rfl,(blk_cell (blk_below HF.out.1 hb) 2).trans rfl,(blk_cell (blk_below HF.out.2.1 hb) 0).trans rfl,(blk_cell (blk_below HF.out.2.1 hb) 1).trans rfl,(blk_cell (blk_below HF.out.2.1 hb) 2).trans rfl⟩⟩
    have HOK:Aside0 (FoundW.ok3 (0,1,0)):=⟨by have h:=unit3_ok (1);simpa [unit3] using h⟩
    go_region_held3 (fun w'=>w'.cell? ⟨gv,0,none⟩=some (.int .i64 0)∧w'.cell? ⟨gv,1,none⟩=some (.int .i64 1)∧w'.cell? ⟨gv,2,none⟩=some (.int .i64 0)∧w'.cell? ⟨gm,0,none⟩=some (.int .i64 m1)∧w'.cell? ⟨gm,1,none⟩=some (.int .i64 m2)∧w'.cell? ⟨gm,2,none⟩=some (.int .i64 m3))
      (exact HSOF.out _ (by ((repeat (first|exact Below.refl _ _|assumption|exact HBV.out|exact HBX.out|apply Below.drew|apply below_alloc));done)))
      (first
        | (go_at_call 56;(with_reducible refine (found_within.calls W0.heap.size [(0,1,0)] m1 m2 m3 _ ?hs).mono ?_);(case hs=>exact HFV.out);rintro e wx ⟨rfl,hFx,hgx⟩;have HFX:=Aside0.mk hFx;have HBX:=Aside0.mk (Below.grown HBV.out hgx HBV.out.size (fun k hk=>by injection hk with hk;omega));clear hFx hgx)
        | (simp only [run_makeMap])
        | (obtain ⟨V,hrun,hF,hgV⟩:=ins_run (made_drew W0) HOK.out (by decide);simp only [hrun];have HFV:=Aside0.mk (show FoundT V W0.heap.size [(0,1,0)] from by rw [ins_nil] at hF;exact hF);have HBV:=Aside0.mk (show Below W0.heap.size W0 V from Below.grown (Below.drew (below_alloc (Below.refl _ _) _)) hgV (by simp) (fun k hk=>by injection hk with hk;omega));clear hrun hF hgV)
        | (obtain ⟨V,hrun,hF,hgV⟩:=ins_run (FoundW.FoundOf.made W0.drew) HOK.out (by decide);simp only [hrun];have HFV:=Aside0.mk (show FoundT V W0.heap.size [(0,1,0)] from by rw [ins_nil] at hF;exact hF);have HBV:=Aside0.mk (show Below W0.heap.size W0 V from Below.grown (below_alloc (Below.drew (Below.refl _ _)) _) hgV (by simp) (fun k hk=>by injection hk with hk;omega));clear hrun hF hgV)
        | fail)
    go_wp2
    go_ret
    exact ⟨W0.heap.size,rfl,⟨_,HFX.out,fun s=>Iff.rfl,fLetter_good (m1,m2,m3) (1)⟩,HF.out.2.2.trans (HBX.out.mono HF.out.2.2.size)⟩
  · go_enter Try.func55,Try.ntmps55
    go_wp2_with (first
      | ((with_reducible refine gate_dst (N:=4) rfl ?_);refine box_event ?hg (N:=4) ?hd (cs:=#[.int .i64 0,.int .i64 0,.int .i64 0]) (t:=86) ?hr ?_;(case hd=>rfl);(case hg=>rfl);(case hr=>first|(go_simp;done)|(go_simp;rfl));intro gv hg w6 hbox hb;have BV:=Aside0.mk hbox;have HB6:=Aside0.mk hb;have HM6:=Aside0.mk (blk_below HM.out hb);have HGV:=Aside0.mk hg;have hcz0:w6.cell? ⟨gv,0,none⟩=some (.int .i64 0):=(blk_cell hbox 0).trans rfl;have hcz1:w6.cell? ⟨gv,1,none⟩=some (.int .i64 0):=(blk_cell hbox 1).trans rfl;have hcz2:w6.cell? ⟨gv,2,none⟩=some (.int .i64 0):=(blk_cell hbox 2).trans rfl;have hcf0:w6.frozen? ⟨gv,0,none⟩=false:=blk_frozen hbox 0;have hcf1:w6.frozen? ⟨gv,1,none⟩=false:=blk_frozen hbox 1;have hcf2:w6.frozen? ⟨gv,2,none⟩=false:=blk_frozen hbox 2;clear hb hbox hg)
      | fail)
    have HF:=Aside0.mk (show (w6.setCell ⟨gv,2,none⟩ (.int .i64 1)).heap[gv]?=some (.cells #[.int .i64 0,.int .i64 0,.int .i64 1] 86 (0,0))∧(w6.setCell ⟨gv,2,none⟩ (.int .i64 1)).heap[gm]?=some (.cells #[.int .i64 m1,.int .i64 m2,.int .i64 m3] 86 (0,0))∧Below w.heap.size w (w6.setCell ⟨gv,2,none⟩ (.int .i64 1)) from ⟨blk_put BV.out 2 _ rfl,blk_far HM6.out (by have:=blk_lt HM.out;have:=HGV.out;show gm ≠ gv;omega) _,below_set HB6.out (by have:=HGV.out;omega)⟩)
    clear hcz0 hcz1 hcz2 hcf0 hcf1 hcf2 BV HM6 HB6
    generalize hW:w6.setCell ⟨gv,2,none⟩ (.int .i64 1)=W0 at HF ⊢
    clear hW
    have HSOF:Aside0 (∀ w',Below W0.heap.size W0 w' → w'.cell? ⟨gv,0,none⟩=some (.int .i64 0)∧w'.cell? ⟨gv,1,none⟩=some (.int .i64 0)∧w'.cell? ⟨gv,2,none⟩=some (.int .i64 1)∧w'.cell? ⟨gm,0,none⟩=some (.int .i64 m1)∧w'.cell? ⟨gm,1,none⟩=some (.int .i64 m2)∧w'.cell? ⟨gm,2,none⟩=some (.int .i64 m3)):=⟨fun w' hb=>⟨(blk_cell (blk_below HF.out.1 hb) 0).trans rfl,(blk_cell (blk_below HF.out.1 hb) 1).trans rfl,(blk_cell (blk_below HF.out.1 hb) 2).trans rfl,(blk_cell (blk_below HF.out.2.1 hb) 0).trans rfl,(blk_cell (blk_below HF.out.2.1 hb) 1).trans rfl,(blk_cell (blk_below HF.out.2.1 hb) 2).trans rfl⟩⟩
    have HOK:Aside0 (FoundW.ok3 (0,0,1)):=⟨by have h:=unit3_ok (2);simpa [unit3] using h⟩
    go_region_held3 (fun w'=>w'.cell? ⟨gv,0,none⟩=some (.int .i64 0)∧w'.cell? ⟨gv,1,none⟩=some (.int .i64 0)∧w'.cell? ⟨gv,2,none⟩=some (.int .i64 1)∧w'.cell? ⟨gm,0,none⟩=some (.int .i64 m1)∧w'.cell? ⟨gm,1,none⟩=some (.int .i64 m2)∧w'.cell? ⟨gm,2,none⟩=some (.int .i64 m3))
      (exact HSOF.out _ (by ((repeat (first|exact Below.refl _ _|assumption|exact HBV.out|exact HBX.out|apply Below.drew|apply below_alloc));done)))
      (first
        | (go_at_call 56;(with_reducible refine (found_within.calls W0.heap.size [(0,0,1)] m1 m2 m3 _ ?hs).mono ?_);(case hs=>exact HFV.out);rintro e wx ⟨rfl,hFx,hgx⟩;have HFX:=Aside0.mk hFx;have HBX:=Aside0.mk (Below.grown HBV.out hgx HBV.out.size (fun k hk=>by injection hk with hk;omega));clear hFx hgx)
        | (simp only [run_makeMap])
        | (obtain ⟨V,hrun,hF,hgV⟩:=ins_run (made_drew W0) HOK.out (by decide);simp only [hrun];have HFV:=Aside0.mk (show FoundT V W0.heap.size [(0,0,1)] from by rw [ins_nil] at hF;exact hF);have HBV:=Aside0.mk (show Below W0.heap.size W0 V from Below.grown (Below.drew (below_alloc (Below.refl _ _) _)) hgV (by simp) (fun k hk=>by injection hk with hk;omega));clear hrun hF hgV)
        | (obtain ⟨V,hrun,hF,hgV⟩:=ins_run (FoundW.FoundOf.made W0.drew) HOK.out (by decide);simp only [hrun];have HFV:=Aside0.mk (show FoundT V W0.heap.size [(0,0,1)] from by rw [ins_nil] at hF;exact hF);have HBV:=Aside0.mk (show Below W0.heap.size W0 V from Below.grown (below_alloc (Below.drew (Below.refl _ _)) _) hgV (by simp) (fun k hk=>by injection hk with hk;omega));clear hrun hF hgV)
        | fail)
    go_wp2
    go_ret
    exact ⟨W0.heap.size,rfl,⟨_,HFX.out,fun s=>Iff.rfl,fLetter_good (m1,m2,m3) (2)⟩,HF.out.2.2.trans (HBX.out.mono HF.out.2.2.size)⟩
def add3 (v u:FoundW.V3):FoundW.V3:=(v.1 + u.1,v.2.1 + u.2.1,v.2.2 + u.2.2)
theorem small3.add {v u:FoundW.V3} (hv:small3 v) (hu:small3 u):FoundW.ok3 (add3 v u):=by
  obtain ⟨⟨a1,a2⟩,⟨a3,a4⟩,⟨a5,a6⟩⟩:=hv
  obtain ⟨⟨b1,b2⟩,⟨b3,b4⟩,⟨b5,b6⟩⟩:=hu
  exact ⟨FoundW.in64_of (by show _ ≤ v.1 + u.1;omega) (by show v.1 + u.1 ≤ _;omega),FoundW.in64_of (by show _ ≤ v.2.1 + u.2.1;omega) (by show v.2.1 + u.2.1 ≤ _;omega),FoundW.in64_of (by show _ ≤ v.2.2 + u.2.2;omega) (by show v.2.2 + u.2.2 ≤ _;omega)⟩
def SumsTo (A B S:List FoundW.V3) (L:FoundW.V3 → Bool):Prop:=∀ s,s ∈ S ↔ ∃ v,v ∈ A∧L v=false∧∃ u,u ∈ B∧s=add3 v u
def SumsIn (A B S:List FoundW.V3) (L:FoundW.V3 → Bool) (c:FoundW.V3) (L2:FoundW.V3 → Bool):Prop:=∀ s,s ∈ S ↔ (∃ v,v ∈ A∧L v=false∧∃ u,u ∈ B∧s=add3 v u) ∨ ∃ u,u ∈ B∧L2 u=false∧s=add3 c u
theorem SumsIn.len {A B S:List FoundW.V3} {L:FoundW.V3 → Bool} {c:FoundW.V3} {L2:FoundW.V3 → Bool} (h:SumsIn A B S L c L2) (hc:c ∈ A) (hn:S.Nodup) (ha:A.length ≤ 10000) (hb:B.length ≤ 10000):S.length < maxLen:=by
  have h1:S.length ≤ (A.flatMap fun v=>B.map (add3 v)).length:=nodup_len3 _ _ hn (fun s hs=>by
    rw [List.mem_flatMap]
    rcases (h s).1 hs with ⟨v,hv,_,u,hu,rfl⟩|⟨u,hu,_,rfl⟩
    · exact ⟨v,hv,List.mem_map.2 ⟨u,hu,rfl⟩⟩
    · exact ⟨c,hc,List.mem_map.2 ⟨u,hu,rfl⟩⟩)
  have h2:∀ l:List FoundW.V3,(l.flatMap fun v=>B.map (add3 v)).length=l.length * B.length:=fun l=>by
    induction l with
    | nil=>simp
    | cons a l ih=>rw [List.flatMap_cons,List.length_append,ih,List.length_map,List.length_cons,Nat.succ_mul];omega
  rw [h2] at h1
  have:A.length * B.length ≤ 10000 * 10000:=Nat.mul_le_mul ha hb
  unfold maxLen;omega
theorem SumsIn.start {A B S:List FoundW.V3} {L:FoundW.V3 → Bool} (h:SumsTo A B S L) (c:FoundW.V3):SumsIn A B S L c (fun s=>decide (s ∈ B)):=fun s=>by
  rw [h s]
  constructor
  · exact Or.inl
  · rintro (h|⟨u,hu,hu2,_⟩)
    · exact h
    · simp [hu] at hu2
theorem SumsIn.done {A B S:List FoundW.V3} {L L2:FoundW.V3 → Bool} {c:FoundW.V3} (h:SumsIn A B S L c L2) (hc:c ∈ A) (hB:∀ u,u ∈ B → L2 u=false):SumsTo A B S (fun z=>L z && !decide (z=c)):=fun s=>by
  rw [h s]
  constructor
  · rintro (⟨v,hv,hL,r⟩|⟨u,hu,_,rfl⟩)
    · exact ⟨v,hv,by simp [hL],r⟩
    · exact ⟨c,hc,by simp,u,hu,rfl⟩
  · rintro ⟨v,hv,hL,u,hu,rfl⟩
    by_cases e:v=c
    · subst e;exact .inr ⟨u,hu,hB u hu,rfl⟩
    · simp [e] at hL
      exact .inl ⟨v,hv,hL,u,hu,rfl⟩
theorem SumsIn.step {A B S:List FoundW.V3} {L L2:FoundW.V3 → Bool} {c d:FoundW.V3} (h:SumsIn A B S L c L2) (hd:d ∈ B):SumsIn A B (FoundW.ins S (add3 c d)) L c (fun z=>L2 z && !decide (z=d)):=fun s=>by
  rw [FoundW.mem_ins,h s]
  constructor
  · rintro ((h|⟨u,hu,hL,rfl⟩)|rfl)
    · exact .inl h
    · exact .inr ⟨u,hu,by simp [hL],rfl⟩
    · exact .inr ⟨d,hd,by simp,rfl⟩
  · rintro (h|⟨u,hu,hL,rfl⟩)
    · exact .inl (.inl h)
    · by_cases e:u=d
      · subst e;exact .inr rfl
      · simp [e] at hL
        exact .inl (.inr ⟨u,hu,hL,rfl⟩)
theorem gate_upd {P:Program} {w:World} {ops:Array Oper} {rest:List Oper} {o:Oper} {a:Act} {Q:Exit → Act → World → Prop} {t:TypeId} {m x v:Operand} (_ho:o.op=.mapUpdate t m x v) (h:wpList P ops Q (o :: rest) a w):wpList P ops Q (o :: rest) a w:=h
theorem box_set3 {w:World} {g:Nat} (x y z:Int) (h:w.heap[g]?=some (.cells #[.int .i64 0,.int .i64 0,.int .i64 0] 86 (0,0))):(((w.setCell ⟨g,0,none⟩ (.int .i64 x)).setCell ⟨g,1,none⟩ (.int .i64 y)).setCell ⟨g,2,none⟩ (.int .i64 z)).heap[g]?=some (.cells #[.int .i64 x,.int .i64 y,.int .i64 z] 86 (0,0)) :=
  blk_put (blk_put (blk_put h 0 _ rfl) 1 _ rfl) 2 _ rfl
theorem below_set3 {w0 w w1:World} {g:Nat} (x y z:Int) (h:Below w0.heap.size w0 w) (hb:Below w.heap.size w w1) (hg:g=w.heap.size):Below w0.heap.size w0 (((w1.setCell ⟨g,0,none⟩ (.int .i64 x)).setCell ⟨g,1,none⟩ (.int .i64 y)).setCell ⟨g,2,none⟩ (.int .i64 z)) :=
  below_set (below_set (below_set (below_step h hb) (by have:=h.size;omega)) (by have:=h.size;omega)) (by have:=h.size;omega)
set_option maxHeartbeats 4000000 in
set_option maxRecDepth 100000 in
theorem count_sums.calls (a b:Nat) (A B:List FoundW.V3) (w:World) (hA:FoundT w a A) (hB:FoundT w b B) (hsA:∀ v,v ∈ A → small3 v) (hsB:∀ v,v ∈ B → small3 v) (hlA:A.length ≤ 10000) (hlB:B.length ≤ 10000) :
    Calls Try.prog 58 #[.map (some a),.map (some b)] w fun e w'=>∃ nb S,e=.returned (.map (some nb))∧w.heap.size ≤ nb∧FoundT w' nb S∧(∀ s,s ∈ S ↔ ∃ v,v ∈ A∧∃ u,u ∈ B∧s=add3 v u)∧Below w.heap.size w w':=by
  have HA:=Aside0.mk hA
  have HBB:=Aside0.mk hB
  have HLT:Aside0 (a < w.heap.size∧b < w.heap.size):=⟨hA.lt,hB.lt⟩
  have HSA:=Aside0.mk hsA
  have HSB:=Aside0.mk hsB
  have HLA:=Aside0.mk hlA
  have HLB:=Aside0.mk hlB
  clear hA hB hsA hsB hlA hlB
  go_enter Try.func58,Try.ntmps58
  go_wp2_with (first
    | ((with_reducible refine gate_dst (N:=8) rfl ?_);refine FoundW.made_found _ rfl 88 86 4 rfl ?_;intro nb w1 hz1 hs1 hb1;have HN:=Aside0.mk hs1;have HB1:=Aside0.mk hb1;have HZ1:=Aside0.mk hz1;clear hs1 hb1 hz1)
    | ((with_reducible refine gate_dst (N:=10) rfl ?_);refine FoundW.range_found okf _ rfl (.tmp 9) rfl a A rfl (HA.out.below HB1.out) ?_;intro r w2 hr hrg hb2;have HR:=Aside0.mk hrg;have HRW:=Aside0.mk hr;have HN2:=Aside0.mk (HN.out.below hb2);have HB2:=Aside0.mk (below_step HB1.out hb2);have HZN:Aside0 (w.heap.size ≤ nb∧nb < r):=⟨by have:=HN.out.lt;have:=HZ1.out;omega⟩;clear hr hrg hb2)
    | go_in)
  go_frame
  go_loopw [] (fun wr=>∃ (L:FoundW.V3 → Bool) (S:List FoundW.V3),RangeT wr a r A L∧FoundT wr nb S∧SumsTo A B S L∧Below w.heap.size w wr) (fun wr=>wr.rangeLeft a r)
  case atStart=>exact ⟨_,[],HR.out,HN2.out,fun s=>⟨fun h=>by simp at h,fun ⟨v,hv,hL,_⟩=>by simp [hv] at hL⟩,HB2.out⟩
  case round =>
    clear HR HN2 HB2 HN HB1 HZ1 HRW
    obtain ⟨L,S,hR,hN,hT,hB⟩:=hrel
    have HR:=Aside0.mk hR
    have HN:=Aside0.mk hN
    have HT:=Aside0.mk hT
    have HB:=Aside0.mk hB
    clear hR hN hT hB
    go_wp2_with (first
      | (at_next;refine FoundW.next_found okf _ rfl (.tmp 10) rfl a r _ L rfl HR.out (fun hall=>stop_ ?_) (fun s c w5 hok hsS hsL hr5 hl5 hg5 hz5 hen=>stop_ ?_))
      | go_in)
    · delta Stop
      have HAL:=Aside0.mk hall
      clear hall
      go_wp2
      go_ret
      refine ⟨nb,S,rfl,HZN.out.1,HN.out,fun s=>?_,HB.out⟩
      rw [HT.out s]
      exact ⟨fun ⟨v,hv,_,u,hu,e⟩=>⟨v,hv,u,hu,e⟩,fun ⟨v,hv,u,hu,e⟩=>⟨v,hv,HAL.out v (HR.out.found.ok v hv),u,hu,e⟩⟩
    · delta Stop
      obtain ⟨x,y,z⟩:=s
      simp only [FoundW.vec3] at hen
      have HR5:=Aside0.mk hr5
      have HL5:=Aside0.mk hl5
      have HN5:=Aside0.mk (HN.out.kept hg5 (by have:=HZN.out;omega))
      have HBB5:=Aside0.mk (Below.grown HB.out hg5 HB.out.size (fun k hk=>by injection hk with hk;have:=HZN.out;omega))
      have HSS:=Aside0.mk hsS
      clear hr5 hl5 hg5 hz5 hsL hsS hok
      go_wp2_with (first
        | ((with_reducible refine gate_dst (N:=6) rfl ?_);refine box_event ?hg (N:=6) ?hd (cs:=#[.int .i64 0,.int .i64 0,.int .i64 0]) (t:=86) ?hr ?_;(case hd=>rfl);(case hg=>rfl);(case hr=>first|(go_simp;done)|(go_simp;rfl));intro gv hg w6 hbox hb;have HRS:=Aside0.mk (range_set3 x y z HR5.out hb hg);have HNS:=Aside0.mk (found_set3 x y z HN5.out hb hg);have HLS:=Aside0.mk (left_set3 x y z HR5.out hb hg);have HVS:=Aside0.mk (box_set3 x y z hbox);have HBS:=Aside0.mk (below_set3 x y z HBB5.out hb hg);have HGV:=Aside0.mk (show w.heap.size ≤ gv∧r < gv from ⟨by have:=HBB5.out.size;omega,by have:=HR5.out.lt;omega⟩);have hcz0:w6.cell? ⟨gv,0,none⟩=some (.int .i64 0):=(blk_cell hbox 0).trans rfl;have hcz1:w6.cell? ⟨gv,1,none⟩=some (.int .i64 0):=(blk_cell hbox 1).trans rfl;have hcz2:w6.cell? ⟨gv,2,none⟩=some (.int .i64 0):=(blk_cell hbox 2).trans rfl;have hcf0:w6.frozen? ⟨gv,0,none⟩=false:=blk_frozen hbox 0;have hcf1:w6.frozen? ⟨gv,1,none⟩=false:=blk_frozen hbox 1;have hcf2:w6.frozen? ⟨gv,2,none⟩=false:=blk_frozen hbox 2;clear hb hbox hg)
        | ((with_reducible refine gate_dst (N:=16) rfl ?_);refine FoundW.range_found okf _ rfl (.tmp 15) rfl b B rfl (HBB.out.below HBS.out) ?_;intro r2 w7 hr hrg hb7;have HR7:=Aside0.mk hrg;have HRW:=Aside0.mk hr;have HN7:=Aside0.mk (HNS.out.below hb7);have HRO:=Aside0.mk (HRS.out.below hb7);have HV7:=Aside0.mk (blk_below HVS.out hb7);have HB7:=Aside0.mk (below_step HBS.out hb7);have HL7:=Aside0.mk (FoundW.left_heap (hb7.block a HRS.out.lt.1) (hb7.block r HRS.out.lt.2));have HZ7:Aside0 (gv < r2):=⟨by have:=blk_lt HVS.out;omega⟩;clear hr hrg hb7)
        | go_in)
      go_frame
      go_loopw [] (fun wr=>∃ (L2:FoundW.V3 → Bool) (S2:List FoundW.V3),RangeT wr b r2 B L2∧RangeT wr a r A (fun v=>L v && !decide (v=(x,y,z)))∧FoundT wr nb S2∧SumsIn A B S2 L (x,y,z) L2∧Aside0 (wr.heap[gv]?=some (.cells #[.int .i64 x,.int .i64 y,.int .i64 z] 86 (0,0)))∧Below w.heap.size w wr∧Aside0 (wr.rangeLeft a r=w7.rangeLeft a r)) (fun wr=>wr.rangeLeft b r2)
      case atStart=>exact ⟨_,S,HR7.out,HRO.out,HN7.out,SumsIn.start HT.out _,HV7,HB7.out,⟨rfl⟩⟩
      case round =>
        clear HR7 HRO HN7 HV7 HB7 HRS HNS HVS HBS HRW HN HB HR5 HN5 HBB5
        obtain ⟨L2,S2,hR2,hRo,hN,hT,hV,hB,hLl⟩:=hrel
        have HR2:=Aside0.mk hR2
        have HRo:=Aside0.mk hRo
        have HN:=Aside0.mk hN
        have HT2:=Aside0.mk hT
        have HB:=Aside0.mk hB
        clear hR2 hRo hN hT hB
        go_wp2_with (first
          | (at_next;refine FoundW.next_found okf _ rfl (.tmp 16) rfl b r2 _ L2 rfl HR2.out (fun hall=>stop_ ?_) (fun s c w8 hok hsS hsL hr8 hl8 hg8 hz8 hen=>stop_ ?_))
          | go_in)
        · delta Stop
          have HAL:=Aside0.mk hall
          clear hall
          go_wp2
          go_roundw
          case rel=>exact ⟨_,S2,HRo.out,HN.out,HT2.out.done HSS.out (fun u hu=>HAL.out u (HBB.out.ok u hu)),HB.out⟩
          case measure=>rw [hLl.out,HL7.out,HLS.out];exact HL5.out
        · delta Stop
          obtain ⟨x2,y2,z2⟩:=s
          simp only [FoundW.vec3] at hen
          have HR8:=Aside0.mk hr8
          have HL8:=Aside0.mk hl8
          have hne:=HRo.out.lt
          have hrr:r2 ≠ r∧r2 ≠ a∧r2 ≠ nb:=by have:=HZ7.out;have:=HGV.out;have:=HZN.out;have:=HLT.out;omega
          have HRo8:=Aside0.mk (HRo.out.kept hg8 (by omega) (by omega))
          have HN8:=Aside0.mk (HN.out.kept hg8 (by omega))
          have HV8:=Aside0.mk ((hg8.block gv (blk_lt hV.out) (fun e=>by injection e with e;have:=HZ7.out;omega)).trans hV.out)
          have HBB8:=Aside0.mk (Below.grown HB.out hg8 HB.out.size (fun k hk=>by injection hk with hk;have:=HZ7.out;have:=HGV.out;omega))
          have HLL8:=Aside0.mk ((FoundW.left_heap (hg8.block a HRo.out.lt.1 (fun e=>by injection e with e;omega)) (hg8.block r HRo.out.lt.2 (fun e=>by injection e with e;omega))).trans hLl.out)
          have HSS2:=Aside0.mk hsS
          have hs1:=HSA.out _ HSS.out
          have hs2:=HSB.out _ hsS
          have HOK:=Aside0.mk (hs1.add hs2)
          obtain ⟨⟨a1,a2⟩,⟨a3,a4⟩,⟨a5,a6⟩⟩:=hs1
          obtain ⟨⟨b1,b2⟩,⟨b3,b4⟩,⟨b5,b6⟩⟩:=hs2
          simp only at a1 a2 a3 a4 a5 a6 b1 b2 b3 b4 b5 b6
          have hw1:wrap64 (x + x2)=x + x2:=by unfold wrap64;omega
          have hw2:wrap64 (y + y2)=y + y2:=by unfold wrap64;omega
          have hw3:wrap64 (z + z2)=z + z2:=by unfold wrap64;omega
          clear hr8 hl8 hg8 hz8 hsL hsS hok hne hrr a1 a2 a3 a4 a5 a6 b1 b2 b3 b4 b5 b6
          go_wp2_with (first
            | ((with_reducible refine gate_dst (N:=7) rfl ?_);refine box_event ?hg (N:=7) ?hd (cs:=#[.int .i64 0,.int .i64 0,.int .i64 0]) (t:=86) ?hr ?_;(case hd=>rfl);(case hg=>rfl);(case hr=>first|(go_simp;done)|(go_simp;rfl));intro gu hg w9 hbox hb;have HR9:=Aside0.mk (range_set3 x2 y2 z2 HR8.out hb hg);have HRo9:=Aside0.mk (range_set3 x2 y2 z2 HRo8.out hb hg);have HN9:=Aside0.mk (found_set3 x2 y2 z2 HN8.out hb hg);have HL9:=Aside0.mk (left_set3 x2 y2 z2 HR8.out hb hg);have HLo9:=Aside0.mk (left_set3 x2 y2 z2 HRo8.out hb hg);have HV9:=Aside0.mk (mem_set3 x2 y2 z2 HV8.out hb hg);have HB9:=Aside0.mk (below_set3 x2 y2 z2 HBB8.out hb hg);have hcz0:w9.cell? ⟨gu,0,none⟩=some (.int .i64 0):=(blk_cell hbox 0).trans rfl;have hcz1:w9.cell? ⟨gu,1,none⟩=some (.int .i64 0):=(blk_cell hbox 1).trans rfl;have hcz2:w9.cell? ⟨gu,2,none⟩=some (.int .i64 0):=(blk_cell hbox 2).trans rfl;have hcf0:w9.frozen? ⟨gu,0,none⟩=false:=blk_frozen hbox 0;have hcf1:w9.frozen? ⟨gu,1,none⟩=false:=blk_frozen hbox 1;have hcf2:w9.frozen? ⟨gu,2,none⟩=false:=blk_frozen hbox 2;have hv0:w9.cell? ⟨gv,0,none⟩=some (.int .i64 x):=(blk_cell (blk_below HV8.out hb) 0).trans rfl;have hv1:w9.cell? ⟨gv,1,none⟩=some (.int .i64 y):=(blk_cell (blk_below HV8.out hb) 1).trans rfl;have hv2:w9.cell? ⟨gv,2,none⟩=some (.int .i64 z):=(blk_cell (blk_below HV8.out hb) 2).trans rfl;have hnv:gv ≠ gu:=(by have:=blk_lt HV8.out;omega);clear hb hbox hg)
            | ((with_reducible refine gate_upd (t:=88) rfl ?_);refine FoundW.update_found okf _ rfl (.tmp 21) (.tmp 37) _ rfl nb S2 rfl HN9.out (HT2.out.len HSS.out HN9.out.nodup HLA.out HLB.out) (add3 (x,y,z) (x2,y2,z2)) rfl HOK.out rfl ?_;intro w10 hs10 hg10;have HN10:=Aside0.mk hs10;have HG10:=Aside0.mk hg10;clear hs10 hg10))
          go_frame
          have hnn:b ≠ nb∧r2 ≠ nb∧a ≠ nb∧r ≠ nb∧gv ≠ nb:=by have:=HZ7.out;have:=HGV.out;have:=HZN.out;have:=HLT.out;omega
          go_roundw
          case rel=>exact ⟨_,_,HR9.out.kept HG10.out hnn.1 hnn.2.1,HRo9.out.kept HG10.out hnn.2.2.1 hnn.2.2.2.1,HN10.out,HT2.out.step HSS2.out,⟨(HG10.out.block gv (blk_lt HV9.out) (fun e=>hnn.2.2.2.2 (by injection e))).trans HV9.out⟩,Below.grown HB9.out HG10.out HB9.out.size (fun k hk=>by injection hk with hk;have:=HZN.out;omega),⟨(FoundW.left_heap (HG10.out.block a HRo9.out.lt.1 (fun e=>hnn.2.2.1 (by injection e))) (HG10.out.block r HRo9.out.lt.2 (fun e=>hnn.2.2.2.1 (by injection e)))).trans (HLo9.out.trans HLL8.out)⟩⟩
          case measure=>rw [FoundW.left_heap (HG10.out.block b HR9.out.lt.1 (fun e=>hnn.1 (by injection e))) (HG10.out.block r2 HR9.out.lt.2 (fun e=>hnn.2.1 (by injection e))),HL9.out];exact HL8.out
def dd:List FoundW.V3 → List FoundW.V3
  | []=>[]
  | x :: r=>if x ∈ dd r then dd r else x :: dd r
theorem mem_dd {s:FoundW.V3}:∀ {l:List FoundW.V3},s ∈ dd l ↔ s ∈ l
  | []=>Iff.rfl
  | x :: r=>by
    unfold dd
    split
    · rename_i h
      rw [mem_dd,List.mem_cons]
      constructor
      · exact Or.inr
      · rintro (rfl|h2)
        · exact mem_dd.1 h
        · exact h2
    · rw [List.mem_cons,List.mem_cons,mem_dd]
theorem dd_nodup:∀ l:List FoundW.V3,(dd l).Nodup
  | []=>by simp [dd]
  | x :: r=>by
    unfold dd
    split
    · exact dd_nodup r
    · rename_i h
      exact List.nodup_cons.2 ⟨h,dd_nodup r⟩
def fJoin (m:FoundW.V3) (A B:List FoundW.V3):List FoundW.V3:=dd ((A.flatMap fun v=>B.map (add3 v)).filter (inBox m))
def fBoth (A B:List FoundW.V3):List FoundW.V3:=dd (A ++ B)
theorem mem_fJoin {m s:FoundW.V3} {A B:List FoundW.V3}:s ∈ fJoin m A B ↔ (∃ v,v ∈ A∧∃ u,u ∈ B∧s=add3 v u)∧inBox m s=true:=by
  unfold fJoin
  rw [mem_dd,List.mem_filter,List.mem_flatMap]
  constructor
  · rintro ⟨⟨v,hv,h⟩,h2⟩
    obtain ⟨u,hu,rfl⟩:=List.mem_map.1 h
    exact ⟨⟨v,hv,u,hu,rfl⟩,h2⟩
  · rintro ⟨⟨v,hv,u,hu,rfl⟩,h2⟩
    exact ⟨⟨v,hv,List.mem_map.2 ⟨u,hu,rfl⟩⟩,h2⟩
theorem mem_fBoth {s:FoundW.V3} {A B:List FoundW.V3}:s ∈ fBoth A B ↔ s ∈ A ∨ s ∈ B:=by
  unfold fBoth
  rw [mem_dd,List.mem_append]
theorem fJoin_good {m:FoundW.V3} {A B:List FoundW.V3} (hA:∀ s,s ∈ A → good3 m s) (hB:∀ s,s ∈ B → good3 m s):∀ s,s ∈ fJoin m A B → good3 m s:=fun s hs=>by
  obtain ⟨⟨v,hv,u,hu,rfl⟩,h⟩:=mem_fJoin.1 hs
  obtain ⟨a1,a2,a3⟩:=(hA v hv).1
  obtain ⟨b1,b2,b3⟩:=(hB u hu).1
  exact ⟨⟨by show 0 ≤ v.1 + u.1;omega,by show 0 ≤ v.2.1 + u.2.1;omega,by show 0 ≤ v.2.2 + u.2.2;omega⟩,h⟩
theorem fBoth_good {m:FoundW.V3} {A B:List FoundW.V3} (hA:∀ s,s ∈ A → good3 m s) (hB:∀ s,s ∈ B → good3 m s):∀ s,s ∈ fBoth A B → good3 m s:=fun s hs=>by
  rcases mem_fBoth.1 hs with h|h
  · exact hA s h
  · exact hB s h
theorem sums_rep (m:FoundW.V3) (hm:mok m) (a b:Nat) (A B:List FoundW.V3) (w:World) (hA:RepF m w a A) (hB:RepF m w b B) :
    Calls Try.prog 58 #[.map (some a),.map (some b)] w fun e w'=>∃ nb S,e=.returned (.map (some nb))∧w.heap.size ≤ nb∧FoundT w' nb S∧(∀ s,s ∈ S ↔ ∃ v,v ∈ A∧∃ u,u ∈ B∧s=add3 v u)∧Below w.heap.size w w':=by
  obtain ⟨SA,hA1,hA2,hA3⟩:=hA
  obtain ⟨SB,hB1,hB2,hB3⟩:=hB
  have l1:=RepF.len hm hA1.nodup hA2 hA3
  have l2:=RepF.len hm hB1.nodup hB2 hB3
  refine (count_sums.calls a b SA SB w hA1 hB1 (fun v hv=>((hA3 v ((hA2 v).1 hv)).mok hm).small) (fun v hv=>((hB3 v ((hB2 v).1 hv)).mok hm).small) (by omega) (by omega)).mono ?_
  rintro e w' ⟨nb,S,rfl,h1,h2,h3,h4⟩
  refine ⟨nb,S,rfl,h1,h2,fun s=>?_,h4⟩
  rw [h3 s]
  constructor
  · rintro ⟨v,hv,u,hu,rfl⟩
    exact ⟨v,(hA2 v).1 hv,u,(hB2 u).1 hu,rfl⟩
  · rintro ⟨v,hv,u,hu,rfl⟩
    exact ⟨v,(hA2 v).2 hv,u,(hB2 u).2 hu,rfl⟩
theorem join_rep {m:FoundW.V3} {A B S:List FoundW.V3} {w:World} {b:Nat} (h:FoundT w b (S.filter (inBox m))) (hS:∀ s,s ∈ S ↔ ∃ v,v ∈ A∧∃ u,u ∈ B∧s=add3 v u) (hA:∀ s,s ∈ A → good3 m s) (hB:∀ s,s ∈ B → good3 m s):RepF m w b (fJoin m A B) :=
  ⟨_,h,fun s=>by rw [List.mem_filter,mem_fJoin,hS s],fJoin_good hA hB⟩
theorem RepF.good {m:FoundW.V3} {w:World} {b:Nat} {L:List FoundW.V3} (h:RepF m w b L):∀ s,s ∈ L → good3 m s:=by obtain ⟨S,_,_,h⟩:=h;exact h
set_option maxHeartbeats 4000000 in
set_option maxRecDepth 100000 in
theorem Accepts_join.calls (gm:Nat) (m1 m2 m3:Int) (hm:mok (m1,m2,m3)) (a b:Nat) (A B:List FoundW.V3) (w:World) (hbox:w.heap[gm]?=some (.cells #[.int .i64 m1,.int .i64 m2,.int .i64 m3] 86 (0,0))) (hA:RepF (m1,m2,m3) w a A) (hB:RepF (m1,m2,m3) w b B) :
    Calls Try.prog 57 #[.map (some a),.map (some b),.pointer (some ⟨gm,0,none⟩)] w fun e w'=>∃ nb,e=.returned (.map (some nb))∧RepF (m1,m2,m3) w' nb (fJoin (m1,m2,m3) A B)∧Below w.heap.size w w':=by
  have HSOF:Aside0 (∀ w',Below w.heap.size w w' → w'.cell? ⟨gm,0,none⟩=some (.int .i64 m1)∧w'.cell? ⟨gm,1,none⟩=some (.int .i64 m2)∧w'.cell? ⟨gm,2,none⟩=some (.int .i64 m3)):=⟨fun w' hb=>⟨(blk_cell (blk_below hbox hb) 0).trans rfl,(blk_cell (blk_below hbox hb) 1).trans rfl,(blk_cell (blk_below hbox hb) 2).trans rfl⟩⟩
  obtain ⟨hm0,hm1,hm2⟩:=HSOF.out w (Below.refl _ _)
  have HSUM:Aside0 (∀ W,Below w.heap.size w W → _):=⟨fun W hW=>sums_rep (m1,m2,m3) hm a b A B W (hA.below hW) (hB.below hW)⟩
  have HGA:=Aside0.mk hA.good
  have HGB:=Aside0.mk hB.good
  clear hbox hA hB
  go_enter Try.func57,Try.ntmps57
  go_wp2_with fail
  go_region_held3 (fun w'=>w'.cell? ⟨gm,0,none⟩=some (.int .i64 m1)∧w'.cell? ⟨gm,1,none⟩=some (.int .i64 m2)∧w'.cell? ⟨gm,2,none⟩=some (.int .i64 m3))
    (exact HSOF.out _ (by ((repeat (first|exact Below.refl _ _|assumption|exact HBV.out|exact HBX.out|apply Below.drew|apply below_alloc));done)))
    (first
      | (go_at_call 58;(with_reducible refine (HSUM.out _ ?bc).mono ?_);(case bc=>(repeat (first|exact Below.refl _ _|assumption|exact HBV.out|exact HBX.out|apply Below.drew|apply below_alloc)));rintro e ws ⟨nb,S,rfl,hnb,hFs,hSs,hbs⟩;have HFS:=Aside0.mk hFs;have HSS:=Aside0.mk hSs;have HBV:Aside0 (Below w.heap.size w ws):=⟨below_step (by ((repeat (first|exact Below.refl _ _|assumption|exact HBV.out|exact HBX.out|apply Below.drew|apply below_alloc));done)) hbs⟩;have HNB:Aside0 (w.heap.size ≤ nb):=⟨hnb⟩;clear hFs hSs hbs hnb)
      | (go_at_call 56;(with_reducible refine (found_within.calls nb S m1 m2 m3 _ ?hs).mono ?_);(case hs=>exact HFS.out);rintro e wx ⟨rfl,hFx,hgx⟩;have HFX:=Aside0.mk hFx;have HBX:=Aside0.mk (Below.grown HBV.out hgx HBV.out.size (fun k hk=>by injection hk with hk;have:=HNB.out;omega));clear hFx hgx)
      | fail)
  go_wp2
  go_ret
  exact ⟨nb,rfl,join_rep HFX.out HSS.out HGA.out HGB.out,HBX.out⟩
def BothTo (A B S:List FoundW.V3) (i:Nat):Prop:=∀ s,s ∈ S ↔ (1 ≤ i∧s ∈ A) ∨ (2 ≤ i∧s ∈ B)
def BothIn (A B S:List FoundW.V3) (i:Nat) (C:List FoundW.V3) (L:FoundW.V3 → Bool):Prop:=∀ s,s ∈ S ↔ ((1 ≤ i∧s ∈ A) ∨ (2 ≤ i∧s ∈ B)) ∨ (s ∈ C∧L s=false)
theorem BothIn.step {A B S C:List FoundW.V3} {i:Nat} {L:FoundW.V3 → Bool} (h:BothIn A B S i C L) {c:FoundW.V3} (hc:c ∈ C):BothIn A B (FoundW.ins S c) i C (fun z=>L z && !decide (z=c)):=fun s=>by
  rw [FoundW.mem_ins,h s]
  by_cases e:s=c
  · subst e;simp [hc]
  · simp [e]
theorem BothIn.len {A B S C:List FoundW.V3} {i:Nat} {L:FoundW.V3 → Bool} (h:BothIn A B S i C L) (hn:S.Nodup) (hC:C=A ∨ C=B) (ha:A.length ≤ 10000) (hb:B.length ≤ 10000):S.length < maxLen:=by
  have h1:S.length ≤ (A ++ B).length:=nodup_len3 _ _ hn (fun s hs=>by
    rw [List.mem_append]
    rcases (h s).1 hs with (⟨_,q⟩|⟨_,q⟩)|⟨q,_⟩
    · exact .inl q
    · exact .inr q
    · rcases hC with rfl|rfl
      · exact .inl q
      · exact .inr q)
  rw [List.length_append] at h1
  unfold maxLen;omega
theorem BothIn.doneA {A B S:List FoundW.V3} {L:FoundW.V3 → Bool} (h:BothIn A B S 0 A L) (hL:∀ u,u ∈ A → L u=false):BothTo A B S 1:=fun s=>by
  rw [h s]
  constructor
  · rintro ((⟨h,_⟩|⟨h,_⟩)|⟨h,_⟩)
    · omega
    · omega
    · exact .inl ⟨by omega,h⟩
  · rintro (⟨_,h⟩|⟨h,_⟩)
    · exact .inr ⟨h,hL s h⟩
    · omega
theorem BothIn.doneB {A B S:List FoundW.V3} {L:FoundW.V3 → Bool} (h:BothIn A B S 1 B L) (hL:∀ u,u ∈ B → L u=false):BothTo A B S 2:=fun s=>by
  rw [h s]
  constructor
  · rintro ((⟨_,h⟩|⟨h,_⟩)|⟨h,_⟩)
    · exact .inl ⟨by omega,h⟩
    · omega
    · exact .inr ⟨by omega,h⟩
  · rintro (⟨_,h⟩|⟨_,h⟩)
    · exact .inl (.inl ⟨by omega,h⟩)
    · exact .inr ⟨h,hL s h⟩
theorem BothTo.start {A B S:List FoundW.V3} {i:Nat} (h:BothTo A B S i) (C:List FoundW.V3):BothIn A B S i C (fun s=>decide (s ∈ C)):=fun s=>by
  rw [h s]
  constructor
  · exact Or.inl
  · rintro (h|⟨h1,h2⟩)
    · exact h
    · simp [h1] at h2
theorem lit_event {P:Program} {ops:Array Oper} {rest:List Oper} {o:Oper} {a:Act} {Q:Exit → Act → World → Prop} {W:World} (hgd:o.guard=none) {N:Tmp} (_hd:o.dst=some N) {cs:Array Value} {t:TypeId} {n m:Nat}
    (hrun:(execOp a.eval o).run P W=.ok (.value (.slice (some ⟨W.heap.size,0,none⟩) n m)) (W.alloc (.cells cs t)))
    (h:∀ g,W.heap.size=g → ∀ w1,w1.heap[g]?=some (.cells cs t (0,0)) → Below W.heap.size W w1 → wpList P ops Q rest (a.put o.dst (.slice (some ⟨g,0,none⟩) n m)) w1):wpList P ops Q (o :: rest) a W :=
  Kd.event_run hgd hrun (h _ rfl _ (blk_new W _) (below_alloc (Below.refl _ _) _))
set_option maxHeartbeats 4000000 in
set_option maxRecDepth 100000 in
theorem count_both.calls (a b:Nat) (A B:List FoundW.V3) (w:World) (hA:FoundT w a A) (hB:FoundT w b B) (hlA:A.length ≤ 10000) (hlB:B.length ≤ 10000) :
    Calls Try.prog 59 #[.map (some a),.map (some b)] w fun e w'=>∃ nb S,e=.returned (.map (some nb))∧w.heap.size ≤ nb∧FoundT w' nb S∧(∀ s,s ∈ S ↔ s ∈ A ∨ s ∈ B)∧Below w.heap.size w w':=by
  have HA:=Aside0.mk hA
  have HBB:=Aside0.mk hB
  have HLT:Aside0 (a < w.heap.size∧b < w.heap.size):=⟨hA.lt,hB.lt⟩
  have HLA:=Aside0.mk hlA
  have HLB:=Aside0.mk hlB
  clear hA hB hlA hlB
  go_enter Try.func59,Try.ntmps59
  go_wp2_with (first
    | ((with_reducible refine gate_dst (N:=9) rfl ?_);refine FoundW.made_found _ rfl 88 86 4 rfl ?_;intro nb w1 hz1 hs1 hb1;have HN:=Aside0.mk hs1;have HB1:=Aside0.mk hb1;have HZ1:=Aside0.mk hz1;clear hs1 hb1 hz1)
    | ((with_reducible refine gate_dst (N:=12) rfl ?_);refine lit_event ?hg (N:=12) ?hd (cs:=#[.map (some a),.map (some b)]) (t:=88) (n:=2) (m:=2) ?hr ?_;(case hd=>rfl);(case hg=>rfl);(case hr=>first|(go_simp;done)|(go_simp;rfl));intro gl hgl w2 hbl hb2;have HLI:=Aside0.mk hbl;have HN2:=Aside0.mk (HN.out.below hb2);have HB2:=Aside0.mk (below_step HB1.out hb2);have HZN:Aside0 (w.heap.size ≤ nb∧nb < gl):=⟨by have:=HN.out.lt;have:=HZ1.out;omega⟩;clear hgl hbl hb2)
    | go_in)
  try go_frame
  go_loopw [14] (fun v14 wr=>∃ (i:Nat) (S:List FoundW.V3),(v14=.int .i64 0∧i=0 ∨ v14=.int .i64 1∧i=1 ∨ v14=.int .i64 2∧i=2)∧FoundT wr nb S∧BothTo A B S i∧Aside0 (wr.heap[gl]?=some (.cells #[.map (some a),.map (some b)] 88 (0,0)))∧Below w.heap.size w wr) (fun v14 _=>2 - (intOf v14).toNat)
  case atStart=>exact ⟨0,[],.inl ⟨rfl,rfl⟩,HN2.out,fun s=>⟨fun h=>by simp at h,fun h=>by omega⟩,HLI,HB2.out⟩
  case round =>
    clear HN2 HB2 HN HB1 HZ1 HLI
    obtain ⟨i,S,hi,hN,hT,hLI,hB⟩:=hrel
    have HN:=Aside0.mk hN
    have HT:=Aside0.mk hT
    have HB:=Aside0.mk hB
    clear hN hT hB
    have hc0:wr.cell? ⟨gl,0,none⟩=some (.map (some a)):=(blk_cell hLI.out 0).trans rfl
    have hc1:wr.cell? ⟨gl,1,none⟩=some (.map (some b)):=(blk_cell hLI.out 1).trans rfl
    rcases hi with ⟨rfl,rfl⟩|⟨rfl,rfl⟩|⟨rfl,rfl⟩
    · go_wp2_with (first
        | ((with_reducible refine gate_dst (N:=19) rfl ?_);refine FoundW.range_found okf _ rfl (.tmp 18) rfl a A rfl (HA.out.below HB.out) ?_;intro r w3 hr hrg hb3;have HR:=Aside0.mk hrg;have HN3:=Aside0.mk (HN.out.below hb3);have HL3:=Aside0.mk (blk_below hLI.out hb3);have HB3:=Aside0.mk (below_step HB.out hb3);have HZR:Aside0 (gl < r):=⟨by have:=blk_lt hLI.out;omega⟩;clear hr hrg hb3)
        | go_in)
      go_frame
      go_loopw [] (fun wq=>∃ (L:FoundW.V3 → Bool) (S2:List FoundW.V3),RangeT wq a r A L∧FoundT wq nb S2∧BothIn A B S2 0 A L∧Aside0 (wq.heap[gl]?=some (.cells #[.map (some a),.map (some b)] 88 (0,0)))∧Below w.heap.size w wq) (fun wq=>wq.rangeLeft a r)
      case atStart=>exact ⟨_,S,HR.out,HN3.out,HT.out.start _,HL3,HB3.out⟩
      case round =>
        clear HR HN3 HL3 HB3 HN HB hc0 hc1 hLI
        obtain ⟨L,S2,hR,hN,hT2,hLI,hB⟩:=hrel
        have HR:=Aside0.mk hR
        have HN:=Aside0.mk hN
        have HT2:=Aside0.mk hT2
        have HB:=Aside0.mk hB
        clear hR hN hT2 hB
        go_wp2_with (first
          | (at_next;refine FoundW.next_found okf _ rfl (.tmp 19) rfl a r _ L rfl HR.out (fun hall=>stop_ ?_) (fun s c w8 hok hsS hsL hr8 hl8 hg8 hz8 hen=>stop_ ?_))
          | go_in)
        · delta Stop
          have HAL:=Aside0.mk hall
          clear hall
          go_wp2
          go_roundw
          case rel=>exact ⟨1,S2,.inr (.inl ⟨rfl,rfl⟩),HN.out,HT2.out.doneA (fun u hu=>HAL.out u (HR.out.found.ok u hu)),hLI,HB.out⟩
          case measure=>simp [intOf]
        · delta Stop
          obtain ⟨x,y,z⟩:=s
          simp only [FoundW.vec3] at hen
          have HR8:=Aside0.mk hr8
          have HL8:=Aside0.mk hl8
          have hzz:=HZR.out
          have HN8:=Aside0.mk (HN.out.kept hg8 (by have:=HZN.out;omega))
          have HI8:=Aside0.mk ((hg8.block gl (blk_lt hLI.out) (fun e=>by injection e with e;omega)).trans hLI.out)
          have HBB8:=Aside0.mk (Below.grown HB.out hg8 HB.out.size (fun k hk=>by injection hk with hk;have:=HZN.out;omega))
          have HSS:=Aside0.mk hsS
          have HOK:=Aside0.mk hok
          clear hr8 hl8 hg8 hz8 hsL hsS hok hzz
          go_wp2_with (first
            | ((with_reducible refine gate_dst (N:=8) rfl ?_);refine box_event ?hg (N:=8) ?hd (cs:=#[.int .i64 0,.int .i64 0,.int .i64 0]) (t:=86) ?hr ?_;(case hd=>rfl);(case hg=>rfl);(case hr=>first|(go_simp;done)|(go_simp;rfl));intro gu hg w9 hbox hb;have HR9:=Aside0.mk (range_set3 x y z HR8.out hb hg);have HN9:=Aside0.mk (found_set3 x y z HN8.out hb hg);have HL9:=Aside0.mk (left_set3 x y z HR8.out hb hg);have HI9:=Aside0.mk (mem_set3 x y z HI8.out hb hg);have HB9:=Aside0.mk (below_set3 x y z HBB8.out hb hg);have hcz0:w9.cell? ⟨gu,0,none⟩=some (.int .i64 0):=(blk_cell hbox 0).trans rfl;have hcz1:w9.cell? ⟨gu,1,none⟩=some (.int .i64 0):=(blk_cell hbox 1).trans rfl;have hcz2:w9.cell? ⟨gu,2,none⟩=some (.int .i64 0):=(blk_cell hbox 2).trans rfl;have hcf0:w9.frozen? ⟨gu,0,none⟩=false:=blk_frozen hbox 0;have hcf1:w9.frozen? ⟨gu,1,none⟩=false:=blk_frozen hbox 1;have hcf2:w9.frozen? ⟨gu,2,none⟩=false:=blk_frozen hbox 2;clear hb hbox hg)
            | ((with_reducible refine gate_upd (t:=88) rfl ?_);refine FoundW.update_found okf _ rfl (.tmp 24) (.tmp 25) _ rfl nb S2 rfl HN9.out (HT2.out.len HN9.out.nodup (.inl rfl) HLA.out HLB.out) (x,y,z) rfl HOK.out rfl ?_;intro w10 hs10 hg10;have HN10:=Aside0.mk hs10;have HG10:=Aside0.mk hg10;clear hs10 hg10))
          go_frame
          have hnn:a ≠ nb∧r ≠ nb∧gl ≠ nb:=by have:=HZR.out;have:=HZN.out;have:=HLT.out;omega
          go_roundw
          case rel=>exact ⟨_,_,HR9.out.kept HG10.out hnn.1 hnn.2.1,HN10.out,HT2.out.step HSS.out,⟨(HG10.out.block gl (blk_lt HI9.out) (fun e=>hnn.2.2 (by injection e))).trans HI9.out⟩,Below.grown HB9.out HG10.out HB9.out.size (fun k hk=>by injection hk with hk;have:=HZN.out;omega)⟩
          case measure=>rw [FoundW.left_heap (HG10.out.block a HR9.out.lt.1 (fun e=>hnn.1 (by injection e))) (HG10.out.block r HR9.out.lt.2 (fun e=>hnn.2.1 (by injection e))),HL9.out];exact HL8.out
    · go_wp2_with (first
        | ((with_reducible refine gate_dst (N:=19) rfl ?_);refine FoundW.range_found okf _ rfl (.tmp 18) rfl b B rfl (HBB.out.below HB.out) ?_;intro r w3 hr hrg hb3;have HR:=Aside0.mk hrg;have HN3:=Aside0.mk (HN.out.below hb3);have HL3:=Aside0.mk (blk_below hLI.out hb3);have HB3:=Aside0.mk (below_step HB.out hb3);have HZR:Aside0 (gl < r):=⟨by have:=blk_lt hLI.out;omega⟩;clear hr hrg hb3)
        | go_in)
      go_frame
      go_loopw [] (fun wq=>∃ (L:FoundW.V3 → Bool) (S2:List FoundW.V3),RangeT wq b r B L∧FoundT wq nb S2∧BothIn A B S2 1 B L∧Aside0 (wq.heap[gl]?=some (.cells #[.map (some a),.map (some b)] 88 (0,0)))∧Below w.heap.size w wq) (fun wq=>wq.rangeLeft b r)
      case atStart=>exact ⟨_,S,HR.out,HN3.out,HT.out.start _,HL3,HB3.out⟩
      case round =>
        clear HR HN3 HL3 HB3 HN HB hc0 hc1 hLI
        obtain ⟨L,S2,hR,hN,hT2,hLI,hB⟩:=hrel
        have HR:=Aside0.mk hR
        have HN:=Aside0.mk hN
        have HT2:=Aside0.mk hT2
        have HB:=Aside0.mk hB
        clear hR hN hT2 hB
        go_wp2_with (first
          | (at_next;refine FoundW.next_found okf _ rfl (.tmp 19) rfl b r _ L rfl HR.out (fun hall=>stop_ ?_) (fun s c w8 hok hsS hsL hr8 hl8 hg8 hz8 hen=>stop_ ?_))
          | go_in)
        · delta Stop
          have HAL:=Aside0.mk hall
          clear hall
          go_wp2
          go_roundw
          case rel=>exact ⟨2,S2,.inr (.inr ⟨rfl,rfl⟩),HN.out,HT2.out.doneB (fun u hu=>HAL.out u (HR.out.found.ok u hu)),hLI,HB.out⟩
          case measure=>simp [intOf]
        · delta Stop
          obtain ⟨x,y,z⟩:=s
          simp only [FoundW.vec3] at hen
          have HR8:=Aside0.mk hr8
          have HL8:=Aside0.mk hl8
          have hzz:=HZR.out
          have HN8:=Aside0.mk (HN.out.kept hg8 (by have:=HZN.out;omega))
          have HI8:=Aside0.mk ((hg8.block gl (blk_lt hLI.out) (fun e=>by injection e with e;omega)).trans hLI.out)
          have HBB8:=Aside0.mk (Below.grown HB.out hg8 HB.out.size (fun k hk=>by injection hk with hk;have:=HZN.out;omega))
          have HSS:=Aside0.mk hsS
          have HOK:=Aside0.mk hok
          clear hr8 hl8 hg8 hz8 hsL hsS hok hzz
          go_wp2_with (first
            | ((with_reducible refine gate_dst (N:=8) rfl ?_);refine box_event ?hg (N:=8) ?hd (cs:=#[.int .i64 0,.int .i64 0,.int .i64 0]) (t:=86) ?hr ?_;(case hd=>rfl);(case hg=>rfl);(case hr=>first|(go_simp;done)|(go_simp;rfl));intro gu hg w9 hbox hb;have HR9:=Aside0.mk (range_set3 x y z HR8.out hb hg);have HN9:=Aside0.mk (found_set3 x y z HN8.out hb hg);have HL9:=Aside0.mk (left_set3 x y z HR8.out hb hg);have HI9:=Aside0.mk (mem_set3 x y z HI8.out hb hg);have HB9:=Aside0.mk (below_set3 x y z HBB8.out hb hg);have hcz0:w9.cell? ⟨gu,0,none⟩=some (.int .i64 0):=(blk_cell hbox 0).trans rfl;have hcz1:w9.cell? ⟨gu,1,none⟩=some (.int .i64 0):=(blk_cell hbox 1).trans rfl;have hcz2:w9.cell? ⟨gu,2,none⟩=some (.int .i64 0):=(blk_cell hbox 2).trans rfl;have hcf0:w9.frozen? ⟨gu,0,none⟩=false:=blk_frozen hbox 0;have hcf1:w9.frozen? ⟨gu,1,none⟩=false:=blk_frozen hbox 1;have hcf2:w9.frozen? ⟨gu,2,none⟩=false:=blk_frozen hbox 2;clear hb hbox hg)
            | ((with_reducible refine gate_upd (t:=88) rfl ?_);refine FoundW.update_found okf _ rfl (.tmp 24) (.tmp 25) _ rfl nb S2 rfl HN9.out (HT2.out.len HN9.out.nodup (.inr rfl) HLA.out HLB.out) (x,y,z) rfl HOK.out rfl ?_;intro w10 hs10 hg10;have HN10:=Aside0.mk hs10;have HG10:=Aside0.mk hg10;clear hs10 hg10))
          go_frame
          have hnn:b ≠ nb∧r ≠ nb∧gl ≠ nb:=by have:=HZR.out;have:=HZN.out;have:=HLT.out;omega
          go_roundw
          case rel=>exact ⟨_,_,HR9.out.kept HG10.out hnn.1 hnn.2.1,HN10.out,HT2.out.step HSS.out,⟨(HG10.out.block gl (blk_lt HI9.out) (fun e=>hnn.2.2 (by injection e))).trans HI9.out⟩,Below.grown HB9.out HG10.out HB9.out.size (fun k hk=>by injection hk with hk;have:=HZN.out;omega)⟩
          case measure=>rw [FoundW.left_heap (HG10.out.block b HR9.out.lt.1 (fun e=>hnn.1 (by injection e))) (HG10.out.block r HR9.out.lt.2 (fun e=>hnn.2.1 (by injection e))),HL9.out];exact HL8.out
    · go_wp2
      go_ret
      refine ⟨nb,S,rfl,HZN.out.1,HN.out,fun s=>?_,HB.out⟩
      rw [HT.out s]
      simp
theorem both_rep (m:FoundW.V3) (hm:mok m) (a b:Nat) (A B:List FoundW.V3) (w:World) (hA:RepF m w a A) (hB:RepF m w b B) :
    Calls Try.prog 59 #[.map (some a),.map (some b)] w fun e w'=>∃ nb,e=.returned (.map (some nb))∧w.heap.size ≤ nb∧RepF m w' nb (fBoth A B)∧Below w.heap.size w w':=by
  obtain ⟨SA,hA1,hA2,hA3⟩:=hA
  obtain ⟨SB,hB1,hB2,hB3⟩:=hB
  have l1:=RepF.len hm hA1.nodup hA2 hA3
  have l2:=RepF.len hm hB1.nodup hB2 hB3
  refine (count_both.calls a b SA SB w hA1 hB1 (by omega) (by omega)).mono ?_
  rintro e w' ⟨nb,S,rfl,h1,h2,h3,h4⟩
  refine ⟨nb,rfl,h1,⟨S,h2,fun s=>?_,fBoth_good hA3 hB3⟩,h4⟩
  rw [h3 s,mem_fBoth,hA2 s,hB2 s]
def fStar (m:FoundW.V3) (A:List FoundW.V3):Nat → List FoundW.V3 → Option (List FoundW.V3)
  | 0,_=>none
  | k + 1,O=>if (fBoth O (fJoin m O A)).length=O.length then some O else fStar m A k (fBoth O (fJoin m O A))
theorem fStar.mono (m:FoundW.V3) (A:List FoundW.V3):∀ k O,LeO (fStar m A k O) (fStar m A (k + 1) O)
  | 0,O=>fun r h=>by simp [fStar] at h
  | k + 1,O=>by
    intro r h
    rw [fStar] at h ⊢
    split
    · rename_i h2
      rw [if_pos h2] at h
      exact h
    · rename_i h2
      rw [if_neg h2] at h
      exact fStar.mono m A k _ r h
def mapSz (w:World) (v:Value):Nat:=match v with|.map (some b)=>(match w.heap[b]? with|some (.map es _)=>es.size|_=>0)|_=>0
open Go.Maps Go.WideMaps in
theorem mapSz_of {w:World} {b:Nat} {S:List FoundW.V3} (h:FoundT w b S):mapSz w (.map (some b))=S.length:=by
  obtain ⟨D,⟨es,clock,hb,F,hs,rfl⟩,h2⟩:=h
  have:=h2.size
  unfold mapSz
  simp only [hb]
  simpa [Maps.size,length_sorted] using this
theorem sz_rep {m:FoundW.V3} {w:World} {b:Nat} {L:List FoundW.V3} (h:RepF m w b L) (hn:L.Nodup):∃ S,FoundT w b S∧(∀ s,s ∈ S ↔ s ∈ L)∧S.length=L.length:=by
  obtain ⟨S,h1,h2,h3⟩:=h
  refine ⟨S,h1,h2,Nat.le_antisymm ?_ ?_⟩
  · exact nodup_len3 _ _ h1.nodup (fun s hs=>(h2 s).1 hs)
  · exact nodup_len3 _ _ hn (fun s hs=>(h2 s).2 hs)
theorem fBoth_len (A B:List FoundW.V3) (hA:A.Nodup):A.length ≤ (fBoth A B).length:=nodup_len3 _ _ hA (fun s hs=>mem_fBoth.2 (.inl hs))
theorem zero_good {m:FoundW.V3} (hm:mok m):∀ s,s ∈ ([(0,0,0)]:List FoundW.V3) → good3 m s:=fun s hs=>by
  obtain rfl:s=(0,0,0):=by simpa using hs
  exact ⟨⟨by decide,by decide,by decide⟩,decide_eq_true ⟨hm.1.1,hm.2.1.1,hm.2.2.1⟩⟩
theorem gate_ins {P:Program} {w:World} {ops:Array Oper} {rest:List Oper} {o:Oper} {a:Act} {Q:Exit → Act → World → Prop} {t:TypeId} {m x v:Operand} (_ho:o.op=.insert t m x v) (h:wpList P ops Q (o :: rest) a w):wpList P ops Q (o :: rest) a w:=h
set_option maxHeartbeats 4000000 in
set_option maxRecDepth 100000 in
theorem Accepts_star.calls (k gm:Nat) (m1 m2 m3:Int) (hm:mok (m1,m2,m3)) (a:Nat) (A r:List FoundW.V3) (w:World) (hbox:w.heap[gm]?=some (.cells #[.int .i64 m1,.int .i64 m2,.int .i64 m3] 86 (0,0))) (hA:RepF (m1,m2,m3) w a A) (h:fStar (m1,m2,m3) A k [(0,0,0)]=some r) :
    Calls Try.prog 60 #[.map (some a),.pointer (some ⟨gm,0,none⟩)] w fun e w'=>∃ nb,e=.returned (.map (some nb))∧RepF (m1,m2,m3) w' nb r∧Below w.heap.size w w':=by
  have HM:=Aside0.mk hbox
  have HMO:=Aside0.mk hm
  have HA:=Aside0.mk hA
  have HR:=Aside0.mk h
  clear hbox hm hA h
  go_enter Try.func60,Try.ntmps60
  go_wp2_with (first
    | ((with_reducible refine gate_dst (N:=6) rfl ?_);refine FoundW.made_found _ rfl 88 86 4 rfl ?_;intro nb w1 hz1 hs1 hb1;have HN:=Aside0.mk hs1;have HB1:=Aside0.mk hb1;have HZ1:=Aside0.mk hz1;clear hs1 hb1 hz1)
    | ((with_reducible refine gate_ins (t:=88) rfl ?_);refine FoundW.insert_found okf _ rfl (.tmp 6) (.tmp 7) _ rfl nb [] rfl HN.out (by decide) (0,0,0) rfl (by have h:=unit3_ok (-1);simpa [unit3] using h) rfl ?_;intro w2 hs2 hg2;have HN2:=Aside0.mk (show FoundT w2 nb [(0,0,0)] from by rw [ins_nil] at hs2;exact hs2);have HB2:=Aside0.mk (Below.grown HB1.out hg2 HB1.out.size (fun k hk=>by injection hk with hk;have:=HZ1.out;omega));clear hs2 hg2)
    | go_in)
  go_loopw [4] (fun v4 wr=>∃ (kq bo:Nat) (O:List FoundW.V3),v4=.map (some bo)∧Aside0 (fStar (m1,m2,m3) A kq O=some r)∧Aside0 (O.Nodup)∧Aside0 (RepF (m1,m2,m3) wr bo O)∧Aside0 (Below w.heap.size w wr)) (fun v4 wr=>1000 - mapSz wr v4)
  case atStart=>exact ⟨k,nb,[(0,0,0)],rfl,HR,⟨by simp⟩,⟨[(0,0,0)],HN2.out,fun s=>Iff.rfl,zero_good HMO.out⟩,HB2⟩
  case round =>
    clear HN HB1 HZ1 HN2 HB2 HR
    obtain ⟨kq,bo,O,rfl,HR,HND,HO,HB⟩:=hrel
    cases kq with
    | zero=>have:=HR.out;simp [fStar] at this
    | succ kq =>
    have HSOF:Aside0 (∀ w',Below wr.heap.size wr w' → w'.cell? ⟨gm,0,none⟩=some (.int .i64 m1)∧w'.cell? ⟨gm,1,none⟩=some (.int .i64 m2)∧w'.cell? ⟨gm,2,none⟩=some (.int .i64 m3)):=⟨fun w' hb=>⟨(blk_cell (blk_below (blk_below HM.out HB.out) hb) 0).trans rfl,(blk_cell (blk_below (blk_below HM.out HB.out) hb) 1).trans rfl,(blk_cell (blk_below (blk_below HM.out HB.out) hb) 2).trans rfl⟩⟩
    obtain ⟨hm0,hm1,hm2⟩:=HSOF.out wr (Below.refl _ _)
    have HSUM:Aside0 (∀ W,Below wr.heap.size wr W → _):=⟨fun W hW=>sums_rep (m1,m2,m3) HMO.out bo a O A W (HO.out.below hW) ((HA.out.below HB.out).below hW)⟩
    have HBOTH:Aside0 (∀ (nb:Nat) (N:List FoundW.V3) W,Below wr.heap.size wr W → RepF (m1,m2,m3) W nb N → _):=⟨fun nb N W hW hN=>both_rep (m1,m2,m3) HMO.out bo nb O N W (HO.out.below hW) hN⟩
    have HGO:=Aside0.mk HO.out.good
    have HGA:=Aside0.mk HA.out.good
    go_wp2_with fail
    go_region_held3 (fun w'=>w'.cell? ⟨gm,0,none⟩=some (.int .i64 m1)∧w'.cell? ⟨gm,1,none⟩=some (.int .i64 m2)∧w'.cell? ⟨gm,2,none⟩=some (.int .i64 m3))
      (exact HSOF.out _ (by ((repeat (first|exact Below.refl _ _|assumption|exact HBV.out|exact HBX.out|exact HBY.out|apply Below.drew|apply below_alloc));done)))
      (first
        | (go_at_call 58;(with_reducible refine (HSUM.out _ ?bc).mono ?_);(case bc=>(repeat (first|exact Below.refl _ _|assumption|exact HBV.out|exact HBX.out|exact HBY.out|apply Below.drew|apply below_alloc)));rintro e ws ⟨nb,S,rfl,hnb,hFs,hSs,hbs⟩;have HFS:=Aside0.mk hFs;have HSS:=Aside0.mk hSs;have HBV:Aside0 (Below wr.heap.size wr ws):=⟨below_step (by ((repeat (first|exact Below.refl _ _|assumption|exact HBV.out|exact HBX.out|exact HBY.out|apply Below.drew|apply below_alloc));done)) hbs⟩;have HNB:Aside0 (wr.heap.size ≤ nb):=⟨hnb⟩;clear hFs hSs hbs hnb)
        | (go_at_call 56;(with_reducible refine (found_within.calls nb S m1 m2 m3 _ ?hs).mono ?_);(case hs=>exact HFS.out);rintro e wx ⟨rfl,hFx,hgx⟩;have HFX:=Aside0.mk (join_rep hFx HSS.out HGO.out HGA.out);have HBX:=Aside0.mk (Below.grown HBV.out hgx HBV.out.size (fun k hk=>by injection hk with hk;have:=HNB.out;omega));clear hFx hgx)
        | (go_at_call 59;(with_reducible refine (HBOTH.out nb (fJoin (m1,m2,m3) O A) _ ?bc ?hn).mono ?_);(case bc=>(repeat (first|exact Below.refl _ _|assumption|exact HBV.out|exact HBX.out|exact HBY.out|apply Below.drew|apply below_alloc)));(case hn=>exact HFX.out);rintro e wy ⟨ny,rfl,hny,hRy,hby⟩;have HRY:=Aside0.mk hRy;have HBY:Aside0 (Below wr.heap.size wr wy):=⟨below_step (by ((repeat (first|exact Below.refl _ _|assumption|exact HBV.out|exact HBX.out|exact HBY.out|apply Below.drew|apply below_alloc));done)) hby⟩;clear hRy hby)
        | fail)
    obtain ⟨N,hN⟩:∃ N,N=fBoth O (fJoin (m1,m2,m3) O A):=⟨_,rfl⟩
    have hNN:N.Nodup:=by rw [hN];exact dd_nodup _
    have hNL:O.length ≤ N.length:=by rw [hN];exact fBoth_len _ _ HND.out
    rw [← hN] at HRY
    have hst:=HR.out
    rw [fStar,← hN] at hst
    obtain ⟨S1,hF1,hM1,hL1⟩:=sz_rep HRY.out hNN
    obtain ⟨S2,hF2,hM2,hL2⟩:=sz_rep (HO.out.below HBY.out) HND.out
    have hsz:S1.length ≤ 729:=RepF.len HMO.out hF1.nodup hM1 HRY.out.good
    have HSZ:=Aside0.mk hsz
    have HNN:=Aside0.mk hNN
    have HLL:=Aside0.mk (And.intro hL1 hL2)
    have HFF:=Aside0.mk (And.intro hF1 hF2)
    have HNL:=Aside0.mk hNL
    have HF0:Aside0 (∃ S0,FoundT wr bo S0∧S0.length=O.length):=⟨by obtain ⟨S0,a1,_,a3⟩:=sz_rep HO.out HND.out;exact ⟨S0,a1,a3⟩⟩
    clear hN hNN hNL hF1 hM1 hL1 hF2 hM2 hL2 hsz
    by_cases he:N.length=O.length
    · rw [if_pos he] at hst
      obtain rfl:=Option.some.inj hst
      have hd1:((S1.length:Int) == (S2.length:Int))=true:=beq_iff_eq.mpr (by have:=HLL.out;omega)
      have hd2:(S1.length == S2.length)=true:=beq_iff_eq.mpr (by have:=HLL.out;omega)
      clear hst he
      go_wp2_with (first
        | ((with_reducible refine gate_builtin (b:=.len) (xs:=#[.tmp 16]) rfl ?_);refine FoundW.len_found okf _ rfl (.tmp 16) rfl ny S1 rfl HFF.out.1 ?_)
        | ((with_reducible refine gate_builtin (b:=.len) (xs:=#[.tmp 18]) rfl ?_);refine FoundW.len_found okf _ rfl (.tmp 18) rfl bo S2 rfl HFF.out.2 ?_))
      go_ret
      exact ⟨bo,rfl,HO.out.below HBY.out,below_step HB.out HBY.out⟩
    · rw [if_neg he] at hst
      have HST:=Aside0.mk hst
      have HNE:=Aside0.mk he
      have hd1:((S1.length:Int) == (S2.length:Int))=false:=beq_eq_false_iff_ne.mpr (by have:=HLL.out;omega)
      have hd2:(S1.length == S2.length)=false:=beq_eq_false_iff_ne.mpr (by have:=HLL.out;omega)
      clear hst he
      go_wp2_with (first
        | ((with_reducible refine gate_builtin (b:=.len) (xs:=#[.tmp 16]) rfl ?_);refine FoundW.len_found okf _ rfl (.tmp 16) rfl ny S1 rfl HFF.out.1 ?_)
        | ((with_reducible refine gate_builtin (b:=.len) (xs:=#[.tmp 18]) rfl ?_);refine FoundW.len_found okf _ rfl (.tmp 18) rfl bo S2 rfl HFF.out.2 ?_))
      go_roundw
      case rel=>exact ⟨kq,ny,N,rfl,HST,HNN,HRY,⟨below_step HB.out HBY.out⟩⟩
      case measure =>
        obtain ⟨S0,g1,g2⟩:=HF0.out
        rw [mapSz_of HFF.out.1,mapSz_of g1]
        have:=HLL.out;have:=HNL.out;have:=HNE.out;have:=HSZ.out
        omega
-- NOT PRINTED: function 113 (bytealg_IndexByteString)
set_option maxHeartbeats 1000000 in
set_option maxRecDepth 100000 in
theorem slite_IndexByte.calls (s:ByteArray) (c:Int) (w:World) :
    Calls Try.prog 106 #[.string s,.int .u8 c] w fun e w'=>e=.returned (.int .i64 (Lib.indexByte s.data.toList c.toNat.toUInt8))∧w'=w:=by
  go_enter Try.func106,Try.ntmps106
  go_wp2
  rw [run_callFunc_extern Try.func113 (by kernel_rfl) (by kernel_rfl) (by kernel_rfl) (e:=Extern.BytealgIndexByte.indexByte) (by kernel_rfl),Lib.run_indexByteString]
  simp only [Result.andThen]
  rw [Oper.upon_value]
  go_wp2
  go_ret
  exact ⟨rfl,rfl⟩
set_option maxHeartbeats 1000000 in
set_option maxRecDepth 100000 in
theorem strings_IndexByte.calls (s:ByteArray) (c:Int) (w:World) :
    Calls Try.prog 91 #[.string s,.int .u8 c] w fun e w'=>e=.returned (.int .i64 (Lib.indexByte s.data.toList c.toNat.toUInt8))∧w'=w:=by
  go_enter Try.func91,Try.ntmps91
  go_wp2_with (go_at_call 106;refine (slite_IndexByte.calls _ _ _).mono ?_;rintro e w' ⟨rfl,rfl⟩)
  go_ret
  exact ⟨rfl,rfl⟩
abbrev kmap:Kd Nat:=Kd.scalar (fun b:Nat=>Value.map (some b)) (fun _=>rfl)
def RowT (w wr:World) (v:Value) (bs:List Nat):Prop:=kmap.R 88 wr w.heap.size (fun _=>True) v bs
def Reps3 (m:FoundW.V3) (w:World) (bs:List Nat) (st:List (List FoundW.V3)):Prop:=bs.length=st.length∧∀ (j b:Nat) (L:List FoundW.V3),bs[j]?=some b → st[j]?=some L → RepF m w b L
def runF (k:Nat) (m:FoundW.V3):List UInt8 → List (List FoundW.V3) → Option (Option (List FoundW.V3)):=Mach.run (fun i=>some (fLetter m i)) (fun a b=>some (fJoin m a b)) (fun a b=>some (fBoth a b)) (fun a=>fStar m a k [(0,0,0)])
theorem info88m:(Try.prog.info? 88).map (fun i=>(i.zero,i.size,i.bytes))=some (some (.map none),1,8):=by kernel_rfl
theorem RepF.grown {m:FoundW.V3} {w w':World} {b:Nat} {L:List FoundW.V3} {row:Option Nat} (h:RepF m w b L) (hg:w.grownBy w' row) (ht:∀ g,row=some g → ∃ cells,w.heap[g]?=some (.cells cells 88 (0,0))):RepF m w' b L:=by
  obtain ⟨S,h1,h2⟩:=h
  refine ⟨S,h1.heap (hg.block b h1.lt (fun e=>?_)),h2⟩
  obtain ⟨cells,hc⟩:=ht b e.symm
  obtain ⟨D,⟨es,clock,hb,_⟩,_⟩:=h1
  rw [hb] at hc
  cases hc
theorem Reps3.below {m:FoundW.V3} {w w':World} {bs:List Nat} {st:List (List FoundW.V3)} (h:Reps3 m w bs st) (hb:Below w.heap.size w w'):Reps3 m w' bs st:=⟨h.1,fun j b L h1 h2=>(h.2 j b L h1 h2).below hb⟩
theorem Reps3.push {m:FoundW.V3} {w w':World} {bs:List Nat} {st:List (List FoundW.V3)} {b:Nat} {L:List FoundW.V3} {row:Option Nat} (h:Reps3 m w bs st) (hb:RepF m w b L) (hg:w.grownBy w' row) (ht:∀ g,row=some g → ∃ cells,w.heap[g]?=some (.cells cells 88 (0,0))):Reps3 m w' (bs ++ [b]) (st ++ [L]):=by
  refine ⟨by simp [h.1],fun j c K h1 h2=>?_⟩
  by_cases hj:j < bs.length
  · rw [List.getElem?_append_left hj] at h1
    rw [List.getElem?_append_left (by have:=h.1;omega)] at h2
    exact (h.2 j c K h1 h2).grown hg ht
  · rw [List.getElem?_append_right (by omega)] at h1
    rw [List.getElem?_append_right (by have:=h.1;omega)] at h2
    have e:j - bs.length=j - st.length:=by have:=h.1;omega
    rw [e] at h1
    rcases hq:j - st.length with _|q
    · rw [hq] at h1 h2
      simp at h1 h2
      subst h1;subst h2
      exact hb.grown hg ht
    · rw [hq] at h1
      simp at h1
theorem Reps3.take {m:FoundW.V3} {w:World} {bs cs:List Nat} {st tt:List (List FoundW.V3)} (h:Reps3 m w (bs ++ cs) (st ++ tt)) (hl:bs.length=st.length):Reps3 m w bs st:=by
  refine ⟨hl,fun j c K h1 h2=>h.2 j c K ?_ ?_⟩
  · rw [List.getElem?_append_left (List.getElem?_eq_some_iff.1 h1).1];exact h1
  · rw [List.getElem?_append_left (List.getElem?_eq_some_iff.1 h2).1];exact h2
theorem grown_below {w0 W W':World} {v:Value} {bs:List Nat} (hB:Below w0.heap.size w0 W) (hO:kmap.R 88 W w0.heap.size (fun _=>True) v bs) (hg:W.grownBy W' v.ownBlock):Below w0.heap.size w0 W':=Below.grown hB hg hB.size (fun k hk=>Kd.R_base hO k hk)
theorem drop_cons (code:ByteArray) (i:Nat) (h:i < code.size):code.data.toList.drop i=code[i] :: code.data.toList.drop (i + 1):=by
  have hl:i < code.data.toList.length:=h
  rw [List.drop_eq_getElem_cons hl]
  rfl
theorem found_push {m:FoundW.V3} {w W w10:World} {A:Option Addr} {n cc gb bl:Nat} {bs:List Nat} {st:List (List FoundW.V3)} {L:List FoundW.V3} {cells:Array Value} {v1:Value} (hO:kmap.R 88 W w.heap.size (fun _=>True) (.slice A n cc) bs) (hP:Reps3 m W bs st) (hL:RepF m W bl L) (hB:Below w.heap.size w W)
    (hbk:W.heap[gb]?=some (.cells cells 94 (0,0))) (hR1:kmap.R 88 w10 w.heap.size (fun _=>True) v1 (bs ++ [bl])) (hg:W.grownBy w10 (Value.slice A n cc).ownBlock) :
    RowT w w10 v1 (bs ++ [bl])∧Reps3 m w10 (bs ++ [bl]) (st ++ [L])∧w10.heap[gb]?=some (.cells cells 94 (0,0))∧Below w.heap.size w w10:=by
  refine ⟨hR1,hP.push hL hg (fun g hk=>Kd.R_typed hO g hk),(hg.block gb (blk_lt hbk) (fun e=>?_)).trans hbk,grown_below hB hO hg⟩
  obtain ⟨c2,h2⟩:=Kd.R_typed hO gb e.symm
  rw [hbk] at h2
  injection h2 with h2
  injection h2 with _ h2
  cases h2
def endOf (st:List (List FoundW.V3)):Option (List FoundW.V3):=match st with|[x]=>some x|_=>none
theorem endOf_run {k:Nat} {m:FoundW.V3} {st:List (List FoundW.V3)} {r:Option (List FoundW.V3)} (h:runF k m [] st=some r):r=endOf st:=by
  match st,h with
  | [],h=>exact (Option.some.inj h).symm
  | [x],h=>exact (Option.some.inj h).symm
  | x :: y :: t,h=>exact (Option.some.inj h).symm
theorem endOf_none {st:List (List FoundW.V3)} (h:st.length ≠ 1):endOf st=none:=by
  match st,h with
  | [],_=>rfl
  | [x],h=>exact absurd rfl h
  | x :: y :: t,_=>rfl
theorem signs (c:UInt8):c=97 ∨ c=98 ∨ c=99 ∨ c=101 ∨ c=46 ∨ c=43 ∨ c=42 ∨ (c ≠ 97∧c ≠ 98∧c ≠ 99∧c ≠ 101∧c ≠ 46∧c ≠ 43∧c ≠ 42):=by
  by_cases h1:c=97
  · exact .inl h1
  by_cases h2:c=98
  · exact .inr (.inl h2)
  by_cases h3:c=99
  · exact .inr (.inr (.inl h3))
  by_cases h4:c=101
  · exact .inr (.inr (.inr (.inl h4)))
  by_cases h5:c=46
  · exact .inr (.inr (.inr (.inr (.inl h5))))
  by_cases h6:c=43
  · exact .inr (.inr (.inr (.inr (.inr (.inl h6)))))
  by_cases h7:c=42
  · exact .inr (.inr (.inr (.inr (.inr (.inr (.inl h7))))))
  · exact .inr (.inr (.inr (.inr (.inr (.inr (.inr ⟨h1,h2,h3,h4,h5,h6,h7⟩))))))
theorem both_rep' (m:FoundW.V3) (hm:mok m) (a b:Nat) (A B:List FoundW.V3) (w:World) (hA:RepF m w a A) (hB:RepF m w b B) :
    Calls Try.prog 59 #[.map (some a),.map (some b)] w fun e w'=>∃ nb,e=.returned (.map (some nb))∧RepF m w' nb (fBoth A B)∧Below w.heap.size w w':=by
  refine (both_rep m hm a b A B w hA hB).mono ?_
  rintro e w' ⟨nb,rfl,_,h1,h2⟩
  exact ⟨nb,rfl,h1,h2⟩
theorem idx_one (c:UInt8) (q:Int) (hq:0 ≤ q) (d:UInt8) (e:q.toNat.toUInt8=d):Lib.indexByte [c] q.toNat.toUInt8=if c=d then 0 else -1:=by
  rw [e]
  unfold Lib.indexByte
  by_cases h:c=d <;> simp [h,Lib.indexByte]
theorem IndexByte_one (s c d:UInt8) (q:Int) (hq:0 ≤ q) (e:q.toNat.toUInt8=d) (z:Int) (hz:z=if s=d then 0 else -1) (w:World) :
    Calls Try.prog 91 #[.string ⟨#[s]⟩,.int .u8 q] w fun e w'=>e=.returned (.int .i64 z)∧w'=w:=by
  refine (strings_IndexByte.calls ⟨#[s]⟩ q w).mono ?_
  rintro e w' ⟨rfl,rfl⟩
  refine ⟨?_,rfl⟩
  have h:=idx_one s q hq d ‹_›
  rw [hz]
  exact congrArg (fun z=>Ending.returned (Value.int .i64 z)) h
set_option maxHeartbeats 8000000 in
set_option maxRecDepth 100000 in
theorem found_run.calls (k gm:Nat) (m1 m2 m3:Int) (hm:mok (m1,m2,m3)) (code:ByteArray) (r:Option (List FoundW.V3)) (w:World) (hbox:w.heap[gm]?=some (.cells #[.int .i64 m1,.int .i64 m2,.int .i64 m3] 86 (0,0))) (hsz:code.size ≤ 1000) (h:runF k (m1,m2,m3) code.data.toList []=some r) :
    Calls Try.prog 61 #[.agg #[.func (.func 55) #[] #[.pointer (some ⟨gm,0,none⟩)],.func (.func 57) #[] #[.pointer (some ⟨gm,0,none⟩)],.func (.func 59) #[] #[],.func (.func 60) #[] #[.pointer (some ⟨gm,0,none⟩)]],.string code] w fun e w'=>∃ v,e=.returned (.tuple #[v,.bool r.isSome])∧(∀ L,r=some L → ∃ b,v=.map (some b)∧RepF (m1,m2,m3) w' b L)∧Below w.heap.size w w':=by
  have HM:=Aside0.mk hbox
  have HMO:=Aside0.mk hm
  have HSZ:=Aside0.mk hsz
  have HRUN:=Aside0.mk h
  have hlen:code.size=code.data.toList.length:=rfl
  have HLEN:=Aside0.mk hlen
  clear hbox hm hsz h hlen
  go_enter Try.func61,Try.ntmps61
  go_wp2_with (first
    | ((with_reducible refine gate_dst (N:=2) rfl ?_);refine box_event ?hg (N:=2) ?hd (cs:=#[.func (.func 55) #[] #[.pointer (some ⟨gm,0,none⟩)],.func (.func 57) #[] #[.pointer (some ⟨gm,0,none⟩)],.func (.func 59) #[] #[],.func (.func 60) #[] #[.pointer (some ⟨gm,0,none⟩)]]) (t:=94) ?hr ?_;(case hd=>rfl);(case hg=>rfl);(case hr=>first|(go_simp;done)|(go_simp;rfl));intro gb hg w1 hbox hb;have BK:=Aside0.mk hbox;have HB1:=Aside0.mk hb;have HG:=Aside0.mk hg;clear hb hbox hg)
    | fail)
  go_loopw [6,16] (fun v6 v16 wr=>∃ (i:Nat) (bs:List Nat) (st:List (List FoundW.V3)),v16=.int .i64 (i:Int)∧Aside0 (i ≤ code.size)∧Aside0 (RowT w wr v6 bs)∧Aside0 (Reps3 (m1,m2,m3) wr bs st)∧Aside0 (bs.length ≤ i)∧Aside0 (runF k (m1,m2,m3) (code.data.toList.drop i) st=some r)∧Aside0 (wr.heap[gb]?=some (.cells #[.func (.func 55) #[] #[.pointer (some ⟨gm,0,none⟩)],.func (.func 57) #[] #[.pointer (some ⟨gm,0,none⟩)],.func (.func 59) #[] #[],.func (.func 60) #[] #[.pointer (some ⟨gm,0,none⟩)]] 94 (0,0)))∧Aside0 (Below w.heap.size w wr)) (fun _ v16 _=>code.size - (intOf v16).toNat)
  case atStart=>exact ⟨0,[],[],rfl,⟨Nat.zero_le _⟩,⟨Kd.R_nil _ _ _ _ _⟩,⟨⟨rfl,fun j b L h=>by simp at h⟩⟩,⟨Nat.le_refl _⟩,HRUN,BK,HB1⟩
  case round =>
    obtain ⟨i,bs,st,rfl,HI,HO,HRP,HBL,HR,HGB,HB⟩:=hrel
    by_cases hlt:i < code.size
    · have hd:decide ((i:Int) < (code.size:Int))=true:=decide_eq_true (by omega)
      have hd0:decide (i < code.size)=true:=decide_eq_true hlt
      have q0:((0:Int) ≤ (i:Int))=True:=eq_true (by omega)
      have q1:((i:Int) < (code.size:Int))=True:=eq_true (by omega)
      have HCD:=Aside0.mk (drop_cons code i hlt)
      obtain ⟨c,hc⟩:∃ c,c=code[i]'hlt:=⟨_,rfl⟩
      rw [← hc] at HCD
      have HRC:=Aside0.mk (Mach.run_cons _ _ _ _ (show runF k (m1,m2,m3) (c :: code.data.toList.drop (i + 1)) st=some r from by rw [← HCD.out];exact HR.out))
      have eg1:∀ args w,(callFunc 55 args).run Try.prog w=.ok (.enter 55 args) w:=enters_of Try.func55 (by kernel_rfl) rfl
      have eg2:∀ args w,(callFunc 57 args).run Try.prog w=.ok (.enter 57 args) w:=enters_of Try.func57 (by kernel_rfl) rfl
      have eg3:∀ args w,(callFunc 60 args).run Try.prog w=.ok (.enter 60 args) w:=enters_of Try.func60 (by kernel_rfl) rfl
      have eg4:∀ args w,(callFunc 59 args).run Try.prog w=.ok (.enter 59 args) w:=enters_of Try.func59 (by kernel_rfl) rfl
      obtain ⟨A,cc,rfl⟩:=Kd.R_slice HO.out
      have hcap:=(Kd.R_reads' HO.out).2.1
      obtain ⟨hi0,hii,hiz⟩:=Option.map_eq_some_iff.1 info88m
      simp only [Prod.mk.injEq] at hiz
      have hBK:wr.heap[gb]?=some (.cells #[.func (.func 55) #[] #[.pointer (some ⟨gm,0,none⟩)],.func (.func 57) #[] #[.pointer (some ⟨gm,0,none⟩)],.func (.func 59) #[] #[],.func (.func 60) #[] #[.pointer (some ⟨gm,0,none⟩)]] 94 (0,0)):=HGB.out
      have HBK:=Aside0.mk hBK
      have hb0:wr.cell? ⟨gb,0,none⟩=some (.func (.func 55) #[] #[.pointer (some ⟨gm,0,none⟩)]):=(blk_cell hBK 0).trans rfl
      have hb1:wr.cell? ⟨gb,1,none⟩=some (.func (.func 57) #[] #[.pointer (some ⟨gm,0,none⟩)]):=(blk_cell hBK 1).trans rfl
      have hb2:wr.cell? ⟨gb,2,none⟩=some (.func (.func 59) #[] #[]):=(blk_cell hBK 2).trans rfl
      have hb3:wr.cell? ⟨gb,3,none⟩=some (.func (.func 60) #[] #[.pointer (some ⟨gm,0,none⟩)]):=(blk_cell hBK 3).trans rfl
      have hww:wrap64 ((i:Int) + 1)=((i + 1:Nat):Int):=by have:=HSZ.out;unfold wrap64;omega
      have HW:=Aside0.mk hww
      have HLT:=Aside0.mk hlt
      clear hww hBK HGB HR
      rcases signs c with rfl|rfl|rfl|rfl|rfl|rfl|rfl|hoth
      · have hci:(code[i]'hlt).toNat=97:=by rw [← hc];rfl
        have HX1:=Aside0.mk (fun W=>IndexByte_one 42 97 97 97 (by decide) (by decide) (-1) (by decide) W)
        have HX2:=Aside0.mk (fun W=>IndexByte_one 46 97 97 97 (by decide) (by decide) (-1) (by decide) W)
        have HX3:=Aside0.mk (fun W=>IndexByte_one 43 97 97 97 (by decide) (by decide) (-1) (by decide) W)
        have hcut1:=cut_to (P:=Try.prog) 126 88 .i64 Try.underlying126 hii A bs.length cc (bs.length:Int) (by omega) (by omega) hcap
        have hcut2:=cut_from (P:=Try.prog) 126 88 .i64 Try.underlying126 hii 1 hiz.2.1 A bs.length cc (bs.length:Int) (by omega) (by omega)
        simp only [Int.toNat_natCast] at hcut1 hcut2
        generalize Value.slice (if cc=bs.length then A else A.map (·.add (bs.length * 1))) (bs.length - bs.length) (cc - bs.length)=vt at hcut2
        have hwn:wrap64 ((bs.length:Int) - 0)=(bs.length:Int):=by have:=HSZ.out;have:=HBL.out;unfold wrap64;omega
        have hwn2:wrap64 (bs.length:Int)=(bs.length:Int):=by have:=HSZ.out;have:=HBL.out;unfold wrap64;omega
        have hwk1:IntKind.i64.wrap ((bs.length:Int) - 0)=(bs.length:Int):=by have:=HSZ.out;have:=HBL.out;simp only [IntKind.wrap];simp [IntKind.signed,IntKind.bits];omega
        have hwk2:IntKind.i64.wrap (bs.length:Int)=(bs.length:Int):=by have:=HSZ.out;have:=HBL.out;simp only [IntKind.wrap];simp [IntKind.signed,IntKind.bits];omega
        have qn0:((0:Int) ≤ (bs.length:Int))=True:=eq_true (by omega)
        obtain ⟨q,hq,hqr⟩:=HRC.out
        have HQ:=Aside0.mk hq
        have HQR:=Aside0.mk hqr
        clear hq hqr HRC hc hii hiz hcap
        go_wp2_with (first
          | (go_at_call 91;(with_reducible refine (HX1.out _).mono ?_);rintro e w9 ⟨rfl,rfl⟩)
          | (go_at_call 91;(with_reducible refine (HX2.out _).mono ?_);rintro e w9 ⟨rfl,rfl⟩)
          | (go_at_call 91;(with_reducible refine (HX3.out _).mono ?_);rintro e w9 ⟨rfl,rfl⟩))
        go_region_held3 (fun _=>True) (trivial) (first|fail|fail)
        clear hcut1 hcut2
        have HLET:Aside0 (∀ W,Below w.heap.size w W → _):=⟨fun W hW=>Accepts_letter.calls gm m1 m2 m3 (0) (by decide) W (blk_below HM.out hW)⟩
        go_wp2_with (first
          | (go_at_call 55;(with_reducible refine (HLET.out _ ?bc).mono ?_);(case bc=>exact HB.out.drew);rintro e wl ⟨bl,rfl,hRl,hbl⟩;have HRL:=Aside0.mk hRl;have HOL:=Aside0.mk (Kd.R_below (Kd.R_drew HO.out) hbl);have HPL:=Aside0.mk ((Reps3.below (Reps3.below HRP.out (Below.refl _ _).drew) hbl));have HKL:=Aside0.mk (blk_below (blk_below HBK.out (Below.refl _ _).drew) hbl);have HBL2:=Aside0.mk (below_step HB.out.drew hbl);clear hRl hbl)
          | ((with_reducible refine gate_builtin (b:=.append) (xs:=#[.tmp 97,.tmp 99]) rfl ?_);at_builtin;refine Kd.R_append kmap (w0:=w) w.heap.size rfl (.tmp 97) (.tmp 99) 126 88 (.map none) 8 rfl Try.underlying126 info88m rfl (by decide) (by omega) (.slice A bs.length cc) bs bl [.map (some bl)] (fun _=>True) (fun _=>False) rfl rfl rfl (fun _ h=>h.elim) (fun _ _=>trivial) HOL.out HBL2.out (below_size HBL2.out) (by have:=HBL.out;have:=HSZ.out;have:=HI.out;omega) ?_;intro v1 w10 hR1 hb1 hg1 hat1;have HALL:=Aside0.mk (found_push HOL.out HPL.out HRL.out HBL2.out HKL.out hR1 hg1);clear hR1 hb1 hg1 hat1))
        have hst:=HQ.out
        rw [Mach.step_letter _ _ _ _ (i:=0) (by decide)] at hst
        obtain rfl:=Option.some.inj hst
        rcases HQR.out with ⟨h,_⟩|⟨st',h1,h2⟩
        · cases h
        obtain rfl:=Option.some.inj h1
        have HRUN2:=Aside0.mk h2
        clear hst h1 h2
        go_roundw
        case rel=>exact ⟨i + 1,bs ++ [bl],st ++ [fLetter (m1,m2,m3) (0)],congrArg _ HW.out,⟨HLT.out⟩,⟨HALL.out.1⟩,⟨HALL.out.2.1⟩,⟨by rw [List.length_append];have:=HBL.out;simp;omega⟩,HRUN2,⟨HALL.out.2.2.1⟩,⟨HALL.out.2.2.2⟩⟩
        case measure=>rw [HW.out];simp only [intOf];have:=HLT.out;omega
      · have hci:(code[i]'hlt).toNat=98:=by rw [← hc];rfl
        have HX1:=Aside0.mk (fun W=>IndexByte_one 42 98 98 98 (by decide) (by decide) (-1) (by decide) W)
        have HX2:=Aside0.mk (fun W=>IndexByte_one 46 98 98 98 (by decide) (by decide) (-1) (by decide) W)
        have HX3:=Aside0.mk (fun W=>IndexByte_one 43 98 98 98 (by decide) (by decide) (-1) (by decide) W)
        have hcut1:=cut_to (P:=Try.prog) 126 88 .i64 Try.underlying126 hii A bs.length cc (bs.length:Int) (by omega) (by omega) hcap
        have hcut2:=cut_from (P:=Try.prog) 126 88 .i64 Try.underlying126 hii 1 hiz.2.1 A bs.length cc (bs.length:Int) (by omega) (by omega)
        simp only [Int.toNat_natCast] at hcut1 hcut2
        generalize Value.slice (if cc=bs.length then A else A.map (·.add (bs.length * 1))) (bs.length - bs.length) (cc - bs.length)=vt at hcut2
        have hwn:wrap64 ((bs.length:Int) - 0)=(bs.length:Int):=by have:=HSZ.out;have:=HBL.out;unfold wrap64;omega
        have hwn2:wrap64 (bs.length:Int)=(bs.length:Int):=by have:=HSZ.out;have:=HBL.out;unfold wrap64;omega
        have hwk1:IntKind.i64.wrap ((bs.length:Int) - 0)=(bs.length:Int):=by have:=HSZ.out;have:=HBL.out;simp only [IntKind.wrap];simp [IntKind.signed,IntKind.bits];omega
        have hwk2:IntKind.i64.wrap (bs.length:Int)=(bs.length:Int):=by have:=HSZ.out;have:=HBL.out;simp only [IntKind.wrap];simp [IntKind.signed,IntKind.bits];omega
        have qn0:((0:Int) ≤ (bs.length:Int))=True:=eq_true (by omega)
        obtain ⟨q,hq,hqr⟩:=HRC.out
        have HQ:=Aside0.mk hq
        have HQR:=Aside0.mk hqr
        clear hq hqr HRC hc hii hiz hcap
        go_wp2_with (first
          | (go_at_call 91;(with_reducible refine (HX1.out _).mono ?_);rintro e w9 ⟨rfl,rfl⟩)
          | (go_at_call 91;(with_reducible refine (HX2.out _).mono ?_);rintro e w9 ⟨rfl,rfl⟩)
          | (go_at_call 91;(with_reducible refine (HX3.out _).mono ?_);rintro e w9 ⟨rfl,rfl⟩))
        go_region_held3 (fun _=>True) (trivial) (first|fail|fail)
        clear hcut1 hcut2
        have HLET:Aside0 (∀ W,Below w.heap.size w W → _):=⟨fun W hW=>Accepts_letter.calls gm m1 m2 m3 (1) (by decide) W (blk_below HM.out hW)⟩
        go_wp2_with (first
          | (go_at_call 55;(with_reducible refine (HLET.out _ ?bc).mono ?_);(case bc=>exact HB.out.drew);rintro e wl ⟨bl,rfl,hRl,hbl⟩;have HRL:=Aside0.mk hRl;have HOL:=Aside0.mk (Kd.R_below (Kd.R_drew HO.out) hbl);have HPL:=Aside0.mk ((Reps3.below (Reps3.below HRP.out (Below.refl _ _).drew) hbl));have HKL:=Aside0.mk (blk_below (blk_below HBK.out (Below.refl _ _).drew) hbl);have HBL2:=Aside0.mk (below_step HB.out.drew hbl);clear hRl hbl)
          | ((with_reducible refine gate_builtin (b:=.append) (xs:=#[.tmp 97,.tmp 99]) rfl ?_);at_builtin;refine Kd.R_append kmap (w0:=w) w.heap.size rfl (.tmp 97) (.tmp 99) 126 88 (.map none) 8 rfl Try.underlying126 info88m rfl (by decide) (by omega) (.slice A bs.length cc) bs bl [.map (some bl)] (fun _=>True) (fun _=>False) rfl rfl rfl (fun _ h=>h.elim) (fun _ _=>trivial) HOL.out HBL2.out (below_size HBL2.out) (by have:=HBL.out;have:=HSZ.out;have:=HI.out;omega) ?_;intro v1 w10 hR1 hb1 hg1 hat1;have HALL:=Aside0.mk (found_push HOL.out HPL.out HRL.out HBL2.out HKL.out hR1 hg1);clear hR1 hb1 hg1 hat1))
        have hst:=HQ.out
        rw [Mach.step_letter _ _ _ _ (i:=1) (by decide)] at hst
        obtain rfl:=Option.some.inj hst
        rcases HQR.out with ⟨h,_⟩|⟨st',h1,h2⟩
        · cases h
        obtain rfl:=Option.some.inj h1
        have HRUN2:=Aside0.mk h2
        clear hst h1 h2
        go_roundw
        case rel=>exact ⟨i + 1,bs ++ [bl],st ++ [fLetter (m1,m2,m3) (1)],congrArg _ HW.out,⟨HLT.out⟩,⟨HALL.out.1⟩,⟨HALL.out.2.1⟩,⟨by rw [List.length_append];have:=HBL.out;simp;omega⟩,HRUN2,⟨HALL.out.2.2.1⟩,⟨HALL.out.2.2.2⟩⟩
        case measure=>rw [HW.out];simp only [intOf];have:=HLT.out;omega
      · have hci:(code[i]'hlt).toNat=99:=by rw [← hc];rfl
        have HX1:=Aside0.mk (fun W=>IndexByte_one 42 99 99 99 (by decide) (by decide) (-1) (by decide) W)
        have HX2:=Aside0.mk (fun W=>IndexByte_one 46 99 99 99 (by decide) (by decide) (-1) (by decide) W)
        have HX3:=Aside0.mk (fun W=>IndexByte_one 43 99 99 99 (by decide) (by decide) (-1) (by decide) W)
        have hcut1:=cut_to (P:=Try.prog) 126 88 .i64 Try.underlying126 hii A bs.length cc (bs.length:Int) (by omega) (by omega) hcap
        have hcut2:=cut_from (P:=Try.prog) 126 88 .i64 Try.underlying126 hii 1 hiz.2.1 A bs.length cc (bs.length:Int) (by omega) (by omega)
        simp only [Int.toNat_natCast] at hcut1 hcut2
        generalize Value.slice (if cc=bs.length then A else A.map (·.add (bs.length * 1))) (bs.length - bs.length) (cc - bs.length)=vt at hcut2
        have hwn:wrap64 ((bs.length:Int) - 0)=(bs.length:Int):=by have:=HSZ.out;have:=HBL.out;unfold wrap64;omega
        have hwn2:wrap64 (bs.length:Int)=(bs.length:Int):=by have:=HSZ.out;have:=HBL.out;unfold wrap64;omega
        have hwk1:IntKind.i64.wrap ((bs.length:Int) - 0)=(bs.length:Int):=by have:=HSZ.out;have:=HBL.out;simp only [IntKind.wrap];simp [IntKind.signed,IntKind.bits];omega
        have hwk2:IntKind.i64.wrap (bs.length:Int)=(bs.length:Int):=by have:=HSZ.out;have:=HBL.out;simp only [IntKind.wrap];simp [IntKind.signed,IntKind.bits];omega
        have qn0:((0:Int) ≤ (bs.length:Int))=True:=eq_true (by omega)
        obtain ⟨q,hq,hqr⟩:=HRC.out
        have HQ:=Aside0.mk hq
        have HQR:=Aside0.mk hqr
        clear hq hqr HRC hc hii hiz hcap
        go_wp2_with (first
          | (go_at_call 91;(with_reducible refine (HX1.out _).mono ?_);rintro e w9 ⟨rfl,rfl⟩)
          | (go_at_call 91;(with_reducible refine (HX2.out _).mono ?_);rintro e w9 ⟨rfl,rfl⟩)
          | (go_at_call 91;(with_reducible refine (HX3.out _).mono ?_);rintro e w9 ⟨rfl,rfl⟩))
        go_region_held3 (fun _=>True) (trivial) (first|fail|fail)
        clear hcut1 hcut2
        have HLET:Aside0 (∀ W,Below w.heap.size w W → _):=⟨fun W hW=>Accepts_letter.calls gm m1 m2 m3 (2) (by decide) W (blk_below HM.out hW)⟩
        go_wp2_with (first
          | (go_at_call 55;(with_reducible refine (HLET.out _ ?bc).mono ?_);(case bc=>exact HB.out.drew);rintro e wl ⟨bl,rfl,hRl,hbl⟩;have HRL:=Aside0.mk hRl;have HOL:=Aside0.mk (Kd.R_below (Kd.R_drew HO.out) hbl);have HPL:=Aside0.mk ((Reps3.below (Reps3.below HRP.out (Below.refl _ _).drew) hbl));have HKL:=Aside0.mk (blk_below (blk_below HBK.out (Below.refl _ _).drew) hbl);have HBL2:=Aside0.mk (below_step HB.out.drew hbl);clear hRl hbl)
          | ((with_reducible refine gate_builtin (b:=.append) (xs:=#[.tmp 97,.tmp 99]) rfl ?_);at_builtin;refine Kd.R_append kmap (w0:=w) w.heap.size rfl (.tmp 97) (.tmp 99) 126 88 (.map none) 8 rfl Try.underlying126 info88m rfl (by decide) (by omega) (.slice A bs.length cc) bs bl [.map (some bl)] (fun _=>True) (fun _=>False) rfl rfl rfl (fun _ h=>h.elim) (fun _ _=>trivial) HOL.out HBL2.out (below_size HBL2.out) (by have:=HBL.out;have:=HSZ.out;have:=HI.out;omega) ?_;intro v1 w10 hR1 hb1 hg1 hat1;have HALL:=Aside0.mk (found_push HOL.out HPL.out HRL.out HBL2.out HKL.out hR1 hg1);clear hR1 hb1 hg1 hat1))
        have hst:=HQ.out
        rw [Mach.step_letter _ _ _ _ (i:=2) (by decide)] at hst
        obtain rfl:=Option.some.inj hst
        rcases HQR.out with ⟨h,_⟩|⟨st',h1,h2⟩
        · cases h
        obtain rfl:=Option.some.inj h1
        have HRUN2:=Aside0.mk h2
        clear hst h1 h2
        go_roundw
        case rel=>exact ⟨i + 1,bs ++ [bl],st ++ [fLetter (m1,m2,m3) (2)],congrArg _ HW.out,⟨HLT.out⟩,⟨HALL.out.1⟩,⟨HALL.out.2.1⟩,⟨by rw [List.length_append];have:=HBL.out;simp;omega⟩,HRUN2,⟨HALL.out.2.2.1⟩,⟨HALL.out.2.2.2⟩⟩
        case measure=>rw [HW.out];simp only [intOf];have:=HLT.out;omega
      · have hci:(code[i]'hlt).toNat=101:=by rw [← hc];rfl
        have HX1:=Aside0.mk (fun W=>IndexByte_one 42 101 101 101 (by decide) (by decide) (-1) (by decide) W)
        have HX2:=Aside0.mk (fun W=>IndexByte_one 46 101 101 101 (by decide) (by decide) (-1) (by decide) W)
        have HX3:=Aside0.mk (fun W=>IndexByte_one 43 101 101 101 (by decide) (by decide) (-1) (by decide) W)
        have hcut1:=cut_to (P:=Try.prog) 126 88 .i64 Try.underlying126 hii A bs.length cc (bs.length:Int) (by omega) (by omega) hcap
        have hcut2:=cut_from (P:=Try.prog) 126 88 .i64 Try.underlying126 hii 1 hiz.2.1 A bs.length cc (bs.length:Int) (by omega) (by omega)
        simp only [Int.toNat_natCast] at hcut1 hcut2
        generalize Value.slice (if cc=bs.length then A else A.map (·.add (bs.length * 1))) (bs.length - bs.length) (cc - bs.length)=vt at hcut2
        have hwn:wrap64 ((bs.length:Int) - 0)=(bs.length:Int):=by have:=HSZ.out;have:=HBL.out;unfold wrap64;omega
        have hwn2:wrap64 (bs.length:Int)=(bs.length:Int):=by have:=HSZ.out;have:=HBL.out;unfold wrap64;omega
        have hwk1:IntKind.i64.wrap ((bs.length:Int) - 0)=(bs.length:Int):=by have:=HSZ.out;have:=HBL.out;simp only [IntKind.wrap];simp [IntKind.signed,IntKind.bits];omega
        have hwk2:IntKind.i64.wrap (bs.length:Int)=(bs.length:Int):=by have:=HSZ.out;have:=HBL.out;simp only [IntKind.wrap];simp [IntKind.signed,IntKind.bits];omega
        have qn0:((0:Int) ≤ (bs.length:Int))=True:=eq_true (by omega)
        obtain ⟨q,hq,hqr⟩:=HRC.out
        have HQ:=Aside0.mk hq
        have HQR:=Aside0.mk hqr
        clear hq hqr HRC hc hii hiz hcap
        go_wp2_with (first
          | (go_at_call 91;(with_reducible refine (HX1.out _).mono ?_);rintro e w9 ⟨rfl,rfl⟩)
          | (go_at_call 91;(with_reducible refine (HX2.out _).mono ?_);rintro e w9 ⟨rfl,rfl⟩)
          | (go_at_call 91;(with_reducible refine (HX3.out _).mono ?_);rintro e w9 ⟨rfl,rfl⟩))
        go_region_held3 (fun _=>True) (trivial) (first|fail|fail)
        clear hcut1 hcut2
        have HLET:Aside0 (∀ W,Below w.heap.size w W → _):=⟨fun W hW=>Accepts_letter.calls gm m1 m2 m3 (-1) (by decide) W (blk_below HM.out hW)⟩
        go_wp2_with (first
          | (go_at_call 55;(with_reducible refine (HLET.out _ ?bc).mono ?_);(case bc=>exact HB.out.drew);rintro e wl ⟨bl,rfl,hRl,hbl⟩;have HRL:=Aside0.mk hRl;have HOL:=Aside0.mk (Kd.R_below (Kd.R_drew HO.out) hbl);have HPL:=Aside0.mk ((Reps3.below (Reps3.below HRP.out (Below.refl _ _).drew) hbl));have HKL:=Aside0.mk (blk_below (blk_below HBK.out (Below.refl _ _).drew) hbl);have HBL2:=Aside0.mk (below_step HB.out.drew hbl);clear hRl hbl)
          | ((with_reducible refine gate_builtin (b:=.append) (xs:=#[.tmp 97,.tmp 99]) rfl ?_);at_builtin;refine Kd.R_append kmap (w0:=w) w.heap.size rfl (.tmp 97) (.tmp 99) 126 88 (.map none) 8 rfl Try.underlying126 info88m rfl (by decide) (by omega) (.slice A bs.length cc) bs bl [.map (some bl)] (fun _=>True) (fun _=>False) rfl rfl rfl (fun _ h=>h.elim) (fun _ _=>trivial) HOL.out HBL2.out (below_size HBL2.out) (by have:=HBL.out;have:=HSZ.out;have:=HI.out;omega) ?_;intro v1 w10 hR1 hb1 hg1 hat1;have HALL:=Aside0.mk (found_push HOL.out HPL.out HRL.out HBL2.out HKL.out hR1 hg1);clear hR1 hb1 hg1 hat1))
        have hst:=HQ.out
        rw [Mach.step_letter _ _ _ _ (i:=-1) (by decide)] at hst
        obtain rfl:=Option.some.inj hst
        rcases HQR.out with ⟨h,_⟩|⟨st',h1,h2⟩
        · cases h
        obtain rfl:=Option.some.inj h1
        have HRUN2:=Aside0.mk h2
        clear hst h1 h2
        go_roundw
        case rel=>exact ⟨i + 1,bs ++ [bl],st ++ [fLetter (m1,m2,m3) (-1)],congrArg _ HW.out,⟨HLT.out⟩,⟨HALL.out.1⟩,⟨HALL.out.2.1⟩,⟨by rw [List.length_append];have:=HBL.out;simp;omega⟩,HRUN2,⟨HALL.out.2.2.1⟩,⟨HALL.out.2.2.2⟩⟩
        case measure=>rw [HW.out];simp only [intOf];have:=HLT.out;omega
      · by_cases hen:2 ≤ st.length
        · have hci:(code[i]'hlt).toNat=46:=by rw [← hc];rfl
          have HX1:=Aside0.mk (fun W=>IndexByte_one 42 46 46 46 (by decide) (by decide) (-1) (by decide) W)
          have HX2:=Aside0.mk (fun W=>IndexByte_one 46 46 46 46 (by decide) (by decide) 0 (by decide) W)
          have HX3:=Aside0.mk (fun W=>IndexByte_one 43 46 46 46 (by decide) (by decide) (-1) (by decide) W)
          obtain ⟨s,a,b,hbs⟩:=Mach.last_two (st:=bs) (by have:=HRP.out.1;omega)
          obtain ⟨t,X,Y,hstt⟩:=Mach.last_two hen
          have hjn:bs.length=s.length + 2:=by rw [hbs];simp
          have hjt:s.length=t.length:=by have h1:=HRP.out.1;rw [hbs,hstt] at h1;simp at h1;exact h1
          have hRa:RepF (m1,m2,m3) wr a X:=HRP.out.2 s.length a X (by rw [hbs];simp) (by rw [hstt,hjt];simp)
          have hRb:RepF (m1,m2,m3) wr b Y:=HRP.out.2 (s.length + 1) b Y (by rw [hbs];simp) (by rw [hstt,hjt];simp)
          have HPT:=Aside0.mk (Reps3.take (bs:=s) (cs:=[a,b]) (st:=t) (tt:=[X,Y]) (by rw [← hbs,← hstt];exact HRP.out) hjt)
          have HTK:=Aside0.mk (show bs.take s.length=s from by rw [hbs];simp)
          have hgc:∀ q x:Nat,bs.getD q 0=x → q < bs.length → wr.cell? ⟨0,0,none⟩=wr.cell? ⟨0,0,none⟩:=fun _ _ _ _=>rfl
          clear hgc
          have hpos:0 < bs.length:=by omega
          obtain ⟨g,cap,ef,_,_,_⟩:=Kd.R_form HO.out hpos
          injection ef with e1 e2 e3
          subst e1
          have hx0:wr.cell? ⟨g,s.length,none⟩=some (.map (some a)):=by
            have h:=(Kd.R_celln 0 HO.out (s.length:Int) (by omega) (by omega)).1
            simp only [Int.toNat_natCast] at h
            rw [h]
            simp [rdOf,hbs]
          have hx1:wr.cell? ⟨g,s.length + 1,none⟩=some (.map (some b)):=by
            have h:=(Kd.R_celln 0 HO.out ((s.length + 1:Nat):Int) (by omega) (by omega)).1
            simp only [Int.toNat_natCast] at h
            rw [h]
            simp [rdOf,hbs]
          have hcut1:=cut_to (P:=Try.prog) 126 88 .i64 Try.underlying126 hii (some ⟨g,0,none⟩) bs.length cc (s.length:Int) (by omega) (by omega) hcap
          have hcut2:=cut_from (P:=Try.prog) 126 88 .i64 Try.underlying126 hii 1 hiz.2.1 (some ⟨g,0,none⟩) bs.length cc (s.length:Int) (by omega) (by omega)
          have hadd:(⟨g,0,none⟩:Addr).add s.length=⟨g,s.length,none⟩:=by simp only [Addr.add,Nat.zero_add];split <;> simp_all
          have hsub:bs.length - s.length=2:=by omega
          have hnc:¬ cc=s.length:=by omega
          simp only [Int.toNat_natCast,if_neg hnc,Option.map_some,Nat.mul_one,hadd,hsub] at hcut1 hcut2
          have hwn:wrap64 ((bs.length:Int) - 2)=(s.length:Int):=by have:=HSZ.out;have:=HBL.out;unfold wrap64;omega
          have hwk:IntKind.i64.wrap ((bs.length:Int) - 2)=(s.length:Int):=by have:=HSZ.out;have:=HBL.out;simp only [IntKind.wrap];simp [IntKind.signed,IntKind.bits];omega
          have hdn:decide ((bs.length:Int) < 2)=false:=decide_eq_false (by omega)
          have hdn2:decide (bs.length < 2)=false:=decide_eq_false (by omega)
          have qn0:((0:Int) ≤ (s.length:Int))=True:=eq_true (by omega)
          have qn1:((s.length:Int) ≤ (bs.length:Int))=True:=eq_true (by omega)
          have HSOF:Aside0 (∀ w',Below wr.heap.size wr w' → w'.cell? ⟨gb,1,none⟩=some (.func (.func 57) #[] #[.pointer (some ⟨gm,0,none⟩)])∧w'.cell? ⟨g,s.length,none⟩=some (.map (some a))∧w'.cell? ⟨g,s.length + 1,none⟩=some (.map (some b))):=⟨fun w' hb=>⟨(hb.cell (World.block_lt_of_cell? wr _ hb1)).trans hb1,(hb.cell (World.block_lt_of_cell? wr _ hx0)).trans hx0,(hb.cell (World.block_lt_of_cell? wr _ hx1)).trans hx1⟩⟩
          obtain ⟨q,hq,hqr⟩:=HRC.out
          rw [hstt] at hq
          have HJC:Aside0 (∀ W,Below wr.heap.size wr W → _):=⟨fun W hW=>Accepts_join.calls gm m1 m2 m3 HMO.out a b X Y W (blk_below HM.out (below_step HB.out hW)) (hRa.below hW) (hRb.below hW)⟩
          have HQ:=Aside0.mk hq
          have HQR:=Aside0.mk hqr
          have HLS:Aside0 (s.length ≤ i):=⟨by have:=HBL.out;omega⟩
          have HTT:=Aside0.mk hjt
          have HJN:=Aside0.mk hjn
          clear hq hqr HRC hc hii hiz hcap hbs hstt hjn hjt hRa hRb hadd hsub hnc hpos e2 e3
          go_wp2_with (first
          | (go_at_call 91;(with_reducible refine (HX1.out _).mono ?_);rintro e w9 ⟨rfl,rfl⟩)
          | (go_at_call 91;(with_reducible refine (HX2.out _).mono ?_);rintro e w9 ⟨rfl,rfl⟩)
          | (go_at_call 91;(with_reducible refine (HX3.out _).mono ?_);rintro e w9 ⟨rfl,rfl⟩))
          go_region_held3 (fun _=>True) (trivial) (first|fail|fail)
          clear hcut1 hcut2
          go_wp2_with fail
          go_region_held3 (fun w'=>w'.cell? ⟨gb,1,none⟩=some (.func (.func 57) #[] #[.pointer (some ⟨gm,0,none⟩)])∧w'.cell? ⟨g,s.length,none⟩=some (.map (some a))∧w'.cell? ⟨g,s.length + 1,none⟩=some (.map (some b)))
            (exact HSOF.out _ (by ((repeat (first|exact Below.refl _ _|assumption|exact HBWL.out|apply Below.drew|apply below_alloc));done)))
            (first
              | (go_at_call 57;(with_reducible refine (HJC.out _ ?bc).mono ?_);(case bc=>(repeat (first|exact Below.refl _ _|assumption|exact HBWL.out|apply Below.drew|apply below_alloc)));rintro e wl ⟨bl,rfl,hRl,hbl⟩;have HBWL:Aside0 (Below w9.heap.size w9 wl):=⟨below_step (by ((repeat (first|exact Below.refl _ _|assumption|exact HBWL.out|apply Below.drew|apply below_alloc));done)) hbl⟩;have HRL:=Aside0.mk hRl;clear hRl hbl)
              | fail)
          have HOL:Aside0 (kmap.R 88 wl w.heap.size (fun _=>True) (.slice (some ⟨g,0,none⟩) s.length cc) s):=⟨by
            have h:=Kd.R_take (m:=s.length) (Kd.R_below HO.out HBWL.out) (by have:=HJN.out;omega)
            rw [HTK.out] at h
            exact h⟩
          have HPL:=Aside0.mk (Reps3.below HPT.out HBWL.out)
          have HKL:=Aside0.mk (blk_below HBK.out HBWL.out)
          have HBL2:=Aside0.mk (below_step HB.out HBWL.out)
          go_wp2_with (first
            | ((with_reducible refine gate_builtin (b:=.append) (xs:=#[.tmp 97,.tmp 99]) rfl ?_);at_builtin;refine Kd.R_append kmap (w0:=w) w.heap.size rfl (.tmp 97) (.tmp 99) 126 88 (.map none) 8 rfl Try.underlying126 info88m rfl (by decide) (by omega) (.slice (some ⟨g,0,none⟩) s.length cc) s bl [.map (some bl)] (fun _=>True) (fun _=>False) rfl rfl rfl (fun _ h=>h.elim) (fun _ _=>trivial) HOL.out HBL2.out (below_size HBL2.out) (by have:=HLS.out;have:=HSZ.out;have:=HI.out;omega) ?_;intro v1 w10 hR1 hb1 hg1 hat1;have HALL:=Aside0.mk (found_push HOL.out HPL.out HRL.out HBL2.out HKL.out hR1 hg1);clear hR1 hb1 hg1 hat1))
          have hst:=HQ.out
          rw [Mach.step_dot] at hst
          obtain rfl:=Option.some.inj hst
          rcases HQR.out with ⟨h,_⟩|⟨st',h1,h2⟩
          · cases h
          obtain rfl:=Option.some.inj h1
          have HRUN2:=Aside0.mk h2
          clear h1 h2
          go_roundw
          case rel=>exact ⟨i + 1,s ++ [bl],t ++ [fJoin (m1,m2,m3) X Y],congrArg _ HW.out,⟨HLT.out⟩,⟨HALL.out.1⟩,⟨HALL.out.2.1⟩,⟨by rw [List.length_append];have:=HLS.out;simp;omega⟩,HRUN2,⟨HALL.out.2.2.1⟩,⟨HALL.out.2.2.2⟩⟩
          case measure=>rw [HW.out];simp only [intOf];have:=HLT.out;omega
        · have hci:(code[i]'hlt).toNat=46:=by rw [← hc];rfl
          have HX1:=Aside0.mk (fun W=>IndexByte_one 42 46 46 46 (by decide) (by decide) (-1) (by decide) W)
          have HX2:=Aside0.mk (fun W=>IndexByte_one 46 46 46 46 (by decide) (by decide) 0 (by decide) W)
          have HX3:=Aside0.mk (fun W=>IndexByte_one 43 46 46 46 (by decide) (by decide) (-1) (by decide) W)
          have hdn:decide ((bs.length:Int) < 2)=true:=decide_eq_true (by have:=HRP.out.1;omega)
          have hdn2:decide (bs.length < 2)=true:=decide_eq_true (by have:=HRP.out.1;omega)
          obtain ⟨q,hq,hqr⟩:=HRC.out
          rw [Mach.step_few _ _ _ _ (.inl ⟨.inl rfl,by omega⟩)] at hq
          obtain rfl:=Option.some.inj hq
          have hr:r=none:=by
            rcases hqr with ⟨_,h⟩|⟨st',h1,_⟩
            · exact h
            · cases h1
          subst hr
          clear hq hqr HRC hc hii hiz hcap hen
          go_wp2_with (first
          | (go_at_call 91;(with_reducible refine (HX1.out _).mono ?_);rintro e w9 ⟨rfl,rfl⟩)
          | (go_at_call 91;(with_reducible refine (HX2.out _).mono ?_);rintro e w9 ⟨rfl,rfl⟩)
          | (go_at_call 91;(with_reducible refine (HX3.out _).mono ?_);rintro e w9 ⟨rfl,rfl⟩))
          go_ret2
          exact ⟨_,rfl,fun L h=>by (cases h),HB.out⟩
      · by_cases hen:2 ≤ st.length
        · have hci:(code[i]'hlt).toNat=43:=by rw [← hc];rfl
          have HX1:=Aside0.mk (fun W=>IndexByte_one 42 43 43 43 (by decide) (by decide) (-1) (by decide) W)
          have HX2:=Aside0.mk (fun W=>IndexByte_one 46 43 43 43 (by decide) (by decide) (-1) (by decide) W)
          have HX3:=Aside0.mk (fun W=>IndexByte_one 43 43 43 43 (by decide) (by decide) 0 (by decide) W)
          obtain ⟨s,a,b,hbs⟩:=Mach.last_two (st:=bs) (by have:=HRP.out.1;omega)
          obtain ⟨t,X,Y,hstt⟩:=Mach.last_two hen
          have hjn:bs.length=s.length + 2:=by rw [hbs];simp
          have hjt:s.length=t.length:=by have h1:=HRP.out.1;rw [hbs,hstt] at h1;simp at h1;exact h1
          have hRa:RepF (m1,m2,m3) wr a X:=HRP.out.2 s.length a X (by rw [hbs];simp) (by rw [hstt,hjt];simp)
          have hRb:RepF (m1,m2,m3) wr b Y:=HRP.out.2 (s.length + 1) b Y (by rw [hbs];simp) (by rw [hstt,hjt];simp)
          have HPT:=Aside0.mk (Reps3.take (bs:=s) (cs:=[a,b]) (st:=t) (tt:=[X,Y]) (by rw [← hbs,← hstt];exact HRP.out) hjt)
          have HTK:=Aside0.mk (show bs.take s.length=s from by rw [hbs];simp)
          have hgc:∀ q x:Nat,bs.getD q 0=x → q < bs.length → wr.cell? ⟨0,0,none⟩=wr.cell? ⟨0,0,none⟩:=fun _ _ _ _=>rfl
          clear hgc
          have hpos:0 < bs.length:=by omega
          obtain ⟨g,cap,ef,_,_,_⟩:=Kd.R_form HO.out hpos
          injection ef with e1 e2 e3
          subst e1
          have hx0:wr.cell? ⟨g,s.length,none⟩=some (.map (some a)):=by
            have h:=(Kd.R_celln 0 HO.out (s.length:Int) (by omega) (by omega)).1
            simp only [Int.toNat_natCast] at h
            rw [h]
            simp [rdOf,hbs]
          have hx1:wr.cell? ⟨g,s.length + 1,none⟩=some (.map (some b)):=by
            have h:=(Kd.R_celln 0 HO.out ((s.length + 1:Nat):Int) (by omega) (by omega)).1
            simp only [Int.toNat_natCast] at h
            rw [h]
            simp [rdOf,hbs]
          have hcut1:=cut_to (P:=Try.prog) 126 88 .i64 Try.underlying126 hii (some ⟨g,0,none⟩) bs.length cc (s.length:Int) (by omega) (by omega) hcap
          have hcut2:=cut_from (P:=Try.prog) 126 88 .i64 Try.underlying126 hii 1 hiz.2.1 (some ⟨g,0,none⟩) bs.length cc (s.length:Int) (by omega) (by omega)
          have hadd:(⟨g,0,none⟩:Addr).add s.length=⟨g,s.length,none⟩:=by simp only [Addr.add,Nat.zero_add];split <;> simp_all
          have hsub:bs.length - s.length=2:=by omega
          have hnc:¬ cc=s.length:=by omega
          simp only [Int.toNat_natCast,if_neg hnc,Option.map_some,Nat.mul_one,hadd,hsub] at hcut1 hcut2
          have hwn:wrap64 ((bs.length:Int) - 2)=(s.length:Int):=by have:=HSZ.out;have:=HBL.out;unfold wrap64;omega
          have hwk:IntKind.i64.wrap ((bs.length:Int) - 2)=(s.length:Int):=by have:=HSZ.out;have:=HBL.out;simp only [IntKind.wrap];simp [IntKind.signed,IntKind.bits];omega
          have hdn:decide ((bs.length:Int) < 2)=false:=decide_eq_false (by omega)
          have hdn2:decide (bs.length < 2)=false:=decide_eq_false (by omega)
          have qn0:((0:Int) ≤ (s.length:Int))=True:=eq_true (by omega)
          have qn1:((s.length:Int) ≤ (bs.length:Int))=True:=eq_true (by omega)
          have HSOF:Aside0 (∀ w',Below wr.heap.size wr w' → w'.cell? ⟨gb,2,none⟩=some (.func (.func 59) #[] #[])∧w'.cell? ⟨g,s.length,none⟩=some (.map (some a))∧w'.cell? ⟨g,s.length + 1,none⟩=some (.map (some b))):=⟨fun w' hb=>⟨(hb.cell (World.block_lt_of_cell? wr _ hb2)).trans hb2,(hb.cell (World.block_lt_of_cell? wr _ hx0)).trans hx0,(hb.cell (World.block_lt_of_cell? wr _ hx1)).trans hx1⟩⟩
          obtain ⟨q,hq,hqr⟩:=HRC.out
          rw [hstt] at hq
          have HJC:Aside0 (∀ W,Below wr.heap.size wr W → _):=⟨fun W hW=>both_rep' (m1,m2,m3) HMO.out a b X Y W (hRa.below hW) (hRb.below hW)⟩
          have HQ:=Aside0.mk hq
          have HQR:=Aside0.mk hqr
          have HLS:Aside0 (s.length ≤ i):=⟨by have:=HBL.out;omega⟩
          have HTT:=Aside0.mk hjt
          have HJN:=Aside0.mk hjn
          clear hq hqr HRC hc hii hiz hcap hbs hstt hjn hjt hRa hRb hadd hsub hnc hpos e2 e3
          go_wp2_with (first
          | (go_at_call 91;(with_reducible refine (HX1.out _).mono ?_);rintro e w9 ⟨rfl,rfl⟩)
          | (go_at_call 91;(with_reducible refine (HX2.out _).mono ?_);rintro e w9 ⟨rfl,rfl⟩)
          | (go_at_call 91;(with_reducible refine (HX3.out _).mono ?_);rintro e w9 ⟨rfl,rfl⟩))
          go_region_held3 (fun _=>True) (trivial) (first|fail|fail)
          clear hcut1 hcut2
          go_wp2_with fail
          go_region_held3 (fun w'=>w'.cell? ⟨gb,2,none⟩=some (.func (.func 59) #[] #[])∧w'.cell? ⟨g,s.length,none⟩=some (.map (some a))∧w'.cell? ⟨g,s.length + 1,none⟩=some (.map (some b)))
            (exact HSOF.out _ (by ((repeat (first|exact Below.refl _ _|assumption|exact HBWL.out|apply Below.drew|apply below_alloc));done)))
            (first
              | (go_at_call 59;(with_reducible refine (HJC.out _ ?bc).mono ?_);(case bc=>(repeat (first|exact Below.refl _ _|assumption|exact HBWL.out|apply Below.drew|apply below_alloc)));rintro e wl ⟨bl,rfl,hRl,hbl⟩;have HBWL:Aside0 (Below w9.heap.size w9 wl):=⟨below_step (by ((repeat (first|exact Below.refl _ _|assumption|exact HBWL.out|apply Below.drew|apply below_alloc));done)) hbl⟩;have HRL:=Aside0.mk hRl;clear hRl hbl)
              | fail)
          have HOL:Aside0 (kmap.R 88 wl w.heap.size (fun _=>True) (.slice (some ⟨g,0,none⟩) s.length cc) s):=⟨by
            have h:=Kd.R_take (m:=s.length) (Kd.R_below HO.out HBWL.out) (by have:=HJN.out;omega)
            rw [HTK.out] at h
            exact h⟩
          have HPL:=Aside0.mk (Reps3.below HPT.out HBWL.out)
          have HKL:=Aside0.mk (blk_below HBK.out HBWL.out)
          have HBL2:=Aside0.mk (below_step HB.out HBWL.out)
          go_wp2_with (first
            | ((with_reducible refine gate_builtin (b:=.append) (xs:=#[.tmp 97,.tmp 99]) rfl ?_);at_builtin;refine Kd.R_append kmap (w0:=w) w.heap.size rfl (.tmp 97) (.tmp 99) 126 88 (.map none) 8 rfl Try.underlying126 info88m rfl (by decide) (by omega) (.slice (some ⟨g,0,none⟩) s.length cc) s bl [.map (some bl)] (fun _=>True) (fun _=>False) rfl rfl rfl (fun _ h=>h.elim) (fun _ _=>trivial) HOL.out HBL2.out (below_size HBL2.out) (by have:=HLS.out;have:=HSZ.out;have:=HI.out;omega) ?_;intro v1 w10 hR1 hb1 hg1 hat1;have HALL:=Aside0.mk (found_push HOL.out HPL.out HRL.out HBL2.out HKL.out hR1 hg1);clear hR1 hb1 hg1 hat1))
          have hst:=HQ.out
          rw [Mach.step_plus] at hst
          obtain rfl:=Option.some.inj hst
          rcases HQR.out with ⟨h,_⟩|⟨st',h1,h2⟩
          · cases h
          obtain rfl:=Option.some.inj h1
          have HRUN2:=Aside0.mk h2
          clear h1 h2
          go_roundw
          case rel=>exact ⟨i + 1,s ++ [bl],t ++ [fBoth X Y],congrArg _ HW.out,⟨HLT.out⟩,⟨HALL.out.1⟩,⟨HALL.out.2.1⟩,⟨by rw [List.length_append];have:=HLS.out;simp;omega⟩,HRUN2,⟨HALL.out.2.2.1⟩,⟨HALL.out.2.2.2⟩⟩
          case measure=>rw [HW.out];simp only [intOf];have:=HLT.out;omega
        · have hci:(code[i]'hlt).toNat=43:=by rw [← hc];rfl
          have HX1:=Aside0.mk (fun W=>IndexByte_one 42 43 43 43 (by decide) (by decide) (-1) (by decide) W)
          have HX2:=Aside0.mk (fun W=>IndexByte_one 46 43 43 43 (by decide) (by decide) (-1) (by decide) W)
          have HX3:=Aside0.mk (fun W=>IndexByte_one 43 43 43 43 (by decide) (by decide) 0 (by decide) W)
          have hdn:decide ((bs.length:Int) < 2)=true:=decide_eq_true (by have:=HRP.out.1;omega)
          have hdn2:decide (bs.length < 2)=true:=decide_eq_true (by have:=HRP.out.1;omega)
          obtain ⟨q,hq,hqr⟩:=HRC.out
          rw [Mach.step_few _ _ _ _ (.inl ⟨.inr rfl,by omega⟩)] at hq
          obtain rfl:=Option.some.inj hq
          have hr:r=none:=by
            rcases hqr with ⟨_,h⟩|⟨st',h1,_⟩
            · exact h
            · cases h1
          subst hr
          clear hq hqr HRC hc hii hiz hcap hen
          go_wp2_with (first
          | (go_at_call 91;(with_reducible refine (HX1.out _).mono ?_);rintro e w9 ⟨rfl,rfl⟩)
          | (go_at_call 91;(with_reducible refine (HX2.out _).mono ?_);rintro e w9 ⟨rfl,rfl⟩)
          | (go_at_call 91;(with_reducible refine (HX3.out _).mono ?_);rintro e w9 ⟨rfl,rfl⟩))
          go_ret2
          exact ⟨_,rfl,fun L h=>by (cases h),HB.out⟩
      · by_cases hen:1 ≤ st.length
        · have hci:(code[i]'hlt).toNat=42:=by rw [← hc];rfl
          have HX1:=Aside0.mk (fun W=>IndexByte_one 42 42 42 42 (by decide) (by decide) 0 (by decide) W)
          have HX2:=Aside0.mk (fun W=>IndexByte_one 46 42 42 42 (by decide) (by decide) (-1) (by decide) W)
          have HX3:=Aside0.mk (fun W=>IndexByte_one 43 42 42 42 (by decide) (by decide) (-1) (by decide) W)
          obtain ⟨s,a,hbs⟩:=Mach.last_one (st:=bs) (by have:=HRP.out.1;omega)
          obtain ⟨t,X,hstt⟩:=Mach.last_one hen
          have hjn:bs.length=s.length + 1:=by rw [hbs];simp
          have hjt:s.length=t.length:=by have h1:=HRP.out.1;rw [hbs,hstt] at h1;simp at h1;exact h1
          have hRa:RepF (m1,m2,m3) wr a X:=HRP.out.2 s.length a X (by rw [hbs];simp) (by rw [hstt,hjt];simp)
          have HPT:=Aside0.mk (Reps3.take (bs:=s) (cs:=[a]) (st:=t) (tt:=[X]) (by rw [← hbs,← hstt];exact HRP.out) hjt)
          have HTK:=Aside0.mk (show bs.take s.length=s from by rw [hbs];simp)
          have hgc:∀ q x:Nat,bs.getD q 0=x → q < bs.length → wr.cell? ⟨0,0,none⟩=wr.cell? ⟨0,0,none⟩:=fun _ _ _ _=>rfl
          clear hgc
          have hpos:0 < bs.length:=by omega
          obtain ⟨g,cap,ef,_,_,_⟩:=Kd.R_form HO.out hpos
          injection ef with e1 e2 e3
          subst e1
          have hx0:wr.cell? ⟨g,s.length,none⟩=some (.map (some a)):=by
            have h:=(Kd.R_celln 0 HO.out (s.length:Int) (by omega) (by omega)).1
            simp only [Int.toNat_natCast] at h
            rw [h]
            simp [rdOf,hbs]
          have hcut1:=cut_to (P:=Try.prog) 126 88 .i64 Try.underlying126 hii (some ⟨g,0,none⟩) bs.length cc (s.length:Int) (by omega) (by omega) hcap
          have hcut2:=cut_from (P:=Try.prog) 126 88 .i64 Try.underlying126 hii 1 hiz.2.1 (some ⟨g,0,none⟩) bs.length cc (s.length:Int) (by omega) (by omega)
          have hadd:(⟨g,0,none⟩:Addr).add s.length=⟨g,s.length,none⟩:=by simp only [Addr.add,Nat.zero_add];split <;> simp_all
          have hsub:bs.length - s.length=1:=by omega
          have hnc:¬ cc=s.length:=by omega
          simp only [Int.toNat_natCast,if_neg hnc,Option.map_some,Nat.mul_one,hadd,hsub] at hcut1 hcut2
          have hwn:wrap64 ((bs.length:Int) - 1)=(s.length:Int):=by have:=HSZ.out;have:=HBL.out;unfold wrap64;omega
          have hwk:IntKind.i64.wrap ((bs.length:Int) - 1)=(s.length:Int):=by have:=HSZ.out;have:=HBL.out;simp only [IntKind.wrap];simp [IntKind.signed,IntKind.bits];omega
          have hdn:decide ((bs.length:Int) < 1)=false:=decide_eq_false (by omega)
          have hdn2:decide (bs.length < 1)=false:=decide_eq_false (by omega)
          have qn0:((0:Int) ≤ (s.length:Int))=True:=eq_true (by omega)
          have qn1:((s.length:Int) ≤ (bs.length:Int))=True:=eq_true (by omega)
          have HSOF:Aside0 (∀ w',Below wr.heap.size wr w' → w'.cell? ⟨gb,3,none⟩=some (.func (.func 60) #[] #[.pointer (some ⟨gm,0,none⟩)])∧w'.cell? ⟨g,s.length,none⟩=some (.map (some a))):=⟨fun w' hb=>⟨(hb.cell (World.block_lt_of_cell? wr _ hb3)).trans hb3,(hb.cell (World.block_lt_of_cell? wr _ hx0)).trans hx0⟩⟩
          obtain ⟨q,hq,hqr⟩:=HRC.out
          rw [hstt] at hq
          rw [Mach.step_star] at hq
          obtain ⟨R,hR,rfl⟩:=Option.map_eq_some_iff.mp hq
          have HJC:Aside0 (∀ W,Below wr.heap.size wr W → _):=⟨fun W hW=>Accepts_star.calls k gm m1 m2 m3 HMO.out a X R W (blk_below HM.out (below_step HB.out hW)) (hRa.below hW) hR⟩
          have HQ:=Aside0.mk hq
          have HQR:=Aside0.mk hqr
          have HLS:Aside0 (s.length ≤ i):=⟨by have:=HBL.out;omega⟩
          have HTT:=Aside0.mk hjt
          have HJN:=Aside0.mk hjn
          clear hq hqr HRC hc hii hiz hcap hbs hstt hjn hjt hRa  hadd hsub hnc hpos e2 e3
          go_wp2_with (first
          | (go_at_call 91;(with_reducible refine (HX1.out _).mono ?_);rintro e w9 ⟨rfl,rfl⟩)
          | (go_at_call 91;(with_reducible refine (HX2.out _).mono ?_);rintro e w9 ⟨rfl,rfl⟩)
          | (go_at_call 91;(with_reducible refine (HX3.out _).mono ?_);rintro e w9 ⟨rfl,rfl⟩))
          go_region_held3 (fun _=>True) (trivial) (first|fail|fail)
          clear hcut1 hcut2
          go_wp2_with fail
          go_region_held3 (fun w'=>w'.cell? ⟨gb,3,none⟩=some (.func (.func 60) #[] #[.pointer (some ⟨gm,0,none⟩)])∧w'.cell? ⟨g,s.length,none⟩=some (.map (some a)))
            (exact HSOF.out _ (by ((repeat (first|exact Below.refl _ _|assumption|exact HBWL.out|apply Below.drew|apply below_alloc));done)))
            (first
              | (go_at_call 60;(with_reducible refine (HJC.out _ ?bc).mono ?_);(case bc=>(repeat (first|exact Below.refl _ _|assumption|exact HBWL.out|apply Below.drew|apply below_alloc)));rintro e wl ⟨bl,rfl,hRl,hbl⟩;have HBWL:Aside0 (Below w9.heap.size w9 wl):=⟨below_step (by ((repeat (first|exact Below.refl _ _|assumption|exact HBWL.out|apply Below.drew|apply below_alloc));done)) hbl⟩;have HRL:=Aside0.mk hRl;clear hRl hbl)
              | fail)
          have HOL:Aside0 (kmap.R 88 wl w.heap.size (fun _=>True) (.slice (some ⟨g,0,none⟩) s.length cc) s):=⟨by
            have h:=Kd.R_take (m:=s.length) (Kd.R_below HO.out HBWL.out) (by have:=HJN.out;omega)
            rw [HTK.out] at h
            exact h⟩
          have HPL:=Aside0.mk (Reps3.below HPT.out HBWL.out)
          have HKL:=Aside0.mk (blk_below HBK.out HBWL.out)
          have HBL2:=Aside0.mk (below_step HB.out HBWL.out)
          go_wp2_with (first
            | ((with_reducible refine gate_builtin (b:=.append) (xs:=#[.tmp 97,.tmp 99]) rfl ?_);at_builtin;refine Kd.R_append kmap (w0:=w) w.heap.size rfl (.tmp 97) (.tmp 99) 126 88 (.map none) 8 rfl Try.underlying126 info88m rfl (by decide) (by omega) (.slice (some ⟨g,0,none⟩) s.length cc) s bl [.map (some bl)] (fun _=>True) (fun _=>False) rfl rfl rfl (fun _ h=>h.elim) (fun _ _=>trivial) HOL.out HBL2.out (below_size HBL2.out) (by have:=HLS.out;have:=HSZ.out;have:=HI.out;omega) ?_;intro v1 w10 hR1 hb1 hg1 hat1;have HALL:=Aside0.mk (found_push HOL.out HPL.out HRL.out HBL2.out HKL.out hR1 hg1);clear hR1 hb1 hg1 hat1))
          skip
          rcases HQR.out with ⟨h,_⟩|⟨st',h1,h2⟩
          · cases h
          obtain rfl:=Option.some.inj h1
          have HRUN2:=Aside0.mk h2
          clear h1 h2
          go_roundw
          case rel=>exact ⟨i + 1,s ++ [bl],t ++ [R],congrArg _ HW.out,⟨HLT.out⟩,⟨HALL.out.1⟩,⟨HALL.out.2.1⟩,⟨by rw [List.length_append];have:=HLS.out;simp;omega⟩,HRUN2,⟨HALL.out.2.2.1⟩,⟨HALL.out.2.2.2⟩⟩
          case measure=>rw [HW.out];simp only [intOf];have:=HLT.out;omega
        · have hci:(code[i]'hlt).toNat=42:=by rw [← hc];rfl
          have HX1:=Aside0.mk (fun W=>IndexByte_one 42 42 42 42 (by decide) (by decide) 0 (by decide) W)
          have HX2:=Aside0.mk (fun W=>IndexByte_one 46 42 42 42 (by decide) (by decide) (-1) (by decide) W)
          have HX3:=Aside0.mk (fun W=>IndexByte_one 43 42 42 42 (by decide) (by decide) (-1) (by decide) W)
          have hdn:decide ((bs.length:Int) < 1)=true:=decide_eq_true (by have:=HRP.out.1;omega)
          have hdn2:decide (bs.length < 1)=true:=decide_eq_true (by have:=HRP.out.1;omega)
          obtain ⟨q,hq,hqr⟩:=HRC.out
          rw [Mach.step_few _ _ _ _ (.inr ⟨rfl,by omega⟩)] at hq
          obtain rfl:=Option.some.inj hq
          have hr:r=none:=by
            rcases hqr with ⟨_,h⟩|⟨st',h1,_⟩
            · exact h
            · cases h1
          subst hr
          clear hq hqr HRC hc hii hiz hcap hen
          go_wp2_with (first
          | (go_at_call 91;(with_reducible refine (HX1.out _).mono ?_);rintro e w9 ⟨rfl,rfl⟩)
          | (go_at_call 91;(with_reducible refine (HX2.out _).mono ?_);rintro e w9 ⟨rfl,rfl⟩)
          | (go_at_call 91;(with_reducible refine (HX3.out _).mono ?_);rintro e w9 ⟨rfl,rfl⟩))
          go_ret2
          exact ⟨_,rfl,fun L h=>by (cases h),HB.out⟩
      · obtain ⟨n1,n2,n3,n4,n5,n6,n7⟩:=hoth
        have hcc:code[i]'hlt=c:=hc.symm
        have hpc:(0:Int) ≤ ((c.toNat:Nat):Int):=Int.natCast_nonneg _
        have HX1:=Aside0.mk (fun W=>IndexByte_one 42 c c ((c.toNat:Nat):Int) hpc (by simp) (-1) (by rw [if_neg (fun e=>n7 e.symm)]) W)
        have HX2:=Aside0.mk (fun W=>IndexByte_one 46 c c ((c.toNat:Nat):Int) hpc (by simp) (-1) (by rw [if_neg (fun e=>n5 e.symm)]) W)
        have HX3:=Aside0.mk (fun W=>IndexByte_one 43 c c ((c.toNat:Nat):Int) hpc (by simp) (-1) (by rw [if_neg (fun e=>n6 e.symm)]) W)
        have ne:∀ d:UInt8,c ≠ d → ((c.toNat:Int) == (d.toNat:Int))=false:=fun d h=>beq_eq_false_iff_ne.mpr (fun e=>h (UInt8.toNat_inj.mp (by omega)))
        have e1:((c.toNat:Int) == 97)=false:=ne 97 n1
        have e2:((c.toNat:Int) == 98)=false:=ne 98 n2
        have e3:((c.toNat:Int) == 99)=false:=ne 99 n3
        have e4:((c.toNat:Int) == 101)=false:=ne 101 n4
        have e5:((c.toNat:Int) == 46)=false:=ne 46 n5
        have e6:((c.toNat:Int) == 43)=false:=ne 43 n6
        have e7:((c.toNat:Int) == 42)=false:=ne 42 n7
        obtain ⟨q,hq,hqr⟩:=HRC.out
        rw [Mach.step_other _ _ _ _ ⟨n1,n2,n3,n4,n5,n6,n7⟩] at hq
        obtain rfl:=Option.some.inj hq
        have hr:r=none:=by
          rcases hqr with ⟨_,h⟩|⟨st',h1,_⟩
          · exact h
          · cases h1
        subst hr
        have hcut1:=cut_to (P:=Try.prog) 126 88 .i64 Try.underlying126 hii A bs.length cc (bs.length:Int) (by omega) (by omega) hcap
        have hcut2:=cut_from (P:=Try.prog) 126 88 .i64 Try.underlying126 hii 1 hiz.2.1 A bs.length cc (bs.length:Int) (by omega) (by omega)
        simp only [Int.toNat_natCast] at hcut1 hcut2
        generalize Value.slice (if cc=bs.length then A else A.map (·.add (bs.length * 1))) (bs.length - bs.length) (cc - bs.length)=vt at hcut2
        have hwn:wrap64 ((bs.length:Int) - 0)=(bs.length:Int):=by have:=HSZ.out;have:=HBL.out;unfold wrap64;omega
        have hwn2:wrap64 (bs.length:Int)=(bs.length:Int):=by have:=HSZ.out;have:=HBL.out;unfold wrap64;omega
        have hwk1:IntKind.i64.wrap ((bs.length:Int) - 0)=(bs.length:Int):=by have:=HSZ.out;have:=HBL.out;simp only [IntKind.wrap];simp [IntKind.signed,IntKind.bits];omega
        have hwk2:IntKind.i64.wrap (bs.length:Int)=(bs.length:Int):=by have:=HSZ.out;have:=HBL.out;simp only [IntKind.wrap];simp [IntKind.signed,IntKind.bits];omega
        have qn0:((0:Int) ≤ (bs.length:Int))=True:=eq_true (by omega)
        clear hq hqr HRC hc hii hiz hcap ne n1 n2 n3 n4 n5 n6 n7
        go_wp2_with (first
          | (go_at_call 91;(with_reducible refine (HX1.out _).mono ?_);rintro e w9 ⟨rfl,rfl⟩)
          | (go_at_call 91;(with_reducible refine (HX2.out _).mono ?_);rintro e w9 ⟨rfl,rfl⟩)
          | (go_at_call 91;(with_reducible refine (HX3.out _).mono ?_);rintro e w9 ⟨rfl,rfl⟩))
        go_region_held3 (fun _=>True) (trivial) (first|fail|fail)
        clear hcut1 hcut2
        go_wp2
        go_ret2
        exact ⟨_,rfl,fun L h=>by (cases h),HB.out.drew⟩
    · have hd:decide ((i:Int) < (code.size:Int))=false:=decide_eq_false (by omega)
      have hd0:decide (i < code.size)=false:=decide_eq_false hlt
      have hi:i=code.size:=by have:=HI.out;omega
      have hr0:runF k (m1,m2,m3) [] st=some r:=by
        have h:=HR.out
        rw [hi,show code.data.toList.drop code.size=[] from List.drop_eq_nil_of_le (Nat.le_of_eq HLEN.out.symm)] at h
        exact h
      have hr1:r=endOf st:=endOf_run hr0
      obtain ⟨A,cc,rfl⟩:=Kd.R_slice HO.out
      by_cases h1:bs.length=1
      · obtain ⟨b,rfl⟩:∃ b,bs=[b]:=List.length_eq_one_iff.mp h1
        obtain ⟨L,rfl⟩:∃ L,st=[L]:=List.length_eq_one_iff.mp (by have:=HRP.out.1;simpa using this.symm)
        have hL:=Aside0.mk (HRP.out.2 0 b L rfl rfl)
        obtain ⟨g,cap,ef,_,_,_⟩:=Kd.R_form HO.out (by simp)
        injection ef with e1 e2 e3
        subst e1
        have hx:wr.cell? ⟨g,0,none⟩=some (.map (some b)):=by
          have h:=(Kd.R_celln 0 HO.out (0:Int) (by omega) (by simp)).1
          simpa [rdOf] using h
        have hr1:r=some L:=hr1
        subst hr1
        clear h1 hr0 hlt hi e2 e3
        go_wp2
        go_ret2
        exact ⟨_,rfl,fun L' h=>⟨b,rfl,by obtain rfl:=Option.some.inj h;exact hL.out⟩,HB.out⟩
      · have hr2:r=none:=by
          rw [hr1]
          exact endOf_none (by have:=HRP.out.1;omega)
        subst hr2
        have hn1:((bs.length:Int) != 1)=true:=bne_iff_ne.mpr (by omega)
        have hn2:(bs.length != 1)=true:=bne_iff_ne.mpr h1
        clear h1 hr0 hr1 hlt hi
        go_wp2
        go_ret2
        exact ⟨_,rfl,fun L' h=>by (cases h),HB.out⟩
def v3of (l:List Int):FoundW.V3:=(l.getD 0 0,l.getD 1 0,l.getD 2 0)
def count_Accepts.f (k:Nat) (a0:ByteArray) (l1:List Int):Option (Bool × Int) :=
  if 30 < a0.size then some (false,3) else if l1.any (fun x=>decide (x < 0) || decide (8 < x))=true then some (false,1) else if l1.length=3 then (runF k (v3of l1) a0.data.toList []).bind fun r=>match r with|none=>some (false,2)|some L=>some (decide (v3of l1 ∈ L),0) else some (false,2)
theorem set4_all {w0 w w1:World} {gm g:Nat} {cs:Array Value} {t:TypeId} (h:w.heap[gm]?=some (.cells cs t (0,0))) (hB:Below w0.heap.size w0 w) (hb:Below w.heap.size w w1) (hg:g=w.heap.size) (a b c d:Value) :
    ((((w1.setCell ⟨g,0,none⟩ a).setCell ⟨g,1,none⟩ b).setCell ⟨g,2,none⟩ c).setCell ⟨g,3,none⟩ d).heap[gm]?=some (.cells cs t (0,0))∧Below w0.heap.size w0 ((((w1.setCell ⟨g,0,none⟩ a).setCell ⟨g,1,none⟩ b).setCell ⟨g,2,none⟩ c).setCell ⟨g,3,none⟩ d):=by
  have hne:gm ≠ g:=by have:=blk_lt h;omega
  have hs:w0.heap.size ≤ g:=by have:=hB.size;omega
  exact ⟨blk_far (blk_far (blk_far (blk_far (blk_below h hb) hne _) hne _) hne _) hne _,below_set (below_set (below_set (below_set (below_step hB hb) hs) hs) hs) hs⟩
theorem mach_mono {M:Type} {l1 l2:Int → Option M} {j1 j2 e1 e2:M → M → Option M} {s1 s2:M → Option M} (hl:∀ i,LeO (l1 i) (l2 i)) (hj:∀ a b,LeO (j1 a b) (j2 a b)) (he:∀ a b,LeO (e1 a b) (e2 a b)) (hs:∀ a,LeO (s1 a) (s2 a)):∀ (c:List UInt8) (st:List M),LeO (Mach.run l1 j1 e1 s1 c st) (Mach.run l2 j2 e2 s2 c st)
  | [],st=>LeO.refl _
  | c :: r,st=>by
    have hm:∀ {a b:Option M} (f:M → Option (List M)),LeO a b → LeO (a.map f) (b.map f):=fun f h q hq=>by
      obtain ⟨x,hx,rfl⟩:=Option.map_eq_some_iff.mp hq
      rw [h x hx];rfl
    unfold Mach.run
    refine LeO.bind ?_ (fun o=>?_)
    · unfold Mach.step
      refine LeO.ite (hm _ (hl _)) (LeO.ite (hm _ (hl _)) (LeO.ite (hm _ (hl _)) (LeO.ite (hm _ (hl _)) (LeO.ite ?_ (LeO.ite ?_ (LeO.ite ?_ (LeO.refl _)))))))
      · split
        · exact hm _ (hj _ _)
        · exact LeO.refl _
      · split
        · exact hm _ (he _ _)
        · exact LeO.refl _
      · split
        · exact hm _ (hs _)
        · exact LeO.refl _
    · cases o with
      | none=>exact LeO.refl _
      | some st'=>exact mach_mono hl hj he hs r st'
theorem runF_mono (k:Nat) (m:FoundW.V3) (c:List UInt8) (st:List (List FoundW.V3)):LeO (runF k m c st) (runF (k + 1) m c st) :=
  mach_mono (fun _=>LeO.refl _) (fun _ _=>LeO.refl _) (fun _ _=>LeO.refl _) (fun a=>fStar.mono m a k _) c st
theorem count_Accepts.mono:∀ a0 a1 k,LeO (count_Accepts.f k a0 a1) (count_Accepts.f (k + 1) a0 a1):=fun a0 a1 k=>by
  unfold count_Accepts.f
  exact LeO.ite (LeO.refl _) (LeO.ite (LeO.refl _) (LeO.ite (LeO.bind (runF_mono k _ _ _) (fun _=>LeO.refl _)) (LeO.refl _)))
theorem mok_of {l:List Int} (h:l.any (fun x=>decide (x < 0) || decide (8 < x))=false) (hl:l.length=3):mok (v3of l):=by
  match l,hl with
  | [a,b,c],_ =>
    simp at h
    obtain ⟨h1,h2,h3⟩:=h
    exact ⟨⟨by show 0 ≤ a;omega,by show a ≤ 8;omega⟩,⟨by show 0 ≤ b;omega,by show b ≤ 8;omega⟩,⟨by show 0 ≤ c;omega,by show c ≤ 8;omega⟩⟩
theorem stf {P:Program} {w:World} {a:Addr} {m:Mode} (fn:Fn) (first captured:Array Value):(store a (.func fn first captured) m).run P w=stored P w a (.func fn first captured) m:=run_store P w a _ m rfl
attribute [local go_sem] stf in
set_option maxHeartbeats 4000000 in
set_option maxRecDepth 100000 in
theorem count_Accepts.calls (k:Nat) (a0:ByteArray) (A1:Option Addr) (c1:Nat) (l1:List Int) (r1:Bool) (r2:Int) (w:World) (hr1:Kd.C (Kd.int .i64) w A1 l1.length l1) (hc1:l1.length ≤ c1) (h:count_Accepts.f k a0 l1=some (r1,r2)) :
    Calls Try.prog 26 #[.string a0,.slice A1 l1.length c1] w fun e w'=>e=.returned (.tuple #[.bool r1,.int .i64 r2])∧Below w.heap.size w w':=by
  have HR1:=Aside0.mk hr1
  have HC1:=Aside0.mk hc1
  have hout:=Aside0.mk (count_outside.calls A1 c1 l1 8 (l1.any (fun x=>decide (x < 0) || decide (8 < x))) w hr1 hc1 rfl)
  unfold count_Accepts.f at h
  by_cases h30:30 < a0.size
  · rw [if_pos h30] at h
    obtain ⟨rfl,rfl⟩:=Prod.mk.inj (Option.some.inj h)
    have hd:decide ((30:Int) < (a0.size:Int))=true:=decide_eq_true (by omega)
    have hd2:decide (30 < a0.size)=true:=decide_eq_true h30
    clear h hr1 hc1
    go_enter Try.func26,Try.ntmps26
    go_wp2
    go_ret2
    exact ⟨rfl,Below.refl _ _⟩
  rw [if_neg h30] at h
  have hd:decide ((30:Int) < (a0.size:Int))=false:=decide_eq_false (by omega)
  have hd2:decide (30 < a0.size)=false:=decide_eq_false h30
  have HSZ:=Aside0.mk (show a0.size ≤ 1000 from by omega)
  cases ho:l1.any (fun x=>decide (x < 0) || decide (8 < x)) with
  | true =>
    rw [if_pos ho] at h
    obtain ⟨rfl,rfl⟩:=Prod.mk.inj (Option.some.inj h)
    rw [ho] at hout
    clear h hr1 hc1 ho h30
    go_enter Try.func26,Try.ntmps26
    go_wp2_with (go_at_call 52;(with_reducible refine hout.out.mono ?_);rintro e w1 ⟨rfl,hb1⟩;have HB1:=Aside0.mk hb1;clear hb1)
    go_ret2
    exact ⟨rfl,HB1.out⟩
  | false =>
    rw [if_neg (by rw [ho];decide)] at h
    rw [ho] at hout
    by_cases hl:l1.length=3
    · rw [if_pos hl] at h
      obtain ⟨q,hq,h⟩:=Option.bind_eq_some_iff.mp h
      have HMO:=Aside0.mk (mok_of ho hl)
      match l1,hl,HR1,hout,HMO,hq,HC1,h with
      | [x,y,z],_,HR1,hout,HMO,hq,HC1,h =>
        have HQ:=Aside0.mk (show runF k (x,y,z) a0.data.toList []=some q from hq)
        have HH:=Aside0.mk h
        obtain ⟨ad,rfl,hx0⟩:=Kd.at_int HR1.out 0 (by omega) (by simp)
        obtain ⟨_,e1,hx1⟩:=Kd.at_int HR1.out 1 (by omega) (by simp)
        obtain ⟨_,e2,hx2⟩:=Kd.at_int HR1.out 2 (by omega) (by simp)
        cases e1
        cases e2
        simp only [List.length_cons,List.length_nil] at hout ⊢
        have hc0:w.cell? ad=some (.int .i64 x):=by simpa [Addr.add,rd] using hx0
        have hc1':w.cell? ⟨ad.block,ad.off + 1,none⟩=some (.int .i64 y):=by simpa [Addr.add,rd] using hx1
        have hc2:w.cell? ⟨ad.block,ad.off + 2,none⟩=some (.int .i64 z):=by simpa [Addr.add,rd] using hx2
        have HK0:=Aside0.mk hc0
        have HK1:=Aside0.mk hc1'
        have HK2:=Aside0.mk hc2
        have HRUNC:Aside0 (∀ (gm:Nat) (W:World),W.heap[gm]?=some (.cells #[.int .i64 x,.int .i64 y,.int .i64 z] 86 (0,0)) → _):=⟨fun gm W hb=>found_run.calls k gm x y z HMO.out a0 q W hb HSZ.out HQ.out⟩
        have harr:∀ W:World,(Instr.arrayAt 86 (.slice (some ad) 3 c1)).run Try.prog W=.ok (.pointer (some ad)) W:=fun W=>run_arrayAt W 86 3 3 (some ad) 3 c1 Try.underlying86 (by decide)
        clear hr1 hc1 ho h30 hq h hx0 hx1 hx2 hc0 hc1' hc2
        have HZ4:Aside0 (∀ W:World,(zeroValue 4).run Try.prog W=.ok (.bool false) W):=⟨fun W=>by kernel_rfl⟩
        have HOK3:Aside0 (FoundW.ok3 (x,y,z)):=⟨by obtain ⟨⟨a1,a2⟩,⟨b1,b2⟩,⟨c1,c2⟩⟩:=HMO.out;exact ⟨FoundW.in64_of (by show _ ≤ x;have:0 ≤ x:=a1;omega) (by show x ≤ _;have:x ≤ 8:=a2;omega),FoundW.in64_of (by show _ ≤ y;have:0 ≤ y:=b1;omega) (by show y ≤ _;have:y ≤ 8:=b2;omega),FoundW.in64_of (by show _ ≤ z;have:0 ≤ z:=c1;omega) (by show z ≤ _;have:z ≤ 8:=c2;omega)⟩⟩
        cases q with
        | none =>
          have hu94:=Try.underlying94
          go_enter Try.func26,Try.ntmps26
          go_wp2_with (first
            | (go_at_call 52;(with_reducible refine hout.out.mono ?_);rintro e w1 ⟨rfl,hb1⟩;have HB1:=Aside0.mk hb1;have hc0:w1.cell? ad=some (.int .i64 x):=(hb1.cell (World.block_lt_of_cell? w _ HK0.out)).trans HK0.out;have hc1:w1.cell? ⟨ad.block,ad.off + 1,none⟩=some (.int .i64 y):=(hb1.cell (World.block_lt_of_cell? w _ HK1.out)).trans HK1.out;have hc2:w1.cell? ⟨ad.block,ad.off + 2,none⟩=some (.int .i64 z):=(hb1.cell (World.block_lt_of_cell? w _ HK2.out)).trans HK2.out;clear hb1)
            | ((with_reducible refine gate_dst (N:=6) rfl ?_);refine box_event ?hg (N:=6) ?hd (cs:=#[.int .i64 0,.int .i64 0,.int .i64 0]) (t:=86) ?hr ?_;(case hd=>rfl);(case hg=>rfl);(case hr=>first|(go_simp;done)|(go_simp;rfl));intro gm hgm w6 hbox hb;have BM:=Aside0.mk (box_set3 x y z hbox);have HB6:=Aside0.mk (below_set3 x y z HB1.out hb hgm);have hcz0:w6.cell? ⟨gm,0,none⟩=some (.int .i64 0):=(blk_cell hbox 0).trans rfl;have hcz1:w6.cell? ⟨gm,1,none⟩=some (.int .i64 0):=(blk_cell hbox 1).trans rfl;have hcz2:w6.cell? ⟨gm,2,none⟩=some (.int .i64 0):=(blk_cell hbox 2).trans rfl;have hcf0:w6.frozen? ⟨gm,0,none⟩=false:=blk_frozen hbox 0;have hcf1:w6.frozen? ⟨gm,1,none⟩=false:=blk_frozen hbox 1;have hcf2:w6.frozen? ⟨gm,2,none⟩=false:=blk_frozen hbox 2;clear hb hbox hgm)
            | ((with_reducible refine gate_dst (N:=7) rfl ?_);refine box_event ?hg (N:=7) ?hd (cs:=#[.nilFunc,.nilFunc,.nilFunc,.nilFunc]) (t:=94) ?hr ?_;(case hd=>rfl);(case hg=>rfl);(case hr=>first|(go_simp;done)|(go_simp;rfl));intro gb hgb w7 hbox hb;have HS4:=Aside0.mk (set4_all BM.out HB6.out hb hgb (.func (.func 55) #[] #[.pointer (some ⟨gm,0,none⟩)]) (.func (.func 57) #[] #[.pointer (some ⟨gm,0,none⟩)]) (.func (.func 59) #[] #[]) (.func (.func 60) #[] #[.pointer (some ⟨gm,0,none⟩)]));have hdz0:w7.cell? ⟨gb,0,none⟩=some .nilFunc:=(blk_cell hbox 0).trans rfl;have hdz1:w7.cell? ⟨gb,1,none⟩=some .nilFunc:=(blk_cell hbox 1).trans rfl;have hdz2:w7.cell? ⟨gb,2,none⟩=some .nilFunc:=(blk_cell hbox 2).trans rfl;have hdz3:w7.cell? ⟨gb,3,none⟩=some .nilFunc:=(blk_cell hbox 3).trans rfl;have hdf0:w7.frozen? ⟨gb,0,none⟩=false:=blk_frozen hbox 0;have hdf1:w7.frozen? ⟨gb,1,none⟩=false:=blk_frozen hbox 1;have hdf2:w7.frozen? ⟨gb,2,none⟩=false:=blk_frozen hbox 2;have hdf3:w7.frozen? ⟨gb,3,none⟩=false:=blk_frozen hbox 3;clear hb hbox hgb)
            | (go_at_call 61;(with_reducible refine (HRUNC.out gm _ ?hb).mono ?_);(case hb=>exact HS4.out.1);rintro e w8 ⟨v8,rfl,hrep,hb8⟩;have HREP:=Aside0.mk hrep;have HM8:=Aside0.mk (blk_below HS4.out.1 hb8);have HB8:=Aside0.mk (below_step HS4.out.2 hb8);clear hrep hb8))
          obtain ⟨rfl,rfl⟩:=Prod.mk.inj (Option.some.inj HH.out)
          go_ret2
          exact ⟨rfl,HB8.out⟩
        | some L =>
          have hu94:=Try.underlying94
          go_enter Try.func26,Try.ntmps26
          go_wp2_with (first
            | (go_at_call 52;(with_reducible refine hout.out.mono ?_);rintro e w1 ⟨rfl,hb1⟩;have HB1:=Aside0.mk hb1;have hc0:w1.cell? ad=some (.int .i64 x):=(hb1.cell (World.block_lt_of_cell? w _ HK0.out)).trans HK0.out;have hc1:w1.cell? ⟨ad.block,ad.off + 1,none⟩=some (.int .i64 y):=(hb1.cell (World.block_lt_of_cell? w _ HK1.out)).trans HK1.out;have hc2:w1.cell? ⟨ad.block,ad.off + 2,none⟩=some (.int .i64 z):=(hb1.cell (World.block_lt_of_cell? w _ HK2.out)).trans HK2.out;clear hb1)
            | ((with_reducible refine gate_dst (N:=6) rfl ?_);refine box_event ?hg (N:=6) ?hd (cs:=#[.int .i64 0,.int .i64 0,.int .i64 0]) (t:=86) ?hr ?_;(case hd=>rfl);(case hg=>rfl);(case hr=>first|(go_simp;done)|(go_simp;rfl));intro gm hgm w6 hbox hb;have BM:=Aside0.mk (box_set3 x y z hbox);have HB6:=Aside0.mk (below_set3 x y z HB1.out hb hgm);have hcz0:w6.cell? ⟨gm,0,none⟩=some (.int .i64 0):=(blk_cell hbox 0).trans rfl;have hcz1:w6.cell? ⟨gm,1,none⟩=some (.int .i64 0):=(blk_cell hbox 1).trans rfl;have hcz2:w6.cell? ⟨gm,2,none⟩=some (.int .i64 0):=(blk_cell hbox 2).trans rfl;have hcf0:w6.frozen? ⟨gm,0,none⟩=false:=blk_frozen hbox 0;have hcf1:w6.frozen? ⟨gm,1,none⟩=false:=blk_frozen hbox 1;have hcf2:w6.frozen? ⟨gm,2,none⟩=false:=blk_frozen hbox 2;clear hb hbox hgm)
            | ((with_reducible refine gate_dst (N:=7) rfl ?_);refine box_event ?hg (N:=7) ?hd (cs:=#[.nilFunc,.nilFunc,.nilFunc,.nilFunc]) (t:=94) ?hr ?_;(case hd=>rfl);(case hg=>rfl);(case hr=>first|(go_simp;done)|(go_simp;rfl));intro gb hgb w7 hbox hb;have HS4:=Aside0.mk (set4_all BM.out HB6.out hb hgb (.func (.func 55) #[] #[.pointer (some ⟨gm,0,none⟩)]) (.func (.func 57) #[] #[.pointer (some ⟨gm,0,none⟩)]) (.func (.func 59) #[] #[]) (.func (.func 60) #[] #[.pointer (some ⟨gm,0,none⟩)]));have hdz0:w7.cell? ⟨gb,0,none⟩=some .nilFunc:=(blk_cell hbox 0).trans rfl;have hdz1:w7.cell? ⟨gb,1,none⟩=some .nilFunc:=(blk_cell hbox 1).trans rfl;have hdz2:w7.cell? ⟨gb,2,none⟩=some .nilFunc:=(blk_cell hbox 2).trans rfl;have hdz3:w7.cell? ⟨gb,3,none⟩=some .nilFunc:=(blk_cell hbox 3).trans rfl;have hdf0:w7.frozen? ⟨gb,0,none⟩=false:=blk_frozen hbox 0;have hdf1:w7.frozen? ⟨gb,1,none⟩=false:=blk_frozen hbox 1;have hdf2:w7.frozen? ⟨gb,2,none⟩=false:=blk_frozen hbox 2;have hdf3:w7.frozen? ⟨gb,3,none⟩=false:=blk_frozen hbox 3;clear hb hbox hgb)
            | (go_at_call 61;(with_reducible refine (HRUNC.out gm _ ?hb).mono ?_);(case hb=>exact HS4.out.1);rintro e w8 ⟨v8,rfl,hrep,hb8⟩;obtain ⟨b8,rfl,S8,hS1,hS2,_⟩:=hrep L rfl;have HF8:=Aside0.mk hS1;have HE8:=Aside0.mk hS2;have hm0:w8.cell? ⟨gm,0,none⟩=some (.int .i64 x):=(blk_cell (blk_below HS4.out.1 hb8) 0).trans rfl;have hm1:w8.cell? ⟨gm,1,none⟩=some (.int .i64 y):=(blk_cell (blk_below HS4.out.1 hb8) 1).trans rfl;have hm2:w8.cell? ⟨gm,2,none⟩=some (.int .i64 z):=(blk_cell (blk_below HS4.out.1 hb8) 2).trans rfl;have HB8:=Aside0.mk (below_step HS4.out.2 hb8);clear hrep hb8 hS1 hS2)
            | ((with_reducible refine gate_dst (N:=38) rfl ?_);refine FoundW.lookup_found okf _ rfl (.tmp 36) (.tmp 37) rfl (HZ4.out _) b8 S8 rfl HF8.out (x,y,z) rfl HOK3.out ?_))
          obtain ⟨h1,rfl⟩:=Prod.mk.inj (Option.some.inj HH.out)
          have hr1:r1=decide ((x,y,z) ∈ S8):=by
            rw [← h1]
            exact decide_eq_decide.mpr (HE8.out (x,y,z)).symm
          go_ret2
          exact ⟨by rw [hr1];rfl,HB8.out⟩
    · rw [if_neg hl] at h
      obtain ⟨rfl,rfl⟩:=Prod.mk.inj (Option.some.inj h)
      have hn:((l1.length:Int) != 3)=true:=bne_iff_ne.mpr (by omega)
      have hn2:(l1.length != 3)=true:=bne_iff_ne.mpr hl
      clear h hr1 hc1 ho h30 hl
      go_enter Try.func26,Try.ntmps26
      go_wp2_with (go_at_call 52;(with_reducible refine hout.out.mono ?_);rintro e w1 ⟨rfl,hb1⟩;have HB1:=Aside0.mk hb1;clear hb1)
      go_ret2
      exact ⟨rfl,HB1.out⟩
def unitL (i:Int):List Int:=[if i=0 then 1 else 0,if i=1 then 1 else 0,if i=2 then 1 else 0]
def count_Image_1.f (a0:Int):Option (List S60 × Bool):=if -1 ≤ a0∧a0 ≤ 2 then some ([⟨unitL a0,[]⟩],false) else none
theorem img_one {w:World} {g h lo:Nat} {x y z:Int} (hg:w.heap[g]?=some (.cells #[.int .i64 x,.int .i64 y,.int .i64 z] 3 (0,0))) (hh:w.heap[h]?=some (.cells #[.slice (some ⟨g,0,none⟩) 3 3,.slice none 0 0] 60 (0,0))) (h1:lo ≤ g) (h2:lo ≤ h) :
    Kd.V k60 60 w w.heap.size (fun k=>lo ≤ k) (.slice (some ⟨h,0,none⟩) 1 1) [(⟨[x,y,z],[]⟩:S60)]:=by
  refine ⟨some ⟨h,0,none⟩,1,rfl,Nat.le_refl _,fun W' hW=>?_⟩
  have e1:=(hW g h1 (blk_lt hg)).trans hg
  have e2:=(hW h h2 (blk_lt hh)).trans hh
  refine ⟨rfl,by simp,fun _=>⟨⟨h,0,none⟩,rfl,fun q u hq=>?_⟩⟩
  have hq0:q=0:=by
    cases q with
    | zero=>rfl
    | succ q=>simp at hq
  subst hq0
  have hu:u=(⟨[x,y,z],[]⟩:S60):=by simpa using hq.symm
  subst hu
  refine ⟨[.slice (some ⟨g,0,none⟩) 3 3,.slice none 0 0],rfl,k60_mk W' (⟨[x,y,z],[]⟩:S60) (A0:=some ⟨g,0,none⟩) (c0:=3) (Nat.le_refl _) (MyWords.C_box (t:=3) e1 (by rfl) (by simp)) (A1:=none) (c1:=0) (Nat.le_refl _) (Kd.C_nil _ _),fun a b hab=>?_⟩
  match a,hab with
  | 0,hab =>
    have hb:b=.slice (some ⟨g,0,none⟩) 3 3:=by simpa using hab.symm
    subst hb
    have e:(⟨h,0,none⟩:Addr).add (0 * k60.sz + 0)=⟨h,0,none⟩:=by simp [Addr.add]
    rw [e,blk_cell e2];rfl
  | 1,hab =>
    have hb:b=.slice none 0 0:=by simpa using hab.symm
    subst hb
    have e:(⟨h,0,none⟩:Addr).add (0 * k60.sz + 1)=⟨h,1,none⟩:=by simp [Addr.add]
    rw [e,blk_cell e2];rfl
  | a + 2,hab=>simp at hab
theorem img_lit {P:Program} {ops:Array Oper} {rest:List Oper} {o:Oper} {a:Act} {Q:Exit → Act → World → Prop} {W:World} (hgd:o.guard=none) {N:Tmp} (_hd:o.dst=some N) {cs:Array Value} {t:TypeId} {n m:Nat}
    (hrun:(execOp a.eval o).run P W=.ok (.value (.slice (some ⟨W.heap.size,0,none⟩) n m)) (W.alloc (.cells cs t)))
    (h:∀ g,W.heap.size=g → ∀ w1,w1.heap[g]?=some (.cells cs t (0,0)) → Below W.heap.size W w1 → wpList P ops Q rest (a.put o.dst (.slice (some ⟨g,0,none⟩) n m)) w1):wpList P ops Q (o :: rest) a W :=
  Kd.event_run hgd hrun (h _ rfl _ (blk_new W _) (below_alloc (Below.refl _ _) _))
theorem img_end {w w3:World} {gb gv gl:Nat} {x y z:Int} {f b:Value} (hB:Below w.heap.size w w3) (hgb:w.heap.size ≤ gb) (hgv:w.heap.size ≤ gv) (hgl:w.heap.size ≤ gl) (bv:w3.heap[gv]?=some (.cells #[.int .i64 x,.int .i64 y,.int .i64 z] 3 (0,0))) (bl:w3.heap[gl]?=some (.cells #[.slice (some ⟨gv,0,none⟩) 3 3,.slice none 0 0] 60 (0,0))) (bg:w3.heap[gb]?=some (.cells #[f,b] 102 (0,0))) (u v:Value) :
    Kd.V k60 60 ((w3.setCell ⟨gb,0,none⟩ u).setCell ⟨gb,1,none⟩ v) w.heap.size (fun k_=>w.heap.size ≤ k_) (.slice (some ⟨gl,0,none⟩) 1 1) [(⟨[x,y,z],[]⟩:S60)]∧Below w.heap.size w ((w3.setCell ⟨gb,0,none⟩ u).setCell ⟨gb,1,none⟩ v)∧((w3.setCell ⟨gb,0,none⟩ u).setCell ⟨gb,1,none⟩ v).heap[gb]?=some (.cells #[u,v] 102 (0,0)):=by
  have b1:=blk_far (blk_far bv (p:=⟨gb,0,none⟩) (blk_ne bv bg (by decide)) u) (p:=⟨gb,1,none⟩) (blk_ne bv bg (by decide)) v
  have b2:=blk_far (blk_far bl (p:=⟨gb,0,none⟩) (blk_ne bl bg (by decide)) u) (p:=⟨gb,1,none⟩) (blk_ne bl bg (by decide)) v
  have hBB:=below_set (below_set (j:=0) (v:=u) hB hgb) (j:=1) (v:=v) hgb
  exact ⟨Kd.V_lower (img_one b1 b2 hgv hgl) hBB.size,hBB,blk_put (blk_put bg 0 u rfl) 1 v rfl⟩
theorem img_lo1 {w w2:World} (h:Below w.heap.size w w2) {g:Nat} (hg:w2.heap.size=g):w.heap.size ≤ g:=hg ▸ h.size
theorem img_lo2 {w w1 w2:World} (h:Below w.heap.size w w1) (_h2:Below w1.heap.size w1 w2) {g:Nat} (hg:w1.heap.size=g):w.heap.size ≤ g:=hg ▸ h.size
theorem make_three (w:World):(Instr.makeSlice 23 (.int .i64 3) (.int .i64 3)).run Try.prog w=.ok (.slice (some ⟨w.heap.size,0,none⟩) 3 3) (w.alloc (.cells #[.int .i64 0,.int .i64 0,.int .i64 0] 3)):=by
  obtain ⟨i0,hi,hzz⟩:=Option.map_eq_some_iff.1 info3
  simp only [Prod.mk.injEq] at hzz
  obtain ⟨hz0,hz1,hz2⟩:=hzz
  have h:=run_make (P:=Try.prog) w 23 3 i0 (.int .i64 0) Try.underlying23 hi hz0 .i64 .i64 3 3 (by omega) (by omega) (by rw [hz2];decide) (by omega)
  rw [hz1] at h
  have e:madeCells (Value.int .i64 0).cells (Int.toNat 3 * 1)=#[.int .i64 0,.int .i64 0,.int .i64 0]:=by kernel_rfl
  rw [e] at h
  exact h
set_option maxHeartbeats 4000000 in
set_option maxRecDepth 100000 in
theorem count_Image_1.calls (a0:Int) (r1:List S60) (r2:Bool) (w:World) (h:count_Image_1.f a0=some (r1,r2)) :
    Calls Try.prog 64 #[.int .i64 a0] w fun e w'=>∃ v0_:Value,e=.returned (.agg #[v0_,.bool r2])∧Kd.V k60 60 w' w.heap.size (fun k_=>w.heap.size ≤ k_) v0_ r1∧Below w.heap.size w w':=by
  unfold count_Image_1.f at h
  split at h
  case isFalse=>cases h
  rename_i hr
  obtain ⟨rfl,rfl⟩:=Prod.mk.inj (Option.some.inj h)
  have hu60:=Try.underlying60
  have hu102:=Try.underlying102
  clear h
  have hi:a0=-1 ∨ a0=0 ∨ a0=1 ∨ a0=2:=by omega
  clear hr
  rcases hi with rfl|rfl|rfl|rfl
  · go_enter Try.func64,Try.ntmps64
    go_wp2_with (first
      | ((with_reducible refine gate_dst (N:=2) rfl ?_);refine box_event ?hg (N:=2) ?hd (cs:=#[.slice none 0 0,.bool false]) (t:=102) ?hr ?_;(case hd=>rfl);(case hg=>rfl);(case hr=>first|(go_simp;done)|(go_simp;rfl));intro gb hgb w1 hbox hb;have BG:=Aside0.mk hbox;have GB:=Aside0.mk hgb;have HB1:=Aside0.mk hb;clear hb hbox hgb)
      | ((with_reducible refine gate_dst (N:=4) rfl ?_);refine img_lit ?hg (N:=4) ?hd (cs:=#[.int .i64 0,.int .i64 0,.int .i64 0]) (t:=3) (n:=3) (m:=3) ?hr ?_;(case hd=>rfl);(case hg=>rfl);(case hr=>go_simp;rw [make_three];rfl);intro gv hgv w2 hbox hb;have BV:=Aside0.mk hbox;have GV:=Aside0.mk hgv;have HB2:=Aside0.mk hb;have BG2:=Aside0.mk (blk_below BG.out hb);have hcz0:w2.cell? ⟨gv,0,none⟩=some (.int .i64 0):=(blk_cell hbox 0).trans rfl;have hcz1:w2.cell? ⟨gv,1,none⟩=some (.int .i64 0):=(blk_cell hbox 1).trans rfl;have hcz2:w2.cell? ⟨gv,2,none⟩=some (.int .i64 0):=(blk_cell hbox 2).trans rfl;have hcf0:w2.frozen? ⟨gv,0,none⟩=false:=blk_frozen hbox 0;have hcf1:w2.frozen? ⟨gv,1,none⟩=false:=blk_frozen hbox 1;have hcf2:w2.frozen? ⟨gv,2,none⟩=false:=blk_frozen hbox 2;clear hb hbox hgv)
      | ((with_reducible refine gate_dst (N:=12) rfl ?_);refine img_lit ?hg (N:=12) ?hd (cs:=#[.slice (some ⟨gv,0,none⟩) 3 3,.slice none 0 0]) (t:=60) (n:=1) (m:=1) ?hr ?_;(case hd=>rfl);(case hg=>rfl);(case hr=>first|(go_simp;done)|(go_simp;rfl));intro gl hgl w3 hbox hb;have bv2:=blk_below BV.out hb;have bg2:=blk_below BG2.out hb;have hbb:=below_step (below_step HB1.out HB2.out) hb;have hlo3:=img_lo1 (below_step HB1.out HB2.out) hgl;have BV3:=Aside0.mk bv2;have BG3:=Aside0.mk bg2;have BB3:=Aside0.mk hbb;have HL3:=Aside0.mk hlo3;have BL:=Aside0.mk hbox;have hdz0:w3.cell? ⟨gb,0,none⟩=some (.slice none 0 0):=(blk_cell bg2 0).trans rfl;have hdz1:w3.cell? ⟨gb,1,none⟩=some (.bool false):=(blk_cell bg2 1).trans rfl;have hdf0:w3.frozen? ⟨gb,0,none⟩=false:=blk_frozen bg2 0;have hdf1:w3.frozen? ⟨gb,1,none⟩=false:=blk_frozen bg2 1;clear hlo3 hbb bg2 bv2 hb hbox hgl)
      | fail)
    have hE:=img_end BB3.out (Nat.le_of_eq GB.out.symm) (img_lo2 HB1.out HB2.out GV.out) HL3.out BV3.out BL.out BG3.out (.slice (some ⟨gl,0,none⟩) 1 1) (.bool false)
    refine bodyPost_ret (results_cell_row rfl _ _ gb 102 #[.slice (some ⟨gl,0,none⟩) 1 1,.bool false] (0,0) _ rfl hE.2.2 Try.underlying102 rfl (by kernel_rfl)) rfl ?_
    exact ⟨_,rfl,hE.1,hE.2.1⟩
  · go_enter Try.func64,Try.ntmps64
    go_wp2_with (first
      | ((with_reducible refine gate_dst (N:=2) rfl ?_);refine box_event ?hg (N:=2) ?hd (cs:=#[.slice none 0 0,.bool false]) (t:=102) ?hr ?_;(case hd=>rfl);(case hg=>rfl);(case hr=>first|(go_simp;done)|(go_simp;rfl));intro gb hgb w1 hbox hb;have BG:=Aside0.mk hbox;have GB:=Aside0.mk hgb;have HB1:=Aside0.mk hb;clear hb hbox hgb)
      | ((with_reducible refine gate_dst (N:=4) rfl ?_);refine img_lit ?hg (N:=4) ?hd (cs:=#[.int .i64 0,.int .i64 0,.int .i64 0]) (t:=3) (n:=3) (m:=3) ?hr ?_;(case hd=>rfl);(case hg=>rfl);(case hr=>go_simp;rw [make_three];rfl);intro gv hgv w2 hbox hb;have BV:=Aside0.mk hbox;have GV:=Aside0.mk hgv;have HB2:=Aside0.mk hb;have BG2:=Aside0.mk (blk_below BG.out hb);have hcz0:w2.cell? ⟨gv,0,none⟩=some (.int .i64 0):=(blk_cell hbox 0).trans rfl;have hcz1:w2.cell? ⟨gv,1,none⟩=some (.int .i64 0):=(blk_cell hbox 1).trans rfl;have hcz2:w2.cell? ⟨gv,2,none⟩=some (.int .i64 0):=(blk_cell hbox 2).trans rfl;have hcf0:w2.frozen? ⟨gv,0,none⟩=false:=blk_frozen hbox 0;have hcf1:w2.frozen? ⟨gv,1,none⟩=false:=blk_frozen hbox 1;have hcf2:w2.frozen? ⟨gv,2,none⟩=false:=blk_frozen hbox 2;clear hb hbox hgv)
      | ((with_reducible refine gate_dst (N:=12) rfl ?_);refine img_lit ?hg (N:=12) ?hd (cs:=#[.slice (some ⟨gv,0,none⟩) 3 3,.slice none 0 0]) (t:=60) (n:=1) (m:=1) ?hr ?_;(case hd=>rfl);(case hg=>rfl);(case hr=>first|(go_simp;done)|(go_simp;rfl));intro gl hgl w3 hbox hb;have bv2:=blk_below (blk_put (cs':=#[.int .i64 1,.int .i64 0,.int .i64 0]) BV.out 0 (.int .i64 1) rfl) hb;have bg2:=blk_below (blk_far BG2.out (p:=⟨gv,0,none⟩) (blk_ne BG2.out BV.out (by decide)) (.int .i64 1)) hb;have hbb:=below_step (below_set (j:=0) (v:=.int .i64 1) (below_step HB1.out HB2.out) (img_lo2 HB1.out HB2.out GV.out)) hb;have hlo3:=img_lo1 (below_set (j:=0) (v:=.int .i64 1) (below_step HB1.out HB2.out) (img_lo2 HB1.out HB2.out GV.out)) hgl;have BV3:=Aside0.mk bv2;have BG3:=Aside0.mk bg2;have BB3:=Aside0.mk hbb;have HL3:=Aside0.mk hlo3;have BL:=Aside0.mk hbox;have hdz0:w3.cell? ⟨gb,0,none⟩=some (.slice none 0 0):=(blk_cell bg2 0).trans rfl;have hdz1:w3.cell? ⟨gb,1,none⟩=some (.bool false):=(blk_cell bg2 1).trans rfl;have hdf0:w3.frozen? ⟨gb,0,none⟩=false:=blk_frozen bg2 0;have hdf1:w3.frozen? ⟨gb,1,none⟩=false:=blk_frozen bg2 1;clear hlo3 hbb bg2 bv2 hb hbox hgl)
      | fail)
    have hE:=img_end BB3.out (Nat.le_of_eq GB.out.symm) (img_lo2 HB1.out HB2.out GV.out) HL3.out BV3.out BL.out BG3.out (.slice (some ⟨gl,0,none⟩) 1 1) (.bool false)
    refine bodyPost_ret (results_cell_row rfl _ _ gb 102 #[.slice (some ⟨gl,0,none⟩) 1 1,.bool false] (0,0) _ rfl hE.2.2 Try.underlying102 rfl (by kernel_rfl)) rfl ?_
    exact ⟨_,rfl,hE.1,hE.2.1⟩
  · go_enter Try.func64,Try.ntmps64
    go_wp2_with (first
      | ((with_reducible refine gate_dst (N:=2) rfl ?_);refine box_event ?hg (N:=2) ?hd (cs:=#[.slice none 0 0,.bool false]) (t:=102) ?hr ?_;(case hd=>rfl);(case hg=>rfl);(case hr=>first|(go_simp;done)|(go_simp;rfl));intro gb hgb w1 hbox hb;have BG:=Aside0.mk hbox;have GB:=Aside0.mk hgb;have HB1:=Aside0.mk hb;clear hb hbox hgb)
      | ((with_reducible refine gate_dst (N:=4) rfl ?_);refine img_lit ?hg (N:=4) ?hd (cs:=#[.int .i64 0,.int .i64 0,.int .i64 0]) (t:=3) (n:=3) (m:=3) ?hr ?_;(case hd=>rfl);(case hg=>rfl);(case hr=>go_simp;rw [make_three];rfl);intro gv hgv w2 hbox hb;have BV:=Aside0.mk hbox;have GV:=Aside0.mk hgv;have HB2:=Aside0.mk hb;have BG2:=Aside0.mk (blk_below BG.out hb);have hcz0:w2.cell? ⟨gv,0,none⟩=some (.int .i64 0):=(blk_cell hbox 0).trans rfl;have hcz1:w2.cell? ⟨gv,1,none⟩=some (.int .i64 0):=(blk_cell hbox 1).trans rfl;have hcz2:w2.cell? ⟨gv,2,none⟩=some (.int .i64 0):=(blk_cell hbox 2).trans rfl;have hcf0:w2.frozen? ⟨gv,0,none⟩=false:=blk_frozen hbox 0;have hcf1:w2.frozen? ⟨gv,1,none⟩=false:=blk_frozen hbox 1;have hcf2:w2.frozen? ⟨gv,2,none⟩=false:=blk_frozen hbox 2;clear hb hbox hgv)
      | ((with_reducible refine gate_dst (N:=12) rfl ?_);refine img_lit ?hg (N:=12) ?hd (cs:=#[.slice (some ⟨gv,0,none⟩) 3 3,.slice none 0 0]) (t:=60) (n:=1) (m:=1) ?hr ?_;(case hd=>rfl);(case hg=>rfl);(case hr=>first|(go_simp;done)|(go_simp;rfl));intro gl hgl w3 hbox hb;have bv2:=blk_below (blk_put (cs':=#[.int .i64 0,.int .i64 1,.int .i64 0]) BV.out 1 (.int .i64 1) rfl) hb;have bg2:=blk_below (blk_far BG2.out (p:=⟨gv,1,none⟩) (blk_ne BG2.out BV.out (by decide)) (.int .i64 1)) hb;have hbb:=below_step (below_set (j:=1) (v:=.int .i64 1) (below_step HB1.out HB2.out) (img_lo2 HB1.out HB2.out GV.out)) hb;have hlo3:=img_lo1 (below_set (j:=1) (v:=.int .i64 1) (below_step HB1.out HB2.out) (img_lo2 HB1.out HB2.out GV.out)) hgl;have BV3:=Aside0.mk bv2;have BG3:=Aside0.mk bg2;have BB3:=Aside0.mk hbb;have HL3:=Aside0.mk hlo3;have BL:=Aside0.mk hbox;have hdz0:w3.cell? ⟨gb,0,none⟩=some (.slice none 0 0):=(blk_cell bg2 0).trans rfl;have hdz1:w3.cell? ⟨gb,1,none⟩=some (.bool false):=(blk_cell bg2 1).trans rfl;have hdf0:w3.frozen? ⟨gb,0,none⟩=false:=blk_frozen bg2 0;have hdf1:w3.frozen? ⟨gb,1,none⟩=false:=blk_frozen bg2 1;clear hlo3 hbb bg2 bv2 hb hbox hgl)
      | fail)
    have hE:=img_end BB3.out (Nat.le_of_eq GB.out.symm) (img_lo2 HB1.out HB2.out GV.out) HL3.out BV3.out BL.out BG3.out (.slice (some ⟨gl,0,none⟩) 1 1) (.bool false)
    refine bodyPost_ret (results_cell_row rfl _ _ gb 102 #[.slice (some ⟨gl,0,none⟩) 1 1,.bool false] (0,0) _ rfl hE.2.2 Try.underlying102 rfl (by kernel_rfl)) rfl ?_
    exact ⟨_,rfl,hE.1,hE.2.1⟩
  · go_enter Try.func64,Try.ntmps64
    go_wp2_with (first
      | ((with_reducible refine gate_dst (N:=2) rfl ?_);refine box_event ?hg (N:=2) ?hd (cs:=#[.slice none 0 0,.bool false]) (t:=102) ?hr ?_;(case hd=>rfl);(case hg=>rfl);(case hr=>first|(go_simp;done)|(go_simp;rfl));intro gb hgb w1 hbox hb;have BG:=Aside0.mk hbox;have GB:=Aside0.mk hgb;have HB1:=Aside0.mk hb;clear hb hbox hgb)
      | ((with_reducible refine gate_dst (N:=4) rfl ?_);refine img_lit ?hg (N:=4) ?hd (cs:=#[.int .i64 0,.int .i64 0,.int .i64 0]) (t:=3) (n:=3) (m:=3) ?hr ?_;(case hd=>rfl);(case hg=>rfl);(case hr=>go_simp;rw [make_three];rfl);intro gv hgv w2 hbox hb;have BV:=Aside0.mk hbox;have GV:=Aside0.mk hgv;have HB2:=Aside0.mk hb;have BG2:=Aside0.mk (blk_below BG.out hb);have hcz0:w2.cell? ⟨gv,0,none⟩=some (.int .i64 0):=(blk_cell hbox 0).trans rfl;have hcz1:w2.cell? ⟨gv,1,none⟩=some (.int .i64 0):=(blk_cell hbox 1).trans rfl;have hcz2:w2.cell? ⟨gv,2,none⟩=some (.int .i64 0):=(blk_cell hbox 2).trans rfl;have hcf0:w2.frozen? ⟨gv,0,none⟩=false:=blk_frozen hbox 0;have hcf1:w2.frozen? ⟨gv,1,none⟩=false:=blk_frozen hbox 1;have hcf2:w2.frozen? ⟨gv,2,none⟩=false:=blk_frozen hbox 2;clear hb hbox hgv)
      | ((with_reducible refine gate_dst (N:=12) rfl ?_);refine img_lit ?hg (N:=12) ?hd (cs:=#[.slice (some ⟨gv,0,none⟩) 3 3,.slice none 0 0]) (t:=60) (n:=1) (m:=1) ?hr ?_;(case hd=>rfl);(case hg=>rfl);(case hr=>first|(go_simp;done)|(go_simp;rfl));intro gl hgl w3 hbox hb;have bv2:=blk_below (blk_put (cs':=#[.int .i64 0,.int .i64 0,.int .i64 1]) BV.out 2 (.int .i64 1) rfl) hb;have bg2:=blk_below (blk_far BG2.out (p:=⟨gv,2,none⟩) (blk_ne BG2.out BV.out (by decide)) (.int .i64 1)) hb;have hbb:=below_step (below_set (j:=2) (v:=.int .i64 1) (below_step HB1.out HB2.out) (img_lo2 HB1.out HB2.out GV.out)) hb;have hlo3:=img_lo1 (below_set (j:=2) (v:=.int .i64 1) (below_step HB1.out HB2.out) (img_lo2 HB1.out HB2.out GV.out)) hgl;have BV3:=Aside0.mk bv2;have BG3:=Aside0.mk bg2;have BB3:=Aside0.mk hbb;have HL3:=Aside0.mk hlo3;have BL:=Aside0.mk hbox;have hdz0:w3.cell? ⟨gb,0,none⟩=some (.slice none 0 0):=(blk_cell bg2 0).trans rfl;have hdz1:w3.cell? ⟨gb,1,none⟩=some (.bool false):=(blk_cell bg2 1).trans rfl;have hdf0:w3.frozen? ⟨gb,0,none⟩=false:=blk_frozen bg2 0;have hdf1:w3.frozen? ⟨gb,1,none⟩=false:=blk_frozen bg2 1;clear hlo3 hbb bg2 bv2 hb hbox hgl)
      | fail)
    have hE:=img_end BB3.out (Nat.le_of_eq GB.out.symm) (img_lo2 HB1.out HB2.out GV.out) HL3.out BV3.out BL.out BG3.out (.slice (some ⟨gl,0,none⟩) 1 1) (.bool false)
    refine bodyPost_ret (results_cell_row rfl _ _ gb 102 #[.slice (some ⟨gl,0,none⟩) 1 1,.bool false] (0,0) _ rfl hE.2.2 Try.underlying102 rfl (by kernel_rfl)) rfl ?_
    exact ⟨_,rfl,hE.1,hE.2.1⟩
def count_full.f (k:Nat) (a0:Int) (l1:List (S60)):Option ((List (S60)) × Int):=(count_check.f k a0 (([l1]:List (List (S60))))).bind fun t135=>(if t135=0 then (some (l1,0)) else (some (([]:List (S60)),7)))
theorem count_full.mono:∀ a0 a1 k,LeO (count_full.f k a0 a1) (count_full.f (k + 1) a0 a1):=by
  intro a0 a1 k
  unfold count_full.f
  with_reducible repeat' first|exact count_check.mono _ _ _|exact LeO.refl _|exact LeO.none _|refine LeO.ite ?_ ?_|refine LeO.bind ?_ (fun _=>?_)
set_option maxHeartbeats 8000000 in
set_option maxRecDepth 100000 in
theorem count_full.calls (k:Nat) (a0:Int) (P1_:Nat → Prop) (A1:Option Addr) (c1:Nat) (l1:List (S60)) (r1:List (S60)) (r2:Int) (w:World) (hs1:Kd.V k60 60 w w.heap.size (fun k_=>P1_ k_) (.slice A1 l1.length c1) l1) (h:count_full.f k a0 l1=some (r1,r2)) :
    Calls Try.prog 80 #[.int .i64 a0,.slice A1 l1.length c1] w fun e w'=>∃ v0_:Value,e=.returned (.tuple #[v0_,.int .i64 r2])∧Kd.V k60 60 w' w.heap.size (fun k_=>(P1_ k_ ∨ w.heap.size ≤ k_)) v0_ r1∧Below w.heap.size w w':=by
 have HO1:=mk0 (show Kd.V k60 60 w w.heap.size (fun k_=>(P1_ k_ ∨ w.heap.size ≤ k_)) (.slice A1 l1.length c1) l1 from Kd.V_mono hs1 (fun k_ hk=>.inl hk));have HB:=mk0 (Below.refl w.heap.size w);have H:((count_check.f k a0 (([l1]:List (List (S60))))).bind fun t135=>(if t135=0 then (some (l1,0)) else (some (([]:List (S60)),7))))=some (r1,r2):=h;clear h;obtain ⟨y132,hy132⟩:∃ y_:List (List (S60)),y_=(([l1]:List (List (S60)))):=⟨_,rfl⟩
 replace H:((count_check.f k a0 y132).bind fun t135=>(if t135=0 then (some (l1,0)) else (some (([]:List (S60)),7))))=some (r1,r2):=by first|(rw [hy132];with_reducible exact H)|(have H2_:=(Option.bind_some _ _).symm.trans H;rw [hy132];with_reducible exact H2_)|(have H2_:=(Option.bind_some _ _).symm.trans H;with_reducible exact H2_)|with_reducible exact H|(rw [hy132];exact H)|exact H
 have Ny132:=mk0 hy132;clear hy132;replace H:=Option.bind_eq_some_iff.mp H;obtain ⟨t135,A30,H⟩:=H;(try dsimp only at H);have A3:=mk0 A30;clear A30
 by_cases c4:t135=0
 ·
  rw [if_pos c4] at H;have c4b0:(t135 == 0)=true:=beq_iff_eq.mpr c4;have c4b1:(t135 != 0)=false:=bne_eq_false_iff_eq.mpr c4;clear c4;simp only [Option.some.injEq,Prod.mk.injEq] at H;obtain ⟨rfl,rfl⟩:=H;go_enter Try.func80,Try.ntmps80;go_wp2_with (first|((with_reducible refine gate_dst (N:=8) rfl ?_);refine Kd.N_lit (Kd.slice 60 k60) _ 22 ?hg (N':=8) ?hd (xs:=([l1]:List (List (S60)))) (inner:=[.slice A1 l1.length c1]) (ok:=(fun k_=>(P1_ k_ ∨ w.heap.size ≤ k_))) (okp:=(fun k_=>(P1_ k_ ∨ w.heap.size ≤ k_))) ?hr ?hp (fun _ hk=>hk) ((show ∀ k_,w.heap.size ≤ k_ → (fun k_=>(P1_ k_ ∨ w.heap.size ≤ k_)) k_ from fun k_ hk=>(.inr (Nat.le_trans (below_size HB.out) hk))) _ (Nat.le_refl _)) (Below.refl _ _) (Nat.le_refl _) (by simp) ?_;(case hd=>rfl);(case hg=>rfl);(case hr=>first|(go_simp;done)|(go_simp;rfl));(case hp=>exact (Reps.one (show Kd.FK (Kd.slice 60 k60) _ _ l1 [.slice A1 l1.length c1] from (Kd.FK_slice_mk (Kd.V_reads' (Kd.V_mono (e:=0) (base:=0) (ok':=(fun k_=>(P1_ k_ ∨ w.heap.size ≤ k_))) (HO1.out) (fun k_ hk=>hk))).2.1 (Kd.V_F (Kd.V_mono (e:=0) (base:=0) (ok':=(fun k_=>(P1_ k_ ∨ w.heap.size ≤ k_))) (HO1.out) (fun k_ hk=>hk))))) (Reps.none _ _)));intro v133 w5 ho6 hb hg_ hnew_;clear hg_ hnew_;(first|rw [← Ny132.out] at ho6|(simp only [Int.reduceToNat] at ho6;rw [← Ny132.out] at ho6));have HO134:=mk0 (Kd.N_lower ho6 (below_size HB.out));replace HO1:=mk0 (Kd.V_elder' HO1.out (by first|exact Kd.N_base ho6|exact Kd.S_base ho6|exact Kd.R_base ho6) hb);replace HB:=bst HB hb;clear hb ho6;obtain ⟨Ao7,co7,eo7⟩:=Kd.N_slice HO134.out;subst eo7)|((with_reducible refine gate_callee (f:=51) rfl ?_);refine goesL_ (some 9) rfl rfl Try.func51 (by kernel_rfl) rfl #[.int .i64 a0,.slice Ao7 y132.length co7] rfl (by (try simp only [List.map_toArray,List.map_cons,List.map_nil]);first|done|rfl|(simp only [List.length_drop,List.length_take];rfl)) ?_;(with_reducible refine (count_check.calls k a0 _ _ y132 t135 _ ?side1 ?side2 A3.out).mono ?_);(case side1=>repeat (first|exact (Kd.N_reads' HO134.out).2.2|(with_reducible refine Kd.C_alloc ?_ _)|(with_reducible refine Kd.C_drewN ?_ _)|(with_reducible refine Kd.C_drew ?_)));(case side2=>exact (Kd.N_reads' HO134.out).2.1);rintro e w8 ⟨rfl,hb⟩;refine ⟨_,rfl,?_⟩;replace HO1:=mk0 (Kd.V_below HO1.out hb);replace HO134:=mk0 (Kd.N_below HO134.out hb);replace HB:=bst HB hb;(try clear hb);(try clear hk)));go_ret2;exact ⟨_,by first|rfl|(simp [errW_none,errW_some] <;> rfl)|(simp [*,errW_none,errW_some] <;> rfl),by (with_reducible repeat (first|apply Kd.V_alloc|apply Kd.V_drewN|apply Kd.V_drew));exact Kd.V_mono HO1.out (fun _ hk=>hk.1),by repeat (first|(with_reducible first|exact HB.out|apply below_alloc|apply pw_below_drewN|apply below_drew1)|exact HB.out)⟩
 ·
  rw [if_neg c4] at H;have c4b0:(t135 == 0)=false:=beq_eq_false_iff_ne.mpr c4;have c4b1:(t135 != 0)=true:=bne_iff_ne.mpr c4;simp only [Option.some.injEq,Prod.mk.injEq] at H;obtain ⟨rfl,rfl⟩:=H;go_enter Try.func80,Try.ntmps80;go_wp2_with (first|((with_reducible refine gate_dst (N:=8) rfl ?_);refine Kd.N_lit (Kd.slice 60 k60) _ 22 ?hg (N':=8) ?hd (xs:=([l1]:List (List (S60)))) (inner:=[.slice A1 l1.length c1]) (ok:=(fun k_=>(P1_ k_ ∨ w.heap.size ≤ k_))) (okp:=(fun k_=>(P1_ k_ ∨ w.heap.size ≤ k_))) ?hr ?hp (fun _ hk=>hk) ((show ∀ k_,w.heap.size ≤ k_ → (fun k_=>(P1_ k_ ∨ w.heap.size ≤ k_)) k_ from fun k_ hk=>(.inr (Nat.le_trans (below_size HB.out) hk))) _ (Nat.le_refl _)) (Below.refl _ _) (Nat.le_refl _) (by simp) ?_;(case hd=>rfl);(case hg=>rfl);(case hr=>first|(go_simp;done)|(go_simp;rfl));(case hp=>exact (Reps.one (show Kd.FK (Kd.slice 60 k60) _ _ l1 [.slice A1 l1.length c1] from (Kd.FK_slice_mk (Kd.V_reads' (Kd.V_mono (e:=0) (base:=0) (ok':=(fun k_=>(P1_ k_ ∨ w.heap.size ≤ k_))) (HO1.out) (fun k_ hk=>hk))).2.1 (Kd.V_F (Kd.V_mono (e:=0) (base:=0) (ok':=(fun k_=>(P1_ k_ ∨ w.heap.size ≤ k_))) (HO1.out) (fun k_ hk=>hk))))) (Reps.none _ _)));intro v133 w9 ho10 hb hg_ hnew_;clear hg_ hnew_;(first|rw [← Ny132.out] at ho10|(simp only [Int.reduceToNat] at ho10;rw [← Ny132.out] at ho10));have HO134:=mk0 (Kd.N_lower ho10 (below_size HB.out));replace HO1:=mk0 (Kd.V_elder' HO1.out (by first|exact Kd.N_base ho10|exact Kd.S_base ho10|exact Kd.R_base ho10) hb);replace HB:=bst HB hb;clear hb ho10;obtain ⟨Ao11,co11,eo11⟩:=Kd.N_slice HO134.out;subst eo11)|((with_reducible refine gate_callee (f:=51) rfl ?_);refine goesL_ (some 9) rfl rfl Try.func51 (by kernel_rfl) rfl #[.int .i64 a0,.slice Ao11 y132.length co11] rfl (by (try simp only [List.map_toArray,List.map_cons,List.map_nil]);first|done|rfl|(simp only [List.length_drop,List.length_take];rfl)) ?_;(with_reducible refine (count_check.calls k a0 _ _ y132 t135 _ ?side1 ?side2 A3.out).mono ?_);(case side1=>repeat (first|exact (Kd.N_reads' HO134.out).2.2|(with_reducible refine Kd.C_alloc ?_ _)|(with_reducible refine Kd.C_drewN ?_ _)|(with_reducible refine Kd.C_drew ?_)));(case side2=>exact (Kd.N_reads' HO134.out).2.1);rintro e w12 ⟨rfl,hb⟩;refine ⟨_,rfl,?_⟩;replace HO1:=mk0 (Kd.V_below HO1.out hb);replace HO134:=mk0 (Kd.N_below HO134.out hb);replace HB:=bst HB hb;(try clear hb);(try clear hk)));go_ret2;exact ⟨_,by first|rfl|(simp [errW_none,errW_some] <;> rfl)|(simp [*,errW_none,errW_some] <;> rfl),Kd.N_V (base:=0) (by first|exact Kd.R_nil _ _ _ _ _|exact Kd.N_nil _ _ _ _ _|exact Kd.V_nil _ _ _ _ _|exact Kd.Q_nil _ _ _ _ _|exact Kd.S_nil _ _ _ _ _),by repeat (first|(with_reducible first|exact HB.out|apply below_alloc|apply pw_below_drewN|apply below_drew1)|exact HB.out)⟩
def count_valid.l0:Nat → List (S60) → List (S102) → Int → Int → List (S60) → Bool → Option ((List (S60)) × Bool)
  | 0,_,_,_,_,_,_=>none
  | k + 1,x0,x12,x13,x14,x138000,x138001=>if x14 < x13 then (if 0 ≤ x14 then (if x14 < (x12.length:Int) then (if x138001=true then (count_valid.l0 k x0 x12 x13 (wrap64 (x14 + 1)) x138000 true) else (count_valid.l0 k x0 x12 x13 (wrap64 (x14 + 1)) x138000 ((rd_T102 x12 x14).f1))) else (none)) else (none)) else ((count_full.f k 3 x0).bind fun bt140=>(if bt140.2=0 then (some (x138000,x138001)) else (some (x138000,true))))
def count_valid.f (k:Nat) (l0:List (S60)) (l1:List (S102)):Option ((List (S60)) × Bool):=count_valid.l0 k l0 l1 (l1.length:Int) 0 l0 false
theorem count_valid.mono_l:∀ k,(∀ y0 y1 y2 y3 y4 y5,LeO (count_valid.l0 k y0 y1 y2 y3 y4 y5) (count_valid.l0 (k + 1) y0 y1 y2 y3 y4 y5))
  | 0=>fun _ _ _ _ _ _ r h=>by simp [count_valid.l0] at h
  | k + 1=>by
    have ih0:=count_valid.mono_l k
    · intro y0 y1 y2 y3 y4 y5
      unfold count_valid.l0
      with_reducible repeat' first|exact ih0 _ _ _ _ _ _|exact count_full.mono _ _ _|exact LeO.refl _|exact LeO.none _|refine LeO.ite ?_ ?_|refine LeO.bind ?_ (fun _=>?_)
theorem count_valid.mono:∀ a0 a1 k,LeO (count_valid.f k a0 a1) (count_valid.f (k + 1) a0 a1):=by
  intro a0 a1 k
  have ih0:=count_valid.mono_l k
  unfold count_valid.f
  with_reducible repeat' first|exact ih0 _ _ _ _ _ _|exact count_full.mono _ _ _|exact LeO.refl _|exact LeO.none _|refine LeO.ite ?_ ?_|refine LeO.bind ?_ (fun _=>?_)
set_option maxHeartbeats 8000000 in
set_option maxRecDepth 100000 in
theorem count_valid.calls (k:Nat) (P0_:Nat → Prop) (A0:Option Addr) (c0:Nat) (l0:List (S60)) (A1:Option Addr) (c1:Nat) (l1:List (S102)) (r1:List (S60)) (r2:Bool) (w:World) (hs0:Kd.V k60 60 w w.heap.size (fun k_=>P0_ k_) (.slice A0 l0.length c0) l0) (hr1:Kd.C k102 w A1 l1.length l1) (hc1:l1.length ≤ c1) (h:count_valid.f k l0 l1=some (r1,r2)) :
    Calls Try.prog 66 #[.slice A0 l0.length c0,.slice A1 l1.length c1] w fun e w'=>∃ v0_:Value,e=.returned (.agg #[v0_,.bool r2])∧Kd.V k60 60 w' w.heap.size (fun k_=>(P0_ k_ ∨ w.heap.size ≤ k_)) v0_ r1∧Below w.heap.size w w':=by
 have hu102:=Try.underlying102;have HO0:=mk0 (show Kd.V k60 60 w w.heap.size (fun k_=>(P0_ k_ ∨ w.heap.size ≤ k_)) (.slice A0 l0.length c0) l0 from Kd.V_mono hs0 (fun k_ hk=>.inl hk));have HR1:=mk0 hr1;have HC1:=mk0 hc1;clear hr1 hc1;have HB:=mk0 (Below.refl w.heap.size w);have H:(count_valid.l0 k l0 l1 (l1.length:Int) 0 l0 false)=some (r1,r2):=h;clear h;have H':=mk0 H;clear H;go_enter Try.func66,Try.ntmps66;go_wp2_with (first|((with_reducible refine gate_dst (N:=4) rfl ?_);refine box_event ?hg (N:=4) ?hd (cs:=#[.slice none 0 0,.bool false]) (t:=102) ?hr ?_;(case hd=>rfl);(case hg=>rfl);(case hr=>first|(go_simp;done)|(go_simp;rfl));intro gb136 hg w3 hbox hb;have BK136:=mk0 (hbox);have GW136:=szw hg HB;have GE136:=GW136;replace HO0:=mk0 (Kd.V_below (Kd.V_elderB HO0.out gb136 (Nat.le_of_eq hg.symm)) hb);replace HB:=bst HB hb;clear hb hbox hg)|((with_reducible refine gate_dst (N:=5) rfl ?_);refine box_event ?hg (N:=5) ?hd (cs:=#[.slice none 0 0,.bool false]) (t:=102) ?hr ?_;(case hd=>rfl);(case hg=>rfl);(case hr=>first|(go_simp;done)|(go_simp;rfl));intro gb137 hg w4 hbox hb;have BK137:=mk0 (hbox);have GW137:=szw hg HB;have GE137:=GW137;have NB136_137:=nlt hg BK136;have NB137_136:=ngt hg BK136;replace HO0:=mk0 (Kd.V_below (Kd.V_elderB HO0.out gb137 (Nat.le_of_eq hg.symm)) hb);replace BK136:=bkb BK136 hb;replace HB:=bst HB hb;clear hb hbox hg;have hnb5:=NB137_136.out;have hnc5:=NB136_137.out;have hcz6_0:w4.cell? ⟨gb137,0,none⟩=some (.slice none 0 0):=(blk_cell BK137.out 0).trans rfl;have hcz6_1:w4.cell? ⟨gb137,1,none⟩=some (.bool false):=(blk_cell BK137.out 1).trans rfl;have hfz6_0:=blk_frozen BK137.out 0;have hfz6_1:=blk_frozen BK137.out 1))
 go_loopg [14] k (fun kq v14 w'=>∃ (x14_1:Int) (x138001_1:Bool),v14=.int .i64 x14_1∧Aside0 (count_valid.l0 kq l0 l1 (l1.length:Int) x14_1 l0 x138001_1=some (r1,r2))∧Aside0 (kq ≤ k)∧Aside0 (Kd.V k60 60 w' w.heap.size (fun k_=>(P0_ k_ ∨ w.heap.size ≤ k_)∧k_ ≠ gb136∧k_ ≠ gb137) (.slice A0 l0.length c0) l0)∧Aside0 (Kd.V k60 60 w' w.heap.size (fun k_=>(P0_ k_ ∨ w.heap.size ≤ k_)∧k_ ≠ gb136∧k_ ≠ gb137) (.slice A0 l0.length c0) l0)∧Aside0 (w'.heap[gb136]?=some (.cells #[(.slice none 0 0),.bool false] 102 (0,0)))∧Aside0 (w'.heap[gb137]?=some (.cells #[(.slice A0 l0.length c0),.bool x138001_1] 102 (0,0)))∧Aside0 (Below w.heap.size w w'))
 case atStart=>exact ⟨(0),(false),(by first|rfl|(simp;done)|(simp [*];done)),H',⟨Nat.le_refl _⟩,⟨by (with_reducible repeat (first|apply Kd.V_alloc|apply Kd.V_drewN|apply Kd.V_drew));exact Kd.V_mono (Kd.V_far (p:=⟨gb137,1,none⟩) (Kd.V_far (p:=⟨gb137,0,none⟩) (Kd.V_mono HO0.out (fun k_ hk=>(⟨hk,hk.2⟩:_∧k_ ≠ gb137))) (fun _ hk=>hk.2) (.slice A0 l0.length c0)) (fun _ hk=>hk.2) (.bool false)) (fun _ hk=>⟨hk.1.1.1,⟨hk.1.1.2,hk.1.2⟩⟩)⟩,⟨by (with_reducible repeat (first|apply Kd.V_alloc|apply Kd.V_drewN|apply Kd.V_drew));exact Kd.V_mono (Kd.V_far (p:=⟨gb137,1,none⟩) (Kd.V_far (p:=⟨gb137,0,none⟩) (Kd.V_mono HO0.out (fun k_ hk=>(⟨hk,hk.2⟩:_∧k_ ≠ gb137))) (fun _ hk=>hk.2) (.slice A0 l0.length c0)) (fun _ hk=>hk.2) (.bool false)) (fun _ hk=>⟨hk.1.1.1,⟨hk.1.1.2,hk.1.2⟩⟩)⟩,⟨by (iterate 2 refine blk_far ?_ NB136_137.out _);exact BK136.out⟩,⟨by refine blk_put (cs:=#[.slice A0 l0.length c0,.bool false]) ?_ 1 _ rfl;refine blk_put (cs:=#[.slice none 0 0,.bool false]) ?_ 0 _ rfl;exact BK137.out⟩,⟨by repeat (first|(with_reducible first|exact HB.out|apply below_alloc|apply pw_below_drewN|apply below_drew1|refine below_set ?_ GE136.out|refine below_set ?_ GE137.out)|exact HB.out)⟩⟩
 case round =>
  clear H';try clear c1
  try clear p2
  try clear c5
  try clear c6
  try clear hcz6_0
  try clear hcz6_1
  try clear hfz6_0
  try clear hfz6_1
  obtain ⟨x14_1,x138001_1,rfl,HA,HK1,HO_0,HO_138000,BK136,BK137,HB⟩:=hrel;cases gk with
  | zero=>exact absurd HA.out (by simp [count_valid.l0])
  | succ k1 =>
   have H:=HA.out;clear HA;simp only [count_valid.l0] at H
   by_cases c7:x14_1 < (l1.length:Int)
   ·
    rw [if_pos c7] at H;have c7b0:decide (x14_1 < (l1.length:Int))=true:=decide_eq_true c7;clear c7
    by_cases c8:0 ≤ x14_1
    ·
     rw [if_pos c8] at H;have c8b0:decide (0 ≤ x14_1)=true:=decide_eq_true c8;clear c8
     by_cases c9:x14_1 < (l1.length:Int)
     ·
      rw [if_pos c9] at H;have c9b0:decide (x14_1 < (l1.length:Int))=true:=decide_eq_true c9;clear c9
      by_cases c10:x138001_1=true
      ·
       subst c10;have H1:(count_valid.l0 k1 l0 l1 (l1.length:Int) (wrap64 (x14_1 + 1)) l0 true)=some (r1,r2):=by rw [if_pos rfl] at H;exact H
       clear H;have H:=H1;clear H1;have H':=mk0 H;clear H;have p138:0 ≤ (x14_1:Int):=of_decide_eq_true (by first|(with_reducible assumption)|assumption);have q138:x14_1 < (l1.length:Int):=of_decide_eq_true (by first|(with_reducible assumption)|assumption);obtain ⟨ad138,A138_0,c138_0,e138,hx138_0,hx138_1,hl138_0,hi138_0⟩:=at_T102 HR1.out x14_1 p138 q138;cases e138;replace hx138_0:=(HB.out.cell (World.block_lt_of_cell? w _ hx138_0)).trans hx138_0;replace hx138_1:=(HB.out.cell (World.block_lt_of_cell? w _ hx138_1)).trans hx138_1;have HR138_0:=mk0 hi138_0;have HC138_0:=mk0 hl138_0;clear hi138_0 hl138_0;replace p138:=eq_true p138;replace q138:=eq_true q138;go_wp2_with (first|((with_reducible refine gate_dst (N:=7) rfl ?_);refine box_event ?hg (N:=7) ?hd (cs:=#[.slice none 0 0,.bool false]) (t:=102) ?hr ?_;(case hd=>rfl);(case hg=>rfl);(case hr=>first|(go_simp;done)|(go_simp;rfl));intro gb139 hg w11 hbox hb;have BK139:=mk0 (hbox);have GW139:=szw hg HB;have GE139:=GW139;have NB136_139:=nlt hg BK136;have NB139_136:=ngt hg BK136;have NB137_139:=nlt hg BK137;have NB139_137:=ngt hg BK137;replace HO_0:=mk0 (Kd.V_below (Kd.V_elderB HO_0.out gb139 (Nat.le_of_eq hg.symm)) hb);replace HO_138000:=mk0 (Kd.V_below (Kd.V_elderB HO_138000.out gb139 (Nat.le_of_eq hg.symm)) hb);replace BK136:=bkb BK136 hb;replace BK137:=bkb BK137 hb;replace HB:=bst HB hb;clear hb hbox hg;have hnb12:=NB139_136.out;have hnc12:=NB136_139.out;have hnb13:=NB139_137.out;have hnc13:=NB137_139.out;have hcz14_0:w11.cell? ⟨gb139,0,none⟩=some (.slice none 0 0):=(blk_cell BK139.out 0).trans rfl;have hcz14_1:w11.cell? ⟨gb139,1,none⟩=some (.bool false):=(blk_cell BK139.out 1).trans rfl;have hfz14_0:=blk_frozen BK139.out 0;have hfz14_1:=blk_frozen BK139.out 1;have hnb15:=NB137_136.out;have hnc15:=NB136_137.out;have hcz16_0:w11.cell? ⟨gb137,0,none⟩=some (.slice A0 l0.length c0):=(blk_cell BK137.out 0).trans rfl;have hcz16_1:w11.cell? ⟨gb137,1,none⟩=some (.bool true):=(blk_cell BK137.out 1).trans rfl;have hfz16_0:=blk_frozen BK137.out 0;have hfz16_1:=blk_frozen BK137.out 1));go_roundg k1
       case measure=>have:=HK1.out;omega
       case rel=>exact ⟨(wrap64 (x14_1 + 1)),(true),(by first|rfl|(simp;done)|(simp [*];done)),H',⟨by have:=HK1.out;omega⟩,⟨by (with_reducible repeat (first|apply Kd.V_alloc|apply Kd.V_drewN|apply Kd.V_drew));exact Kd.V_mono (Kd.V_far (p:=⟨gb137,1,none⟩) (Kd.V_far (p:=⟨gb139,1,none⟩) (Kd.V_far (p:=⟨gb139,0,none⟩) (Kd.V_mono (Kd.V_mono HO_0.out (fun k_ hk=>(⟨hk,hk.2⟩:_∧k_ ≠ gb139))) (fun k_ hk=>(⟨hk,hk.1.1.2.2⟩:_∧k_ ≠ gb137))) (fun _ hk=>hk.1.2) (.slice A138_0 ((rd_T102 l1 x14_1).f0).length c138_0)) (fun _ hk=>hk.1.2) (.bool ((rd_T102 l1 x14_1).f1))) (fun _ hk=>hk.2) (.bool true)) (fun _ hk=>⟨hk.1.1.1.1,⟨hk.1.1.1.2.1,hk.1.1.1.2.2⟩⟩)⟩,⟨by (with_reducible repeat (first|apply Kd.V_alloc|apply Kd.V_drewN|apply Kd.V_drew));exact Kd.V_mono (Kd.V_far (p:=⟨gb137,1,none⟩) (Kd.V_far (p:=⟨gb139,1,none⟩) (Kd.V_far (p:=⟨gb139,0,none⟩) (Kd.V_mono (Kd.V_mono HO_138000.out (fun k_ hk=>(⟨hk,hk.2⟩:_∧k_ ≠ gb139))) (fun k_ hk=>(⟨hk,hk.1.1.2.2⟩:_∧k_ ≠ gb137))) (fun _ hk=>hk.1.2) (.slice A138_0 ((rd_T102 l1 x14_1).f0).length c138_0)) (fun _ hk=>hk.1.2) (.bool ((rd_T102 l1 x14_1).f1))) (fun _ hk=>hk.2) (.bool true)) (fun _ hk=>⟨hk.1.1.1.1,⟨hk.1.1.1.2.1,hk.1.1.1.2.2⟩⟩)⟩,⟨by refine blk_far ?_ NB136_137.out _;(iterate 2 refine blk_far ?_ NB136_139.out _);exact BK136.out⟩,⟨by refine blk_put (cs:=#[.slice A0 l0.length c0,.bool true]) ?_ 1 _ rfl;(iterate 2 refine blk_far ?_ NB137_139.out _);exact BK137.out⟩,⟨by repeat (first|(with_reducible first|exact HB.out|apply below_alloc|apply pw_below_drewN|apply below_drew1|refine below_set ?_ GE136.out|refine below_set ?_ GE137.out|refine below_set ?_ GE139.out)|exact HB.out)⟩⟩
      ·
       replace c10:=Bool.eq_false_iff.mpr c10;subst c10;have H1:(count_valid.l0 k1 l0 l1 (l1.length:Int) (wrap64 (x14_1 + 1)) l0 ((rd_T102 l1 x14_1).f1))=some (r1,r2):=by rw [if_neg (show ¬ (false=true) by decide)] at H;exact H
       clear H;have H:=H1;clear H1;have H':=mk0 H;clear H;have p138:0 ≤ (x14_1:Int):=of_decide_eq_true (by first|(with_reducible assumption)|assumption);have q138:x14_1 < (l1.length:Int):=of_decide_eq_true (by first|(with_reducible assumption)|assumption);obtain ⟨ad138,A138_0,c138_0,e138,hx138_0,hx138_1,hl138_0,hi138_0⟩:=at_T102 HR1.out x14_1 p138 q138;cases e138;replace hx138_0:=(HB.out.cell (World.block_lt_of_cell? w _ hx138_0)).trans hx138_0;replace hx138_1:=(HB.out.cell (World.block_lt_of_cell? w _ hx138_1)).trans hx138_1;have HR138_0:=mk0 hi138_0;have HC138_0:=mk0 hl138_0;clear hi138_0 hl138_0;replace p138:=eq_true p138;replace q138:=eq_true q138;go_wp2_with (first|((with_reducible refine gate_dst (N:=7) rfl ?_);refine box_event ?hg (N:=7) ?hd (cs:=#[.slice none 0 0,.bool false]) (t:=102) ?hr ?_;(case hd=>rfl);(case hg=>rfl);(case hr=>first|(go_simp;done)|(go_simp;rfl));intro gb139 hg w17 hbox hb;have BK139:=mk0 (hbox);have GW139:=szw hg HB;have GE139:=GW139;have NB136_139:=nlt hg BK136;have NB139_136:=ngt hg BK136;have NB137_139:=nlt hg BK137;have NB139_137:=ngt hg BK137;replace HO_0:=mk0 (Kd.V_below (Kd.V_elderB HO_0.out gb139 (Nat.le_of_eq hg.symm)) hb);replace HO_138000:=mk0 (Kd.V_below (Kd.V_elderB HO_138000.out gb139 (Nat.le_of_eq hg.symm)) hb);replace BK136:=bkb BK136 hb;replace BK137:=bkb BK137 hb;replace HB:=bst HB hb;clear hb hbox hg;have hnb18:=NB139_136.out;have hnc18:=NB136_139.out;have hnb19:=NB139_137.out;have hnc19:=NB137_139.out;have hcz20_0:w17.cell? ⟨gb139,0,none⟩=some (.slice none 0 0):=(blk_cell BK139.out 0).trans rfl;have hcz20_1:w17.cell? ⟨gb139,1,none⟩=some (.bool false):=(blk_cell BK139.out 1).trans rfl;have hfz20_0:=blk_frozen BK139.out 0;have hfz20_1:=blk_frozen BK139.out 1;have hnb21:=NB137_136.out;have hnc21:=NB136_137.out;have hcz22_0:w17.cell? ⟨gb137,0,none⟩=some (.slice A0 l0.length c0):=(blk_cell BK137.out 0).trans rfl;have hcz22_1:w17.cell? ⟨gb137,1,none⟩=some (.bool false):=(blk_cell BK137.out 1).trans rfl;have hfz22_0:=blk_frozen BK137.out 0;have hfz22_1:=blk_frozen BK137.out 1));go_roundg k1
       case measure=>have:=HK1.out;omega
       case rel=>exact ⟨(wrap64 (x14_1 + 1)),((rd_T102 l1 x14_1).f1),(by first|rfl|(simp;done)|(simp [*];done)),H',⟨by have:=HK1.out;omega⟩,⟨by (with_reducible repeat (first|apply Kd.V_alloc|apply Kd.V_drewN|apply Kd.V_drew));exact Kd.V_mono (Kd.V_far (p:=⟨gb137,1,none⟩) (Kd.V_far (p:=⟨gb139,1,none⟩) (Kd.V_far (p:=⟨gb139,0,none⟩) (Kd.V_mono (Kd.V_mono HO_0.out (fun k_ hk=>(⟨hk,hk.2⟩:_∧k_ ≠ gb139))) (fun k_ hk=>(⟨hk,hk.1.1.2.2⟩:_∧k_ ≠ gb137))) (fun _ hk=>hk.1.2) (.slice A138_0 ((rd_T102 l1 x14_1).f0).length c138_0)) (fun _ hk=>hk.1.2) (.bool ((rd_T102 l1 x14_1).f1))) (fun _ hk=>hk.2) (.bool ((rd_T102 l1 x14_1).f1))) (fun _ hk=>⟨hk.1.1.1.1,⟨hk.1.1.1.2.1,hk.1.1.1.2.2⟩⟩)⟩,⟨by (with_reducible repeat (first|apply Kd.V_alloc|apply Kd.V_drewN|apply Kd.V_drew));exact Kd.V_mono (Kd.V_far (p:=⟨gb137,1,none⟩) (Kd.V_far (p:=⟨gb139,1,none⟩) (Kd.V_far (p:=⟨gb139,0,none⟩) (Kd.V_mono (Kd.V_mono HO_138000.out (fun k_ hk=>(⟨hk,hk.2⟩:_∧k_ ≠ gb139))) (fun k_ hk=>(⟨hk,hk.1.1.2.2⟩:_∧k_ ≠ gb137))) (fun _ hk=>hk.1.2) (.slice A138_0 ((rd_T102 l1 x14_1).f0).length c138_0)) (fun _ hk=>hk.1.2) (.bool ((rd_T102 l1 x14_1).f1))) (fun _ hk=>hk.2) (.bool ((rd_T102 l1 x14_1).f1))) (fun _ hk=>⟨hk.1.1.1.1,⟨hk.1.1.1.2.1,hk.1.1.1.2.2⟩⟩)⟩,⟨by refine blk_far ?_ NB136_137.out _;(iterate 2 refine blk_far ?_ NB136_139.out _);exact BK136.out⟩,⟨by refine blk_put (cs:=#[.slice A0 l0.length c0,.bool false]) ?_ 1 _ rfl;(iterate 2 refine blk_far ?_ NB137_139.out _);exact BK137.out⟩,⟨by repeat (first|(with_reducible first|exact HB.out|apply below_alloc|apply pw_below_drewN|apply below_drew1|refine below_set ?_ GE136.out|refine below_set ?_ GE137.out|refine below_set ?_ GE139.out)|exact HB.out)⟩⟩
     ·
      rw [if_neg c9] at H;exact absurd H (by simp)
    ·
     rw [if_neg c8] at H;exact absurd H (by simp)
   ·
    rw [if_neg c7] at H;have c7b0:decide (x14_1 < (l1.length:Int))=false:=decide_eq_false c7;clear c7;replace H:=Option.bind_eq_some_iff.mp H;obtain ⟨⟨t140,t143⟩,A230,H⟩:=H;(try dsimp only at H);have A23:=mk0 A230;clear A230
    by_cases c24:t143=0
    ·
     rw [if_pos c24] at H;have c24b0:(t143 == 0)=true:=beq_iff_eq.mpr c24;have c24b1:(t143 != 0)=false:=bne_eq_false_iff_eq.mpr c24;clear c24;simp only [Option.some.injEq,Prod.mk.injEq] at H;obtain ⟨rfl,rfl⟩:=H;go_wp2_with (first|((with_reducible refine gate_callee (f:=80) rfl ?_);refine goesL_ (some 28) rfl rfl Try.func80 (by kernel_rfl) rfl #[.int .i64 3,.slice A0 l0.length c0] rfl (by (try simp only [List.map_toArray,List.map_cons,List.map_nil]);first|done|rfl|(simp only [List.length_drop,List.length_take];rfl)) ?_;(with_reducible refine (count_full.calls k1 3 (fun k_=>((P0_ k_ ∨ w.heap.size ≤ k_)∧(k_ ≠ gb136∧k_ ≠ gb137))) _ _ l0 t140 t143 _ ?side1 A23.out).mono ?_);(case side1=>exact HO_0.out);rintro e w25 ⟨v141,rfl,ho0,hb⟩;refine ⟨_,rfl,?_⟩;have HO142:=mk0 (Kd.V_lower (Kd.V_mono (ok':=fun k_=>(P0_ k_ ∨ w.heap.size ≤ k_)∧k_ ≠ gb136∧k_ ≠ gb137) ho0 (fun k_ hk_=>⟨Or.elim hk_ (fun hs_=>hs_.1) (fun hn_=>(.inr (Nat.le_trans (below_size HB.out) hn_))),Or.elim hk_ (fun hs_=>hs_.2.1) (fun hn_=>(Kd.freshB (g:=gb136) (o:=.cells #[.slice none 0 0,.bool false] 102 (0,0)) BK136.out k_ hn_)),Or.elim hk_ (fun hs_=>hs_.2.2) (fun hn_=>(Kd.freshB (g:=gb137) (o:=.cells #[.slice A0 l0.length c0,.bool x138001_1] 102 (0,0)) BK137.out k_ hn_))⟩)) (below_size HB.out));replace HO_0:=mk0 (Kd.V_below HO_0.out hb);replace HO_138000:=mk0 (Kd.V_below HO_138000.out hb);replace BK136:=bkb BK136 hb;replace BK137:=bkb BK137 hb;replace HB:=bst HB hb;(try clear hb);(try clear ho0);have hnb26:=NB137_136.out;have hnc26:=NB136_137.out;have hcz27_0:w25.cell? ⟨gb137,0,none⟩=some (.slice A0 l0.length c0):=(blk_cell BK137.out 0).trans rfl;have hcz27_1:w25.cell? ⟨gb137,1,none⟩=some (.bool x138001_1):=(blk_cell BK137.out 1).trans rfl;have hfz27_0:=blk_frozen BK137.out 0;have hfz27_1:=blk_frozen BK137.out 1;have hcz28_0:w25.cell? ⟨gb136,0,none⟩=some (.slice none 0 0):=(blk_cell BK136.out 0).trans rfl;have hcz28_1:w25.cell? ⟨gb136,1,none⟩=some (.bool false):=(blk_cell BK136.out 1).trans rfl;have hfz28_0:=blk_frozen BK136.out 0;have hfz28_1:=blk_frozen BK136.out 1));refine bodyPost_ret (results_cell_row rfl _ _ gb136 102 #[.slice A0 l0.length c0,.bool x138001_1] (0,0) _ rfl (by refine blk_put (cs:=#[.slice A0 l0.length c0,.bool false]) ?_ 1 _ rfl;refine blk_put (cs:=#[.slice none 0 0,.bool false]) ?_ 0 _ rfl;exact BK136.out) Try.underlying102 rfl (by kernel_rfl)) rfl ?_;exact ⟨_,by first|rfl|(simp [errW_none,errW_some] <;> rfl)|(simp [*,errW_none,errW_some] <;> rfl),by (with_reducible repeat (first|apply Kd.V_alloc|apply Kd.V_drewN|apply Kd.V_drew));exact Kd.V_mono (Kd.V_far (p:=⟨gb136,1,none⟩) (Kd.V_far (p:=⟨gb136,0,none⟩) (Kd.V_mono HO_138000.out (fun k_ hk=>(⟨hk,hk.2.1⟩:_∧k_ ≠ gb136))) (fun _ hk=>hk.2) (.slice A0 l0.length c0)) (fun _ hk=>hk.2) (.bool x138001_1)) (fun _ hk=>hk.1.1),by repeat (first|(with_reducible first|exact HB.out|apply below_alloc|apply pw_below_drewN|apply below_drew1|refine below_set ?_ GE136.out|refine below_set ?_ GE137.out)|exact HB.out)⟩
    ·
     rw [if_neg c24] at H;have c24b0:(t143 == 0)=false:=beq_eq_false_iff_ne.mpr c24;have c24b1:(t143 != 0)=true:=bne_iff_ne.mpr c24;simp only [Option.some.injEq,Prod.mk.injEq] at H;obtain ⟨rfl,rfl⟩:=H;go_wp2_with (first|((with_reducible refine gate_callee (f:=80) rfl ?_);refine goesL_ (some 28) rfl rfl Try.func80 (by kernel_rfl) rfl #[.int .i64 3,.slice A0 l0.length c0] rfl (by (try simp only [List.map_toArray,List.map_cons,List.map_nil]);first|done|rfl|(simp only [List.length_drop,List.length_take];rfl)) ?_;(with_reducible refine (count_full.calls k1 3 (fun k_=>((P0_ k_ ∨ w.heap.size ≤ k_)∧(k_ ≠ gb136∧k_ ≠ gb137))) _ _ l0 t140 t143 _ ?side1 A23.out).mono ?_);(case side1=>exact HO_0.out);rintro e w29 ⟨v141,rfl,ho0,hb⟩;refine ⟨_,rfl,?_⟩;have HO142:=mk0 (Kd.V_lower (Kd.V_mono (ok':=fun k_=>(P0_ k_ ∨ w.heap.size ≤ k_)∧k_ ≠ gb136∧k_ ≠ gb137) ho0 (fun k_ hk_=>⟨Or.elim hk_ (fun hs_=>hs_.1) (fun hn_=>(.inr (Nat.le_trans (below_size HB.out) hn_))),Or.elim hk_ (fun hs_=>hs_.2.1) (fun hn_=>(Kd.freshB (g:=gb136) (o:=.cells #[.slice none 0 0,.bool false] 102 (0,0)) BK136.out k_ hn_)),Or.elim hk_ (fun hs_=>hs_.2.2) (fun hn_=>(Kd.freshB (g:=gb137) (o:=.cells #[.slice A0 l0.length c0,.bool x138001_1] 102 (0,0)) BK137.out k_ hn_))⟩)) (below_size HB.out));replace HO_0:=mk0 (Kd.V_below HO_0.out hb);replace HO_138000:=mk0 (Kd.V_below HO_138000.out hb);replace BK136:=bkb BK136 hb;replace BK137:=bkb BK137 hb;replace HB:=bst HB hb;(try clear hb);(try clear ho0);have hnb30:=NB137_136.out;have hnc30:=NB136_137.out;have hcz31_0:w29.cell? ⟨gb137,0,none⟩=some (.slice A0 l0.length c0):=(blk_cell BK137.out 0).trans rfl;have hcz31_1:w29.cell? ⟨gb137,1,none⟩=some (.bool x138001_1):=(blk_cell BK137.out 1).trans rfl;have hfz31_0:=blk_frozen BK137.out 0;have hfz31_1:=blk_frozen BK137.out 1;have hcz32_0:w29.cell? ⟨gb136,0,none⟩=some (.slice none 0 0):=(blk_cell BK136.out 0).trans rfl;have hcz32_1:w29.cell? ⟨gb136,1,none⟩=some (.bool false):=(blk_cell BK136.out 1).trans rfl;have hfz32_0:=blk_frozen BK136.out 0;have hfz32_1:=blk_frozen BK136.out 1));refine bodyPost_ret (results_cell_row rfl _ _ gb136 102 #[.slice A0 l0.length c0,.bool true] (0,0) _ rfl (by refine blk_put (cs:=#[.slice A0 l0.length c0,.bool false]) ?_ 1 _ rfl;refine blk_put (cs:=#[.slice none 0 0,.bool false]) ?_ 0 _ rfl;refine blk_far ?_ NB136_137.out _;exact BK136.out) Try.underlying102 rfl (by kernel_rfl)) rfl ?_;exact ⟨_,by first|rfl|(simp [errW_none,errW_some] <;> rfl)|(simp [*,errW_none,errW_some] <;> rfl),by (with_reducible repeat (first|apply Kd.V_alloc|apply Kd.V_drewN|apply Kd.V_drew));exact Kd.V_mono (Kd.V_far (p:=⟨gb136,1,none⟩) (Kd.V_far (p:=⟨gb136,0,none⟩) (Kd.V_far (p:=⟨gb137,1,none⟩) (Kd.V_mono (Kd.V_mono HO_138000.out (fun k_ hk=>(⟨hk,hk.2.2⟩:_∧k_ ≠ gb137))) (fun k_ hk=>(⟨hk,hk.1.2.1⟩:_∧k_ ≠ gb136))) (fun _ hk=>hk.1.2) (.bool true)) (fun _ hk=>hk.2) (.slice A0 l0.length c0)) (fun _ hk=>hk.2) (.bool true)) (fun _ hk=>hk.1.1.1),by repeat (first|(with_reducible first|exact HB.out|apply below_alloc|apply pw_below_drewN|apply below_drew1|refine below_set ?_ GE136.out|refine below_set ?_ GE137.out)|exact HB.out)⟩
end Go.Proofs.Ytkonljiembcdlaa.PC
