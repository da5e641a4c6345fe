import Derived.Test.YtkonljiembcdlaaPCx0
import Derived.Test.YtkonljiembcdlaaPCx1
import Derived.Test.YtkonljiembcdlaaPCx2
import Derived.Test.YtkonljiembcdlaaPCx4
import Derived.Test.YtkonljiembcdlaaPCx5
import Derived.Test.YtkonljiembcdlaaWMore
namespace Go.Proofs.Ytkonljiembcdlaa.PC
open Go.Proofs.MyWords Go.RowKit Go.Proofs.YtkonljiembcdlaaW.PrintWords Go.Proofs.YtkonljiembcdlaaW.PrintLast Go.Proofs.YtkonljiembcdlaaW.PrintMore
attribute [local go_sem] max2_int min2_int max_two min_two max_three min_three max_four min_four   -- for this text's walks alone
set_option linter.unusedVariables false
set_option linter.unusedSimpArgs false
attribute [local go_sem] eqGuard_slices eqlnil23 neqnil23 eqlnil58 neqnil58
def nextV (d:Nat) (x:List Int) (p:Nat):List Int:=(List.range d).map fun k=>if p + k < x.length then Int.tmod (wrap64 (rd x ((p + k:Nat):Int))) 5 else 0
theorem nextV_succ (d:Nat) (x:List Int) (p:Nat):nextV (d + 1) x p=nextV d x p ++ [if p + d < x.length then Int.tmod (wrap64 (rd x ((p + d:Nat):Int))) 5 else 0]:=by
  unfold nextV;rw [List.range_succ,List.map_append];rfl
theorem mg_join {a b c:World} {g:Nat} (h:a.grownBy b (some g)) (k:b.grownBy c (some g)):a.grownBy c (some g) :=
  ⟨k.os.trans h.os,k.tape.trans h.tape,k.output.trans h.output,Nat.le_trans h.size k.size,fun i hi hn=>(k.block i (Nat.lt_of_lt_of_le hi h.size) hn).trans (h.block i hi hn)⟩
theorem mg_ofb {a b:World} (g:Nat) {B:Nat} (h:Below B a b) (hB:a.heap.size ≤ B):a.grownBy b (some g):=⟨h.os,h.tape,h.output,h.size,fun i hi _=>h.block i (by omega)⟩
theorem mg_snoc {a b c:World} {g:Nat} (h:a.grownBy b (some g)) (k:Below a.heap.size b c):a.grownBy c (some g) :=
  ⟨k.os.trans h.os,k.tape.trans h.tape,k.output.trans h.output,Nat.le_trans h.size k.size,fun i hi hn=>(k.block i hi).trans (h.block i hi hn)⟩
theorem mg_set {W w:World} {g:Nat} (h:W.grownBy w (some g)) (u:Value):W.grownBy (w.setCell ⟨g,0,none⟩ u) (some g) :=
  mg_join h ⟨rfl,rfl,rfl,by simp [World.setCell],fun i _ hi=>Below.heap_setCell _ _ _ _ (fun e=>hi (by rw [e]))⟩
theorem mg_below {W w:World} {g B:Nat} (h:W.grownBy w (some g)) (hg:B ≤ g) (hB:B ≤ W.heap.size):Below B W w :=
  ⟨h.os,h.tape,h.output,h.size,fun k hk=>h.block k (by omega) (fun e=>by injection e with e;omega)⟩
set_option maxHeartbeats 2000000 in
set_option maxRecDepth 100000 in
theorem made_next.calls (d p gd gat gx:Nat) (A:Option Addr) (c:Nat) (x:List Int) (w0 W:World) (hd:d ≤ 100) (hp:p ≤ 4611686018427387904) (hn1:gd ≠ gat) (hn2:gx ≠ gat) (hg0:w0.heap.size ≤ gat)
    (hbd:W.heap[gd]?=some (.cells #[.int .i64 (d:Int)] 3 (0,0))) (hba:W.heap[gat]?=some (.cells #[.int .i64 (p:Int)] 3 (0,0))) (hbx:W.heap[gx]?=some (.cells #[.slice A x.length c] 50 (0,0)))
    (hC:Kd.C (Kd.int .u8) w0 A x.length x) (hB:Below w0.heap.size w0 W) :
    Calls Try.prog 96 #[.pointer (some ⟨gd,0,none⟩),.pointer (some ⟨gat,0,none⟩),.pointer (some ⟨gx,0,none⟩)] W fun e w'=>∃ v,e=.returned v∧Kd.R (Kd.int .i64) 3 w' W.heap.size (fun _=>True) v (nextV d x p) ∧
      w'.heap[gat]?=some (.cells #[.int .i64 ((p + d:Nat):Int)] 3 (0,0))∧W.grownBy w' (some gat):=by
  have HD:=Aside0.mk hd
  have HP:=Aside0.mk hp
  have HN1:=Aside0.mk hn1
  have HN2:=Aside0.mk hn2
  have HG0:=Aside0.mk hg0
  have HBD:=Aside0.mk hbd
  have HBA:=Aside0.mk hba
  have HBX:=Aside0.mk hbx
  have HC:=Aside0.mk hC
  have HB0:=Aside0.mk hB
  have HL:=Aside0.mk (show gat < W.heap.size from (Array.getElem?_eq_some_iff.1 hba).1)
  clear hd hp hn1 hn2 hg0 hbd hba hbx hC hB
  go_enter Try.func96,Try.ntmps96
  go_wp2_with (first
    | ((with_reducible refine gate_dst (N:=7) rfl ?_);refine Kd.R_lit (Kd.int .i64) _ 3 ?hg (N:=7) ?hd (xs:=([]:List Int)) (inner:=[]) (ok:=fun _=>True) (okp:=fun _=>True) ?hr ?hp (fun _ hk=>hk) trivial (Below.refl _ _) (Nat.le_refl _) (by simp) ?_;(case hd=>rfl);(case hg=>rfl);(case hr=>first|(go_simp;done)|(go_simp;rfl));(case hp=>exact (Reps.none _ _));intro v7 w2 ho3 hb hg_ hnew_;clear hg_ hnew_;have HO:=Aside0.mk ho3;have HB1:=Aside0.mk hb;clear hb ho3))
  go_loopw [4,5] (fun v4 v5 wr=>∃ (k:Nat),v5=.int .i64 (k:Int)∧Aside0 (k ≤ d)∧Aside0 (Kd.R (Kd.int .i64) 3 wr W.heap.size (fun _=>True) v4 (nextV k x p))∧Aside0 (wr.heap[gat]?=some (.cells #[.int .i64 ((p + k:Nat):Int)] 3 (0,0)))∧Aside0 (W.grownBy wr (some gat))) (fun _ v5 _=>d - (intOf v5).toNat)
  case atStart=>exact ⟨0,rfl,⟨Nat.zero_le _⟩,HO,⟨(HB1.out.block gat HL.out).trans HBA.out⟩,⟨mg_ofb gat HB1.out (Nat.le_refl _)⟩⟩
  case round =>
    obtain ⟨k,rfl,HK,HR,HA,HGR⟩:=hrel
    have HWD:=Aside0.mk ((HGR.out.block gd (Array.getElem?_eq_some_iff.1 HBD.out).1 (fun e=>HN1.out (by injection e))).trans HBD.out)
    have HWX:=Aside0.mk ((HGR.out.block gx (Array.getElem?_eq_some_iff.1 HBX.out).1 (fun e=>HN2.out (by injection e))).trans HBX.out)
    have HBW:=Aside0.mk (HB0.out.trans (mg_below HGR.out HG0.out HB0.out.size))
    have hc0:wr.cell? ⟨gd,0,none⟩=some (.int .i64 (d:Int)):=(blk_cell HWD.out 0).trans rfl
    have hc1:wr.cell? ⟨gat,0,none⟩=some (.int .i64 ((p + k:Nat):Int)):=(blk_cell HA.out 0).trans rfl
    have hc2:wr.cell? ⟨gx,0,none⟩=some (.slice A x.length c):=(blk_cell HWX.out 0).trans rfl
    by_cases hlt:k < d
    · have hd1:decide ((k:Int) < (d:Int))=true:=decide_eq_true (by omega)
      have hd2:decide (k < d)=true:=decide_eq_true hlt
      have hwk:wrap64 ((k:Int) + 1)=((k + 1:Nat):Int):=by have:=HD.out;unfold wrap64;omega
      have hwp:wrap64 (((p + k:Nat):Int) + 1)=((p + (k + 1):Nat):Int):=by have:=HD.out;have:=HP.out;unfold wrap64;omega
      have hlk:(nextV k x p).length=k:=by unfold nextV;simp
      obtain ⟨y,hy⟩:∃ y:Int,y=(if p + k < x.length then Int.tmod (wrap64 (rd x ((p + k:Nat):Int))) 5 else 0):=⟨_,rfl⟩
      have HWK:=Aside0.mk hwk
      have HWP:=Aside0.mk hwp
      have HLK:=Aside0.mk hlk
      have HY:=Aside0.mk hy
      have HKD:=Aside0.mk hlt
      clear hwk hwp hlk hlt
      obtain ⟨q,hq⟩:∃ q:Int,q=((p + k:Nat):Int):=⟨_,rfl⟩
      rw [← hq] at hc1
      have hf1:=blk_frozen HA.out 0
      by_cases hin:p + k < x.length
      · have q0:(0:Int) ≤ q:=by omega
        have q1:q < (x.length:Int):=by omega
        obtain ⟨ad,e,hx0⟩:=Kd.at_int HC.out q q0 q1
        cases e
        have hx1:=(HBW.out.cell (World.block_lt_of_cell? w0 _ hx0)).trans hx0
        have hd3:decide (q < (x.length:Int))=true:=decide_eq_true q1
        have p0:((0:Int) ≤ q)=True:=eq_true q0
        have p1:(q < (x.length:Int))=True:=eq_true q1
        have hyv:Int.tmod (wrap64 (rd x q)) 5=y:=by rw [hy,if_pos hin,hq]
        have HQ:=Aside0.mk hq
        have HIN:=Aside0.mk hin
        clear hx0 q0 q1 hy hq hin
        go_wp2_with (first
          | ((with_reducible refine gate_builtin (b:=.append) (xs:=#[.tmp 23,.tmp 25]) rfl ?_);at_builtin;refine Kd.R_append (Kd.int .i64) (w0:=wr) W.heap.size rfl (.tmp 23) (.tmp 25) 23 3 (.int .i64 0) 8 rfl Try.underlying23 info3 rfl (by decide) (by omega) u4 (nextV k x p) y [.int .i64 y] (fun _=>True) (fun _=>False) rfl (by first|rfl|(rw [← hyv];rfl)) ?aP (fun _ hk=>hk.elim) ?aF ?aO ?aB ?aS ?aL ?_;(case aP=>exact rfl);(case aB=>exact Below.refl _ _);(case aF=>exact (fun _ _=>trivial));(case aO=>exact HR.out);(case aS=>exact HGR.out.size);(case aL=>rw [HLK.out];have:=HD.out;have:=HKD.out;omega);intro v1 w1 ho hb hg hat;have HR1:=Aside0.mk ho;have HA1:=Aside0.mk ((hg.block gat (Array.getElem?_eq_some_iff.1 HA.out).1 (fun e=>by have:=Kd.R_base HR.out gat e.symm;have:=HL.out;omega)).trans HA.out);have HGR1:=Aside0.mk (mg_snoc HGR.out hb);clear ho hb hg hat;have hc3:w1.cell? ⟨gat,0,none⟩=some (.int .i64 q):=(blk_cell HA1.out 0).trans (by rw [HQ.out];rfl);have hf3:=blk_frozen HA1.out 0))
        go_roundw
        case measure=>rw [HWK.out];simp only [intOf];have:=HKD.out;omega
        case rel =>
          rw [HWK.out]
          refine ⟨k + 1,rfl,⟨by have:=HKD.out;omega⟩,⟨?_⟩,⟨?_⟩,⟨mg_set HGR1.out _⟩⟩
          · rw [nextV_succ,← HY.out]
            exact Kd.R_mono (Kd.R_far (p:=⟨gat,0,none⟩) (Kd.R_bound HR1.out) (fun kk hk=>by have h1:=hk.2.1;have h2:=HL.out;show kk ≠ gat;omega) _) (fun _ _=>trivial)
          · rw [HQ.out,HWP.out];exact blk_put HA1.out 0 _ rfl
      · have hd3:decide (q < (x.length:Int))=false:=decide_eq_false (by omega)
        have hy0:y=0:=by rw [hy,if_neg hin]
        have HQ:=Aside0.mk hq
        have HIN:=Aside0.mk hin
        have HY0:=Aside0.mk hy0
        clear hq hin hy hy0
        go_wp2_with (first
          | ((with_reducible refine gate_builtin (b:=.append) (xs:=#[.tmp 23,.tmp 25]) rfl ?_);at_builtin;refine Kd.R_append (Kd.int .i64) (w0:=wr) W.heap.size rfl (.tmp 23) (.tmp 25) 23 3 (.int .i64 0) 8 rfl Try.underlying23 info3 rfl (by decide) (by omega) u4 (nextV k x p) y [.int .i64 0] (fun _=>True) (fun _=>False) rfl rfl ?aP (fun _ hk=>hk.elim) ?aF ?aO ?aB ?aS ?aL ?_;(case aP=>rw [HY0.out];exact rfl);(case aB=>exact Below.refl _ _);(case aF=>exact (fun _ _=>trivial));(case aO=>exact HR.out);(case aS=>exact HGR.out.size);(case aL=>rw [HLK.out];have:=HD.out;have:=HKD.out;omega);intro v1 w1 ho hb hg hat;have HR1:=Aside0.mk ho;have HA1:=Aside0.mk ((hg.block gat (Array.getElem?_eq_some_iff.1 HA.out).1 (fun e=>by have:=Kd.R_base HR.out gat e.symm;have:=HL.out;omega)).trans HA.out);have HGR1:=Aside0.mk (mg_snoc HGR.out hb);clear ho hb hg hat;have hc3:w1.cell? ⟨gat,0,none⟩=some (.int .i64 q):=(blk_cell HA1.out 0).trans (by rw [HQ.out];rfl);have hf3:=blk_frozen HA1.out 0))
        go_roundw
        case measure=>rw [HWK.out];simp only [intOf];have:=HKD.out;omega
        case rel =>
          rw [HWK.out]
          refine ⟨k + 1,rfl,⟨by have:=HKD.out;omega⟩,⟨?_⟩,⟨?_⟩,⟨mg_set HGR1.out _⟩⟩
          · rw [nextV_succ,← HY.out]
            exact Kd.R_mono (Kd.R_far (p:=⟨gat,0,none⟩) (Kd.R_bound HR1.out) (fun kk hk=>by have h1:=hk.2.1;have h2:=HL.out;show kk ≠ gat;omega) _) (fun _ _=>trivial)
          · rw [HQ.out,HWP.out];exact blk_put HA1.out 0 _ rfl
    · have hd1:decide ((k:Int) < (d:Int))=false:=decide_eq_false (by omega)
      have hd2:decide (k < d)=false:=decide_eq_false hlt
      have hkd:k=d:=by have:=HK.out;omega
      subst hkd
      go_wp2
      go_ret
      exact ⟨_,rfl,HR.out,HA.out,HGR.out⟩
def manyV (x:List Int) (p:Nat):Nat:=(Int.tmod (wrap64 (rd x (p:Int))) 3).toNat
def perV (d:Nat) (x:List Int) (q n:Nat):List (List Int):=(List.range n).map fun k=>nextV d x (q + d * k)
theorem perV_succ (d:Nat) (x:List Int) (q n:Nat):perV d x q (n + 1)=perV d x q n ++ [nextV d x (q + d * n)]:=by
  unfold perV;rw [List.range_succ,List.map_append];rfl
def madeG (d:Nat) (x:List Int):Nat → Nat → List S60
  | 0,_=>[]
  | m + 1,p=>if p < x.length then ⟨nextV d x (p + 1),perV d x (p + 1 + d) (manyV x p)⟩ :: madeG d x m (p + 1 + d + d * manyV x p) else []
def bellpulllaw05_made.f (a0:Int) (l1:List Int) (a2:Int):Option (List S60) :=
  if 0 ≤ a0∧a0 ≤ 3∧0 ≤ a2∧a2 ≤ 1000∧l1.length ≤ 4611686018427386000∧(l1.all fun z=>decide (0 ≤ z) && decide (z ≤ 255))=true then some (madeG a0.toNat l1 a2.toNat 0) else none
theorem manyV_le {x:List Int} (hx:∀ z,z ∈ x → 0 ≤ z∧z ≤ 255) {p:Nat} (hp:p < x.length):Int.tmod (wrap64 (rd x (p:Int))) 3=((manyV x p:Nat):Int)∧manyV x p ≤ 2:=by
  have hr:rd x (p:Int)=x[p]'hp:=by simp [rd,List.getD_eq_getElem?_getD,List.getElem?_eq_getElem hp]
  have h1:=hx _ (List.getElem_mem hp)
  have hw:wrap64 (rd x (p:Int))=rd x (p:Int):=by rw [hr];unfold wrap64;omega
  have ht:Int.tmod (rd x (p:Int)) 3=rd x (p:Int) % 3:=Int.tmod_eq_emod_of_nonneg (by rw [hr];exact h1.1)
  unfold manyV
  rw [hw,ht]
  omega
def mg_len:Value → Nat
  | .slice _ n _=>n
  | _=>0
theorem mg_ne {W:World} {g t e:Nat} {cs:Array Value} {v:Value} (hb:W.heap[g]?=some (.cells cs t (0,0))) (hty:∀ k,v.ownBlock=some k → ∃ cells,W.heap[k]?=some (.cells cells e (0,0))) (hte:t ≠ e):some g ≠ v.ownBlock:=fun h=>by
  obtain ⟨cells,hc⟩:=hty g h.symm
  rw [hc] at hb
  injection hb with hb
  injection hb with _ hb
  exact hte hb.symm
theorem mg_R {α:Type} {d:Kd α} {e:Nat} {w w1:World} {base:Nat} {ok:Nat → Prop} {v:Value} {xs:List α} {g:Nat} (h:d.R e w base ok v xs) (hg:w.grownBy w1 (some g)) (hok:∀ k,ok k → k ≠ g):d.R e w1 base ok v xs :=
  Kd.R_mono (Kd.R_move (Kd.R_bound h) (fun k hk=>hg.block k hk.2.2.1 (fun e=>hok k hk.1 (by injection e)))) (fun _ hk=>hk.1)
set_option maxHeartbeats 4000000 in
set_option maxRecDepth 100000 in
theorem bellpulllaw05_made.calls (a0:Int) (A1:Option Addr) (c1:Nat) (l1:List Int) (a2:Int) (r:List S60) (w:World) (hr1:Kd.C (Kd.int .u8) w A1 l1.length l1) (hc1:l1.length ≤ c1) (h:bellpulllaw05_made.f a0 l1 a2=some r) :
    Calls Try.prog 76 #[.int .i64 a0,.slice A1 l1.length c1,.int .i64 a2] w fun e w'=>∃ v0_:Value,e=.returned v0_∧Kd.R k60 60 w' w.heap.size (fun _=>True) v0_ r∧Below w.heap.size w w':=by
  unfold bellpulllaw05_made.f at h
  split at h
  case isFalse=>cases h
  rename_i hall
  obtain ⟨h0,h3,hm0,hm1,hlen,hx0⟩:=hall
  obtain rfl:=Option.some.inj h
  have hx:∀ z,z ∈ l1 → 0 ≤ z∧z ≤ 255:=fun z hz=>by
    have:=List.all_eq_true.1 hx0 z hz
    simp only [Bool.and_eq_true,decide_eq_true_eq] at this
    exact this
  obtain ⟨d,rfl⟩:∃ d:Nat,a0=(d:Int):=⟨a0.toNat,by omega⟩
  obtain ⟨most,rfl⟩:∃ m:Nat,a2=(m:Int):=⟨a2.toNat,by omega⟩
  rw [Int.toNat_natCast,Int.toNat_natCast]
  have HD:=Aside0.mk (show d ≤ 3 by omega)
  have HM:=Aside0.mk (show most ≤ 1000 by omega)
  have HLEN:=Aside0.mk hlen
  have HX:=Aside0.mk hx
  have HC:=Aside0.mk hr1
  have HB:=Aside0.mk (Below.refl w.heap.size w)
  have eg:∀ args w,(callFunc 96 args).run Try.prog w=.ok (.enter 96 args) w:=enters_of Try.func96 (by kernel_rfl) rfl
  clear h h0 h3 hm0 hm1 hlen hx0 hx hr1
  go_enter Try.func76,Try.ntmps76
  go_wp2_with (first
    | ((with_reducible refine gate_dst (N:=3) rfl ?_);refine box_event ?hg (N:=3) ?hd (cs:=#[.int .i64 (d:Int)]) (t:=3) ?hr ?_;(case hd=>rfl);(case hg=>rfl);(case hr=>first|(go_simp;done)|(go_simp;rfl));intro gd hg w1 hbox hb;have HBD:=Aside0.mk hbox;have HGD:=Aside0.mk hg;replace HB:=Aside0.mk (HB.out.trans (hb.mono (Nat.le_refl _)));clear hb hbox hg)
    | ((with_reducible refine gate_dst (N:=4) rfl ?_);refine box_event ?hg (N:=4) ?hd (cs:=#[.slice A1 l1.length c1]) (t:=50) ?hr ?_;(case hd=>rfl);(case hg=>rfl);(case hr=>first|(go_simp;done)|(go_simp;rfl));intro gx hg w2 hbox hb;have HBX:=Aside0.mk hbox;have HGX:=Aside0.mk hg;replace HBD:=Aside0.mk (blk_below HBD.out hb);replace HB:=Aside0.mk (HB.out.trans (hb.mono HB.out.size));clear hb hbox hg)
    | ((with_reducible refine gate_dst (N:=14) rfl ?_);refine Kd.R_lit k60 _ 60 ?hg (N:=14) ?hd (xs:=([]:List S60)) (inner:=[]) (ok:=fun _=>True) (okp:=fun _=>True) ?hr ?hp (fun _ hk=>hk) trivial (Below.refl _ _) (Nat.le_refl _) (by simp) ?_;(case hd=>rfl);(case hg=>rfl);(case hr=>first|(go_simp;done)|(go_simp;rfl));(case hp=>exact (Reps.none _ _));intro v7 w3 ho3 hb hg_ hnew_;have HO:=Aside0.mk (Kd.R_lower ho3 HB.out.size);replace HBD:=Aside0.mk (blk_below HBD.out hb);replace HBX:=Aside0.mk (blk_below HBX.out hb);replace HB:=Aside0.mk (HB.out.trans (hb.mono HB.out.size));clear hb ho3 hg_ hnew_)
    | ((with_reducible refine gate_dst (N:=8) rfl ?_);refine box_event ?hg (N:=8) ?hd (cs:=#[.int .i64 0]) (t:=3) ?hr ?_;(case hd=>rfl);(case hg=>rfl);(case hr=>first|(go_simp;done)|(go_simp;rfl));intro gat hg w4 hbox hb;have HBA:=Aside0.mk hbox;have HGA:=Aside0.mk hg;have HNE:=Aside0.mk (show gd ≠ gat∧gx ≠ gat from ⟨by have:=(Array.getElem?_eq_some_iff.1 HBD.out).1;omega,by have:=(Array.getElem?_eq_some_iff.1 HBX.out).1;omega⟩);have HGW:=Aside0.mk (show w.heap.size ≤ gat from by have:=HB.out.size;omega);replace HO:=Aside0.mk (Kd.R_below (Kd.R_mono (Kd.R_bound HO.out) (ok':=fun k=>k ≠ gat) (fun k hk=>by have:=hk.2.2.1;omega)) hb);replace HBD:=Aside0.mk (blk_below HBD.out hb);replace HBX:=Aside0.mk (blk_below HBX.out hb);replace HB:=Aside0.mk (HB.out.trans (hb.mono HB.out.size));clear hb hbox hg;have hc8:w4.cell? ⟨gat,0,none⟩=some (.int .i64 0):=(blk_cell HBA.out 0).trans rfl;have hf8:=blk_frozen HBA.out 0))
  go_loopw [7] (fun v7 wr=>∃ (o:List S60) (p:Nat) (A:Option Addr) (c:Nat),v7=.slice A o.length c∧Aside0 (o ++ madeG d l1 (most - o.length) p=madeG d l1 most 0)∧Aside0 (o.length ≤ most)∧Aside0 (p ≤ l1.length + 9)∧Aside0 (Kd.R k60 60 wr w.heap.size (fun k=>k ≠ gat) (.slice A o.length c) o) ∧
      Aside0 (wr.heap[gd]?=some (.cells #[.int .i64 (d:Int)] 3 (0,0)))∧Aside0 (wr.heap[gx]?=some (.cells #[.slice A1 l1.length c1] 50 (0,0)))∧Aside0 (wr.heap[gat]?=some (.cells #[.int .i64 (p:Int)] 3 (0,0)))∧Aside0 (Below w.heap.size w wr)) (fun v7 _=>most - mg_len v7)
  case atStart =>
    obtain ⟨A,c,rfl⟩:=Kd.R_slice HO.out
    refine ⟨[],0,A,c,rfl,⟨by simp⟩,⟨Nat.zero_le _⟩,⟨Nat.zero_le _⟩,⟨Kd.R_far (p:=⟨gat,0,none⟩) HO.out (fun _ hk=>hk) _⟩,⟨blk_far HBD.out HNE.out.1 _⟩,⟨blk_far HBX.out HNE.out.2 _⟩,⟨blk_put HBA.out 0 _ rfl⟩,⟨below_set HB.out HGW.out⟩⟩
  case round =>
    clear HO HBD HBX HBA HB hc8 hf8 HGD HGX HGA
    obtain ⟨o,p,A,c,rfl,HREL,HOL,HP,HO,HBD,HBX,HBA,HB⟩:=hrel
    have hcx:wr.cell? ⟨gx,0,none⟩=some (.slice A1 l1.length c1):=(blk_cell HBX.out 0).trans rfl
    by_cases hl:o.length < most
    · have hd1:decide ((o.length:Int) < (most:Int))=true:=decide_eq_true (by omega)
      have hd2:decide (o.length < most)=true:=decide_eq_true hl
      by_cases hp:p < l1.length
      · obtain ⟨q,hq⟩:∃ q:Int,q=(p:Int):=⟨_,rfl⟩
        have hca:wr.cell? ⟨gat,0,none⟩=some (.int .i64 q):=(blk_cell HBA.out 0).trans (by rw [hq];rfl)
        have hfa:=blk_frozen HBA.out 0
        have hd3:decide (q < (l1.length:Int))=true:=decide_eq_true (by omega)
        have q0:(0:Int) ≤ q:=by omega
        have q1:q < (l1.length:Int):=by omega
        obtain ⟨ad,e,hx0⟩:=Kd.at_int HC.out q q0 q1
        cases e
        have hx1:=(HB.out.cell (World.block_lt_of_cell? w _ hx0)).trans hx0
        have p0:((0:Int) ≤ q)=True:=eq_true q0
        have p1:(q < (l1.length:Int))=True:=eq_true q1
        obtain ⟨hmv,hm2⟩:=manyV_le HX.out hp
        rw [← hq] at hmv
        obtain ⟨n,hn⟩:∃ n:Nat,n=manyV l1 p:=⟨_,rfl⟩
        rw [← hn] at hmv hm2
        have hwq:wrap64 (q + 1)=((p + 1:Nat):Int):=by have:=HLEN.out;unfold wrap64;omega
        have HN:=Aside0.mk hn
        have HQ:=Aside0.mk hq
        have HPL:=Aside0.mk hp
        have HLM:=Aside0.mk hl
        have HN2:=Aside0.mk hm2
        have HWQ:=Aside0.mk hwq
        have hga:=(Array.getElem?_eq_some_iff.1 HBA.out).1
        have HGLT:=Aside0.mk hga
        clear hx0 q0 q1 hq hp hl hn hm2 hwq hga
        have HO1:=Aside0.mk (Kd.R_far (p:=⟨gat,0,none⟩) HO.out (fun _ hk=>hk) (.int .i64 (wrap64 (q + 1))))
        have HBD1:=Aside0.mk (blk_far HBD.out HNE.out.1 (p:=⟨gat,0,none⟩) (.int .i64 (wrap64 (q + 1))))
        have HBX1:=Aside0.mk (blk_far HBX.out HNE.out.2 (p:=⟨gat,0,none⟩) (.int .i64 (wrap64 (q + 1))))
        have HBA1:Aside0 ((wr.setCell ⟨gat,0,none⟩ (.int .i64 (wrap64 (q + 1)))).heap[gat]?=some (.cells #[.int .i64 ((p + 1:Nat):Int)] 3 (0,0))):=⟨by rw [HWQ.out];exact blk_put HBA.out 0 _ rfl⟩
        have HB1:Aside0 (Below w.heap.size w (wr.setCell ⟨gat,0,none⟩ (.int .i64 (wrap64 (q + 1))))):=⟨below_set HB.out HGW.out⟩
        clear HO HBD HBX HBA HB
        go_wp2_with (fail)
        generalize (wr.setCell ⟨gat,0,none⟩ (.int .i64 (wrap64 (q + 1))))=W1 at HO1 HBD1 HBX1 HBA1 HB1 ⊢;(with_reducible refine (made_next.calls d (p + 1) gd gat gx _ c1 l1 w W1 ?s1 ?s2 HNE.out.1 HNE.out.2 HGW.out HBD1.out HBA1.out HBX1.out HC.out HB1.out).mono ?_);(case s1=>have:=HD.out;omega);(case s2=>have:=HLEN.out;have:=HPL.out;omega);rintro e W2 ⟨vf,rfl,hR,hA,hG⟩;have HF:=Aside0.mk (Kd.R_mono (Kd.R_bound hR) (ok':=fun k=>k ≠ gat) (fun k hk=>by have:=hk.2.1;have:=(Array.getElem?_eq_some_iff.1 HBA1.out).1;omega));have HO:=Aside0.mk (mg_R HO1.out hG (fun _ hk=>hk));have HBD:=Aside0.mk ((hG.block gd (Array.getElem?_eq_some_iff.1 HBD1.out).1 (fun e=>HNE.out.1 (by injection e))).trans HBD1.out);have HBX:=Aside0.mk ((hG.block gx (Array.getElem?_eq_some_iff.1 HBX1.out).1 (fun e=>HNE.out.2 (by injection e))).trans HBX1.out);have HBA:=Aside0.mk hA;have HB:=Aside0.mk (HB1.out.trans (mg_below hG HGW.out HB1.out.size));replace HF:=Aside0.mk (Kd.R_lower HF.out HB1.out.size);clear hR hA hG HO1 HBD1 HBX1 HBA1 HB1;obtain ⟨Af,cf,ef⟩:=Kd.R_slice HF.out;subst ef
        go_wp2_with (first
          | ((with_reducible refine gate_dst (N:=11) rfl ?_);refine box_event ?hg (N:=11) ?hd (cs:=#[.slice none 0 0,.slice none 0 0]) (t:=60) ?hr ?_;(case hd=>rfl);(case hg=>rfl);(case hr=>first|(go_simp;done)|(go_simp;rfl));intro gl hg w6 hbox hb;have HBL:=Aside0.mk hbox;have HNL:=Aside0.mk (show gd ≠ gl∧gx ≠ gl∧gat ≠ gl from ⟨by have:=(Array.getElem?_eq_some_iff.1 HBD.out).1;omega,by have:=(Array.getElem?_eq_some_iff.1 HBX.out).1;omega,by have:=(Array.getElem?_eq_some_iff.1 HBA.out).1;omega⟩);have HGL:=Aside0.mk (show w.heap.size ≤ gl from by have:=HB.out.size;omega);replace HO:=Aside0.mk (Kd.R_below (Kd.R_elderB HO.out gl (Nat.le_of_eq hg.symm)) hb);replace HF:=Aside0.mk (Kd.R_below HF.out hb);replace HBD:=Aside0.mk (blk_below HBD.out hb);replace HBX:=Aside0.mk (blk_below HBX.out hb);replace HBA:=Aside0.mk (blk_below HBA.out hb);replace HB:=Aside0.mk (HB.out.trans (hb.mono HB.out.size));clear hb hbox hg;have hcl0:w6.cell? ⟨gl,0,none⟩=some (.slice none 0 0):=(blk_cell HBL.out 0).trans rfl;have hcl1:w6.cell? ⟨gl,1,none⟩=some (.slice none 0 0):=(blk_cell HBL.out 1).trans rfl;have hfl0:=blk_frozen HBL.out 0;have hfl1:=blk_frozen HBL.out 1))
        obtain ⟨F,hF⟩:∃ F:List Int,F=nextV d l1 (p + 1):=⟨_,rfl⟩
        rw [← hF] at HF
        have HFF:=Aside0.mk hF
        rw [← hF]
        clear hF
        go_loopw [12] (fun v12 wi=>∃ (k:Nat) (u:Value),v12=.int .i64 (k:Int)∧Aside0 (k ≤ n)∧Aside0 (Kd.R k60 60 wi w.heap.size (fun z=>(z ≠ gat∧z ≠ gl)∧some z ≠ u.ownBlock) (.slice A o.length c) o)∧Aside0 (Kd.R (Kd.int .i64) 3 wi w.heap.size (fun z=>z ≠ gat) (.slice Af F.length cf) F) ∧
            Aside0 (Kd.R (Kd.slice 3 (Kd.int .i64)) 23 wi w.heap.size (fun z=>z ≠ gat) u (perV d l1 (p + 1 + d) k))∧Aside0 (wi.heap[gl]?=some (.cells #[.slice Af F.length cf,u] 60 (0,0))) ∧
            Aside0 (wi.heap[gd]?=some (.cells #[.int .i64 (d:Int)] 3 (0,0)))∧Aside0 (wi.heap[gx]?=some (.cells #[.slice (some ad) l1.length c1] 50 (0,0)))∧Aside0 (wi.heap[gat]?=some (.cells #[.int .i64 ((p + 1 + d + d * k:Nat):Int)] 3 (0,0)))∧Aside0 (Below w.heap.size w wi)) (fun v12 _=>n - (intOf v12).toNat)
        case atStart =>
          exact ⟨0,.slice none 0 0,rfl,⟨Nat.zero_le _⟩,⟨Kd.R_mono (Kd.R_far (p:=⟨gl,1,none⟩) (Kd.R_far (p:=⟨gl,0,none⟩) HO.out (fun _ hk=>hk.2) _) (fun _ hk=>hk.2) _) (fun _ hk=>⟨hk,by simp [Value.ownBlock]⟩)⟩,
            ⟨Kd.R_mono (Kd.R_far (p:=⟨gl,1,none⟩) (Kd.R_far (p:=⟨gl,0,none⟩) (Kd.R_types HF.out HBL.out (by decide)) (fun _ hk=>hk.2) _) (fun _ hk=>hk.2) _) (fun _ hk=>hk.1)⟩,⟨Kd.R_nil _ _ _ _ _⟩,
            ⟨by refine blk_put (cs:=#[.slice Af F.length cf,.slice none 0 0]) ?_ 1 _ rfl;exact blk_put HBL.out 0 _ rfl⟩,⟨blk_far (blk_far HBD.out HNL.out.1 _) HNL.out.1 _⟩,⟨blk_far (blk_far HBX.out HNL.out.2.1 _) HNL.out.2.1 _⟩,⟨blk_far (blk_far HBA.out HNL.out.2.2 _) HNL.out.2.2 _⟩,⟨below_set (below_set HB.out HGL.out) HGL.out⟩⟩
        case round =>
          clear HO HF HBL HBD HBX HBA HB hcl0 hcl1 hfl0 hfl1
          obtain ⟨k,u,rfl,HK,HO,HF,HS,HBL,HBD,HBX,HBA,HB⟩:=hrel
          have hcl0:wr.cell? ⟨gl,0,none⟩=some (.slice Af F.length cf):=(blk_cell HBL.out 0).trans rfl
          have hcl1:wr.cell? ⟨gl,1,none⟩=some u:=(blk_cell HBL.out 1).trans rfl
          by_cases hkn:k < n
          · have hd5:decide ((k:Int) < (n:Int))=true:=decide_eq_true (by omega)
            have hd6:decide (k < n)=true:=decide_eq_true hkn
            have hwk:wrap64 ((k:Int) + 1)=((k + 1:Nat):Int):=by have:=HN2.out;unfold wrap64;omega
            have HWK:=Aside0.mk hwk
            have HKN:=Aside0.mk hkn
            have hmul:d * k ≤ 6:=Nat.le_trans (Nat.mul_le_mul HD.out (show k ≤ 2 by have:=HN2.out;omega)) (by decide)
            have HMU:=Aside0.mk hmul
            obtain ⟨p2,hp2⟩:∃ p2:Nat,p2=p + 1 + d + d * k:=⟨_,rfl⟩
            rw [← hp2] at HBA
            have HP2:=Aside0.mk hp2
            have hpl:(perV d l1 (p + 1 + d) k).length=k:=by unfold perV;simp
            have HPV:=Aside0.mk hpl
            clear hwk hkn hmul hp2 hpl
            go_wp2_with (fail)
            (with_reducible refine (made_next.calls d p2 gd gat gx _ c1 l1 w wr ?s1 ?s2 HNE.out.1 HNE.out.2 HGW.out HBD.out HBA.out HBX.out HC.out HB.out).mono ?_)
            case s1=>have:=HD.out;omega
            case s2=>rw [HP2.out];have:=HLEN.out;have:=HPL.out;have:=HMU.out;have:=HD.out;omega
            rintro e W2 ⟨vn,rfl,hR,hA,hG⟩
            have HV:=Aside0.mk (Kd.R_lower (Kd.R_mono (Kd.R_bound hR) (ok':=fun k=>k ≠ gat) (fun z hk=>by have:=hk.2.1;have:=(Array.getElem?_eq_some_iff.1 HBA.out).1;omega)) HB.out.size)
            replace HO:=Aside0.mk (mg_R HO.out hG (fun _ hk=>hk.1.1))
            replace HF:=Aside0.mk (mg_R HF.out hG (fun _ hk=>hk))
            replace HS:=Aside0.mk (mg_R HS.out hG (fun _ hk=>hk))
            replace HBL:=Aside0.mk ((hG.block gl (Array.getElem?_eq_some_iff.1 HBL.out).1 (fun e=>HNL.out.2.2 (by injection e with e;exact e.symm))).trans HBL.out)
            replace HBD:=Aside0.mk ((hG.block gd (Array.getElem?_eq_some_iff.1 HBD.out).1 (fun e=>HNE.out.1 (by injection e))).trans HBD.out)
            replace HBX:=Aside0.mk ((hG.block gx (Array.getElem?_eq_some_iff.1 HBX.out).1 (fun e=>HNE.out.2 (by injection e))).trans HBX.out)
            replace HB:=Aside0.mk (HB.out.trans (mg_below hG HGW.out HB.out.size))
            replace HBA:=Aside0.mk hA
            clear hR hA hG hcl0 hcl1
            obtain ⟨V,hV⟩:∃ V:List Int,V=nextV d l1 p2:=⟨_,rfl⟩
            rw [← hV] at HV
            have HVV:=Aside0.mk hV
            clear hV
            obtain ⟨An,cn,en⟩:=Kd.R_slice HV.out
            subst en
            go_wp2_with (first
              | ((with_reducible refine gate_builtin (b:=.append) (xs:=#[.tmp 44,.tmp 47]) rfl ?_);at_builtin;refine Kd.R_append (Kd.slice 3 (Kd.int .i64)) (w0:=w) w.heap.size rfl (.tmp 44) (.tmp 47) 58 23 (.slice none 0 0) 24 rfl Try.underlying58 info23 rfl (by decide) (by omega) u (perV d l1 (p + 1 + d) k) V [.slice An V.length cn] (fun z=>z ≠ gat) (fun z=>z ≠ gat∧some z ≠ u.ownBlock) rfl rfl ?aP (fun _ hk=>hk) ?aF ?aO ?aB ?aS ?aL ?_;(case aP=>exact Kd.M_row (Kd.R_apart' HV.out (Kd.R_typed HS.out) (by decide)));(case aF=>exact fun z hk=>Kd.freshB HBA.out z hk);(case aO=>exact HS.out);(case aB=>exact HB.out);(case aS=>exact below_size HB.out);(case aL=>rw [HPV.out];have:=HKN.out;have:=HN2.out;omega);intro u1 w9 ho hb hg hat;replace HO:=Aside0.mk (Kd.R_after (ok:=fun z=>z ≠ gat∧z ≠ gl) HO.out hg hat);replace HF:=Aside0.mk (Kd.R_over' HF.out (Kd.R_typed HS.out) (by decide) hg);replace HBL:=Aside0.mk (blk_grown HBL.out hg (mg_ne HBL.out (Kd.R_typed HS.out) (by decide)));replace HBD:=Aside0.mk (blk_grown HBD.out hg (mg_ne HBD.out (Kd.R_typed HS.out) (by decide)));replace HBX:=Aside0.mk (blk_grown HBX.out hg (mg_ne HBX.out (Kd.R_typed HS.out) (by decide)));replace HBA:=Aside0.mk (blk_grown HBA.out hg (mg_ne HBA.out (Kd.R_typed HS.out) (by decide)));obtain ⟨P2,hP2⟩:∃ P2:List (List Int),P2=perV d l1 (p + 1 + d) k ++ [V]:=⟨_,rfl⟩;rw [← hP2] at ho;have HP3:=Aside0.mk hP2;replace HS:=Aside0.mk ho;replace HB:=Aside0.mk hb;clear ho hb hg hat hP2;obtain ⟨A8,c8,e8⟩:=Kd.R_slice HS.out;subst e8;have hcl0:w9.cell? ⟨gl,0,none⟩=some (.slice Af F.length cf):=(blk_cell HBL.out 0).trans rfl;have hcl1:w9.cell? ⟨gl,1,none⟩=some u:=(blk_cell HBL.out 1).trans rfl;have hfl0:=blk_frozen HBL.out 0;have hfl1:=blk_frozen HBL.out 1))
            go_roundw
            case measure=>rw [HWK.out];simp only [intOf];have:=HKN.out;omega
            case rel =>
              rw [HWK.out]
              refine ⟨k + 1,.slice A8 P2.length c8,rfl,⟨by have:=HKN.out;omega⟩,⟨Kd.R_far (p:=⟨gl,1,none⟩) HO.out (fun _ hk=>hk.1.2) _⟩,⟨Kd.R_mono (Kd.R_far (p:=⟨gl,1,none⟩) (Kd.R_types HF.out HBL.out (by decide)) (fun _ hk=>hk.2) _) (fun _ hk=>hk.1)⟩,⟨?_⟩,⟨blk_put HBL.out 1 _ rfl⟩,⟨blk_far HBD.out HNL.out.1 _⟩,⟨blk_far HBX.out HNL.out.2.1 _⟩,⟨?_⟩,⟨below_set HB.out HGL.out⟩⟩
              · rw [perV_succ,← HP2.out,← HVV.out,← HP3.out]
                exact Kd.R_mono (Kd.R_far (p:=⟨gl,1,none⟩) (Kd.R_types HS.out HBL.out (by decide)) (fun _ hk=>hk.2) _) (fun _ hk=>hk.1)
              · rw [show p + 1 + d + d * (k + 1)=p2 + d from by rw [HP2.out,Nat.mul_succ];omega]
                exact blk_far HBA.out HNL.out.2.2 _
          · have hd5:decide ((k:Int) < (n:Int))=false:=decide_eq_false (by omega)
            have hd6:decide (k < n)=false:=decide_eq_false hkn
            obtain rfl:k=n:=by have:=HK.out;omega
            obtain ⟨Au,cu,rfl⟩:=Kd.R_slice HS.out
            obtain ⟨P,hP⟩:∃ P:List (List Int),P=perV d l1 (p + 1 + d) k:=⟨_,rfl⟩
            rw [← hP] at HS hcl1 HBL HO
            have HPP:=Aside0.mk hP
            clear hP hkn
            go_wp2_with (first
              | ((with_reducible refine gate_builtin (b:=.append) (xs:=#[.tmp 50,.tmp 52]) rfl ?_);at_builtin;refine Kd.R_append k60 (w0:=w) w.heap.size rfl (.tmp 50) (.tmp 52) 22 60 (.agg #[(.slice none 0 0),(.slice none 0 0)]) 48 rfl Try.underlying22 info60 rfl (by decide) (by omega) (.slice A o.length c) o (⟨F,P⟩:S60) [.slice Af F.length cf,.slice Au P.length cu] (fun z=>z ≠ gat) (fun z=>z ≠ gat∧some z ≠ (.slice A o.length c:Value).ownBlock) rfl rfl ?aP (fun _ hk=>hk) ?aF ?aO ?aB ?aS ?aL ?_;(case aP=>exact k60_mkM _ _ _ (⟨F,P⟩:S60) (Kd.R_apart' HF.out (Kd.R_typed HO.out) (by decide)) (Kd.R_apart' HS.out (Kd.R_typed HO.out) (by decide)));(case aF=>exact fun z hk=>Kd.freshB HBA.out z hk);(case aO=>exact Kd.R_mono HO.out (fun _ h=>h.1.1));(case aB=>exact HB.out);(case aS=>exact below_size HB.out);(case aL=>have:=HLM.out;have:=HM.out;omega);intro u2 w10 ho hb hg hat;replace HBD:=Aside0.mk (blk_grown HBD.out hg (mg_ne HBD.out (Kd.R_typed HO.out) (by decide)));replace HBX:=Aside0.mk (blk_grown HBX.out hg (mg_ne HBX.out (Kd.R_typed HO.out) (by decide)));replace HBA:=Aside0.mk (blk_grown HBA.out hg (mg_ne HBA.out (Kd.R_typed HO.out) (by decide)));replace HO:=Aside0.mk ho;replace HB:=Aside0.mk hb;clear ho hb hg hat;obtain ⟨A9,c9,e9⟩:=Kd.R_slice HO.out;subst e9))
            go_roundw
            case measure=>simp only [mg_len];have:=HLM.out;omega
            case rel =>
              refine ⟨o ++ [⟨F,P⟩],p + 1 + d + d * k,A9,c9,by simp,⟨?_⟩,⟨by rw [List.length_append,List.length_singleton];have:=HLM.out;omega⟩,⟨?_⟩,HO,HBD,HBX,HBA,HB⟩
              · have h1:=HREL.out
                obtain ⟨m,hm⟩:∃ m,most - o.length=m + 1:=⟨most - o.length - 1,by have:=HLM.out;omega⟩
                rw [hm,madeG,if_pos HPL.out,← HN.out,← HFF.out,← HPP.out] at h1
                rw [List.length_append,List.length_singleton,show most - (o.length + 1)=m by omega,List.append_assoc]
                exact h1
              · have hmul:d * k ≤ 6:=Nat.le_trans (Nat.mul_le_mul HD.out (show k ≤ 2 from HN2.out)) (by decide)
                have:=HD.out;have:=HPL.out;omega
      · obtain ⟨q,hq⟩:∃ q:Int,q=(p:Int):=⟨_,rfl⟩
        have hca:wr.cell? ⟨gat,0,none⟩=some (.int .i64 q):=(blk_cell HBA.out 0).trans (by rw [hq];rfl)
        have hd3:decide (q < (l1.length:Int))=false:=decide_eq_false (by omega)
        have e1:madeG d l1 (most - o.length) p=[]:=by
          obtain ⟨m,hm⟩:∃ m,most - o.length=m + 1:=⟨most - o.length - 1,by omega⟩
          rw [hm,madeG,if_neg hp]
        have HE:=Aside0.mk e1
        clear hq hp hl e1
        go_wp2
        go_ret
        refine ⟨_,rfl,?_,HB.out⟩
        rw [← HREL.out,HE.out,List.append_nil]
        exact Kd.R_mono HO.out (fun _ _=>trivial)
    · have hd1:decide ((o.length:Int) < (most:Int))=false:=decide_eq_false (by omega)
      have hd2:decide (o.length < most)=false:=decide_eq_false hl
      have e1:madeG d l1 (most - o.length) p=[]:=by rw [show most - o.length=0 by omega,madeG]
      have HE:=Aside0.mk e1
      clear hl e1
      go_wp2
      go_ret
      refine ⟨_,rfl,?_,HB.out⟩
      rw [← HREL.out,HE.out,List.append_nil]
      exact Kd.R_mono HO.out (fun _ _=>trivial)
end Go.Proofs.Ytkonljiembcdlaa.PC
namespace Go.Proofs.Ytkonljiembcdlaa.PC
open Go.Proofs.MyWords Go.RowKit Go.Proofs.YtkonljiembcdlaaW.PrintWords Go.Proofs.YtkonljiembcdlaaW.PrintLast Go.Proofs.YtkonljiembcdlaaW.PrintMore
attribute [local go_sem] max2_int min2_int max_two min_two max_three min_three max_four min_four   -- for this text's walks alone
set_option linter.unusedVariables false
set_option linter.unusedSimpArgs false
attribute [local go_sem] eqGuard_slices eqlnil23 neqnil23 eqlnil58 neqnil58
def bellpulllaw05_Plan_sets.f (a0_0:Int) (l0_1:List Int) (l0_2:List Int) (a1:Int):Option (Int × (List (S60)) × (List (S60))):=(bellpulllaw05_made.f (wrap64 ((Int.tmod (wrap64 (a0_0)) 3) + 1)) l0_1 a1).bind fun t778=>((bellpulllaw05_made.f (wrap64 ((Int.tmod (wrap64 (a0_0)) 3) + 1)) l0_2 a1).bind fun t781=>(some (wrap64 ((Int.tmod (wrap64 (a0_0)) 3) + 1),t778,t781)))
def bellpulllaw05_Plan_sets.T2:Bool × List (List Nat × List Nat):=(true,[([],[]),([],[]),([],[]),([2],[2]),([],[]),([1,3,4],[1,3,4]),([],[]),([],[]),([7],[7]),([],[]),([6,8,9,5],[6,8,9]),([0,10,0],[0]),([5,11,0,1,2,3,4,5,11],[5]),([10,12,0,1,2,3,4,5,6,7,8,9,10,11,12],[10])])
def bellpulllaw05_Plan_sets.B2:List Nat:=[0,0,0,4,0,30,0,0,128,0,1022,2047,4095,8191]
theorem bellpulllaw05_Plan_sets.tab2:rtab .any (opsOf Try.f33 2)=bellpulllaw05_Plan_sets.T2:=by kernel_rfl
theorem bellpulllaw05_Plan_sets.bits2:waitsOk bellpulllaw05_Plan_sets.T2.2 bellpulllaw05_Plan_sets.B2=true:=by kernel_rfl
set_option maxHeartbeats 8000000 in
set_option maxRecDepth 100000 in
theorem bellpulllaw05_Plan_sets.calls (D:Int) (M:Option Addr) (O:Nat) (F:List Int) (Q:Option Addr) (T:Nat) (G:List Int) (X:Int) (r1:Int) (r2:List (S60)) (r3:List (S60)) (w:World) (a0:Kd.C (Kd.int .u8) w M F.length F) (a2:F.length ≤ O) (a3:Kd.C (Kd.int .u8) w Q G.length G) (a4:G.length ≤ T) (h:bellpulllaw05_Plan_sets.f D F G X=some (r1,r2,r3)) :
    Calls Try.prog 33 #[.agg #[.int .u8 D,.slice M F.length O,.slice Q G.length T],.int .i64 X] w fun e w'=>∃ a5 a6:Value,e=.returned (.tuple #[.int .i64 r1,a5,a6])∧Kd.R k60 60 w' w.heap.size (fun k_=>some k_ ≠ (a6:Value).ownBlock) a5 r2∧Kd.R k60 60 w' w.heap.size (fun k_=>some k_ ≠ (a5:Value).ownBlock) a6 r3∧Below w.heap.size w w':=by
 have c8:=Try.underlying55;have a9:=mk0 a0;have b0:=mk0 a2;clear a0 a2;have b1:=mk0 a3;have b2:=mk0 a4;clear a3 a4;have I:=mk0 (Below.refl w.heap.size w);have H:((bellpulllaw05_made.f (wrap64 ((Int.tmod (wrap64 (D)) 3) + 1)) F X).bind fun Y=>((bellpulllaw05_made.f (wrap64 ((Int.tmod (wrap64 (D)) 3) + 1)) G X).bind fun Z=>(some (wrap64 ((Int.tmod (wrap64 (D)) 3) + 1),Y,Z))))=some (r1,r2,r3):=h;clear h;replace H:=Option.bind_eq_some_iff.mp H;obtain ⟨Y,b6,H⟩:=H;(try dsimp only at H);have A3:=mk0 b6;clear b6;replace H:=Option.bind_eq_some_iff.mp H;obtain ⟨Z,b7,H⟩:=H;(try dsimp only at H);have A4:=mk0 b7;clear b7;simp only [Option.some.injEq,Prod.mk.injEq] at H;obtain ⟨rfl,rfl,rfl⟩:=H;go_enter Try.func33,Try.ntmps33;try go_wp2_with (first|((with_reducible refine gate_dst (N:=2) rfl ?_);refine box_event ?hg (N:=2) ?hd (cs:=#[.int .u8 D,.slice M F.length O,.slice Q G.length T]) (t:=55) ?hr ?_;(case hd=>rfl);(case hg=>rfl);(case hr=>first|(go_simp;done)|(go_simp;rfl));intro V hg w5 a7 hb;have B:=mk0 (a7);have b3:=szw hg I;have b4:=b3;replace I:=bst I hb;clear hb a7 hg;have c2:=q0_ B;have c3:=q1_ B;have c4:=q2_ B;have c5:=blk_frozen B.1 0;have c6:=blk_frozen B.1 1;have c7:=blk_frozen B.1 2))
 replace B:=bdr B;replace I:=hdr I;refine start_ (n:=14) (S:=fun w'=>w'.cell? ⟨V,0,none⟩=some (.int .u8 D)∧w'.cell? ⟨V,1,none⟩=some (.slice M F.length O)∧w'.cell? ⟨V,2,none⟩=some (.slice Q G.length T)) (ds:=[]) #[n_,n_,n_,n_,n_,n_,n_,n_,n_,n_,n_,n_,n_,n_] (by kernel_rfl) rfl rfl ⟨q0_ B,q1_ B,q2_ B⟩ (fun J=>?_);refine with_tabW bellpulllaw05_Plan_sets.tab2 bellpulllaw05_Plan_sets.bits2 (fun E b8=>?_);generalize w5.drew=w7 at B I J ⊢;refine pure_ (i:=0) (N:=some 13) (v:=?_) (a':=?_) #[y_,n_,n_,n_,n_,n_,n_,n_,n_,n_,n_,n_,n_,n_] rfl rfl (any_of E.1 (by kernel_rfl)) (fun _ _ _ h=>h) (Or.inl ⟨by rfl,?_⟩) ?_ ?_;rotate_left
 ·
  intro w';go_simp;with_reducible rfl
 rotate_left
 ·
  simp only [Act.put,s0_,s1_,s2_,i64_w,i32_w];rfl
 refine pure_ (i:=1) (N:=some 14) (v:=?_) (a':=?_) #[y_,y_,n_,n_,n_,n_,n_,n_,n_,n_,n_,n_,n_,n_] rfl rfl (any_of E.1 (by kernel_rfl)) (fun _ _ _ h=>h) (Or.inl ⟨by rfl,?_⟩) ?_ ?_;rotate_left
 ·
  intro w';go_simp;with_reducible rfl
 rotate_left
 ·
  simp only [Act.put,s0_,s1_,s2_,i64_w,i32_w];rfl
 refine pure_ (i:=2) (N:=some 15) (v:=?_) (a':=?_) #[y_,y_,y_,n_,n_,n_,n_,n_,n_,n_,n_,n_,n_,n_] rfl rfl (any_of E.1 (by kernel_rfl)) (fun _ _ _ h=>h) (Or.inl ⟨by rfl,?_⟩) ?_ ?_;rotate_left
 ·
  intro w';go_simp;with_reducible rfl
 rotate_left
 ·
  simp only [Act.put,s0_,s1_,s2_,i64_w,i32_w];rfl
 refine pure_ (i:=4) (N:=some 17) (v:=?_) (a':=?_) #[y_,y_,y_,n_,y_,n_,n_,n_,n_,n_,n_,n_,n_,n_] rfl rfl (any_of E.1 (by kernel_rfl)) (fun _ _ _ h=>h) (Or.inl ⟨by rfl,?_⟩) ?_ ?_;rotate_left
 ·
  intro w';go_simp;with_reducible rfl
 rotate_left
 ·
  simp only [Act.put,s0_,s1_,s2_,i64_w,i32_w];rfl
 refine pure_ (i:=6) (N:=some 19) (v:=?_) (a':=?_) #[y_,y_,y_,n_,y_,n_,y_,n_,n_,n_,n_,n_,n_,n_] rfl rfl (any_of E.1 (by kernel_rfl)) (fun _ _ _ h=>h) (Or.inl ⟨by rfl,?_⟩) ?_ ?_;rotate_left
 ·
  intro w';go_simp;with_reducible rfl
 rotate_left
 ·
  simp only [Act.put,s0_,s1_,s2_,i64_w,i32_w];rfl
 refine pure_ (i:=7) (N:=some 20) (v:=?_) (a':=?_) #[y_,y_,y_,n_,y_,n_,y_,y_,n_,n_,n_,n_,n_,n_] rfl rfl (any_of E.1 (by kernel_rfl)) (fun _ _ _ h=>h) (Or.inl ⟨by rfl,?_⟩) ?_ ?_;rotate_left
 ·
  intro w';go_simp;with_reducible rfl
 rotate_left
 ·
  simp only [Act.put,s0_,s1_,s2_,i64_w,i32_w];rfl
 refine pure_ (i:=9) (N:=some 22) (v:=?_) (a':=?_) #[y_,y_,y_,n_,y_,n_,y_,y_,n_,y_,n_,n_,n_,n_] rfl rfl (any_of E.1 (by kernel_rfl)) (fun _ _ _ h=>h) (Or.inl ⟨by rfl,?_⟩) ?_ ?_;rotate_left
 ·
  intro w';go_simp;with_reducible rfl
 rotate_left
 ·
  simp only [Act.put,s0_,s1_,s2_,i64_w,i32_w];rfl
 refine take_ (i:=3) (N:=some 16) (v:=?_) (a':=?_) #[y_,y_,y_,y_,y_,n_,y_,y_,n_,y_,n_,n_,n_,n_] rfl rfl (take_ofW E.1 b8.1 (by kernel_rfl)) (fun _ _ _ h=>h) (Or.inl ⟨by rfl,?_⟩) J ?_ ?_;rotate_left
 ·
  rintro w' ⟨s0,s1,s2⟩;go_simp;with_reducible rfl
 rotate_left
 ·
  simp only [Act.put,s0_,s1_,s2_,i64_w,i32_w];rfl
 refine take_ (i:=8) (N:=some 21) (v:=?_) (a':=?_) #[y_,y_,y_,y_,y_,n_,y_,y_,y_,y_,n_,n_,n_,n_] rfl rfl (take_ofW E.1 b8.1 (by kernel_rfl)) (fun _ _ _ h=>h) (Or.inl ⟨by rfl,?_⟩) J ?_ ?_;rotate_left
 ·
  rintro w' ⟨s0,s1,s2⟩;go_simp;with_reducible rfl
 rotate_left
 ·
  simp only [Act.put,s0_,s1_,s2_,i64_w,i32_w];rfl
 refine one_ (i:=5) (N:=some 18) #[y_,y_,y_,y_,y_,y_,y_,y_,y_,y_,n_,n_,n_,n_] rfl rfl (one_of E.1 (by kernel_rfl)) (by decide) (fun K hK=>?_);refine goes_ Try.func76 (by kernel_rfl) rfl #[.int .i64 (wrap64 ((Int.tmod (wrap64 (D)) 3) + 1)),.slice M F.length O,.int .i64 X] (by rfl) rfl rfl (by (try simp only [m0_,m1_,m2_]);first|done|rfl|(simp only [l0_,l1_];rfl)) ?_;with_reducible refine (bellpulllaw05_made.calls (wrap64 ((Int.tmod (wrap64 (D)) 3) + 1)) _ _ F X Y _ ?side1 ?side2 A3.1).mono ?_
 (case side1=>repeat (first|exact (Kd.C_below a9.1 I.1)|(with_reducible refine Kd.C_alloc ?_ _)|(with_reducible refine Kd.C_drewN ?_ _)|(with_reducible refine Kd.C_drew ?_)));(case side2=>exact b0.1);rintro e w8 ⟨d5,rfl,U,hb⟩;refine ⟨_,rfl,?_⟩;have L:=mk0 (Kd.R_lower U (below_size I.1));replace B:=bkb B hb;replace I:=bst I hb;(try clear hb);(try clear U);refine hK.out _ _ ⟨q0_ B,q1_ B,q2_ B⟩ (fun J=>?_);clear hK K;refine norm_ (a':=?_) ?_ ?_;rotate_left
 ·
  show Act.put _ (some 18) _=_;simp only [Act.put,s0_,s1_,s2_,i64_w,i32_w];rfl
 refine one_ (i:=10) (N:=some 23) #[y_,y_,y_,y_,y_,y_,y_,y_,y_,y_,y_,n_,n_,n_] rfl rfl (one_of E.1 (by kernel_rfl)) (by decide) (fun K hK=>?_);refine goes_ Try.func76 (by kernel_rfl) rfl #[.int .i64 (wrap64 ((Int.tmod (wrap64 (D)) 3) + 1)),.slice Q G.length T,.int .i64 X] (by rfl) rfl rfl (by (try simp only [m0_,m1_,m2_]);first|done|rfl|(simp only [l0_,l1_];rfl)) ?_;with_reducible refine (bellpulllaw05_made.calls (wrap64 ((Int.tmod (wrap64 (D)) 3) + 1)) _ _ G X Z _ ?side1 ?side2 A4.1).mono ?_
 (case side1=>repeat (first|exact (Kd.C_below b1.1 I.1)|(with_reducible refine Kd.C_alloc ?_ _)|(with_reducible refine Kd.C_drewN ?_ _)|(with_reducible refine Kd.C_drew ?_)));(case side2=>exact b2.1);rintro e w9 ⟨d6,rfl,U,hb⟩;refine ⟨_,rfl,?_⟩;have b5:=mk0 (Kd.R_lower (Kd.R_new' U (Kd.R_lt L.1)) (below_size I.1));replace L:=mk0 (Kd.R_elder' L.1 (Kd.R_base U) hb);replace B:=bkb B hb;replace I:=bst I hb;(try clear hb);(try clear U);refine hK.out _ _ ⟨q0_ B,q1_ B,q2_ B⟩ (fun J=>?_);clear hK K;refine norm_ (a':=?_) ?_ ?_;rotate_left
 ·
  show Act.put _ (some 23) _=_;simp only [Act.put,s0_,s1_,s2_,i64_w,i32_w];rfl
 refine pure_ (i:=11) (N:=some 4) (v:=?_) (a':=?_) #[y_,y_,y_,y_,y_,y_,y_,y_,y_,y_,y_,y_,n_,n_] rfl rfl (any_of E.1 (by kernel_rfl)) (fun _ _ _ h=>h) (Or.inl ⟨by rfl,?_⟩) ?_ ?_;rotate_left
 ·
  intro w';go_simp;with_reducible rfl
 rotate_left
 ·
  simp only [Act.put,s0_,s1_,s2_,i64_w,i32_w];rfl
 refine pure_ (i:=12) (N:=some 5) (v:=?_) (a':=?_) #[y_,y_,y_,y_,y_,y_,y_,y_,y_,y_,y_,y_,y_,n_] rfl rfl (any_of E.1 (by kernel_rfl)) (fun _ _ _ h=>h) (Or.inl ⟨by rfl,?_⟩) ?_ ?_;rotate_left
 ·
  intro w';go_simp;with_reducible rfl
 rotate_left
 ·
  simp only [Act.put,s0_,s1_,s2_,i64_w,i32_w];rfl
 refine pure_ (i:=13) (N:=some 6) (v:=?_) (a':=?_) #[y_,y_,y_,y_,y_,y_,y_,y_,y_,y_,y_,y_,y_,y_] rfl rfl (any_of E.1 (by kernel_rfl)) (fun _ _ _ h=>h) (Or.inl ⟨by rfl,?_⟩) ?_ ?_;rotate_left
 ·
  intro w';go_simp;with_reducible rfl
 rotate_left
 ·
  simp only [Act.put,s0_,s1_,s2_,i64_w,i32_w];rfl
 refine done_ (done_of E.1 (by kernel_rfl)) ?_;try go_wp2
 go_ret3;exact ⟨_,_,by first|rfl|(simp [errW_none,errW_some] <;> rfl)|(simp [*,errW_none,errW_some] <;> rfl),by (with_reducible repeat (first|apply Kd.R_alloc|apply Kd.R_drewN|apply Kd.R_drew));exact Kd.R_mono L.1 (fun _ hk=>hk.2),by (with_reducible repeat (first|apply Kd.R_alloc|apply Kd.R_drewN|apply Kd.R_drew));exact Kd.R_mono b5.1 (fun _ hk=>hk.2),by repeat (first|(with_reducible first|exact I.1|apply below_alloc|apply pw_below_drewN|apply below_drew1|refine below_set ?_ b4.1)|exact I.1)⟩
end Go.Proofs.Ytkonljiembcdlaa.PC
namespace Go.Proofs.Ytkonljiembcdlaa.PC
open Go.Proofs.MyWords Go.RowKit Go.Proofs.YtkonljiembcdlaaW.PrintWords Go.Proofs.YtkonljiembcdlaaW.PrintLast Go.Proofs.YtkonljiembcdlaaW.PrintMore
attribute [local go_sem] max2_int min2_int max_two min_two max_three min_three max_four min_four   -- for this text's walks alone
set_option linter.unusedVariables false
set_option linter.unusedSimpArgs false
attribute [local go_sem] eqGuard_slices eqlnil23 neqnil23 eqlnil58 neqnil58
mutual
def bellpullref05_All.l0:Nat → Int → Int → List (List Int) → Int → Option ((List (List Int)))
  | 0,_,_,_,_=>none
  | k + 1,x0,x1,x5,x6=>if x6 ≤ x1 then ((bellpullref05_All.f k (wrap64 (x0 - 1)) (wrap64 (x1 - x6))).bind fun t855=>(bellpullref05_All.l1 k x0 x1 x5 x6 t855 0)) else (some x5)
def bellpullref05_All.l1:Nat → Int → Int → List (List Int) → Int → List (List Int) → Int → Option ((List (List Int)))
  | 0,_,_,_,_,_,_=>none
  | k + 1,x0,x1,x5,x6,x7,x8=>if x8 < (x7.length:Int) then ((some (([x6]:List Int):List Int)).bind fun y858=>(if 0 ≤ x8 then (if y858.length + (rd_L1 x7 x8).length < 17592186044416 then (if x5.length < 5864062014805 then (bellpullref05_All.l1 k x0 x1 (x5 ++ [(y858 ++ (rd_L1 x7 x8))]) x6 x7 (wrap64 (x8 + 1))) else (none)) else (none)) else (none))) else (bellpullref05_All.l0 k x0 x1 x5 (wrap64 (x6 + 1)))
def bellpullref05_All.f:Nat → Int → Int → Option ((List (List Int)))
  | 0,_,_=>none
  | k + 1,a0,a1=>if a0=1 then (some (([(([a1]:List Int))]:List (List Int)))) else (bellpullref05_All.l0 k a0 a1 (([]:List (List Int))) 0)
end
theorem bellpullref05_All.mono_l:∀ k,(∀ y0 y1,LeO (bellpullref05_All.f k y0 y1) (bellpullref05_All.f (k + 1) y0 y1))∧(∀ y0 y1 y2 y3,LeO (bellpullref05_All.l0 k y0 y1 y2 y3) (bellpullref05_All.l0 (k + 1) y0 y1 y2 y3))∧(∀ y0 y1 y2 y3 y4 y5,LeO (bellpullref05_All.l1 k y0 y1 y2 y3 y4 y5) (bellpullref05_All.l1 (k + 1) y0 y1 y2 y3 y4 y5))
  | 0=>⟨fun _ _ r h=>by simp [bellpullref05_All.f] at h,fun _ _ _ _ r h=>by simp [bellpullref05_All.l0] at h,fun _ _ _ _ _ _ r h=>by simp [bellpullref05_All.l1] at h⟩
  | k + 1=>by
    obtain ⟨ih0,ih1,ih2⟩:=bellpullref05_All.mono_l k
    refine ⟨?_,?_,?_⟩
    · intro y0 y1
      unfold bellpullref05_All.f
      with_reducible repeat' first|exact ih0 _ _|exact ih1 _ _ _ _|exact ih2 _ _ _ _ _ _|exact LeO.refl _|exact LeO.none _|refine LeO.ite ?_ ?_|refine LeO.bind ?_ (fun _=>?_)
    · intro y0 y1 y2 y3
      unfold bellpullref05_All.l0
      with_reducible repeat' first|exact ih0 _ _|exact ih1 _ _ _ _|exact ih2 _ _ _ _ _ _|exact LeO.refl _|exact LeO.none _|refine LeO.ite ?_ ?_|refine LeO.bind ?_ (fun _=>?_)
    · intro y0 y1 y2 y3 y4 y5
      unfold bellpullref05_All.l1
      with_reducible repeat' first|exact ih0 _ _|exact ih1 _ _ _ _|exact ih2 _ _ _ _ _ _|exact LeO.refl _|exact LeO.none _|refine LeO.ite ?_ ?_|refine LeO.bind ?_ (fun _=>?_)
theorem bellpullref05_All.mono:∀ a0 a1 k,LeO (bellpullref05_All.f k a0 a1) (bellpullref05_All.f (k + 1) a0 a1):=by
  intro a0 a1 k
  obtain ⟨ih0,ih1,ih2⟩:=bellpullref05_All.mono_l k
  exact ih0 a0 a1
set_option maxHeartbeats 8000000 in
set_option maxRecDepth 100000 in
theorem bellpullref05_All.calls (k:Nat):∀ (R:Int) (L:Int) (r:List (List Int)) (w:World) (h:bellpullref05_All.f k R L=some r),
    Calls Try.prog 37 #[.int .i64 R,.int .i64 L] w fun e w'=>∃ f3:Value,e=.returned (f3)∧Kd.N (Kd.slice 3 (Kd.int .i64)) 23 w' w.heap.size (fun k_=>(w.heap.size ≤ k_)) f3 r∧Below w.heap.size w w':=by
 induction k using Nat.strongRecOn with
 | _ k ih =>
 intro R L r w h;cases k with
 | zero=>exact absurd h (by simp [bellpullref05_All.f])
 | succ k =>
 simp only [bellpullref05_All.f] at h;have B:=mk0 (Below.refl w.heap.size w);have H:(if R=1 then (some (([(([L]:List Int))]:List (List Int)))) else (bellpullref05_All.l0 k R L (([]:List (List Int))) 0))=some r:=h;clear h
 by_cases c3:R=1
 ·
  rw [if_pos c3] at H;have c3b0:(R == 1)=true:=beq_iff_eq.mpr c3;have c3b1:(R != 1)=false:=bne_eq_false_iff_eq.mpr c3;clear c3;obtain ⟨a7,Z⟩:∃ y_:List Int,y_=(([L]:List Int)):=⟨_,rfl⟩
  replace H:(some (([a7]:List (List Int))))=some r:=by first|(rw [Z];with_reducible exact H)|(have F:=(Option.bind_some _ _).symm.trans H;rw [Z];with_reducible exact F)|(have F:=(Option.bind_some _ _).symm.trans H;with_reducible exact F)|with_reducible exact H|(rw [Z];exact H)|exact H
  have d0:=mk0 Z;clear Z;obtain ⟨f6,a2⟩:∃ y_:List (List Int),y_=(([a7]:List (List Int))):=⟨_,rfl⟩
  replace H:(some f6)=some r:=by first|(rw [a2];with_reducible exact H)|(have F:=(Option.bind_some _ _).symm.trans H;rw [a2];with_reducible exact F)|(have F:=(Option.bind_some _ _).symm.trans H;with_reducible exact F)|with_reducible exact H|(rw [a2];exact H)|exact H
  have d1:=mk0 a2;clear a2;obtain rfl:=Option.some.inj H;go_enter Try.func37,Try.ntmps37;go_wp2_with (first|((with_reducible refine gate_dst (N:=12) rfl ?_);refine Kd.R_lit (Kd.int .i64) _ 3 ?hg (N:=12) ?hd (xs:=([L]:List Int)) (inner:=[.int .i64 L]) (ok:=fun _=>True) (okp:=fun _=>True) ?hr ?hp (fun _ hk=>hk) trivial (Below.refl _ _) (Nat.le_refl _) (by simp) ?_;(case hd=>rfl);(case hg=>rfl);(case hr=>first|(go_simp;done)|(go_simp;rfl));(case hp=>exact (Reps.one (show Kd.M (Kd.int .i64) _ _ _ L [.int .i64 L] from rfl) (Reps.none _ _)));intro h0 w4 c2 hb hg_ O;clear hg_ O;(first|rw [← d0.1] at c2|(simp only [Int.reduceToNat] at c2;rw [← d0.1] at c2));have b1:=mk0 (Kd.R_lower (Kd.R_newM (M:=fun k_=>(w.heap.size ≤ k_)) c2 (below_size B.1) (fun k_ h_=>h_)) (below_size B.1));replace B:=bst B hb;clear hb c2;obtain ⟨f4,f5,g5⟩:=Kd.R_slice b1.1;subst g5)|((with_reducible refine gate_dst (N:=13) rfl ?_);refine Kd.N_lit (Kd.slice 3 (Kd.int .i64)) _ 23 ?hg (N':=13) ?hd (xs:=([a7]:List (List Int))) (inner:=[.slice f4 a7.length f5]) (ok:=(fun k_=>(w.heap.size ≤ k_))) (okp:=(fun k_=>(w.heap.size ≤ k_))) ?hr ?hp (fun _ hk=>hk) ((show ∀ k_,w4.heap.size ≤ k_ → (fun k_=>(w.heap.size ≤ k_)) k_ from fun k_ hk=>(Nat.le_trans (below_size B.1) hk)) _ (Nat.le_refl _)) (Below.refl _ _) (Nat.le_refl _) (by simp) ?_;(case hd=>rfl);(case hg=>rfl);(case hr=>first|(go_simp;done)|(go_simp;rfl));(case hp=>exact (Reps.one (show Kd.FK (Kd.slice 3 (Kd.int .i64)) _ _ a7 [.slice f4 a7.length f5] from (Kd.FK_slice_mk (Kd.R_reads' (Kd.R_mono (ok':=(fun k_=>(w.heap.size ≤ k_))) (b1.1) (fun k_ hk=>hk.1))).2.1 (Kd.R_F (Kd.R_mono (ok':=(fun k_=>(w.heap.size ≤ k_))) (b1.1) (fun k_ hk=>hk.1))))) (Reps.none _ _)));intro h2 w7 c4 hb hg_ O;clear hg_ O;(first|rw [← d1.1] at c4|(simp only [Int.reduceToNat] at c4;rw [← d1.1] at c4));have e4:=mk0 (Kd.N_lower c4 (below_size B.1));replace B:=bst B hb;clear b1;clear hb c4));go_ret;exact ⟨_,by first|rfl|(simp [errW_none,errW_some] <;> rfl)|(simp [*,errW_none,errW_some] <;> rfl),by (with_reducible repeat (first|apply Kd.N_alloc|apply Kd.N_drewN|apply Kd.N_drew));exact e4.1,by repeat (first|(with_reducible first|exact B.1|apply below_alloc|apply pw_below_drewN|apply below_drew1)|exact B.1)⟩
 ·
  rw [if_neg c3] at H;have c3b0:(R == 1)=false:=beq_eq_false_iff_ne.mpr c3;have c3b1:(R != 1)=true:=bne_iff_ne.mpr c3;obtain ⟨d8,a3⟩:∃ y_:List (List Int),y_=(([]:List (List Int))):=⟨_,rfl⟩
  replace H:(bellpullref05_All.l0 k R L d8 0)=some r:=by first|(rw [a3];with_reducible exact H)|(have F:=(Option.bind_some _ _).symm.trans H;rw [a3];with_reducible exact F)|(have F:=(Option.bind_some _ _).symm.trans H;with_reducible exact F)|with_reducible exact H|(rw [a3];exact H)|exact H
  have d2:=mk0 a3;clear a3;have H':=mk0 H;clear H;go_enter Try.func37,Try.ntmps37;go_wp2_with (first|((with_reducible refine gate_dst (N:=14) rfl ?_);refine Kd.N_lit (Kd.slice 3 (Kd.int .i64)) _ 23 ?hg (N':=14) ?hd (xs:=([]:List (List Int))) (inner:=[]) (ok:=(fun k_=>(w.heap.size ≤ k_))) (okp:=(fun k_=>(w.heap.size ≤ k_))) ?hr ?hp (fun _ hk=>hk) ((show ∀ k_,w.heap.size ≤ k_ → (fun k_=>(w.heap.size ≤ k_)) k_ from fun k_ hk=>(Nat.le_trans (below_size B.1) hk)) _ (Nat.le_refl _)) (Below.refl _ _) (Nat.le_refl _) (by simp) ?_;(case hd=>rfl);(case hg=>rfl);(case hr=>first|(go_simp;done)|(go_simp;rfl));(case hp=>exact (Reps.none _ _));intro h3 w9 b3 hb hg_ O;clear hg_ O;(first|rw [← d2.1] at b3|(simp only [Int.reduceToNat] at b3;rw [← d2.1] at b3));have e5:=mk0 (Kd.N_lower b3 (below_size B.1));replace B:=bst B hb;clear hb b3))
  go_loopg [5,6] k (fun kq v5 v6 w'=>∃ (b8:List (List Int)) (E:Int),v6=.int .i64 E∧Aside0 (bellpullref05_All.l0 kq R L b8 E=some r)∧Aside0 (kq ≤ k)∧Aside0 (Kd.N (Kd.slice 3 (Kd.int .i64)) 23 w' w.heap.size (fun k_=>(w.heap.size ≤ k_)) v5 b8)∧Aside0 (Below w.heap.size w w'))
  case atStart=>exact ⟨(d8),(0),(by first|rfl|(simp;done)|(simp [*];done)),H',⟨Nat.le_refl _⟩,⟨by (with_reducible repeat (first|apply Kd.N_alloc|apply Kd.N_drewN|apply Kd.N_drew));exact e5.1⟩,⟨by repeat (first|(with_reducible first|exact B.1|apply below_alloc|apply pw_below_drewN|apply below_drew1)|exact B.1)⟩⟩
  case round =>
   clear H';try clear p2
   try clear c3
   try clear c3b0
   try clear c3b1
   obtain ⟨b8,E,rfl,HA,c5,G,B⟩:=hrel;cases gk with
   | zero=>exact absurd HA.1 (by simp [bellpullref05_All.l0])
   | succ k1 =>
    have H:=HA.1;clear HA;simp only [bellpullref05_All.l0] at H
    by_cases c11:E ≤ L
    ·
     rw [if_pos c11] at H;have c11b0:decide (E ≤ L)=true:=decide_eq_true c11;clear c11;replace H:=Option.bind_eq_some_iff.mp H;obtain ⟨C,d9,H⟩:=H;(try dsimp only at H);have g6:=mk0 d9;clear d9;have H':=mk0 H;clear H;go_wp2_with (first|((with_reducible refine gate_callee (f:=37) rfl ?_);refine goesL_ (some 25) rfl rfl Try.func37 (by kernel_rfl) rfl #[.int .i64 (wrap64 (R - 1)),.int .i64 (wrap64 (L - E))] rfl (by (try simp only [m0_,m1_,m2_]);first|done|rfl|(simp only [l0_,l1_];rfl)) ?_;(with_reducible refine (ih k1 (by have:=c5.1;omega) (wrap64 (R - 1)) (wrap64 (L - E)) C _ g6.1).mono ?_);rintro e i1 ⟨e0,rfl,c6,hb⟩;refine ⟨_,rfl,?_⟩;have e7:=mk0 (Kd.N_lower (Kd.N_mono (ok':=fun k_=>(w.heap.size ≤ k_)∧some k_ ≠ (u5:Value).ownBlock) c6 (fun k_ hk_=>⟨(Nat.le_trans (below_size B.1) hk_),(Kd.fresh' (Kd.N_lt G.1) k_ hk_)⟩)) (below_size B.1));replace G:=mk0 (Kd.N_elder' G.1 (by first|exact Kd.N_base c6|exact Kd.S_base c6|exact Kd.R_base c6) hb);replace B:=bst B hb;(try clear hb);(try clear c6)))
     go_loopg [5,8] k1 (fun kq v5 v8 w'=>∃ (J:List (List Int)) (D:Int),v8=.int .i64 D∧Aside0 (bellpullref05_All.l1 kq R L J E C D=some r)∧Aside0 (kq ≤ k1)∧Aside0 (Kd.N (Kd.slice 3 (Kd.int .i64)) 23 w' w.heap.size (fun k_=>(w.heap.size ≤ k_)∧some k_ ≠ (e0:Value).ownBlock) v5 J)∧Aside0 (Kd.N (Kd.slice 3 (Kd.int .i64)) 23 w' w.heap.size (fun k_=>(w.heap.size ≤ k_)∧some k_ ≠ (v5:Value).ownBlock) e0 C)∧Aside0 (Below w.heap.size w w'))
     case atStart=>exact ⟨(b8),(0),(by first|rfl|(simp;done)|(simp [*];done)),H',⟨Nat.le_refl _⟩,⟨by (with_reducible repeat (first|apply Kd.N_alloc|apply Kd.N_drewN|apply Kd.N_drew));exact G.1⟩,⟨by (with_reducible repeat (first|apply Kd.N_alloc|apply Kd.N_drewN|apply Kd.N_drew));exact e7.1⟩,⟨by repeat (first|(with_reducible first|exact B.1|apply below_alloc|apply pw_below_drewN|apply below_drew1)|exact B.1)⟩⟩
     case round =>
      clear H';try clear c1
      try clear p2
      try clear c3
      try clear c3b0
      try clear c3b1
      try clear p6
      try clear c11
      try clear c11b0
      try clear p2
      obtain ⟨J,D,rfl,HA,d3,G,I,B⟩:=hrel;cases gk with
      | zero=>exact absurd HA.1 (by simp [bellpullref05_All.l1])
      | succ k2 =>
       have H:=HA.1;clear HA;simp only [bellpullref05_All.l1] at H
       by_cases c14:D < (C.length:Int)
       ·
        rw [if_pos c14] at H;have c14b0:decide (D < (C.length:Int))=true:=decide_eq_true c14;clear c14;obtain ⟨b4,a4⟩:∃ y_:List Int,y_=(([E]:List Int)):=⟨_,rfl⟩
        replace H:(if 0 ≤ D then (if b4.length + (rd_L1 C D).length < 17592186044416 then (if J.length < 5864062014805 then (bellpullref05_All.l1 k2 R L (J ++ [(b4 ++ (rd_L1 C D))]) E C (wrap64 (D + 1))) else (none)) else (none)) else (none))=some r:=by first|(rw [a4];with_reducible exact H)|(have F:=(Option.bind_some _ _).symm.trans H;rw [a4];with_reducible exact F)|(have F:=(Option.bind_some _ _).symm.trans H;with_reducible exact F)|with_reducible exact H|(rw [a4];exact H)|exact H
        have d4:=mk0 a4;clear a4
        by_cases c15:0 ≤ D
        ·
         rw [if_pos c15] at H;have c15b0:decide (0 ≤ D)=true:=decide_eq_true c15;clear c15
         by_cases c16:b4.length + (rd_L1 C D).length < 17592186044416
         ·
          rw [if_pos c16] at H;have e8:=mk0 c16;clear c16;obtain ⟨a8,a5⟩:∃ y_:List Int,y_=(b4 ++ (rd_L1 C D)):=⟨_,rfl⟩
          replace H:(if J.length < 5864062014805 then (bellpullref05_All.l1 k2 R L (J ++ [a8]) E C (wrap64 (D + 1))) else (none))=some r:=by first|(rw [a5];with_reducible exact H)|(have F:=(Option.bind_some _ _).symm.trans H;rw [a5];with_reducible exact F)|(have F:=(Option.bind_some _ _).symm.trans H;with_reducible exact F)|with_reducible exact H|(rw [a5];exact H)|exact H
          have e9:=mk0 a5;clear a5
          by_cases c17:J.length < 5864062014805
          ·
           rw [if_pos c17] at H;have f0:=mk0 c17;clear c17;obtain ⟨e1,a6⟩:∃ y_:List (List Int),y_=(J ++ [a8]):=⟨_,rfl⟩
           replace H:(bellpullref05_All.l1 k2 R L e1 E C (wrap64 (D + 1)))=some r:=by first|(rw [a6];with_reducible exact H)|(have F:=(Option.bind_some _ _).symm.trans H;rw [a6];with_reducible exact F)|(have F:=(Option.bind_some _ _).symm.trans H;with_reducible exact F)|with_reducible exact H|(rw [a6];exact H)|exact H
           have f1:=mk0 a6;clear a6;have H':=mk0 H;clear H;obtain ⟨h6,X,f7⟩:=Kd.N_slice I.1;subst f7;go_wp2_with (first|((with_reducible refine gate_dst (N:=34) rfl ?_);refine Kd.R_lit (Kd.int .i64) _ 3 ?hg (N:=34) ?hd (xs:=([E]:List Int)) (inner:=[.int .i64 E]) (ok:=fun _=>True) (okp:=fun _=>True) ?hr ?hp (fun _ hk=>hk) trivial (Below.refl _ _) (Nat.le_refl _) (by simp) ?_;(case hd=>rfl);(case hg=>rfl);(case hr=>first|(go_simp;done)|(go_simp;rfl));(case hp=>exact (Reps.one (show Kd.M (Kd.int .i64) _ _ _ E [.int .i64 E] from rfl) (Reps.none _ _)));intro f8 i2 Y hb hg_ O;clear hg_ O;(first|rw [← d4.1] at Y|(simp only [Int.reduceToNat] at Y;rw [← d4.1] at Y));have d5:=mk0 (Kd.R_lower (Kd.R_newM (M:=fun k_=>(w.heap.size ≤ k_)) Y (below_size B.1) (fun k_ h_=>h_)) (below_size B.1));replace G:=mk0 (Kd.N_elder' G.1 (Kd.R_base Y) hb);replace I:=mk0 (Kd.N_elder' I.1 (Kd.R_base Y) hb);replace B:=bst B hb;clear hb Y;have b9:0 ≤ (D:Int):=of_decide_eq_true (by first|(with_reducible assumption)|assumption);have c0:D < (C.length:Int):=of_decide_eq_true (by first|(with_reducible assumption)|assumption);obtain ⟨Q,g7,g8,f9,d7,b5,b6⟩:=at_L1 (Kd.N_reads' I.1).2.2 D b9 c0;cases f9;obtain ⟨g9,e2,e3,c7⟩:=Kd.N_get I.1 [] D b9 (by first|exact c0|exact of_decide_eq_true (by first|(with_reducible assumption)|assumption)|(have e_:=(Kd.N_reads' I.1).1;omega));obtain ⟨g2,g3,rfl,a9,b0⟩:=Kd.FK_slice_open e3;have T:=c7 0 _ rfl;rw [Nat.add_zero,show ((Kd.slice 3 (Kd.int .i64))).sz=1 from rfl,Nat.mul_one] at T;replace T:=Option.some.inj (T.symm.trans d7);injection T with hva_ hvn_ hvc_;rw [hva_] at b0;rw [hvc_] at a9;have U:=mk0 (show Kd.V (Kd.int .i64) 3 _ w.heap.size _ _ (rd_L1 C D) from Kd.V_mk a9 b0);clear hva_ hvn_ hvc_ b0 a9;clear c7 e2;have b7:=mk0 b6;have g4:=mk0 b5;clear b6 b5;replace b9:=eq_true b9;replace c0:=eq_true c0)|((with_reducible refine gate_builtin (b:=.append) (xs:=#[.tmp 34,.tmp 38]) rfl ?_);at_builtin;refine Kd.R_append_rows (Kd.int .i64) (w0:=w) w.heap.size rfl (.tmp 34) (.tmp 38) 23 3 (.int .i64 0) 8 rfl Try.underlying23 info3 rfl (by decide) (by omega) f8 b4 (rd_L1 C D) _ _ _ (fun k_=>(w.heap.size ≤ k_)) (fun _=>False) rfl rfl ?aO ?aR (fun _ _ h=>h) (fun _ h=>h.elim) ?aF ?aB ?aS ?aL ?_;(case aR=>repeat (first|exact (by repeat (first|(with_reducible exact b7.1)|(with_reducible refine Kd.C_alloc ?_ _)|(with_reducible refine Kd.C_drewN ?_ _)|(with_reducible refine Kd.C_drew ?_)|exact b7.1))|(with_reducible refine Kd.C_alloc ?_ _)|(with_reducible refine Kd.C_drewN ?_ _)|(with_reducible refine Kd.C_drew ?_)));(case aB=>exact (by repeat (first|(with_reducible first|exact B.1|apply below_alloc|apply pw_below_drewN|apply below_drew1)|exact B.1)));(case aF=>exact (fun k_ hk=>(Nat.le_trans (below_size (by repeat (first|(with_reducible first|exact B.1|apply below_alloc|apply pw_below_drewN|apply below_drew1)|exact B.1))) hk)));(case aO=>exact (by (with_reducible repeat (first|apply Kd.R_alloc|apply Kd.R_drewN|apply Kd.R_drew));exact Kd.R_mono d5.1 (fun _ hk=>hk.1)));(case aS=>exact (below_size (by repeat (first|(with_reducible first|exact B.1|apply below_alloc|apply pw_below_drewN|apply below_drew1)|exact B.1))));(case aL=>have:=e8.1;omega);intro h7 i3 ho hb hg hat;rw [← e9.1] at ho;have b2:=mk0 (ho);replace G:=mk0 (Kd.N_afterv (ok:=(fun k_=>(w.heap.size ≤ k_)∧some k_ ≠ (.slice (some Q) C.length X:Value).ownBlock)) (by (with_reducible repeat (first|apply Kd.N_alloc|apply Kd.N_drewN|apply Kd.N_drew));exact G.1) hg hat);replace I:=mk0 (Kd.N_afterv (ok:=(fun k_=>(w.heap.size ≤ k_)∧some k_ ≠ (u5:Value).ownBlock)) (by (with_reducible repeat (first|apply Kd.N_alloc|apply Kd.N_drewN|apply Kd.N_drew));exact I.1) hg hat);replace U:=mk0 (Kd.V_afterv (ok:=(fun k_=>(w.heap.size ≤ k_)∧some k_ ≠ (u5:Value).ownBlock∧some k_ ≠ (.slice (some Q) C.length X:Value).ownBlock)) (by (with_reducible repeat (first|apply Kd.V_alloc|apply Kd.V_drewN|apply Kd.V_drew));exact Kd.V_mono U.1 (fun _ hk=>⟨⟨hk.1.1.1,⟨hk.1.1.2,hk.2⟩⟩,hk.1.2⟩)) hg hat);replace B:=mk0 (hb);clear d5;clear ho hb hg hat;obtain ⟨c8,c9,g0⟩:=Kd.R_slice b2.1;subst g0)|((with_reducible refine gate_builtin (b:=.append) (xs:=#[.tmp 32,.tmp 40]) rfl ?_);at_builtin;refine Kd.N_append (Kd.slice 3 (Kd.int .i64)) (w0:=w) w.heap.size rfl (.tmp 32) (.tmp 40) 58 23 (.slice none 0 0) 24 rfl Try.underlying58 info23 rfl (by decide) (by omega) u5 J a8 [.slice c8 a8.length c9] (fun k_=>(w.heap.size ≤ k_)∧some k_ ≠ (.slice (some Q) C.length X:Value).ownBlock) (fun k_=>((fun k_=>(w.heap.size ≤ k_)∧some k_ ≠ (.slice (some Q) C.length X:Value).ownBlock)) k_∧some k_ ≠ (u5:Value).ownBlock) rfl rfl ?aP (fun _ hk=>hk) ?aF ?aO ?aB ?aS ?aL ?_;(case aP=>exact (Kd.FK_slice_mk (Kd.R_reads' (Kd.R_mono (ok':=(fun k_=>((fun k_=>(w.heap.size ≤ k_)∧some k_ ≠ (.slice (some Q) C.length X:Value).ownBlock)) k_∧some k_ ≠ (u5:Value).ownBlock)) (Kd.R_apart' (Kd.R_apart' (b2.1) (Kd.N_typed I.1) (by decide)) (Kd.N_typed G.1) (by decide)) (fun k_ hk=>⟨⟨hk.1.1,hk.1.2⟩,hk.2⟩))).2.1 (Kd.R_F (Kd.R_mono (ok':=(fun k_=>((fun k_=>(w.heap.size ≤ k_)∧some k_ ≠ (.slice (some Q) C.length X:Value).ownBlock)) k_∧some k_ ≠ (u5:Value).ownBlock)) (Kd.R_apart' (Kd.R_apart' (b2.1) (Kd.N_typed I.1) (by decide)) (Kd.N_typed G.1) (by decide)) (fun k_ hk=>⟨⟨hk.1.1,hk.1.2⟩,hk.2⟩)))));(case aB=>exact (by repeat (first|(with_reducible first|exact B.1|apply below_alloc|apply pw_below_drewN|apply below_drew1)|exact B.1)));(case aF=>exact (fun k_ hk=>⟨(Nat.le_trans (below_size (by repeat (first|(with_reducible first|exact B.1|apply below_alloc|apply pw_below_drewN|apply below_drew1)|exact B.1))) hk),Kd.fresh' (Kd.N_lt (by (with_reducible repeat (first|apply Kd.N_alloc|apply Kd.N_drewN|apply Kd.N_drew));exact I.1)) k_ hk⟩));(case aO=>exact (by (with_reducible repeat (first|apply Kd.N_alloc|apply Kd.N_drewN|apply Kd.N_drew));exact Kd.N_mono G.1 (fun _ hk=>⟨hk.1.1,hk.1.2⟩)));(case aS=>exact (below_size (by repeat (first|(with_reducible first|exact B.1|apply below_alloc|apply pw_below_drewN|apply below_drew1)|exact B.1))));(case aL=>have:=f0.1;omega);intro h8 i4 ho hb hg hat;rw [← f1.1] at ho;have f2:=mk0 (ho);replace I:=mk0 (Kd.N_afterv (ok:=(fun k_=>(w.heap.size ≤ k_)∧some k_ ≠ (.slice c8 a8.length c9:Value).ownBlock)) (by (with_reducible repeat (first|apply Kd.N_alloc|apply Kd.N_drewN|apply Kd.N_drew));exact Kd.N_mono I.1 (fun _ hk=>⟨⟨hk.1.1,hk.2⟩,hk.1.2⟩)) hg hat);replace U:=mk0 (Kd.V_afterv (ok:=(fun k_=>(w.heap.size ≤ k_)∧some k_ ≠ (.slice (some Q) C.length X:Value).ownBlock∧some k_ ≠ (.slice c8 a8.length c9:Value).ownBlock)) (by (with_reducible repeat (first|apply Kd.V_alloc|apply Kd.V_drewN|apply Kd.V_drew));exact Kd.V_mono U.1 (fun _ hk=>⟨⟨hk.1.1,⟨hk.1.2.2,hk.2⟩⟩,hk.1.2.1⟩)) hg hat);replace B:=mk0 (hb);clear G;clear b2;clear ho hb hg hat))
           go_roundg k2
           case measure=>have:=c5.1;have:=d3.1;omega
           case rel=>exact ⟨(e1),(wrap64 (D + 1)),(by first|rfl|(simp;done)|(simp [*];done)),H',⟨by have:=c5.1;have:=d3.1;omega⟩,⟨by (with_reducible repeat (first|apply Kd.N_alloc|apply Kd.N_drewN|apply Kd.N_drew));exact f2.1⟩,⟨by (with_reducible repeat (first|apply Kd.N_alloc|apply Kd.N_drewN|apply Kd.N_drew));exact Kd.N_mono I.1 (fun _ hk=>⟨hk.1.1,hk.2⟩)⟩,⟨by repeat (first|(with_reducible first|exact B.1|apply below_alloc|apply pw_below_drewN|apply below_drew1)|exact B.1)⟩⟩
          ·
           rw [if_neg c17] at H;exact absurd H (by simp)
         ·
          rw [if_neg c16] at H;exact absurd H (by simp)
        ·
         rw [if_neg c15] at H;exact absurd H (by simp)
       ·
        rw [if_neg c14] at H;have c14b0:decide (D < (C.length:Int))=false:=decide_eq_false c14;clear c14;have H':=mk0 H;clear H;obtain ⟨h9,i0,g1⟩:=Kd.N_slice I.1;subst g1;go_wp2;go_roundg k2
        case measure=>have:=c5.1;have:=d3.1;omega
        case rel=>exact ⟨(J),(wrap64 (E + 1)),(by first|rfl|(simp;done)|(simp [*];done)),H',⟨by have:=c5.1;have:=d3.1;omega⟩,⟨by (with_reducible repeat (first|apply Kd.N_alloc|apply Kd.N_drewN|apply Kd.N_drew));exact Kd.N_mono G.1 (fun _ hk=>hk.1)⟩,⟨by repeat (first|(with_reducible first|exact B.1|apply below_alloc|apply pw_below_drewN|apply below_drew1)|exact B.1)⟩⟩
    ·
     rw [if_neg c11] at H;have c11b0:decide (E ≤ L)=false:=decide_eq_false c11;clear c11;obtain rfl:=Option.some.inj H;go_wp2;go_ret;exact ⟨_,by first|rfl|(simp [errW_none,errW_some] <;> rfl)|(simp [*,errW_none,errW_some] <;> rfl),by (with_reducible repeat (first|apply Kd.N_alloc|apply Kd.N_drewN|apply Kd.N_drew));exact G.1,by repeat (first|(with_reducible first|exact B.1|apply below_alloc|apply pw_below_drewN|apply below_drew1)|exact B.1)⟩
end Go.Proofs.Ytkonljiembcdlaa.PC
namespace Go.Proofs.Ytkonljiembcdlaa.PC
open Go.Proofs.MyWords Go.RowKit Go.Proofs.YtkonljiembcdlaaW.PrintWords Go.Proofs.YtkonljiembcdlaaW.PrintLast Go.Proofs.YtkonljiembcdlaaW.PrintMore
attribute [local go_sem] max2_int min2_int max_two min_two max_three min_three max_four min_four   -- for this text's walks alone
set_option linter.unusedVariables false
set_option linter.unusedSimpArgs false
attribute [local go_sem] eqGuard_slices eqlnil23 neqnil23 eqlnil58 neqnil58
def count_Star.f (k:Nat) (a0:Int) (l1:List (S60)):Option ((List (S60)) × Int):=(count_check.f k a0 (([l1]:List (List (S60))))).bind fun t902=>(if t902=0 then ((count_star.f k a0 l1).bind fun t903=>((count_full.f k a0 t903).bind fun bt906=>(some (bt906.1,bt906.2)))) else (some (([]:List (S60)),t902)))
theorem count_Star.mono:∀ a0 a1 k,LeO (count_Star.f k a0 a1) (count_Star.f (k + 1) a0 a1):=by
  intro a0 a1 k
  unfold count_Star.f
  with_reducible repeat' first|exact count_check.mono _ _ _|exact count_full.mono _ _ _|exact count_star.mono _ _ _|exact LeO.refl _|exact LeO.none _|refine LeO.ite ?_ ?_|refine LeO.bind ?_ (fun _=>?_)
set_option maxHeartbeats 8000000 in
set_option maxRecDepth 100000 in
theorem count_Star.calls (k:Nat) (M:Int) (D:Nat → Prop) (Z:Option Addr) (c1:Nat) (G:List (S60)) (r1:List (S60)) (r2:Int) (w:World) (c2:Kd.V k60 60 w w.heap.size (fun k_=>D k_) (.slice Z G.length c1) G) (h:count_Star.f k M G=some (r1,r2)) :
    Calls Try.prog 39 #[.int .i64 M,.slice Z G.length c1] w fun e w'=>∃ a8:Value,e=.returned (.tuple #[a8,.int .i64 r2])∧Kd.V k60 60 w' w.heap.size (fun k_=>(D k_ ∨ w.heap.size ≤ k_)) a8 r1∧Below w.heap.size w w':=by
 have E:=mk0 (show Kd.V k60 60 w w.heap.size (fun k_=>(D k_ ∨ w.heap.size ≤ k_)) (.slice Z G.length c1) G from Kd.V_mono c2 (fun k_ hk=>.inl hk));have F:=mk0 (Below.refl w.heap.size w);have H:((count_check.f k M (([G]:List (List (S60))))).bind fun C=>(if C=0 then ((count_star.f k M G).bind fun O=>((count_full.f k M O).bind fun Q=>(some (Q.1,Q.2)))) else (some (([]:List (S60)),C))))=some (r1,r2):=h;clear h;obtain ⟨I,R⟩:∃ y_:List (List (S60)),y_=(([G]:List (List (S60)))):=⟨_,rfl⟩
 replace H:((count_check.f k M I).bind fun C=>(if C=0 then ((count_star.f k M G).bind fun O=>((count_full.f k M O).bind fun Q=>(some (Q.1,Q.2)))) else (some (([]:List (S60)),C))))=some (r1,r2):=by first|(rw [R];with_reducible exact H)|(have a4:=(Option.bind_some _ _).symm.trans H;rw [R];with_reducible exact a4)|(have a4:=(Option.bind_some _ _).symm.trans H;with_reducible exact a4)|with_reducible exact H|(rw [R];exact H)|exact H
 have U:=mk0 R;clear R;replace H:=Option.bind_eq_some_iff.mp H;obtain ⟨C,a9,H⟩:=H;(try dsimp only at H);have A3:=mk0 a9;clear a9
 by_cases c4:C=0
 ·
  rw [if_pos c4] at H;have c4b0:(C == 0)=true:=beq_iff_eq.mpr c4;have c4b1:(C != 0)=false:=bne_eq_false_iff_eq.mpr c4;clear c4;replace H:=Option.bind_eq_some_iff.mp H;obtain ⟨O,b0,H⟩:=H;(try dsimp only at H);have A5:=mk0 b0;clear b0;replace H:=Option.bind_eq_some_iff.mp H;obtain ⟨⟨b2,b3⟩,b1,H⟩:=H;(try dsimp only at H);have A6:=mk0 b1;clear b1;simp only [Option.some.injEq,Prod.mk.injEq] at H;obtain ⟨rfl,rfl⟩:=H;go_enter Try.func39,Try.ntmps39;go_wp2_with (first|((with_reducible refine gate_dst (N:=9) rfl ?_);refine Kd.N_lit (Kd.slice 60 k60) _ 22 ?hg (N':=9) ?hd (xs:=([G]:List (List (S60)))) (inner:=[.slice Z G.length c1]) (ok:=(fun k_=>(D k_ ∨ w.heap.size ≤ k_))) (okp:=(fun k_=>(D k_ ∨ w.heap.size ≤ k_))) ?hr ?hp (fun _ hk=>hk) ((show ∀ k_,w.heap.size ≤ k_ → (fun k_=>(D k_ ∨ w.heap.size ≤ k_)) k_ from fun k_ hk=>(.inr (Nat.le_trans (below_size F.1) hk))) _ (Nat.le_refl _)) (Below.refl _ _) (Nat.le_refl _) (by simp) ?_;(case hd=>rfl);(case hg=>rfl);(case hr=>first|(go_simp;done)|(go_simp;rfl));(case hp=>exact (Reps.one (show Kd.FK (Kd.slice 60 k60) _ _ G [.slice Z G.length c1] from (Kd.FK_slice_mk (Kd.V_reads' (Kd.V_mono (e:=0) (base:=0) (ok':=(fun k_=>(D k_ ∨ w.heap.size ≤ k_))) (E.1) (fun k_ hk=>hk))).2.1 (Kd.V_F (Kd.V_mono (e:=0) (base:=0) (ok':=(fun k_=>(D k_ ∨ w.heap.size ≤ k_))) (E.1) (fun k_ hk=>hk))))) (Reps.none _ _)));intro b4 w7 T hb hg_ Y;clear hg_ Y;(first|rw [← U.1] at T|(simp only [Int.reduceToNat] at T;rw [← U.1] at T));have B:=mk0 (Kd.N_lower T (below_size F.1));replace E:=mk0 (Kd.V_elder' E.1 (by first|exact Kd.N_base T|exact Kd.S_base T|exact Kd.R_base T) hb);replace F:=bst F hb;clear hb T;obtain ⟨a2,a3,c5⟩:=Kd.N_slice B.1;subst c5)|((with_reducible refine gate_callee (f:=51) rfl ?_);refine goesL_ (some 10) rfl rfl Try.func51 (by kernel_rfl) rfl #[.int .i64 M,.slice a2 I.length a3] rfl (by (try simp only [m0_,m1_,m2_]);first|done|rfl|(simp only [l0_,l1_];rfl)) ?_;(with_reducible refine (count_check.calls k M _ _ I C _ ?side1 ?side2 A3.1).mono ?_);(case side1=>repeat (first|exact (Kd.N_reads' B.1).2.2|(with_reducible refine Kd.C_alloc ?_ _)|(with_reducible refine Kd.C_drewN ?_ _)|(with_reducible refine Kd.C_drew ?_)));(case side2=>exact (Kd.N_reads' B.1).2.1);rintro e d0 ⟨rfl,hb⟩;refine ⟨_,rfl,?_⟩;replace E:=mk0 (Kd.V_below E.1 hb);replace B:=mk0 (Kd.N_below B.1 hb);replace F:=bst F hb;(try clear hb);(try clear hk))|((with_reducible refine gate_callee (f:=71) rfl ?_);refine goesL_ (some 17) rfl rfl Try.func71 (by kernel_rfl) rfl #[.int .i64 M,.slice Z G.length c1] rfl (by (try simp only [m0_,m1_,m2_]);first|done|rfl|(simp only [l0_,l1_];rfl)) ?_;(with_reducible refine (count_star.calls k M (fun k_=>((D k_ ∨ w.heap.size ≤ k_)∧some k_ ≠ (.slice a2 I.length a3:Value).ownBlock)) _ _ G O _ ?side1 A5.1).mono ?_);(case side1=>exact E.1);rintro e d1 ⟨c8,rfl,J,hb⟩;refine ⟨_,rfl,?_⟩;have X:=mk0 (Kd.N_lower (Kd.N_mono (ok':=fun k_=>(D k_ ∨ w.heap.size ≤ k_)∧some k_ ≠ (.slice a2 I.length a3:Value).ownBlock) J (fun k_ hk_=>⟨Or.elim hk_ (fun hs_=>hs_.1) (fun hn_=>(.inr (Nat.le_trans (below_size F.1) hn_))),Or.elim hk_ (fun hs_=>hs_.2) (fun hn_=>(Kd.fresh' (Kd.N_lt B.1) k_ hn_))⟩)) (below_size F.1));replace E:=mk0 (Kd.V_elder' E.1 (by first|exact Kd.N_base J|exact Kd.S_base J|exact Kd.R_base J) hb);replace B:=mk0 (Kd.N_elder' B.1 (by first|exact Kd.N_base J|exact Kd.S_base J|exact Kd.R_base J) hb);replace F:=bst F hb;(try clear hb);(try clear hk);(try clear J);obtain ⟨b5,b6,b7⟩:=Kd.N_slice X.1;subst b7)|((with_reducible refine gate_callee (f:=80) rfl ?_);refine goesL_ (some 18) rfl rfl Try.func80 (by kernel_rfl) rfl #[.int .i64 M,.slice b5 O.length b6] rfl (by (try simp only [m0_,m1_,m2_]);first|done|rfl|(simp only [l0_,l1_];rfl)) ?_;(with_reducible refine (count_full.calls k M (fun k_=>((D k_ ∨ w.heap.size ≤ k_)∧some k_ ≠ (.slice a2 I.length a3:Value).ownBlock)) _ _ O b2 b3 _ ?side1 A6.1).mono ?_);(case side1=>exact Kd.N_V (X.1));rintro e d2 ⟨c9,rfl,J,hb⟩;refine ⟨_,rfl,?_⟩;have a7:=mk0 (Kd.V_lower (Kd.V_mono (ok':=fun k_=>(D k_ ∨ w.heap.size ≤ k_)∧some k_ ≠ (.slice a2 I.length a3:Value).ownBlock) J (fun k_ hk_=>⟨Or.elim hk_ (fun hs_=>hs_.1) (fun hn_=>(.inr (Nat.le_trans (below_size F.1) hn_))),Or.elim hk_ (fun hs_=>hs_.2) (fun hn_=>(Kd.fresh' (Kd.N_lt B.1) k_ hn_))⟩)) (below_size F.1));replace E:=mk0 (Kd.V_below E.1 hb);replace B:=mk0 (Kd.N_below B.1 hb);replace X:=mk0 (Kd.N_below X.1 hb);replace F:=bst F hb;(try clear hb);(try clear hk);(try clear J)))
  go_ret2;exact ⟨_,by first|rfl|(simp [errW_none,errW_some] <;> rfl)|(simp [*,errW_none,errW_some] <;> rfl),by (with_reducible repeat (first|apply Kd.V_alloc|apply Kd.V_drewN|apply Kd.V_drew));exact Kd.V_mono a7.1 (fun _ hk=>hk.1),by repeat (first|(with_reducible first|exact F.1|apply below_alloc|apply pw_below_drewN|apply below_drew1)|exact F.1)⟩
 ·
  rw [if_neg c4] at H;have c4b0:(C == 0)=false:=beq_eq_false_iff_ne.mpr c4;have c4b1:(C != 0)=true:=bne_iff_ne.mpr c4;simp only [Option.some.injEq,Prod.mk.injEq] at H;obtain ⟨rfl,rfl⟩:=H;go_enter Try.func39,Try.ntmps39;go_wp2_with (first|((with_reducible refine gate_dst (N:=9) rfl ?_);refine Kd.N_lit (Kd.slice 60 k60) _ 22 ?hg (N':=9) ?hd (xs:=([G]:List (List (S60)))) (inner:=[.slice Z G.length c1]) (ok:=(fun k_=>(D k_ ∨ w.heap.size ≤ k_))) (okp:=(fun k_=>(D k_ ∨ w.heap.size ≤ k_))) ?hr ?hp (fun _ hk=>hk) ((show ∀ k_,w.heap.size ≤ k_ → (fun k_=>(D k_ ∨ w.heap.size ≤ k_)) k_ from fun k_ hk=>(.inr (Nat.le_trans (below_size F.1) hk))) _ (Nat.le_refl _)) (Below.refl _ _) (Nat.le_refl _) (by simp) ?_;(case hd=>rfl);(case hg=>rfl);(case hr=>first|(go_simp;done)|(go_simp;rfl));(case hp=>exact (Reps.one (show Kd.FK (Kd.slice 60 k60) _ _ G [.slice Z G.length c1] from (Kd.FK_slice_mk (Kd.V_reads' (Kd.V_mono (e:=0) (base:=0) (ok':=(fun k_=>(D k_ ∨ w.heap.size ≤ k_))) (E.1) (fun k_ hk=>hk))).2.1 (Kd.V_F (Kd.V_mono (e:=0) (base:=0) (ok':=(fun k_=>(D k_ ∨ w.heap.size ≤ k_))) (E.1) (fun k_ hk=>hk))))) (Reps.none _ _)));intro b4 d3 L hb hg_ Y;clear hg_ Y;(first|rw [← U.1] at L|(simp only [Int.reduceToNat] at L;rw [← U.1] at L));have B:=mk0 (Kd.N_lower L (below_size F.1));replace E:=mk0 (Kd.V_elder' E.1 (by first|exact Kd.N_base L|exact Kd.S_base L|exact Kd.R_base L) hb);replace F:=bst F hb;clear hb L;obtain ⟨b8,b9,c0⟩:=Kd.N_slice B.1;subst c0)|((with_reducible refine gate_callee (f:=51) rfl ?_);refine goesL_ (some 10) rfl rfl Try.func51 (by kernel_rfl) rfl #[.int .i64 M,.slice b8 I.length b9] rfl (by (try simp only [m0_,m1_,m2_]);first|done|rfl|(simp only [l0_,l1_];rfl)) ?_;(with_reducible refine (count_check.calls k M _ _ I C _ ?side1 ?side2 A3.1).mono ?_);(case side1=>repeat (first|exact (Kd.N_reads' B.1).2.2|(with_reducible refine Kd.C_alloc ?_ _)|(with_reducible refine Kd.C_drewN ?_ _)|(with_reducible refine Kd.C_drew ?_)));(case side2=>exact (Kd.N_reads' B.1).2.1);rintro e d4 ⟨rfl,hb⟩;refine ⟨_,rfl,?_⟩;replace E:=mk0 (Kd.V_below E.1 hb);replace B:=mk0 (Kd.N_below B.1 hb);replace F:=bst F hb;(try clear hb);(try clear hk)));go_ret2;exact ⟨_,by first|rfl|(simp [errW_none,errW_some] <;> rfl)|(simp [*,errW_none,errW_some] <;> rfl),Kd.N_V (base:=0) (by first|exact Kd.R_nil _ _ _ _ _|exact Kd.N_nil _ _ _ _ _|exact Kd.V_nil _ _ _ _ _|exact Kd.Q_nil _ _ _ _ _|exact Kd.S_nil _ _ _ _ _),by repeat (first|(with_reducible first|exact F.1|apply below_alloc|apply pw_below_drewN|apply below_drew1)|exact F.1)⟩
end Go.Proofs.Ytkonljiembcdlaa.PC
namespace Go.Proofs.Ytkonljiembcdlaa.PC
open Go.Proofs.MyWords Go.RowKit Go.Proofs.YtkonljiembcdlaaW.PrintWords Go.Proofs.YtkonljiembcdlaaW.PrintLast Go.Proofs.YtkonljiembcdlaaW.PrintMore
attribute [local go_sem] max2_int min2_int max_two min_two max_three min_three max_four min_four   -- for this text's walks alone
set_option linter.unusedVariables false
set_option linter.unusedSimpArgs false
attribute [local go_sem] eqGuard_slices eqlnil23 neqnil23 eqlnil58 neqnil58
def bellpullref05_Total.l0:Nat → List Int → Int → Int → Option (Int)
  | 0,_,_,_=>none
  | k + 1,x0,x3,x4=>if x4 < (x0.length:Int) then (if 0 ≤ x4 then (bellpullref05_Total.l0 k x0 (wrap64 (x3 + (rd x0 x4))) (wrap64 (x4 + 1))) else (none)) else (some x3)
def bellpullref05_Total.f (k:Nat) (l0:List Int):Option (Int):=bellpullref05_Total.l0 k l0 0 0
theorem bellpullref05_Total.mono_l:∀ k,(∀ y0 y1 y2,LeO (bellpullref05_Total.l0 k y0 y1 y2) (bellpullref05_Total.l0 (k + 1) y0 y1 y2))
  | 0=>fun _ _ _ r h=>by simp [bellpullref05_Total.l0] at h
  | k + 1=>by
    have ih0:=bellpullref05_Total.mono_l k
    · intro y0 y1 y2
      unfold bellpullref05_Total.l0
      with_reducible repeat' first|exact ih0 _ _ _|exact LeO.refl _|exact LeO.none _|refine LeO.ite ?_ ?_|refine LeO.bind ?_ (fun _=>?_)
theorem bellpullref05_Total.mono:∀ a0 k,LeO (bellpullref05_Total.f k a0) (bellpullref05_Total.f (k + 1) a0):=by
  intro a0 k
  have ih0:=bellpullref05_Total.mono_l k
  unfold bellpullref05_Total.f
  with_reducible repeat' first|exact ih0 _ _ _|exact LeO.refl _|exact LeO.none _|refine LeO.ite ?_ ?_|refine LeO.bind ?_ (fun _=>?_)
set_option maxHeartbeats 8000000 in
set_option maxRecDepth 100000 in
theorem bellpullref05_Total.calls (k:Nat) (O:Option Addr) (Q:Nat) (D:List Int) (r:Int) (w:World) (I:Kd.C (Kd.int .i64) w O D.length D) (J:D.length ≤ Q) (h:bellpullref05_Total.f k D=some r) :
    Calls Try.prog 45 #[.slice O D.length Q] w fun e w'=>e=.returned (.int .i64 r)∧Drawn0 w w':=by
 have R:=mk0 I;have X:=mk0 J;clear I J;have H:(bellpullref05_Total.l0 k D 0 0)=some r:=h;clear h;have H':=mk0 H;clear H;go_enter Try.func45,Try.ntmps45;go_wp2
 go_loopg [3,4] k (fun kq U V w'=>∃ (E:Int) (B:Int),U=.int .i64 E∧V=.int .i64 B∧Aside0 (bellpullref05_Total.l0 kq D E B=some r)∧Aside0 (kq ≤ k)∧Drawn0 w w')
 case atStart=>exact ⟨(0),(0),(by first|rfl|(simp;done)|(simp [*];done)),(by first|rfl|(simp;done)|(simp [*];done)),H',⟨Nat.le_refl _⟩,by repeat (first|exact Drawn0.refl _|apply Drawn0.step)⟩
 case round =>
  clear H';obtain ⟨E,B,rfl,rfl,HA,L,⟨Y,rfl⟩⟩:=hrel;cases gk with
  | zero=>exact absurd HA.1 (by simp [bellpullref05_Total.l0])
  | succ k1 =>
   have H:=HA.1;clear HA;simp only [bellpullref05_Total.l0] at H
   by_cases c2:B < (D.length:Int)
   ·
    rw [if_pos c2] at H;have c2b0:decide (B < (D.length:Int))=true:=decide_eq_true c2;clear c2
    by_cases c3:0 ≤ B
    ·
     rw [if_pos c3] at H;have c3b0:decide (0 ≤ B)=true:=decide_eq_true c3;clear c3;have H':=mk0 H;clear H;have F:0 ≤ (B:Int):=of_decide_eq_true (by first|(with_reducible assumption)|assumption);have G:B < (D.length:Int):=of_decide_eq_true (by first|(with_reducible assumption)|assumption);obtain ⟨T,M,N⟩:=Kd.at_int R.1 B F G;cases M;replace F:=eq_true F;replace G:=eq_true G;go_wp2;go_roundg k1
     case measure=>have:=L.1;omega
     case rel=>exact ⟨(wrap64 (E + (rd D B))),(wrap64 (B + 1)),(by first|rfl|(simp;done)|(simp [*];done)),(by first|rfl|(simp;done)|(simp [*];done)),H',⟨by have:=L.1;omega⟩,by repeat (first|exact Drawn0.refl _|apply Drawn0.step)⟩
    ·
     rw [if_neg c3] at H;exact absurd H (by simp)
   ·
    rw [if_neg c2] at H;have c2b0:decide (B < (D.length:Int))=false:=decide_eq_false c2;clear c2;obtain rfl:=Option.some.inj H;go_wp2;go_ret;exact ⟨by first|rfl|(simp;done)|(simp [*];done),by repeat (first|exact Drawn0.refl _|apply Drawn0.step)⟩
end Go.Proofs.Ytkonljiembcdlaa.PC
namespace Go.Proofs.Ytkonljiembcdlaa.PC
open Go.Proofs.MyWords Go.RowKit Go.Proofs.YtkonljiembcdlaaW.PrintWords Go.Proofs.YtkonljiembcdlaaW.PrintLast Go.Proofs.YtkonljiembcdlaaW.PrintMore
attribute [local go_sem] max2_int min2_int max_two min_two max_three min_three max_four min_four   -- for this text's walks alone
set_option linter.unusedVariables false
set_option linter.unusedSimpArgs false
attribute [local go_sem] eqGuard_slices eqlnil23 neqnil23 eqlnil58 neqnil58
def bellpullref05_Less.l0:Nat → List Int → List Int → List Int → Bool → Int → Option (List Int × Bool)
  | 0,_,_,_,_,_=>none
  | k + 1,x0,x1,x6,x7,x8=>if x8 < (x0.length:Int) then (if 0 ≤ x8 then (if x8 < (x1.length:Int) then (if x6.length < 17592186044416 then ((some (x6 ++ [wrap64 ((rd x0 x8) - (rd x1 x8))]:List Int)).bind fun y416=>(if x7=true then (bellpullref05_Less.l0 k x0 x1 y416 (decide ((rd x0 x8) ≥ (rd x1 x8))) (wrap64 (x8 + 1))) else (bellpullref05_Less.l0 k x0 x1 y416 false (wrap64 (x8 + 1))))) else (none)) else (none)) else (none)) else (some (x6,x7))
def bellpullref05_Less.f (k:Nat) (l0:List Int) (l1:List Int):Option (List Int × Bool):=bellpullref05_Less.l0 k l0 l1 (([]:List Int)) true 0
theorem bellpullref05_Less.mono_l:∀ k,(∀ y0 y1 y2 y3 y4,LeO (bellpullref05_Less.l0 k y0 y1 y2 y3 y4) (bellpullref05_Less.l0 (k + 1) y0 y1 y2 y3 y4))
  | 0=>fun _ _ _ _ _ r h=>by simp [bellpullref05_Less.l0] at h
  | k + 1=>by
    have ih0:=bellpullref05_Less.mono_l k
    · intro y0 y1 y2 y3 y4
      unfold bellpullref05_Less.l0
      with_reducible repeat' first|exact ih0 _ _ _ _ _|exact LeO.refl _|exact LeO.none _|refine LeO.ite ?_ ?_|refine LeO.bind ?_ (fun _=>?_)
theorem bellpullref05_Less.mono:∀ a0 a1 k,LeO (bellpullref05_Less.f k a0 a1) (bellpullref05_Less.f (k + 1) a0 a1):=by
  intro a0 a1 k
  have ih0:=bellpullref05_Less.mono_l k
  unfold bellpullref05_Less.f
  with_reducible repeat' first|exact ih0 _ _ _ _ _|exact LeO.refl _|exact LeO.none _|refine LeO.ite ?_ ?_|refine LeO.bind ?_ (fun _=>?_)
def bellpullref05_Less.T5:Bool × List (List Nat × List Nat):=(true,[([],[]),([],[]),([],[]),([1,2],[1,2]),([3],[3]),([],[]),([],[]),([5,6],[5,6]),([7],[7]),([4,8],[4,8]),([9],[9]),([0,10],[0,10]),([11,11,0,1,2,3,4,5,6,7,8,9,10,11],[0,11])])
def bellpullref05_Less.B5:List Nat:=[0,0,0,6,14,0,0,96,224,510,1022,2047,4095]
theorem bellpullref05_Less.tab5:rtab .any (opsOf Try.f38 5)=bellpullref05_Less.T5:=by kernel_rfl
theorem bellpullref05_Less.bits5:waitsOk bellpullref05_Less.T5.2 bellpullref05_Less.B5=true:=by kernel_rfl
def bellpullref05_Less.T6:Bool × List (List Nat × List Nat):=(true,[([],[]),([0],[0]),([1],[1]),([1],[1]),([2,3,1],[1,2,3]),([4,1],[1,4]),([1],[1]),([1],[1]),([6,7,1],[1,6,7]),([8,1],[1,8]),([5,9,1],[1,5,9]),([1,10],[1,10]),([11,1,0,1,2,3,4,5,6,7,8,9,10,11],[0,11])])
def bellpullref05_Less.B6:List Nat:=[0,1,3,3,15,31,3,3,195,451,1023,2047,4095]
theorem bellpullref05_Less.tab6:rtab .any (opsOf Try.f38 6)=bellpullref05_Less.T6:=by kernel_rfl
theorem bellpullref05_Less.bits6:waitsOk bellpullref05_Less.T6.2 bellpullref05_Less.B6=true:=by kernel_rfl
set_option maxHeartbeats 8000000 in
set_option maxRecDepth 100000 in
theorem bellpullref05_Less.calls (k:Nat) (A0:Option Addr) (c0:Nat) (M:List Int) (A1:Option Addr) (c1:Nat) (O:List Int) (r1:List Int) (r2:Bool) (w:World) (e5:Kd.C (Kd.int .i64) w A0 M.length M) (e6:M.length ≤ c0) (e7:Kd.C (Kd.int .i64) w A1 O.length O) (e8:O.length ≤ c1) (h:bellpullref05_Less.f k M O=some (r1,r2)) :
    Calls Try.prog 38 #[.slice A0 M.length c0,.slice A1 O.length c1] w fun e w'=>∃ e9:Value,e=.returned (.tuple #[e9,.bool r2])∧Kd.R (Kd.int .i64) 3 w' w.heap.size (fun _=>True) e9 r1∧Below w.heap.size w w':=by
 have d3:=mk0 e5;have g3:=mk0 e6;clear e5 e6;have d4:=mk0 e7;have g4:=mk0 e8;clear e7 e8;have G:=mk0 (Below.refl w.heap.size w);have H:(bellpullref05_Less.l0 k M O (([]:List Int)) true 0)=some (r1,r2):=h;clear h;obtain ⟨d5,a2⟩:∃ y_:List Int,y_=(([]:List Int)):=⟨_,rfl⟩
 replace H:(bellpullref05_Less.l0 k M O d5 true 0)=some (r1,r2):=by first|(rw [a2];with_reducible exact H)|(have a8:=(Option.bind_some _ _).symm.trans H;rw [a2];with_reducible exact a8)|(have a8:=(Option.bind_some _ _).symm.trans H;with_reducible exact a8)|with_reducible exact H|(rw [a2];exact H)|exact H
 have d0:=mk0 a2;clear a2;have H':=mk0 H;clear H;go_enter Try.func38,Try.ntmps38;go_wp2_with (first|((with_reducible refine gate_dst (N:=9) rfl ?_);refine Kd.R_lit (Kd.int .i64) _ 3 ?hg (N:=9) ?hd (xs:=([]:List Int)) (inner:=[]) (ok:=fun _=>True) (okp:=fun _=>True) ?hr ?hp (fun _ hk=>hk) trivial (Below.refl _ _) (Nat.le_refl _) (by simp) ?_;(case hd=>rfl);(case hg=>rfl);(case hr=>first|(go_simp;done)|(go_simp;rfl));(case hp=>exact (Reps.none _ _));intro f9 w3 b5 hb hg_ e0;clear hg_ e0;(first|rw [← d0.1] at b5|(simp only [Int.reduceToNat] at b5;rw [← d0.1] at b5));have e1:=mk0 (Kd.R_lower b5 (below_size G.1));replace G:=bst G hb;clear hb b5))
 go_loopg [6,7,8] k (fun kq v6 v7 v8 w'=>∃ (X:List Int) (a9:Bool) (B:Int),v7=.bool a9∧v8=.int .i64 B∧Aside0 (bellpullref05_Less.l0 kq M O X a9 B=some (r1,r2))∧Aside0 (kq ≤ k)∧Aside0 (Kd.R (Kd.int .i64) 3 w' w.heap.size (fun _=>True) v6 X)∧Aside0 (Below w.heap.size w w'))
 case atStart=>exact ⟨(d5),(true),(0),(by first|rfl|(simp;done)|(simp [*];done)),(by first|rfl|(simp;done)|(simp [*];done)),H',⟨Nat.le_refl _⟩,⟨by (with_reducible repeat (first|apply Kd.R_alloc|apply Kd.R_drewN|apply Kd.R_drew));exact e1.1⟩,⟨by repeat (first|(with_reducible first|exact G.1|apply below_alloc|apply pw_below_drewN|apply below_drew1)|exact G.1)⟩⟩
 case round =>
  clear H';try clear c1
  try clear p2
  try clear c3
  obtain ⟨X,a9,B,rfl,rfl,HA,d1,T,G⟩:=hrel;cases gk with
  | zero=>exact absurd HA.1 (by simp [bellpullref05_Less.l0])
  | succ k1 =>
   have H:=HA.1;clear HA;simp only [bellpullref05_Less.l0] at H
   by_cases c5:B < (M.length:Int)
   ·
    rw [if_pos c5] at H;have c5b0:decide (B < (M.length:Int))=true:=decide_eq_true c5;clear c5
    by_cases c6:0 ≤ B
    ·
     rw [if_pos c6] at H;have c6b0:decide (0 ≤ B)=true:=decide_eq_true c6;clear c6
     by_cases c7:B < (O.length:Int)
     ·
      rw [if_pos c7] at H;have c7b0:decide (B < (O.length:Int))=true:=decide_eq_true c7;clear c7
      by_cases c8:X.length < 17592186044416
      ·
       rw [if_pos c8] at H;have d6:=mk0 c8;clear c8;obtain ⟨a7,a3⟩:∃ y_:List Int,y_=(X ++ [wrap64 ((rd M B) - (rd O B))]):=⟨_,rfl⟩
       replace H:(if a9=true then (bellpullref05_Less.l0 k1 M O a7 (decide ((rd M B) ≥ (rd O B))) (wrap64 (B + 1))) else (bellpullref05_Less.l0 k1 M O a7 false (wrap64 (B + 1))))=some (r1,r2):=by first|(rw [a3];with_reducible exact H)|(have a8:=(Option.bind_some _ _).symm.trans H;rw [a3];with_reducible exact a8)|(have a8:=(Option.bind_some _ _).symm.trans H;with_reducible exact a8)|with_reducible exact H|(rw [a3];exact H)|exact H
       have d2:=mk0 a3;clear a3
       by_cases c9:a9=true
       ·
        subst c9;have H1:(bellpullref05_Less.l0 k1 M O a7 (decide ((rd M B) ≥ (rd O B))) (wrap64 (B + 1)))=some (r1,r2):=by rw [if_pos rfl] at H;exact H
        clear H;have H:=H1;clear H1;have H':=mk0 H;clear H;try go_wp2
        replace T:=rdr T;replace G:=hdr G;have Y:0 ≤ (B:Int):=of_decide_eq_true (by first|(with_reducible assumption)|assumption);have Z:B < (M.length:Int):=of_decide_eq_true (by first|(with_reducible assumption)|assumption);obtain ⟨a4,b6,J⟩:=Kd.at_int d3.1 B Y Z;have E:=J;cases b6;replace J:=(G.1.cell (World.block_lt_of_cell? w _ J)).trans J;replace Y:=eq_true Y;replace Z:=eq_true Z;have a0:0 ≤ (B:Int):=of_decide_eq_true (by first|(with_reducible assumption)|assumption);have a1:B < (O.length:Int):=of_decide_eq_true (by first|(with_reducible assumption)|assumption);obtain ⟨a5,b7,L⟩:=Kd.at_int d4.1 B a0 a1;have F:=L;cases b7;replace L:=(G.1.cell (World.block_lt_of_cell? w _ L)).trans L;replace a0:=eq_true a0;replace a1:=eq_true a1;refine start_ (n:=13) (S:=fun w'=>w'.cell? (a4.add (B).toNat)=some (.int .i64 (rd M B))∧w'.cell? (a5.add (B).toNat)=some (.int .i64 (rd O B))) (ds:=[]) #[n_,n_,n_,n_,n_,n_,n_,n_,n_,n_,n_,n_,n_] (by kernel_rfl) rfl rfl ⟨((G.1.cell (World.block_lt_of_cell? w _ E)).trans E),((G.1.cell (World.block_lt_of_cell? w _ F)).trans F)⟩ (fun I=>?_);refine with_tabW bellpullref05_Less.tab5 bellpullref05_Less.bits5 (fun D a6=>?_);generalize wr.drew=g5 at T G J L I ⊢;refine pure_ (i:=0) (N:=some 16) (v:=?_) (a':=?_) #[y_,n_,n_,n_,n_,n_,n_,n_,n_,n_,n_,n_,n_] rfl rfl (any_of D.1 (by kernel_rfl)) (fun _ _ _ h=>h) (Or.inl ⟨by rfl,?_⟩) ?_ ?_;rotate_left
        ·
         intro w';go_simp;with_reducible rfl
        rotate_left
        ·
         simp only [Act.put,s0_,s1_,s2_,i64_w,i32_w];rfl
        refine pure_ (i:=1) (N:=some 17) (v:=?_) (a':=?_) #[y_,y_,n_,n_,n_,n_,n_,n_,n_,n_,n_,n_,n_] rfl rfl (any_of D.1 (by kernel_rfl)) (fun _ _ _ h=>h) (Or.inl ⟨by rfl,?_⟩) ?_ ?_;rotate_left
        ·
         intro w';go_simp;with_reducible rfl
        rotate_left
        ·
         simp only [Act.put,s0_,s1_,s2_,i64_w,i32_w];rfl
        refine pure_ (i:=2) (N:=some 18) (v:=?_) (a':=?_) #[y_,y_,y_,n_,n_,n_,n_,n_,n_,n_,n_,n_,n_] rfl rfl (any_of D.1 (by kernel_rfl)) (fun _ _ _ h=>h) (Or.inl ⟨by rfl,?_⟩) ?_ ?_;rotate_left
        ·
         intro w';go_simp;with_reducible rfl
        rotate_left
        ·
         simp only [Act.put,s0_,s1_,s2_,i64_w,i32_w];rfl
        refine pure_ (i:=3) (N:=some 19) (v:=?_) (a':=?_) #[y_,y_,y_,y_,n_,n_,n_,n_,n_,n_,n_,n_,n_] rfl rfl (any_of D.1 (by kernel_rfl)) (fun _ _ _ h=>h) (Or.inl ⟨by rfl,?_⟩) ?_ ?_;rotate_left
        ·
         intro w';go_simp;with_reducible rfl
        rotate_left
        ·
         simp only [Act.put,s0_,s1_,s2_,i64_w,i32_w];rfl
        refine pure_ (i:=5) (N:=some 21) (v:=?_) (a':=?_) #[y_,y_,y_,y_,n_,y_,n_,n_,n_,n_,n_,n_,n_] rfl rfl (any_of D.1 (by kernel_rfl)) (fun _ _ _ h=>h) (Or.inl ⟨by rfl,?_⟩) ?_ ?_;rotate_left
        ·
         intro w';go_simp;with_reducible rfl
        rotate_left
        ·
         simp only [Act.put,s0_,s1_,s2_,i64_w,i32_w];rfl
        refine pure_ (i:=6) (N:=some 22) (v:=?_) (a':=?_) #[y_,y_,y_,y_,n_,y_,y_,n_,n_,n_,n_,n_,n_] rfl rfl (any_of D.1 (by kernel_rfl)) (fun _ _ _ h=>h) (Or.inl ⟨by rfl,?_⟩) ?_ ?_;rotate_left
        ·
         intro w';go_simp;with_reducible rfl
        rotate_left
        ·
         simp only [Act.put,s0_,s1_,s2_,i64_w,i32_w];rfl
        refine pure_ (i:=7) (N:=some 23) (v:=?_) (a':=?_) #[y_,y_,y_,y_,n_,y_,y_,y_,n_,n_,n_,n_,n_] rfl rfl (any_of D.1 (by kernel_rfl)) (fun _ _ _ h=>h) (Or.inl ⟨by rfl,?_⟩) ?_ ?_;rotate_left
        ·
         intro w';go_simp;with_reducible rfl
        rotate_left
        ·
         simp only [Act.put,s0_,s1_,s2_,i64_w,i32_w];rfl
        refine take_ (i:=4) (N:=some 20) (v:=?_) (a':=?_) #[y_,y_,y_,y_,y_,y_,y_,y_,n_,n_,n_,n_,n_] rfl rfl (take_ofW D.1 a6.1 (by kernel_rfl)) (fun _ _ _ h=>h) (Or.inl ⟨by rfl,?_⟩) I ?_ ?_;rotate_left
        ·
         rintro w' ⟨s0,s1⟩;go_simp;with_reducible rfl
        rotate_left
        ·
         simp only [Act.put,s0_,s1_,s2_,i64_w,i32_w];rfl
        refine take_ (i:=8) (N:=some 24) (v:=?_) (a':=?_) #[y_,y_,y_,y_,y_,y_,y_,y_,y_,n_,n_,n_,n_] rfl rfl (take_ofW D.1 a6.1 (by kernel_rfl)) (fun _ _ _ h=>h) (Or.inl ⟨by rfl,?_⟩) I ?_ ?_;rotate_left
        ·
         rintro w' ⟨s0,s1⟩;go_simp;with_reducible rfl
        rotate_left
        ·
         simp only [Act.put,s0_,s1_,s2_,i64_w,i32_w];rfl
        refine pure_ (i:=9) (N:=some 25) (v:=?_) (a':=?_) #[y_,y_,y_,y_,y_,y_,y_,y_,y_,y_,n_,n_,n_] rfl rfl (any_of D.1 (by kernel_rfl)) (fun _ _ _ h=>h) (Or.inl ⟨by rfl,?_⟩) ?_ ?_;rotate_left
        ·
         intro w';go_simp;with_reducible rfl
        rotate_left
        ·
         simp only [Act.put,s0_,s1_,s2_,i64_w,i32_w];rfl
        refine one_ (i:=10) (N:=some 26) #[y_,y_,y_,y_,y_,y_,y_,y_,y_,y_,y_,n_,n_] rfl rfl (one_of D.1 (by kernel_rfl)) (by decide) (fun K hK=>?_);refine value_ (w1:=?_) (v:=?_) (by rfl) rfl ?_ ?_;rotate_left 2
        ·
         go_simp;constructor
         ·
          rfl
         ·
          rfl
        refine hK.out _ _ ⟨(World.cell?_alloc_lt _ _ _ (World.block_lt_of_cell? _ _ (((G.1.cell (World.block_lt_of_cell? w _ E)).trans E)))).trans (((G.1.cell (World.block_lt_of_cell? w _ E)).trans E)),(World.cell?_alloc_lt _ _ _ (World.block_lt_of_cell? _ _ (((G.1.cell (World.block_lt_of_cell? w _ F)).trans F)))).trans (((G.1.cell (World.block_lt_of_cell? w _ F)).trans F))⟩ (fun I=>?_);clear hK K;refine norm_ (a':=?_) ?_ ?_;rotate_left
        ·
         show Act.put _ (some 26) _=_;simp only [Act.put,s0_,s1_,s2_,i64_w,i32_w];rfl
        refine one_ (i:=11) (N:=some 27) #[y_,y_,y_,y_,y_,y_,y_,y_,y_,y_,y_,y_,n_] rfl rfl (one_of D.1 (by kernel_rfl)) (by decide) (fun K hK=>?_);refine Kd.R_append_step (Kd.int .i64) (w0:=w) w.heap.size (by rfl) (.tmp 16) (.tmp 26) 23 3 (.int .i64 0) 8 rfl Try.underlying23 info3 rfl (by decide) (by omega) u6 X (wrap64 ((rd M B) - (rd O B))) [.int .i64 (wrap64 ((rd M B) - (rd O B)))] (fun _=>True) (fun _=>False) rfl rfl ?aP (fun _ hk=>hk.elim) ?aF ?aO ?aB ?aS ?aL ?_;(case aP=>exact rfl);(case aB=>exact G.1);(case aF=>exact (fun _ _=>trivial));(case aO=>exact T.1);(case aS=>exact (below_size G.1));(case aL=>have:=d6.1;omega);intro f1 f7 ho hb hg hat;rw [← d2.1] at ho;have Q:=mk0 (ho);replace G:=mk0 (hb);clear T;clear ho hb hg hat;refine hK.out _ _ ⟨((G.1.cell (World.block_lt_of_cell? w _ E)).trans E),((G.1.cell (World.block_lt_of_cell? w _ F)).trans F)⟩ (fun I=>?_);clear hK K;refine norm_ (a':=?_) ?_ ?_;rotate_left
        ·
         show Act.put _ (some 27) _=_;simp only [Act.put,s0_,s1_,s2_,i64_w,i32_w];rfl
        refine pure_ (i:=12) (N:=some 6) (v:=?_) (a':=?_) #[y_,y_,y_,y_,y_,y_,y_,y_,y_,y_,y_,y_,y_] rfl rfl (any_of D.1 (by kernel_rfl)) (fun _ _ _ h=>h) (Or.inl ⟨by rfl,?_⟩) ?_ ?_;rotate_left
        ·
         intro w';go_simp;with_reducible rfl
        rotate_left
        ·
         simp only [Act.put,s0_,s1_,s2_,i64_w,i32_w];rfl
        refine done_ (done_of D.1 (by kernel_rfl)) ?_;try go_wp2
        replace Q:=rdr Q;replace G:=hdr G;have b8:0 ≤ (B:Int):=of_decide_eq_true (by first|(with_reducible assumption)|assumption);have b9:B < (M.length:Int):=of_decide_eq_true (by first|(with_reducible assumption)|assumption);obtain ⟨e3,f2,U⟩:=Kd.at_int d3.1 B b8 b9;have b1:=U;obtain rfl:a4=e3:=(by injection f2)
        replace U:=(G.1.cell (World.block_lt_of_cell? w _ U)).trans U;replace b8:=eq_true b8;replace b9:=eq_true b9;have c2:0 ≤ (B:Int):=of_decide_eq_true (by first|(with_reducible assumption)|assumption);have c4:B < (O.length:Int):=of_decide_eq_true (by first|(with_reducible assumption)|assumption);obtain ⟨e4,f3,V⟩:=Kd.at_int d4.1 B c2 c4;have b2:=V;obtain rfl:a5=e4:=(by injection f3)
        replace V:=(G.1.cell (World.block_lt_of_cell? w _ V)).trans V;replace c2:=eq_true c2;replace c4:=eq_true c4;refine start_ (n:=13) (S:=fun w'=>w'.cell? (a4.add (B).toNat)=some (.int .i64 (rd M B))∧w'.cell? (a5.add (B).toNat)=some (.int .i64 (rd O B))) (ds:=[]) #[n_,n_,n_,n_,n_,n_,n_,n_,n_,n_,n_,n_,n_] (by kernel_rfl) rfl rfl ⟨((G.1.cell (World.block_lt_of_cell? w _ b1)).trans b1),((G.1.cell (World.block_lt_of_cell? w _ b2)).trans b2)⟩ (fun I=>?_);refine with_tabW bellpullref05_Less.tab6 bellpullref05_Less.bits6 (fun D a6=>?_);generalize f7.drew=g6 at Q G U V I ⊢;refine pure_ (i:=0) (N:=some 28) (v:=?_) (a':=?_) #[y_,n_,n_,n_,n_,n_,n_,n_,n_,n_,n_,n_,n_] rfl rfl (any_of D.1 (by kernel_rfl)) (fun _ _ _ h=>h) (Or.inl ⟨by rfl,?_⟩) ?_ ?_;rotate_left
        ·
         intro w';go_simp;with_reducible rfl
        rotate_left
        ·
         simp only [Act.put,s0_,s1_,s2_,i64_w,i32_w];rfl
        refine pure_ (i:=1) (N:=some 29) (v:=?_) (a':=?_) #[y_,y_,n_,n_,n_,n_,n_,n_,n_,n_,n_,n_,n_] rfl rfl (any_of D.1 (by kernel_rfl)) (fun _ _ _ h=>h) (Or.inl ⟨by rfl,?_⟩) ?_ ?_;rotate_left
        ·
         intro w';go_simp;with_reducible rfl
        rotate_left
        ·
         simp only [Act.put,s0_,s1_,s2_,i64_w,i32_w];rfl
        refine pure_ (i:=2) (N:=some 30) (v:=?_) (a':=?_) #[y_,y_,y_,n_,n_,n_,n_,n_,n_,n_,n_,n_,n_] rfl rfl (any_of D.1 (by kernel_rfl)) (fun _ _ _ h=>h) (Or.inl ⟨by rfl,?_⟩) ?_ ?_;rotate_left
        ·
         intro w';go_simp;with_reducible rfl
        rotate_left
        ·
         simp only [Act.put,s0_,s1_,s2_,i64_w,i32_w];rfl
        refine pure_ (i:=3) (N:=some 31) (v:=?_) (a':=?_) #[y_,y_,y_,y_,n_,n_,n_,n_,n_,n_,n_,n_,n_] rfl rfl (any_of D.1 (by kernel_rfl)) (fun _ _ _ h=>h) (Or.inl ⟨by rfl,?_⟩) ?_ ?_;rotate_left
        ·
         intro w';go_simp;with_reducible rfl
        rotate_left
        ·
         simp only [Act.put,s0_,s1_,s2_,i64_w,i32_w];rfl
        refine pure_ (i:=4) (N:=some 32) (v:=?_) (a':=?_) #[y_,y_,y_,y_,y_,n_,n_,n_,n_,n_,n_,n_,n_] rfl rfl (any_of D.1 (by kernel_rfl)) (fun _ _ _ h=>h) (Or.inl ⟨by rfl,?_⟩) ?_ ?_;rotate_left
        ·
         intro w';go_simp;with_reducible rfl
        rotate_left
        ·
         simp only [Act.put,s0_,s1_,s2_,i64_w,i32_w];rfl
        refine pure_ (i:=6) (N:=some 34) (v:=?_) (a':=?_) #[y_,y_,y_,y_,y_,n_,y_,n_,n_,n_,n_,n_,n_] rfl rfl (any_of D.1 (by kernel_rfl)) (fun _ _ _ h=>h) (Or.inl ⟨by rfl,?_⟩) ?_ ?_;rotate_left
        ·
         intro w';go_simp;with_reducible rfl
        rotate_left
        ·
         simp only [Act.put,s0_,s1_,s2_,i64_w,i32_w];rfl
        refine pure_ (i:=7) (N:=some 35) (v:=?_) (a':=?_) #[y_,y_,y_,y_,y_,n_,y_,y_,n_,n_,n_,n_,n_] rfl rfl (any_of D.1 (by kernel_rfl)) (fun _ _ _ h=>h) (Or.inl ⟨by rfl,?_⟩) ?_ ?_;rotate_left
        ·
         intro w';go_simp;with_reducible rfl
        rotate_left
        ·
         simp only [Act.put,s0_,s1_,s2_,i64_w,i32_w];rfl
        refine pure_ (i:=8) (N:=some 36) (v:=?_) (a':=?_) #[y_,y_,y_,y_,y_,n_,y_,y_,y_,n_,n_,n_,n_] rfl rfl (any_of D.1 (by kernel_rfl)) (fun _ _ _ h=>h) (Or.inl ⟨by rfl,?_⟩) ?_ ?_;rotate_left
        ·
         intro w';go_simp;with_reducible rfl
        rotate_left
        ·
         simp only [Act.put,s0_,s1_,s2_,i64_w,i32_w];rfl
        refine take_ (i:=5) (N:=some 33) (v:=?_) (a':=?_) #[y_,y_,y_,y_,y_,y_,y_,y_,y_,n_,n_,n_,n_] rfl rfl (take_ofW D.1 a6.1 (by kernel_rfl)) (fun _ _ _ h=>h) (Or.inl ⟨by rfl,?_⟩) I ?_ ?_;rotate_left
        ·
         rintro w' ⟨s0,s1⟩;go_simp;with_reducible rfl
        rotate_left
        ·
         simp only [Act.put,s0_,s1_,s2_,i64_w,i32_w];rfl
        refine take_ (i:=9) (N:=some 37) (v:=?_) (a':=?_) #[y_,y_,y_,y_,y_,y_,y_,y_,y_,y_,n_,n_,n_] rfl rfl (take_ofW D.1 a6.1 (by kernel_rfl)) (fun _ _ _ h=>h) (Or.inl ⟨by rfl,?_⟩) I ?_ ?_;rotate_left
        ·
         rintro w' ⟨s0,s1⟩;go_simp;with_reducible rfl
        rotate_left
        ·
         simp only [Act.put,s0_,s1_,s2_,i64_w,i32_w];rfl
        refine pure_ (i:=10) (N:=some 38) (v:=?_) (a':=?_) #[y_,y_,y_,y_,y_,y_,y_,y_,y_,y_,y_,n_,n_] rfl rfl (any_of D.1 (by kernel_rfl)) (fun _ _ _ h=>h) (Or.inl ⟨by rfl,?_⟩) ?_ ?_;rotate_left
        ·
         intro w';go_simp;with_reducible rfl
        rotate_left
        ·
         simp only [Act.put,s0_,s1_,s2_,i64_w,i32_w];rfl
        refine pure_ (i:=11) (N:=some 39) (v:=?_) (a':=?_) #[y_,y_,y_,y_,y_,y_,y_,y_,y_,y_,y_,y_,n_] rfl rfl (any_of D.1 (by kernel_rfl)) (fun _ _ _ h=>h) (Or.inl ⟨by rfl,?_⟩) ?_ ?_;rotate_left
        ·
         intro w';go_simp;with_reducible rfl
        rotate_left
        ·
         simp only [Act.put,s0_,s1_,s2_,i64_w,i32_w];rfl
        refine pure_ (i:=12) (N:=some 7) (v:=?_) (a':=?_) #[y_,y_,y_,y_,y_,y_,y_,y_,y_,y_,y_,y_,y_] rfl rfl (any_of D.1 (by kernel_rfl)) (fun _ _ _ h=>h) (Or.inl ⟨by rfl,?_⟩) ?_ ?_;rotate_left
        ·
         intro w';go_simp;with_reducible rfl
        rotate_left
        ·
         simp only [Act.put,s0_,s1_,s2_,i64_w,i32_w];rfl
        refine done_ (done_of D.1 (by kernel_rfl)) ?_;try go_wp2
        go_roundg k1
        case measure=>have:=d1.1;omega
        case rel=>exact ⟨(a7),(decide ((rd M B) ≥ (rd O B))),(wrap64 (B + 1)),(by first|rfl|(simp;done)|(simp [*];done)),(by first|rfl|(simp;done)|(simp [*];done)),H',⟨by have:=d1.1;omega⟩,⟨by (with_reducible repeat (first|apply Kd.R_alloc|apply Kd.R_drewN|apply Kd.R_drew));exact Q.1⟩,⟨by repeat (first|(with_reducible first|exact G.1|apply below_alloc|apply pw_below_drewN|apply below_drew1)|exact G.1)⟩⟩
       ·
        replace c9:=Bool.eq_false_iff.mpr c9;subst c9;have H1:(bellpullref05_Less.l0 k1 M O a7 false (wrap64 (B + 1)))=some (r1,r2):=by rw [if_neg (show ¬ (false=true) by decide)] at H;exact H
        clear H;have H:=H1;clear H1;have H':=mk0 H;clear H;try go_wp2
        replace T:=rdr T;replace G:=hdr G;have Y:0 ≤ (B:Int):=of_decide_eq_true (by first|(with_reducible assumption)|assumption);have Z:B < (M.length:Int):=of_decide_eq_true (by first|(with_reducible assumption)|assumption);obtain ⟨a4,b6,J⟩:=Kd.at_int d3.1 B Y Z;have E:=J;cases b6;replace J:=(G.1.cell (World.block_lt_of_cell? w _ J)).trans J;replace Y:=eq_true Y;replace Z:=eq_true Z;have a0:0 ≤ (B:Int):=of_decide_eq_true (by first|(with_reducible assumption)|assumption);have a1:B < (O.length:Int):=of_decide_eq_true (by first|(with_reducible assumption)|assumption);obtain ⟨a5,b7,L⟩:=Kd.at_int d4.1 B a0 a1;have F:=L;cases b7;replace L:=(G.1.cell (World.block_lt_of_cell? w _ L)).trans L;replace a0:=eq_true a0;replace a1:=eq_true a1;refine start_ (n:=13) (S:=fun w'=>w'.cell? (a4.add (B).toNat)=some (.int .i64 (rd M B))∧w'.cell? (a5.add (B).toNat)=some (.int .i64 (rd O B))) (ds:=[]) #[n_,n_,n_,n_,n_,n_,n_,n_,n_,n_,n_,n_,n_] (by kernel_rfl) rfl rfl ⟨((G.1.cell (World.block_lt_of_cell? w _ E)).trans E),((G.1.cell (World.block_lt_of_cell? w _ F)).trans F)⟩ (fun I=>?_);refine with_tabW bellpullref05_Less.tab5 bellpullref05_Less.bits5 (fun D a6=>?_);generalize wr.drew=g7 at T G J L I ⊢;refine pure_ (i:=0) (N:=some 16) (v:=?_) (a':=?_) #[y_,n_,n_,n_,n_,n_,n_,n_,n_,n_,n_,n_,n_] rfl rfl (any_of D.1 (by kernel_rfl)) (fun _ _ _ h=>h) (Or.inl ⟨by rfl,?_⟩) ?_ ?_;rotate_left
        ·
         intro w';go_simp;with_reducible rfl
        rotate_left
        ·
         simp only [Act.put,s0_,s1_,s2_,i64_w,i32_w];rfl
        refine pure_ (i:=1) (N:=some 17) (v:=?_) (a':=?_) #[y_,y_,n_,n_,n_,n_,n_,n_,n_,n_,n_,n_,n_] rfl rfl (any_of D.1 (by kernel_rfl)) (fun _ _ _ h=>h) (Or.inl ⟨by rfl,?_⟩) ?_ ?_;rotate_left
        ·
         intro w';go_simp;with_reducible rfl
        rotate_left
        ·
         simp only [Act.put,s0_,s1_,s2_,i64_w,i32_w];rfl
        refine pure_ (i:=2) (N:=some 18) (v:=?_) (a':=?_) #[y_,y_,y_,n_,n_,n_,n_,n_,n_,n_,n_,n_,n_] rfl rfl (any_of D.1 (by kernel_rfl)) (fun _ _ _ h=>h) (Or.inl ⟨by rfl,?_⟩) ?_ ?_;rotate_left
        ·
         intro w';go_simp;with_reducible rfl
        rotate_left
        ·
         simp only [Act.put,s0_,s1_,s2_,i64_w,i32_w];rfl
        refine pure_ (i:=3) (N:=some 19) (v:=?_) (a':=?_) #[y_,y_,y_,y_,n_,n_,n_,n_,n_,n_,n_,n_,n_] rfl rfl (any_of D.1 (by kernel_rfl)) (fun _ _ _ h=>h) (Or.inl ⟨by rfl,?_⟩) ?_ ?_;rotate_left
        ·
         intro w';go_simp;with_reducible rfl
        rotate_left
        ·
         simp only [Act.put,s0_,s1_,s2_,i64_w,i32_w];rfl
        refine pure_ (i:=5) (N:=some 21) (v:=?_) (a':=?_) #[y_,y_,y_,y_,n_,y_,n_,n_,n_,n_,n_,n_,n_] rfl rfl (any_of D.1 (by kernel_rfl)) (fun _ _ _ h=>h) (Or.inl ⟨by rfl,?_⟩) ?_ ?_;rotate_left
        ·
         intro w';go_simp;with_reducible rfl
        rotate_left
        ·
         simp only [Act.put,s0_,s1_,s2_,i64_w,i32_w];rfl
        refine pure_ (i:=6) (N:=some 22) (v:=?_) (a':=?_) #[y_,y_,y_,y_,n_,y_,y_,n_,n_,n_,n_,n_,n_] rfl rfl (any_of D.1 (by kernel_rfl)) (fun _ _ _ h=>h) (Or.inl ⟨by rfl,?_⟩) ?_ ?_;rotate_left
        ·
         intro w';go_simp;with_reducible rfl
        rotate_left
        ·
         simp only [Act.put,s0_,s1_,s2_,i64_w,i32_w];rfl
        refine pure_ (i:=7) (N:=some 23) (v:=?_) (a':=?_) #[y_,y_,y_,y_,n_,y_,y_,y_,n_,n_,n_,n_,n_] rfl rfl (any_of D.1 (by kernel_rfl)) (fun _ _ _ h=>h) (Or.inl ⟨by rfl,?_⟩) ?_ ?_;rotate_left
        ·
         intro w';go_simp;with_reducible rfl
        rotate_left
        ·
         simp only [Act.put,s0_,s1_,s2_,i64_w,i32_w];rfl
        refine take_ (i:=4) (N:=some 20) (v:=?_) (a':=?_) #[y_,y_,y_,y_,y_,y_,y_,y_,n_,n_,n_,n_,n_] rfl rfl (take_ofW D.1 a6.1 (by kernel_rfl)) (fun _ _ _ h=>h) (Or.inl ⟨by rfl,?_⟩) I ?_ ?_;rotate_left
        ·
         rintro w' ⟨s0,s1⟩;go_simp;with_reducible rfl
        rotate_left
        ·
         simp only [Act.put,s0_,s1_,s2_,i64_w,i32_w];rfl
        refine take_ (i:=8) (N:=some 24) (v:=?_) (a':=?_) #[y_,y_,y_,y_,y_,y_,y_,y_,y_,n_,n_,n_,n_] rfl rfl (take_ofW D.1 a6.1 (by kernel_rfl)) (fun _ _ _ h=>h) (Or.inl ⟨by rfl,?_⟩) I ?_ ?_;rotate_left
        ·
         rintro w' ⟨s0,s1⟩;go_simp;with_reducible rfl
        rotate_left
        ·
         simp only [Act.put,s0_,s1_,s2_,i64_w,i32_w];rfl
        refine pure_ (i:=9) (N:=some 25) (v:=?_) (a':=?_) #[y_,y_,y_,y_,y_,y_,y_,y_,y_,y_,n_,n_,n_] rfl rfl (any_of D.1 (by kernel_rfl)) (fun _ _ _ h=>h) (Or.inl ⟨by rfl,?_⟩) ?_ ?_;rotate_left
        ·
         intro w';go_simp;with_reducible rfl
        rotate_left
        ·
         simp only [Act.put,s0_,s1_,s2_,i64_w,i32_w];rfl
        refine one_ (i:=10) (N:=some 26) #[y_,y_,y_,y_,y_,y_,y_,y_,y_,y_,y_,n_,n_] rfl rfl (one_of D.1 (by kernel_rfl)) (by decide) (fun K hK=>?_);refine value_ (w1:=?_) (v:=?_) (by rfl) rfl ?_ ?_;rotate_left 2
        ·
         go_simp;constructor
         ·
          rfl
         ·
          rfl
        refine hK.out _ _ ⟨(World.cell?_alloc_lt _ _ _ (World.block_lt_of_cell? _ _ (((G.1.cell (World.block_lt_of_cell? w _ E)).trans E)))).trans (((G.1.cell (World.block_lt_of_cell? w _ E)).trans E)),(World.cell?_alloc_lt _ _ _ (World.block_lt_of_cell? _ _ (((G.1.cell (World.block_lt_of_cell? w _ F)).trans F)))).trans (((G.1.cell (World.block_lt_of_cell? w _ F)).trans F))⟩ (fun I=>?_);clear hK K;refine norm_ (a':=?_) ?_ ?_;rotate_left
        ·
         show Act.put _ (some 26) _=_;simp only [Act.put,s0_,s1_,s2_,i64_w,i32_w];rfl
        refine one_ (i:=11) (N:=some 27) #[y_,y_,y_,y_,y_,y_,y_,y_,y_,y_,y_,y_,n_] rfl rfl (one_of D.1 (by kernel_rfl)) (by decide) (fun K hK=>?_);refine Kd.R_append_step (Kd.int .i64) (w0:=w) w.heap.size (by rfl) (.tmp 16) (.tmp 26) 23 3 (.int .i64 0) 8 rfl Try.underlying23 info3 rfl (by decide) (by omega) u6 X (wrap64 ((rd M B) - (rd O B))) [.int .i64 (wrap64 ((rd M B) - (rd O B)))] (fun _=>True) (fun _=>False) rfl rfl ?aP (fun _ hk=>hk.elim) ?aF ?aO ?aB ?aS ?aL ?_;(case aP=>exact rfl);(case aB=>exact G.1);(case aF=>exact (fun _ _=>trivial));(case aO=>exact T.1);(case aS=>exact (below_size G.1));(case aL=>have:=d6.1;omega);intro f1 f8 ho hb hg hat;rw [← d2.1] at ho;have Q:=mk0 (ho);replace G:=mk0 (hb);clear T;clear ho hb hg hat;refine hK.out _ _ ⟨((G.1.cell (World.block_lt_of_cell? w _ E)).trans E),((G.1.cell (World.block_lt_of_cell? w _ F)).trans F)⟩ (fun I=>?_);clear hK K;refine norm_ (a':=?_) ?_ ?_;rotate_left
        ·
         show Act.put _ (some 27) _=_;simp only [Act.put,s0_,s1_,s2_,i64_w,i32_w];rfl
        refine pure_ (i:=12) (N:=some 6) (v:=?_) (a':=?_) #[y_,y_,y_,y_,y_,y_,y_,y_,y_,y_,y_,y_,y_] rfl rfl (any_of D.1 (by kernel_rfl)) (fun _ _ _ h=>h) (Or.inl ⟨by rfl,?_⟩) ?_ ?_;rotate_left
        ·
         intro w';go_simp;with_reducible rfl
        rotate_left
        ·
         simp only [Act.put,s0_,s1_,s2_,i64_w,i32_w];rfl
        refine done_ (done_of D.1 (by kernel_rfl)) ?_;try go_wp2
        replace Q:=rdr Q;replace G:=hdr G;refine start_ (n:=13) (S:=fun w'=>True) (ds:=[]) #[n_,n_,n_,n_,n_,n_,n_,n_,n_,n_,n_,n_,n_] (by kernel_rfl) rfl rfl trivial (fun I=>?_);refine with_tabW bellpullref05_Less.tab6 bellpullref05_Less.bits6 (fun D a6=>?_);generalize f8.drew=g8 at Q G I ⊢;refine pure_ (i:=0) (N:=some 28) (v:=?_) (a':=?_) #[y_,n_,n_,n_,n_,n_,n_,n_,n_,n_,n_,n_,n_] rfl rfl (any_of D.1 (by kernel_rfl)) (fun _ _ _ h=>h) (Or.inl ⟨by rfl,?_⟩) ?_ ?_;rotate_left
        ·
         intro w';go_simp;with_reducible rfl
        rotate_left
        ·
         simp only [Act.put,s0_,s1_,s2_,i64_w,i32_w];rfl
        refine pure_ (i:=1) (N:=some 29) (v:=?_) (a':=?_) #[y_,y_,n_,n_,n_,n_,n_,n_,n_,n_,n_,n_,n_] rfl rfl (any_of D.1 (by kernel_rfl)) (fun _ _ _ h=>h) (Or.inl ⟨by rfl,?_⟩) ?_ ?_;rotate_left
        ·
         intro w';go_simp;with_reducible rfl
        rotate_left
        ·
         simp only [Act.put,s0_,s1_,s2_,i64_w,i32_w];rfl
        refine pure_ (i:=2) (N:=some 30) (v:=undef) (a':=?_) #[y_,y_,y_,n_,n_,n_,n_,n_,n_,n_,n_,n_,n_] rfl rfl (any_of D.1 (by kernel_rfl)) (fun _ _ _ h=>h) (Or.inr ⟨by rfl,rfl⟩) ?_ ?_;rotate_left
        ·
         simp only [Act.put,s0_,s1_,s2_,i64_w,i32_w];rfl
        refine pure_ (i:=3) (N:=some 31) (v:=undef) (a':=?_) #[y_,y_,y_,y_,n_,n_,n_,n_,n_,n_,n_,n_,n_] rfl rfl (any_of D.1 (by kernel_rfl)) (fun _ _ _ h=>h) (Or.inr ⟨by rfl,rfl⟩) ?_ ?_;rotate_left
        ·
         simp only [Act.put,s0_,s1_,s2_,i64_w,i32_w];rfl
        refine pure_ (i:=4) (N:=some 32) (v:=undef) (a':=?_) #[y_,y_,y_,y_,y_,n_,n_,n_,n_,n_,n_,n_,n_] rfl rfl (any_of D.1 (by kernel_rfl)) (fun _ _ _ h=>h) (Or.inr ⟨by rfl,rfl⟩) ?_ ?_;rotate_left
        ·
         simp only [Act.put,s0_,s1_,s2_,i64_w,i32_w];rfl
        refine pure_ (i:=5) (N:=some 33) (v:=undef) (a':=?_) #[y_,y_,y_,y_,y_,y_,n_,n_,n_,n_,n_,n_,n_] rfl rfl (any_of D.1 (by kernel_rfl)) (fun _ _ _ h=>h) (Or.inr ⟨by rfl,rfl⟩) ?_ ?_;rotate_left
        ·
         simp only [Act.put,s0_,s1_,s2_,i64_w,i32_w];rfl
        refine pure_ (i:=6) (N:=some 34) (v:=undef) (a':=?_) #[y_,y_,y_,y_,y_,y_,y_,n_,n_,n_,n_,n_,n_] rfl rfl (any_of D.1 (by kernel_rfl)) (fun _ _ _ h=>h) (Or.inr ⟨by rfl,rfl⟩) ?_ ?_;rotate_left
        ·
         simp only [Act.put,s0_,s1_,s2_,i64_w,i32_w];rfl
        refine pure_ (i:=7) (N:=some 35) (v:=undef) (a':=?_) #[y_,y_,y_,y_,y_,y_,y_,y_,n_,n_,n_,n_,n_] rfl rfl (any_of D.1 (by kernel_rfl)) (fun _ _ _ h=>h) (Or.inr ⟨by rfl,rfl⟩) ?_ ?_;rotate_left
        ·
         simp only [Act.put,s0_,s1_,s2_,i64_w,i32_w];rfl
        refine pure_ (i:=8) (N:=some 36) (v:=undef) (a':=?_) #[y_,y_,y_,y_,y_,y_,y_,y_,y_,n_,n_,n_,n_] rfl rfl (any_of D.1 (by kernel_rfl)) (fun _ _ _ h=>h) (Or.inr ⟨by rfl,rfl⟩) ?_ ?_;rotate_left
        ·
         simp only [Act.put,s0_,s1_,s2_,i64_w,i32_w];rfl
        refine pure_ (i:=9) (N:=some 37) (v:=undef) (a':=?_) #[y_,y_,y_,y_,y_,y_,y_,y_,y_,y_,n_,n_,n_] rfl rfl (any_of D.1 (by kernel_rfl)) (fun _ _ _ h=>h) (Or.inr ⟨by rfl,rfl⟩) ?_ ?_;rotate_left
        ·
         simp only [Act.put,s0_,s1_,s2_,i64_w,i32_w];rfl
        refine pure_ (i:=10) (N:=some 38) (v:=undef) (a':=?_) #[y_,y_,y_,y_,y_,y_,y_,y_,y_,y_,y_,n_,n_] rfl rfl (any_of D.1 (by kernel_rfl)) (fun _ _ _ h=>h) (Or.inr ⟨by rfl,rfl⟩) ?_ ?_;rotate_left
        ·
         simp only [Act.put,s0_,s1_,s2_,i64_w,i32_w];rfl
        refine pure_ (i:=11) (N:=some 39) (v:=?_) (a':=?_) #[y_,y_,y_,y_,y_,y_,y_,y_,y_,y_,y_,y_,n_] rfl rfl (any_of D.1 (by kernel_rfl)) (fun _ _ _ h=>h) (Or.inl ⟨by rfl,?_⟩) ?_ ?_;rotate_left
        ·
         intro w';go_simp;with_reducible rfl
        rotate_left
        ·
         simp only [Act.put,s0_,s1_,s2_,i64_w,i32_w];rfl
        refine pure_ (i:=12) (N:=some 7) (v:=?_) (a':=?_) #[y_,y_,y_,y_,y_,y_,y_,y_,y_,y_,y_,y_,y_] rfl rfl (any_of D.1 (by kernel_rfl)) (fun _ _ _ h=>h) (Or.inl ⟨by rfl,?_⟩) ?_ ?_;rotate_left
        ·
         intro w';go_simp;with_reducible rfl
        rotate_left
        ·
         simp only [Act.put,s0_,s1_,s2_,i64_w,i32_w];rfl
        refine done_ (done_of D.1 (by kernel_rfl)) ?_;try go_wp2
        go_roundg k1
        case measure=>have:=d1.1;omega
        case rel=>exact ⟨(a7),(false),(wrap64 (B + 1)),(by first|rfl|(simp;done)|(simp [*];done)),(by first|rfl|(simp;done)|(simp [*];done)),H',⟨by have:=d1.1;omega⟩,⟨by (with_reducible repeat (first|apply Kd.R_alloc|apply Kd.R_drewN|apply Kd.R_drew));exact Q.1⟩,⟨by repeat (first|(with_reducible first|exact G.1|apply below_alloc|apply pw_below_drewN|apply below_drew1)|exact G.1)⟩⟩
      ·
       rw [if_neg c8] at H;exact absurd H (by simp)
     ·
      rw [if_neg c7] at H;exact absurd H (by simp)
    ·
     rw [if_neg c6] at H;exact absurd H (by simp)
   ·
    rw [if_neg c5] at H;have c5b0:decide (B < (M.length:Int))=false:=decide_eq_false c5;clear c5;simp only [Option.some.injEq,Prod.mk.injEq] at H;obtain ⟨rfl,rfl⟩:=H;go_wp2;go_ret2;exact ⟨_,by first|rfl|(simp [errW_none,errW_some] <;> rfl)|(simp [*,errW_none,errW_some] <;> rfl),by (with_reducible repeat (first|apply Kd.R_alloc|apply Kd.R_drewN|apply Kd.R_drew));exact T.1,by repeat (first|(with_reducible first|exact G.1|apply below_alloc|apply pw_below_drewN|apply below_drew1)|exact G.1)⟩
end Go.Proofs.Ytkonljiembcdlaa.PC
namespace Go.Proofs.Ytkonljiembcdlaa.PC
open Go.Proofs.MyWords Go.RowKit Go.Proofs.YtkonljiembcdlaaW.PrintWords Go.Proofs.YtkonljiembcdlaaW.PrintLast Go.Proofs.YtkonljiembcdlaaW.PrintMore
attribute [local go_sem] max2_int min2_int max_two min_two max_three min_three max_four min_four   -- for this text's walks alone
set_option linter.unusedVariables false
set_option linter.unusedSimpArgs false
attribute [local go_sem] eqGuard_slices eqlnil23 neqnil23 eqlnil58 neqnil58
mutual
def bellpullref05_sums.l0:Nat → List Int → List (List Int) → Int → Option (Bool)
  | 0,_,_,_=>none
  | k + 1,x0,x1,x5=>if x5 < (x1.length:Int) then (if 0 ≤ x5 then ((bellpullref05_Total.f k (rd_L1 x1 x5)).bind fun t423=>(if t423=0 then (bellpullref05_sums.l0 k x0 x1 (wrap64 (x5 + 1))) else ((bellpullref05_Less.f k x0 (rd_L1 x1 x5)).bind fun bt425=>(if bt425.2=true then (if x5 ≤ (x1.length:Int) then ((bellpullref05_sums.f k bt425.1 (x1.drop (x5:Int).toNat)).bind fun t433=>(if t433=true then (some true) else (bellpullref05_sums.l0 k x0 x1 (wrap64 (x5 + 1))))) else (none)) else (bellpullref05_sums.l0 k x0 x1 (wrap64 (x5 + 1))))))) else (none)) else (some false)
def bellpullref05_sums.f:Nat → List Int → List (List Int) → Option (Bool)
  | 0,_,_=>none
  | k + 1,l0,l1=>(bellpullref05_Total.f k l0).bind fun t421=>(if t421=0 then (some true) else (bellpullref05_sums.l0 k l0 l1 0))
end
theorem bellpullref05_sums.mono_l:∀ k,(∀ y0 y1,LeO (bellpullref05_sums.f k y0 y1) (bellpullref05_sums.f (k + 1) y0 y1))∧(∀ y0 y1 y2,LeO (bellpullref05_sums.l0 k y0 y1 y2) (bellpullref05_sums.l0 (k + 1) y0 y1 y2))
  | 0=>⟨fun _ _ r h=>by simp [bellpullref05_sums.f] at h,fun _ _ _ r h=>by simp [bellpullref05_sums.l0] at h⟩
  | k + 1=>by
    obtain ⟨ih0,ih1⟩:=bellpullref05_sums.mono_l k
    refine ⟨?_,?_⟩
    · intro y0 y1
      unfold bellpullref05_sums.f
      with_reducible repeat' first|exact ih0 _ _|exact ih1 _ _ _|exact bellpullref05_Less.mono _ _ _|exact bellpullref05_Total.mono _ _|exact LeO.refl _|exact LeO.none _|refine LeO.ite ?_ ?_|refine LeO.bind ?_ (fun _=>?_)
    · intro y0 y1 y2
      unfold bellpullref05_sums.l0
      with_reducible repeat' first|exact ih0 _ _|exact ih1 _ _ _|exact bellpullref05_Less.mono _ _ _|exact bellpullref05_Total.mono _ _|exact LeO.refl _|exact LeO.none _|refine LeO.ite ?_ ?_|refine LeO.bind ?_ (fun _=>?_)
theorem bellpullref05_sums.mono:∀ a0 a1 k,LeO (bellpullref05_sums.f k a0 a1) (bellpullref05_sums.f (k + 1) a0 a1):=by
  intro a0 a1 k
  obtain ⟨ih0,ih1⟩:=bellpullref05_sums.mono_l k
  exact ih0 a0 a1
set_option maxHeartbeats 8000000 in
set_option maxRecDepth 100000 in
theorem bellpullref05_sums.calls (k:Nat):∀ (A0:Option Addr) (c0:Nat) (Z:List Int) (A1:Option Addr) (c1:Nat) (F:List (List Int)) (r:Bool) (w:World) (e8:Kd.C (Kd.int .i64) w A0 Z.length Z) (e9:Z.length ≤ c0) (f0:Kd.C (Kd.slice 3 (Kd.int .i64)) w A1 F.length F) (f1:F.length ≤ c1) (h:bellpullref05_sums.f k Z F=some r),
    Calls Try.prog 54 #[.slice A0 Z.length c0,.slice A1 F.length c1] w fun e w'=>e=.returned (.bool r)∧Below w.heap.size w w':=by
 induction k using Nat.strongRecOn with
 | _ k ih =>
 intro A0 c0 Z A1 c1 F r w e8 e9 f0 f1 h;cases k with
 | zero=>exact absurd h (by simp [bellpullref05_sums.f])
 | succ k =>
 simp only [bellpullref05_sums.f] at h;have d6:=mk0 e8;have d7:=mk0 e9;clear e8 e9;have a9:=mk0 f0;have g2:=mk0 f1;clear f0 f1;have E:=mk0 (Below.refl w.heap.size w);have H:((bellpullref05_Total.f k Z).bind fun a4=>(if a4=0 then (some true) else (bellpullref05_sums.l0 k Z F 0)))=some r:=h;clear h;replace H:=Option.bind_eq_some_iff.mp H;obtain ⟨a4,g3,H⟩:=H;(try dsimp only at H);have A3:=mk0 g3;clear g3
 by_cases c4:a4=0
 ·
  rw [if_pos c4] at H;have c4b0:(a4 == 0)=true:=beq_iff_eq.mpr c4;have c4b1:(a4 != 0)=false:=bne_eq_false_iff_eq.mpr c4;clear c4;obtain rfl:=Option.some.inj H;go_enter Try.func54,Try.ntmps54;go_wp2_with (first|((with_reducible refine gate_callee (f:=45) rfl ?_);refine goesL_ (some 9) rfl rfl Try.func45 (by kernel_rfl) rfl #[.slice A0 Z.length c0] rfl (by (try simp only [m0_,m1_,m2_]);first|done|rfl|(simp only [l0_,l1_];rfl)) ?_;(with_reducible refine (bellpullref05_Total.calls k _ _ Z a4 _ ?side1 ?side2 A3.1).mono ?_);(case side1=>repeat (first|exact d6.1|(with_reducible refine Kd.C_alloc ?_ _)|(with_reducible refine Kd.C_drewN ?_ _)|(with_reducible refine Kd.C_drew ?_)));(case side2=>exact d7.1);rintro e w' ⟨rfl,⟨nd,rfl⟩⟩;refine ⟨_,rfl,?_⟩));go_ret;exact ⟨by first|rfl|(simp [errW_none,errW_some] <;> rfl)|(simp [*,errW_none,errW_some] <;> rfl),by repeat (first|(with_reducible first|exact E.1|apply below_alloc|apply pw_below_drewN|apply below_drew1)|exact E.1)⟩
 ·
  rw [if_neg c4] at H;have c4b0:(a4 == 0)=false:=beq_eq_false_iff_ne.mpr c4;have c4b1:(a4 != 0)=true:=bne_iff_ne.mpr c4;have H':=mk0 H;clear H;go_enter Try.func54,Try.ntmps54;go_wp2_with (first|((with_reducible refine gate_callee (f:=45) rfl ?_);refine goesL_ (some 9) rfl rfl Try.func45 (by kernel_rfl) rfl #[.slice A0 Z.length c0] rfl (by (try simp only [m0_,m1_,m2_]);first|done|rfl|(simp only [l0_,l1_];rfl)) ?_;(with_reducible refine (bellpullref05_Total.calls k _ _ Z a4 _ ?side1 ?side2 A3.1).mono ?_);(case side1=>repeat (first|exact d6.1|(with_reducible refine Kd.C_alloc ?_ _)|(with_reducible refine Kd.C_drewN ?_ _)|(with_reducible refine Kd.C_drew ?_)));(case side2=>exact d7.1);rintro e w' ⟨rfl,⟨nd,rfl⟩⟩;refine ⟨_,rfl,?_⟩))
  go_loopg [5] k (fun kq v5 w'=>∃ (B:Int),v5=.int .i64 B∧Aside0 (bellpullref05_sums.l0 kq Z F B=some r)∧Aside0 (kq ≤ k)∧Aside0 (Below w.heap.size w w'))
  case atStart=>exact ⟨(0),(by first|rfl|(simp;done)|(simp [*];done)),H',⟨Nat.le_refl _⟩,⟨by repeat (first|(with_reducible first|exact E.1|apply below_alloc|apply pw_below_drewN|apply below_drew1)|exact E.1)⟩⟩
  case round =>
   clear H';try clear c1
   try clear p2
   try clear c4
   try clear c4b0
   try clear c4b1
   obtain ⟨B,rfl,HA,b4,E⟩:=hrel;cases gk with
   | zero=>exact absurd HA.1 (by simp [bellpullref05_sums.l0])
   | succ k1 =>
    have H:=HA.1;clear HA;simp only [bellpullref05_sums.l0] at H
    by_cases c5:B < (F.length:Int)
    ·
     rw [if_pos c5] at H;have c5b0:decide (B < (F.length:Int))=true:=decide_eq_true c5;clear c5
     by_cases c6:0 ≤ B
     ·
      rw [if_pos c6] at H;have c6b0:decide (0 ≤ B)=true:=decide_eq_true c6;clear c6;replace H:=Option.bind_eq_some_iff.mp H;obtain ⟨a5,g4,H⟩:=H;(try dsimp only at H);have A7:=mk0 g4;clear g4
      by_cases c8:a5=0
      ·
       rw [if_pos c8] at H;have c8b0:(a5 == 0)=true:=beq_iff_eq.mpr c8;have c8b1:(a5 != 0)=false:=bne_eq_false_iff_eq.mpr c8;clear c8;have H':=mk0 H;clear H;have Q:0 ≤ (B:Int):=of_decide_eq_true (by first|(with_reducible assumption)|assumption);have R:B < (F.length:Int):=of_decide_eq_true (by first|(with_reducible assumption)|assumption);obtain ⟨L,M,N,a6,D,I,J⟩:=at_L1 a9.1 B Q R;cases a6;replace D:=(E.1.cell (World.block_lt_of_cell? w _ D)).trans D;have V:=mk0 J;have X:=mk0 I;clear J I;replace Q:=eq_true Q;replace R:=eq_true R;go_wp2_with (first|((with_reducible refine gate_callee (f:=45) rfl ?_);refine goesL_ (some 21) rfl rfl Try.func45 (by kernel_rfl) rfl #[.slice M (rd_L1 F B).length N] rfl (by (try simp only [m0_,m1_,m2_]);first|done|rfl|(simp only [l0_,l1_];rfl)) ?_;(with_reducible refine (bellpullref05_Total.calls k1 _ _ (rd_L1 F B) a5 _ ?side1 ?side2 A7.1).mono ?_);(case side1=>repeat (first|exact (Kd.C_below V.1 E.1)|(with_reducible refine Kd.C_alloc ?_ _)|(with_reducible refine Kd.C_drewN ?_ _)|(with_reducible refine Kd.C_drew ?_)));(case side2=>exact X.1);rintro e w' ⟨rfl,⟨nd,rfl⟩⟩;refine ⟨_,rfl,?_⟩));go_roundg k1
       case measure=>have:=b4.1;omega
       case rel=>exact ⟨(wrap64 (B + 1)),(by first|rfl|(simp;done)|(simp [*];done)),H',⟨by have:=b4.1;omega⟩,⟨by repeat (first|(with_reducible first|exact E.1|apply below_alloc|apply pw_below_drewN|apply below_drew1)|exact E.1)⟩⟩
      ·
       rw [if_neg c8] at H;have c8b0:(a5 == 0)=false:=beq_eq_false_iff_ne.mpr c8;have c8b1:(a5 != 0)=true:=bne_iff_ne.mpr c8;replace H:=Option.bind_eq_some_iff.mp H;obtain ⟨⟨a7,g8⟩,g5,H⟩:=H;(try dsimp only at H);have A9:=mk0 g5;clear g5
       by_cases e2:g8=true
       ·
        subst e2;have H1:(if B ≤ (F.length:Int) then ((bellpullref05_sums.f k1 a7 (F.drop (B:Int).toNat)).bind fun b8=>(if b8=true then (some true) else (bellpullref05_sums.l0 k1 Z F (wrap64 (B + 1))))) else (none))=some r:=by rw [if_pos rfl] at H;exact H
        clear H;have H:=H1;clear H1;have c11b0:=eq_true (of_decide_eq_true (by first|(with_reducible assumption)|assumption):0 ≤ B)
        by_cases c12:B ≤ (F.length:Int)
        ·
         rw [if_pos c12] at H;have c12b0:=eq_true c12;have c12b1:decide (B ≤ (F.length:Int))=true:=decide_eq_true c12;clear c12;obtain ⟨Y,b0⟩:∃ y_:List (List Int),y_=(F.drop (B:Int).toNat):=⟨_,rfl⟩
         replace H:((bellpullref05_sums.f k1 a7 Y).bind fun b8=>(if b8=true then (some true) else (bellpullref05_sums.l0 k1 Z F (wrap64 (B + 1)))))=some r:=by first|(rw [b0];with_reducible exact H)|(have f2:=(Option.bind_some _ _).symm.trans H;rw [b0];with_reducible exact f2)|(have f2:=(Option.bind_some _ _).symm.trans H;with_reducible exact f2)|with_reducible exact H|(rw [b0];exact H)|exact H
         have b6:=mk0 b0;clear b0;replace H:=Option.bind_eq_some_iff.mp H;obtain ⟨b8,f3,H⟩:=H;(try dsimp only at H);have g6:=mk0 f3;clear f3
         by_cases e3:b8=true
         ·
          subst e3;have H1:(some true)=some r:=by rw [if_pos rfl] at H;exact H
          clear H;have H:=H1;clear H1;obtain rfl:=Option.some.inj H;have Q:0 ≤ (B:Int):=of_decide_eq_true (by first|(with_reducible assumption)|assumption);have R:B < (F.length:Int):=of_decide_eq_true (by first|(with_reducible assumption)|assumption);obtain ⟨L,M,N,a6,D,I,J⟩:=at_L1 a9.1 B Q R;cases a6;replace D:=(E.1.cell (World.block_lt_of_cell? w _ D)).trans D;have V:=mk0 J;have X:=mk0 I;clear J I;replace Q:=eq_true Q;replace R:=eq_true R;go_wp2_with (first|((with_reducible refine gate_callee (f:=45) rfl ?_);refine goesL_ (some 21) rfl rfl Try.func45 (by kernel_rfl) rfl #[.slice M (rd_L1 F B).length N] rfl (by (try simp only [m0_,m1_,m2_]);first|done|rfl|(simp only [l0_,l1_];rfl)) ?_;(with_reducible refine (bellpullref05_Total.calls k1 _ _ (rd_L1 F B) a5 _ ?side1 ?side2 A7.1).mono ?_);(case side1=>repeat (first|exact (Kd.C_below V.1 E.1)|(with_reducible refine Kd.C_alloc ?_ _)|(with_reducible refine Kd.C_drewN ?_ _)|(with_reducible refine Kd.C_drew ?_)));(case side2=>exact X.1);rintro e w' ⟨rfl,⟨nd,rfl⟩⟩;refine ⟨_,rfl,?_⟩;have a0:0 ≤ (B:Int):=of_decide_eq_true (by first|(with_reducible assumption)|assumption);have a1:B < (F.length:Int):=of_decide_eq_true (by first|(with_reducible assumption)|assumption);obtain ⟨b1,d8,d9,b9,G,T,U⟩:=at_L1 a9.1 B a0 a1;obtain rfl:L=b1:=(by injection b9);replace G:=(E.1.cell (World.block_lt_of_cell? w _ G)).trans G;have a2:=mk0 U;have a3:=mk0 T;clear U T;replace a0:=eq_true a0;replace a1:=eq_true a1;have ea_:=Option.some.inj (D.symm.trans G);injection ea_ with ea_ en_ ec_;subst ea_;subst ec_;clear en_)|((with_reducible refine gate_callee (f:=38) rfl ?_);refine goesL_ (some 29) rfl rfl Try.func38 (by kernel_rfl) rfl #[.slice A0 Z.length c0,.slice M (rd_L1 F B).length N] rfl (by (try simp only [m0_,m1_,m2_]);first|done|rfl|(simp only [l0_,l1_];rfl)) ?_;(with_reducible refine (bellpullref05_Less.calls k1 _ _ Z _ _ (rd_L1 F B) a7 true _ ?side1 ?side2 ?side3 ?side4 A9.1).mono ?_);(case side1=>repeat (first|exact (Kd.C_below d6.1 (by repeat (first|(with_reducible first|exact E.1|apply below_alloc|apply pw_below_drewN|apply below_drew1)|exact E.1)))|(with_reducible refine Kd.C_alloc ?_ _)|(with_reducible refine Kd.C_drewN ?_ _)|(with_reducible refine Kd.C_drew ?_)));(case side2=>exact d7.1);(case side3=>repeat (first|exact (Kd.C_below a2.1 (by repeat (first|(with_reducible first|exact E.1|apply below_alloc|apply pw_below_drewN|apply below_drew1)|exact E.1)))|(with_reducible refine Kd.C_alloc ?_ _)|(with_reducible refine Kd.C_drewN ?_ _)|(with_reducible refine Kd.C_drew ?_)));(case side4=>exact a3.1);rintro e j0 ⟨f4,rfl,b5,hb⟩;refine ⟨_,rfl,?_⟩;have O:=mk0 (Kd.R_lower b5 (below_size (by repeat (first|(with_reducible first|exact E.1|apply below_alloc|apply pw_below_drewN|apply below_drew1)|exact E.1))));replace E:=mk0 (below_step (by repeat (first|(with_reducible first|exact E.1|apply below_alloc|apply pw_below_drewN|apply below_drew1)|exact E.1)) hb);(try clear hb);(try clear b5);have f5:(B:Int) ≤ ((F.length:Int):Int):=of_decide_eq_true (by first|(with_reducible assumption)|assumption);obtain ⟨i0,e4,_,e5,_⟩:=info_parts info23;have b2:F.length ≤ c1:=g2.1;have f6:Kd.C (Kd.slice 3 (Kd.int .i64)) _ (some L) F.length F:=a9.1;have h0:(0:Int) ≤ (B:Int):=of_decide_eq_true (by first|(with_reducible assumption)|assumption);have f7:=cut_from (P:=Try.prog) 58 23 .i64 Try.underlying58 e4 1 e5 (some L) F.length c1 B h0 f5;have c2:=Kd.C_drop (m:=(B:Int).toNat) (c:=c1) f6 (by omega) b2;obtain ⟨h5,c7⟩:∃ AA,AA=(if c1=(B:Int).toNat then (some L) else ((some L):Option Addr).map (·.add ((B:Int).toNat * 1))):=⟨_,rfl⟩;obtain ⟨h6,e0⟩:∃ cc,cc=c1 - (B:Int).toNat:=⟨_,rfl⟩;have c9:Y.length=F.length - (B:Int).toNat:=(by rw [b6.1,l0_] <;> omega);rw [show (F).drop (B:Int).toNat=Y from b6.1.symm] at c2;replace c2:Kd.C (Kd.slice 3 (Kd.int .i64)) _ h5 Y.length Y:=(by rw [c7];exact c2);rw [← c9,← c7,← e0] at f7;have d0:=mk0 c2;have d1:=mk0 (show Y.length ≤ h6 from by rw [c9,e0];exact Nat.sub_le_sub_right b2 _);clear c2 f6 b2 e4 e5 e0;have i1:=mk0 c9;have i2:=mk0 c7;clear c9 c7;replace f5:=eq_true f5;obtain ⟨i3,i4,h1⟩:=Kd.R_slice O.1;subst h1)|(go_at_call 54;(with_reducible refine (ih k1 (by have:=b4.1;omega) _ _ a7 _ _ Y true _ ?side1 ?side2 ?side3 ?side4 g6.1).mono ?_);(case side1=>repeat (first|exact (Kd.R_reads' O.1).2.2|(with_reducible refine Kd.C_alloc ?_ _)|(with_reducible refine Kd.C_drewN ?_ _)|(with_reducible refine Kd.C_drew ?_)));(case side2=>exact (Kd.R_reads' O.1).2.1);(case side3=>repeat (first|exact (Kd.C_below d0.1 E.1)|(with_reducible refine Kd.C_alloc ?_ _)|(with_reducible refine Kd.C_drewN ?_ _)|(with_reducible refine Kd.C_drew ?_)));(case side4=>exact d1.1);rintro e j1 ⟨rfl,hb⟩;replace O:=mk0 (Kd.R_below (by (with_reducible repeat (first|apply Kd.R_alloc|apply Kd.R_drewN|apply Kd.R_drew));exact O.1) hb);replace E:=mk0 (below_step (by repeat (first|(with_reducible first|exact E.1|apply below_alloc|apply pw_below_drewN|apply below_drew1)|exact E.1)) hb);(try clear hb)))
          go_ret;exact ⟨by first|rfl|(simp [errW_none,errW_some] <;> rfl)|(simp [*,errW_none,errW_some] <;> rfl),by repeat (first|(with_reducible first|exact E.1|apply below_alloc|apply pw_below_drewN|apply below_drew1)|exact E.1)⟩
         ·
          replace e3:=Bool.eq_false_iff.mpr e3;subst e3;have H1:(bellpullref05_sums.l0 k1 Z F (wrap64 (B + 1)))=some r:=by rw [if_neg (show ¬ (false=true) by decide)] at H;exact H
          clear H;have H:=H1;clear H1;have H':=mk0 H;clear H;have Q:0 ≤ (B:Int):=of_decide_eq_true (by first|(with_reducible assumption)|assumption);have R:B < (F.length:Int):=of_decide_eq_true (by first|(with_reducible assumption)|assumption);obtain ⟨L,M,N,a6,D,I,J⟩:=at_L1 a9.1 B Q R;cases a6;replace D:=(E.1.cell (World.block_lt_of_cell? w _ D)).trans D;have V:=mk0 J;have X:=mk0 I;clear J I;replace Q:=eq_true Q;replace R:=eq_true R;go_wp2_with (first|((with_reducible refine gate_callee (f:=45) rfl ?_);refine goesL_ (some 21) rfl rfl Try.func45 (by kernel_rfl) rfl #[.slice M (rd_L1 F B).length N] rfl (by (try simp only [m0_,m1_,m2_]);first|done|rfl|(simp only [l0_,l1_];rfl)) ?_;(with_reducible refine (bellpullref05_Total.calls k1 _ _ (rd_L1 F B) a5 _ ?side1 ?side2 A7.1).mono ?_);(case side1=>repeat (first|exact (Kd.C_below V.1 E.1)|(with_reducible refine Kd.C_alloc ?_ _)|(with_reducible refine Kd.C_drewN ?_ _)|(with_reducible refine Kd.C_drew ?_)));(case side2=>exact X.1);rintro e w' ⟨rfl,⟨nd,rfl⟩⟩;refine ⟨_,rfl,?_⟩;have a0:0 ≤ (B:Int):=of_decide_eq_true (by first|(with_reducible assumption)|assumption);have a1:B < (F.length:Int):=of_decide_eq_true (by first|(with_reducible assumption)|assumption);obtain ⟨b1,d8,d9,b9,G,T,U⟩:=at_L1 a9.1 B a0 a1;obtain rfl:L=b1:=(by injection b9);replace G:=(E.1.cell (World.block_lt_of_cell? w _ G)).trans G;have a2:=mk0 U;have a3:=mk0 T;clear U T;replace a0:=eq_true a0;replace a1:=eq_true a1;have ea_:=Option.some.inj (D.symm.trans G);injection ea_ with ea_ en_ ec_;subst ea_;subst ec_;clear en_)|((with_reducible refine gate_callee (f:=38) rfl ?_);refine goesL_ (some 29) rfl rfl Try.func38 (by kernel_rfl) rfl #[.slice A0 Z.length c0,.slice M (rd_L1 F B).length N] rfl (by (try simp only [m0_,m1_,m2_]);first|done|rfl|(simp only [l0_,l1_];rfl)) ?_;(with_reducible refine (bellpullref05_Less.calls k1 _ _ Z _ _ (rd_L1 F B) a7 true _ ?side1 ?side2 ?side3 ?side4 A9.1).mono ?_);(case side1=>repeat (first|exact (Kd.C_below d6.1 (by repeat (first|(with_reducible first|exact E.1|apply below_alloc|apply pw_below_drewN|apply below_drew1)|exact E.1)))|(with_reducible refine Kd.C_alloc ?_ _)|(with_reducible refine Kd.C_drewN ?_ _)|(with_reducible refine Kd.C_drew ?_)));(case side2=>exact d7.1);(case side3=>repeat (first|exact (Kd.C_below a2.1 (by repeat (first|(with_reducible first|exact E.1|apply below_alloc|apply pw_below_drewN|apply below_drew1)|exact E.1)))|(with_reducible refine Kd.C_alloc ?_ _)|(with_reducible refine Kd.C_drewN ?_ _)|(with_reducible refine Kd.C_drew ?_)));(case side4=>exact a3.1);rintro e j2 ⟨f4,rfl,b5,hb⟩;refine ⟨_,rfl,?_⟩;have O:=mk0 (Kd.R_lower b5 (below_size (by repeat (first|(with_reducible first|exact E.1|apply below_alloc|apply pw_below_drewN|apply below_drew1)|exact E.1))));replace E:=mk0 (below_step (by repeat (first|(with_reducible first|exact E.1|apply below_alloc|apply pw_below_drewN|apply below_drew1)|exact E.1)) hb);(try clear hb);(try clear b5);have f8:(B:Int) ≤ ((F.length:Int):Int):=of_decide_eq_true (by first|(with_reducible assumption)|assumption);obtain ⟨i5,e6,_,e7,_⟩:=info_parts info23;have b3:F.length ≤ c1:=g2.1;have f9:Kd.C (Kd.slice 3 (Kd.int .i64)) _ (some L) F.length F:=a9.1;have h2:(0:Int) ≤ (B:Int):=of_decide_eq_true (by first|(with_reducible assumption)|assumption);have g0:=cut_from (P:=Try.prog) 58 23 .i64 Try.underlying58 e6 1 e7 (some L) F.length c1 B h2 f8;have c3:=Kd.C_drop (m:=(B:Int).toNat) (c:=c1) f9 (by omega) b3;obtain ⟨h7,d2⟩:∃ AA,AA=(if c1=(B:Int).toNat then (some L) else ((some L):Option Addr).map (·.add ((B:Int).toNat * 1))):=⟨_,rfl⟩;obtain ⟨h8,e1⟩:∃ cc,cc=c1 - (B:Int).toNat:=⟨_,rfl⟩;have d3:Y.length=F.length - (B:Int).toNat:=(by rw [b6.1,l0_] <;> omega);rw [show (F).drop (B:Int).toNat=Y from b6.1.symm] at c3;replace c3:Kd.C (Kd.slice 3 (Kd.int .i64)) _ h7 Y.length Y:=(by rw [d2];exact c3);rw [← d3,← d2,← e1] at g0;have d0:=mk0 c3;have d1:=mk0 (show Y.length ≤ h8 from by rw [d3,e1];exact Nat.sub_le_sub_right b3 _);clear c3 f9 b3 e6 e7 e1;have i6:=mk0 d3;have i7:=mk0 d2;clear d3 d2;replace f8:=eq_true f8;obtain ⟨i8,i9,h3⟩:=Kd.R_slice O.1;subst h3)|(go_at_call 54;(with_reducible refine (ih k1 (by have:=b4.1;omega) _ _ a7 _ _ Y false _ ?side1 ?side2 ?side3 ?side4 g6.1).mono ?_);(case side1=>repeat (first|exact (Kd.R_reads' O.1).2.2|(with_reducible refine Kd.C_alloc ?_ _)|(with_reducible refine Kd.C_drewN ?_ _)|(with_reducible refine Kd.C_drew ?_)));(case side2=>exact (Kd.R_reads' O.1).2.1);(case side3=>repeat (first|exact (Kd.C_below d0.1 E.1)|(with_reducible refine Kd.C_alloc ?_ _)|(with_reducible refine Kd.C_drewN ?_ _)|(with_reducible refine Kd.C_drew ?_)));(case side4=>exact d1.1);rintro e j3 ⟨rfl,hb⟩;replace O:=mk0 (Kd.R_below (by (with_reducible repeat (first|apply Kd.R_alloc|apply Kd.R_drewN|apply Kd.R_drew));exact O.1) hb);replace E:=mk0 (below_step (by repeat (first|(with_reducible first|exact E.1|apply below_alloc|apply pw_below_drewN|apply below_drew1)|exact E.1)) hb);(try clear hb)))
          go_roundg k1
          case measure=>have:=b4.1;omega
          case rel=>exact ⟨(wrap64 (B + 1)),(by first|rfl|(simp;done)|(simp [*];done)),H',⟨by have:=b4.1;omega⟩,⟨by repeat (first|(with_reducible first|exact E.1|apply below_alloc|apply pw_below_drewN|apply below_drew1)|exact E.1)⟩⟩
        ·
         rw [if_neg c12] at H;exact absurd H (by simp)
       ·
        replace e2:=Bool.eq_false_iff.mpr e2;subst e2;have H1:(bellpullref05_sums.l0 k1 Z F (wrap64 (B + 1)))=some r:=by rw [if_neg (show ¬ (false=true) by decide)] at H;exact H
        clear H;have H:=H1;clear H1;have H':=mk0 H;clear H;have Q:0 ≤ (B:Int):=of_decide_eq_true (by first|(with_reducible assumption)|assumption);have R:B < (F.length:Int):=of_decide_eq_true (by first|(with_reducible assumption)|assumption);obtain ⟨L,M,N,a6,D,I,J⟩:=at_L1 a9.1 B Q R;cases a6;replace D:=(E.1.cell (World.block_lt_of_cell? w _ D)).trans D;have V:=mk0 J;have X:=mk0 I;clear J I;replace Q:=eq_true Q;replace R:=eq_true R;go_wp2_with (first|((with_reducible refine gate_callee (f:=45) rfl ?_);refine goesL_ (some 21) rfl rfl Try.func45 (by kernel_rfl) rfl #[.slice M (rd_L1 F B).length N] rfl (by (try simp only [m0_,m1_,m2_]);first|done|rfl|(simp only [l0_,l1_];rfl)) ?_;(with_reducible refine (bellpullref05_Total.calls k1 _ _ (rd_L1 F B) a5 _ ?side1 ?side2 A7.1).mono ?_);(case side1=>repeat (first|exact (Kd.C_below V.1 E.1)|(with_reducible refine Kd.C_alloc ?_ _)|(with_reducible refine Kd.C_drewN ?_ _)|(with_reducible refine Kd.C_drew ?_)));(case side2=>exact X.1);rintro e w' ⟨rfl,⟨nd,rfl⟩⟩;refine ⟨_,rfl,?_⟩;have a0:0 ≤ (B:Int):=of_decide_eq_true (by first|(with_reducible assumption)|assumption);have a1:B < (F.length:Int):=of_decide_eq_true (by first|(with_reducible assumption)|assumption);obtain ⟨b1,d8,d9,b9,G,T,U⟩:=at_L1 a9.1 B a0 a1;obtain rfl:L=b1:=(by injection b9);replace G:=(E.1.cell (World.block_lt_of_cell? w _ G)).trans G;have a2:=mk0 U;have a3:=mk0 T;clear U T;replace a0:=eq_true a0;replace a1:=eq_true a1;have ea_:=Option.some.inj (D.symm.trans G);injection ea_ with ea_ en_ ec_;subst ea_;subst ec_;clear en_)|((with_reducible refine gate_callee (f:=38) rfl ?_);refine goesL_ (some 29) rfl rfl Try.func38 (by kernel_rfl) rfl #[.slice A0 Z.length c0,.slice M (rd_L1 F B).length N] rfl (by (try simp only [m0_,m1_,m2_]);first|done|rfl|(simp only [l0_,l1_];rfl)) ?_;(with_reducible refine (bellpullref05_Less.calls k1 _ _ Z _ _ (rd_L1 F B) a7 false _ ?side1 ?side2 ?side3 ?side4 A9.1).mono ?_);(case side1=>repeat (first|exact (Kd.C_below d6.1 (by repeat (first|(with_reducible first|exact E.1|apply below_alloc|apply pw_below_drewN|apply below_drew1)|exact E.1)))|(with_reducible refine Kd.C_alloc ?_ _)|(with_reducible refine Kd.C_drewN ?_ _)|(with_reducible refine Kd.C_drew ?_)));(case side2=>exact d7.1);(case side3=>repeat (first|exact (Kd.C_below a2.1 (by repeat (first|(with_reducible first|exact E.1|apply below_alloc|apply pw_below_drewN|apply below_drew1)|exact E.1)))|(with_reducible refine Kd.C_alloc ?_ _)|(with_reducible refine Kd.C_drewN ?_ _)|(with_reducible refine Kd.C_drew ?_)));(case side4=>exact a3.1);rintro e j4 ⟨f4,rfl,b5,hb⟩;refine ⟨_,rfl,?_⟩;have O:=mk0 (Kd.R_lower b5 (below_size (by repeat (first|(with_reducible first|exact E.1|apply below_alloc|apply pw_below_drewN|apply below_drew1)|exact E.1))));replace E:=mk0 (below_step (by repeat (first|(with_reducible first|exact E.1|apply below_alloc|apply pw_below_drewN|apply below_drew1)|exact E.1)) hb);(try clear hb);(try clear b5)));go_roundg k1
        case measure=>have:=b4.1;omega
        case rel=>exact ⟨(wrap64 (B + 1)),(by first|rfl|(simp;done)|(simp [*];done)),H',⟨by have:=b4.1;omega⟩,⟨by repeat (first|(with_reducible first|exact E.1|apply below_alloc|apply pw_below_drewN|apply below_drew1)|exact E.1)⟩⟩
     ·
      rw [if_neg c6] at H;exact absurd H (by simp)
    ·
     rw [if_neg c5] at H;have c5b0:decide (B < (F.length:Int))=false:=decide_eq_false c5;clear c5;obtain rfl:=Option.some.inj H;go_wp2;go_ret;exact ⟨by first|rfl|(simp [errW_none,errW_some] <;> rfl)|(simp [*,errW_none,errW_some] <;> rfl),by repeat (first|(with_reducible first|exact E.1|apply below_alloc|apply pw_below_drewN|apply below_drew1)|exact E.1)⟩
end Go.Proofs.Ytkonljiembcdlaa.PC
namespace Go.Proofs.Ytkonljiembcdlaa.PC
open Go.Proofs.MyWords Go.RowKit Go.Proofs.YtkonljiembcdlaaW.PrintWords Go.Proofs.YtkonljiembcdlaaW.PrintLast Go.Proofs.YtkonljiembcdlaaW.PrintMore
attribute [local go_sem] max2_int min2_int max_two min_two max_three min_three max_four min_four   -- for this text's walks alone
set_option linter.unusedVariables false
set_option linter.unusedSimpArgs false
attribute [local go_sem] eqGuard_slices eqlnil23 neqnil23 eqlnil58 neqnil58
def bellpullref05_Has.l0:Nat → List (S60) → List Int → Int → Option (Bool)
  | 0,_,_,_=>none
  | k + 1,x0,x1,x5=>if x5 < (x0.length:Int) then (if 0 ≤ x5 then ((bellpullref05_Less.f k x1 ((rd_T60 x0 x5).f0)).bind fun bt435=>(if bt435.2=true then ((bellpullref05_sums.f k bt435.1 ((rd_T60 x0 x5).f1)).bind fun t440=>(if t440=true then (some true) else (bellpullref05_Has.l0 k x0 x1 (wrap64 (x5 + 1))))) else (bellpullref05_Has.l0 k x0 x1 (wrap64 (x5 + 1))))) else (none)) else (some false)
def bellpullref05_Has.f (k:Nat) (l0:List (S60)) (l1:List Int):Option (Bool):=bellpullref05_Has.l0 k l0 l1 0
theorem bellpullref05_Has.mono_l:∀ k,(∀ y0 y1 y2,LeO (bellpullref05_Has.l0 k y0 y1 y2) (bellpullref05_Has.l0 (k + 1) y0 y1 y2))
  | 0=>fun _ _ _ r h=>by simp [bellpullref05_Has.l0] at h
  | k + 1=>by
    have ih0:=bellpullref05_Has.mono_l k
    · intro y0 y1 y2
      unfold bellpullref05_Has.l0
      with_reducible repeat' first|exact ih0 _ _ _|exact bellpullref05_Less.mono _ _ _|exact bellpullref05_sums.mono _ _ _|exact LeO.refl _|exact LeO.none _|refine LeO.ite ?_ ?_|refine LeO.bind ?_ (fun _=>?_)
theorem bellpullref05_Has.mono:∀ a0 a1 k,LeO (bellpullref05_Has.f k a0 a1) (bellpullref05_Has.f (k + 1) a0 a1):=by
  intro a0 a1 k
  have ih0:=bellpullref05_Has.mono_l k
  unfold bellpullref05_Has.f
  with_reducible repeat' first|exact ih0 _ _ _|exact bellpullref05_Less.mono _ _ _|exact bellpullref05_sums.mono _ _ _|exact LeO.refl _|exact LeO.none _|refine LeO.ite ?_ ?_|refine LeO.bind ?_ (fun _=>?_)
set_option maxHeartbeats 8000000 in
set_option maxRecDepth 100000 in
theorem bellpullref05_Has.calls (k:Nat) (A0:Option Addr) (c0:Nat) (N:List (S60)) (A1:Option Addr) (c1:Nat) (l1:List Int) (r:Bool) (w:World) (e2:Kd.C k60 w A0 N.length N) (e3:N.length ≤ c0) (e4:Kd.C (Kd.int .i64) w A1 l1.length l1) (e5:l1.length ≤ c1) (h:bellpullref05_Has.f k N l1=some r) :
    Calls Try.prog 24 #[.slice A0 N.length c0,.slice A1 l1.length c1] w fun e w'=>e=.returned (.bool r)∧Below w.heap.size w w':=by
 have b6:=mk0 e2;have g2:=mk0 e3;clear e2 e3;have d3:=mk0 e4;have d4:=mk0 e5;clear e4 e5;have D:=mk0 (Below.refl w.heap.size w);have H:(bellpullref05_Has.l0 k N l1 0)=some r:=h;clear h;have H':=mk0 H;clear H;go_enter Try.func24,Try.ntmps24;go_wp2
 go_loopg [5] k (fun kq v5 w'=>∃ (B:Int),v5=.int .i64 B∧Aside0 (bellpullref05_Has.l0 kq N l1 B=some r)∧Aside0 (kq ≤ k)∧Aside0 (Below w.heap.size w w'))
 case atStart=>exact ⟨(0),(by first|rfl|(simp;done)|(simp [*];done)),H',⟨Nat.le_refl _⟩,⟨by repeat (first|(with_reducible first|exact D.1|apply below_alloc|apply pw_below_drewN|apply below_drew1)|exact D.1)⟩⟩
 case round =>
  clear H';try clear c1
  try clear c2
  try clear p2
  obtain ⟨B,rfl,HA,c7,D⟩:=hrel;cases gk with
  | zero=>exact absurd HA.1 (by simp [bellpullref05_Has.l0])
  | succ k1 =>
   have H:=HA.1;clear HA;simp only [bellpullref05_Has.l0] at H
   by_cases c3:B < (N.length:Int)
   ·
    rw [if_pos c3] at H;have c3b0:decide (B < (N.length:Int))=true:=decide_eq_true c3;clear c3
    by_cases c4:0 ≤ B
    ·
     rw [if_pos c4] at H;have c4b0:decide (0 ≤ B)=true:=decide_eq_true c4;clear c4;replace H:=Option.bind_eq_some_iff.mp H;obtain ⟨⟨a6,e8⟩,e6,H⟩:=H;(try dsimp only at H);have A5:=mk0 e6;clear e6
     by_cases c6:e8=true
     ·
      subst c6;have H1:((bellpullref05_sums.f k1 a6 ((rd_T60 N B).f1)).bind fun b9=>(if b9=true then (some true) else (bellpullref05_Has.l0 k1 N l1 (wrap64 (B + 1)))))=some r:=by rw [if_pos rfl] at H;exact H
      clear H;have H:=H1;clear H1;replace H:=Option.bind_eq_some_iff.mp H;obtain ⟨b9,e7,H⟩:=H;(try dsimp only at H);have A7:=mk0 e7;clear e7
      by_cases c8:b9=true
      ·
       subst c8;have H1:(some true)=some r:=by rw [if_pos rfl] at H;exact H
       clear H;have H:=H1;clear H1;obtain rfl:=Option.some.inj H;have R:0 ≤ (B:Int):=of_decide_eq_true (by first|(with_reducible assumption)|assumption);have T:B < (N.length:Int):=of_decide_eq_true (by first|(with_reducible assumption)|assumption);obtain ⟨b0,a1,a2,b7,b8,b2,E,F,I,J,L,M⟩:=at_T60 b6.1 B R T;cases b2;replace E:=(D.1.cell (World.block_lt_of_cell? w _ E)).trans E;replace F:=(D.1.cell (World.block_lt_of_cell? w _ F)).trans F;have U:=mk0 J;have V:=mk0 I;clear J I;have b3:=mk0 M;have b4:=mk0 L;clear M L;replace R:=eq_true R;replace T:=eq_true T;go_wp2_with (first|((with_reducible refine gate_callee (f:=38) rfl ?_);refine goesL_ (some 21) rfl rfl Try.func38 (by kernel_rfl) rfl #[.slice A1 l1.length c1,.slice a1 ((rd_T60 N B).f0).length a2] rfl (by (try simp only [m0_,m1_,m2_]);first|done|rfl|(simp only [l0_,l1_];rfl)) ?_;(with_reducible refine (bellpullref05_Less.calls k1 _ _ l1 _ _ ((rd_T60 N B).f0) a6 true _ ?side1 ?side2 ?side3 ?side4 A5.1).mono ?_);(case side1=>repeat (first|exact (Kd.C_below d3.1 D.1)|(with_reducible refine Kd.C_alloc ?_ _)|(with_reducible refine Kd.C_drewN ?_ _)|(with_reducible refine Kd.C_drew ?_)));(case side2=>exact d4.1);(case side3=>repeat (first|exact (Kd.C_below U.1 D.1)|(with_reducible refine Kd.C_alloc ?_ _)|(with_reducible refine Kd.C_drewN ?_ _)|(with_reducible refine Kd.C_drew ?_)));(case side4=>exact V.1);rintro e w9 ⟨d5,rfl,a9,hb⟩;refine ⟨_,rfl,?_⟩;have G:=mk0 (Kd.R_lower a9 (below_size D.1));replace D:=bst D hb;(try clear hb);(try clear a9);have a4:0 ≤ (B:Int):=of_decide_eq_true (by first|(with_reducible assumption)|assumption);have a5:B < (N.length:Int):=of_decide_eq_true (by first|(with_reducible assumption)|assumption);obtain ⟨b5,d6,d7,d8,d9,c5,O,Q,X,Y,Z,a0⟩:=at_T60 b6.1 B a4 a5;obtain rfl:b0=b5:=(by injection c5);replace O:=(D.1.cell (World.block_lt_of_cell? w _ O)).trans O;replace Q:=(D.1.cell (World.block_lt_of_cell? w _ Q)).trans Q;have d0:=mk0 Y;have d1:=mk0 X;clear Y X;have a7:=mk0 a0;have a8:=mk0 Z;clear a0 Z;replace a4:=eq_true a4;replace a5:=eq_true a5;obtain ⟨f8,f9,f2⟩:=Kd.R_slice G.1;subst f2)|(go_at_call 54;(with_reducible refine (bellpullref05_sums.calls k1 _ _ a6 _ _ ((rd_T60 N B).f1) true _ ?side1 ?side2 ?side3 ?side4 A7.1).mono ?_);(case side1=>repeat (first|exact (Kd.R_reads' G.1).2.2|(with_reducible refine Kd.C_alloc ?_ _)|(with_reducible refine Kd.C_drewN ?_ _)|(with_reducible refine Kd.C_drew ?_)));(case side2=>exact (Kd.R_reads' G.1).2.1);(case side3=>repeat (first|exact (Kd.C_below a7.1 D.1)|(with_reducible refine Kd.C_alloc ?_ _)|(with_reducible refine Kd.C_drewN ?_ _)|(with_reducible refine Kd.C_drew ?_)));(case side4=>exact a8.1);rintro e g3 ⟨rfl,hb⟩;replace G:=rbl G hb;replace D:=bst D hb;(try clear hb)));go_ret;exact ⟨by first|rfl|(simp [errW_none,errW_some] <;> rfl)|(simp [*,errW_none,errW_some] <;> rfl),by repeat (first|(with_reducible first|exact D.1|apply below_alloc|apply pw_below_drewN|apply below_drew1)|exact D.1)⟩
      ·
       replace c8:=Bool.eq_false_iff.mpr c8;subst c8;have H1:(bellpullref05_Has.l0 k1 N l1 (wrap64 (B + 1)))=some r:=by rw [if_neg (show ¬ (false=true) by decide)] at H;exact H
       clear H;have H:=H1;clear H1;have H':=mk0 H;clear H;have R:0 ≤ (B:Int):=of_decide_eq_true (by first|(with_reducible assumption)|assumption);have T:B < (N.length:Int):=of_decide_eq_true (by first|(with_reducible assumption)|assumption);obtain ⟨b0,a1,a2,b7,b8,b2,E,F,I,J,L,M⟩:=at_T60 b6.1 B R T;cases b2;replace E:=(D.1.cell (World.block_lt_of_cell? w _ E)).trans E;replace F:=(D.1.cell (World.block_lt_of_cell? w _ F)).trans F;have U:=mk0 J;have V:=mk0 I;clear J I;have b3:=mk0 M;have b4:=mk0 L;clear M L;replace R:=eq_true R;replace T:=eq_true T;go_wp2_with (first|((with_reducible refine gate_callee (f:=38) rfl ?_);refine goesL_ (some 21) rfl rfl Try.func38 (by kernel_rfl) rfl #[.slice A1 l1.length c1,.slice a1 ((rd_T60 N B).f0).length a2] rfl (by (try simp only [m0_,m1_,m2_]);first|done|rfl|(simp only [l0_,l1_];rfl)) ?_;(with_reducible refine (bellpullref05_Less.calls k1 _ _ l1 _ _ ((rd_T60 N B).f0) a6 true _ ?side1 ?side2 ?side3 ?side4 A5.1).mono ?_);(case side1=>repeat (first|exact (Kd.C_below d3.1 D.1)|(with_reducible refine Kd.C_alloc ?_ _)|(with_reducible refine Kd.C_drewN ?_ _)|(with_reducible refine Kd.C_drew ?_)));(case side2=>exact d4.1);(case side3=>repeat (first|exact (Kd.C_below U.1 D.1)|(with_reducible refine Kd.C_alloc ?_ _)|(with_reducible refine Kd.C_drewN ?_ _)|(with_reducible refine Kd.C_drew ?_)));(case side4=>exact V.1);rintro e g4 ⟨d5,rfl,a9,hb⟩;refine ⟨_,rfl,?_⟩;have G:=mk0 (Kd.R_lower a9 (below_size D.1));replace D:=bst D hb;(try clear hb);(try clear a9);have a4:0 ≤ (B:Int):=of_decide_eq_true (by first|(with_reducible assumption)|assumption);have a5:B < (N.length:Int):=of_decide_eq_true (by first|(with_reducible assumption)|assumption);obtain ⟨b5,d6,d7,d8,d9,c5,O,Q,X,Y,Z,a0⟩:=at_T60 b6.1 B a4 a5;obtain rfl:b0=b5:=(by injection c5);replace O:=(D.1.cell (World.block_lt_of_cell? w _ O)).trans O;replace Q:=(D.1.cell (World.block_lt_of_cell? w _ Q)).trans Q;have d0:=mk0 Y;have d1:=mk0 X;clear Y X;have a7:=mk0 a0;have a8:=mk0 Z;clear a0 Z;replace a4:=eq_true a4;replace a5:=eq_true a5;obtain ⟨g0,g1,f3⟩:=Kd.R_slice G.1;subst f3)|(go_at_call 54;(with_reducible refine (bellpullref05_sums.calls k1 _ _ a6 _ _ ((rd_T60 N B).f1) false _ ?side1 ?side2 ?side3 ?side4 A7.1).mono ?_);(case side1=>repeat (first|exact (Kd.R_reads' G.1).2.2|(with_reducible refine Kd.C_alloc ?_ _)|(with_reducible refine Kd.C_drewN ?_ _)|(with_reducible refine Kd.C_drew ?_)));(case side2=>exact (Kd.R_reads' G.1).2.1);(case side3=>repeat (first|exact (Kd.C_below a7.1 D.1)|(with_reducible refine Kd.C_alloc ?_ _)|(with_reducible refine Kd.C_drewN ?_ _)|(with_reducible refine Kd.C_drew ?_)));(case side4=>exact a8.1);rintro e g5 ⟨rfl,hb⟩;replace G:=rbl G hb;replace D:=bst D hb;(try clear hb)));go_roundg k1
       case measure=>have:=c7.1;omega
       case rel=>exact ⟨(wrap64 (B + 1)),(by first|rfl|(simp;done)|(simp [*];done)),H',⟨by have:=c7.1;omega⟩,⟨by repeat (first|(with_reducible first|exact D.1|apply below_alloc|apply pw_below_drewN|apply below_drew1)|exact D.1)⟩⟩
     ·
      replace c6:=Bool.eq_false_iff.mpr c6;subst c6;have H1:(bellpullref05_Has.l0 k1 N l1 (wrap64 (B + 1)))=some r:=by rw [if_neg (show ¬ (false=true) by decide)] at H;exact H
      clear H;have H:=H1;clear H1;have H':=mk0 H;clear H;have R:0 ≤ (B:Int):=of_decide_eq_true (by first|(with_reducible assumption)|assumption);have T:B < (N.length:Int):=of_decide_eq_true (by first|(with_reducible assumption)|assumption);obtain ⟨b0,a1,a2,b7,b8,b2,E,F,I,J,L,M⟩:=at_T60 b6.1 B R T;cases b2;replace E:=(D.1.cell (World.block_lt_of_cell? w _ E)).trans E;replace F:=(D.1.cell (World.block_lt_of_cell? w _ F)).trans F;have U:=mk0 J;have V:=mk0 I;clear J I;have b3:=mk0 M;have b4:=mk0 L;clear M L;replace R:=eq_true R;replace T:=eq_true T;go_wp2_with (first|((with_reducible refine gate_callee (f:=38) rfl ?_);refine goesL_ (some 21) rfl rfl Try.func38 (by kernel_rfl) rfl #[.slice A1 l1.length c1,.slice a1 ((rd_T60 N B).f0).length a2] rfl (by (try simp only [m0_,m1_,m2_]);first|done|rfl|(simp only [l0_,l1_];rfl)) ?_;(with_reducible refine (bellpullref05_Less.calls k1 _ _ l1 _ _ ((rd_T60 N B).f0) a6 false _ ?side1 ?side2 ?side3 ?side4 A5.1).mono ?_);(case side1=>repeat (first|exact (Kd.C_below d3.1 D.1)|(with_reducible refine Kd.C_alloc ?_ _)|(with_reducible refine Kd.C_drewN ?_ _)|(with_reducible refine Kd.C_drew ?_)));(case side2=>exact d4.1);(case side3=>repeat (first|exact (Kd.C_below U.1 D.1)|(with_reducible refine Kd.C_alloc ?_ _)|(with_reducible refine Kd.C_drewN ?_ _)|(with_reducible refine Kd.C_drew ?_)));(case side4=>exact V.1);rintro e g6 ⟨d5,rfl,a9,hb⟩;refine ⟨_,rfl,?_⟩;have G:=mk0 (Kd.R_lower a9 (below_size D.1));replace D:=bst D hb;(try clear hb);(try clear a9)));go_roundg k1
      case measure=>have:=c7.1;omega
      case rel=>exact ⟨(wrap64 (B + 1)),(by first|rfl|(simp;done)|(simp [*];done)),H',⟨by have:=c7.1;omega⟩,⟨by repeat (first|(with_reducible first|exact D.1|apply below_alloc|apply pw_below_drewN|apply below_drew1)|exact D.1)⟩⟩
    ·
     rw [if_neg c4] at H;exact absurd H (by simp)
   ·
    rw [if_neg c3] at H;have c3b0:decide (B < (N.length:Int))=false:=decide_eq_false c3;clear c3;obtain rfl:=Option.some.inj H;go_wp2;go_ret;exact ⟨by first|rfl|(simp [errW_none,errW_some] <;> rfl)|(simp [*,errW_none,errW_some] <;> rfl),by repeat (first|(with_reducible first|exact D.1|apply below_alloc|apply pw_below_drewN|apply below_drew1)|exact D.1)⟩
end Go.Proofs.Ytkonljiembcdlaa.PC
namespace Go.Proofs.Ytkonljiembcdlaa.PC
open Go.Proofs.MyWords Go.RowKit Go.Proofs.YtkonljiembcdlaaW.PrintWords Go.Proofs.YtkonljiembcdlaaW.PrintLast Go.Proofs.YtkonljiembcdlaaW.PrintMore
attribute [local go_sem] max2_int min2_int max_two min_two max_three min_three max_four min_four   -- for this text's walks alone
set_option linter.unusedVariables false
set_option linter.unusedSimpArgs false
attribute [local go_sem] eqGuard_slices eqlnil23 neqnil23 eqlnil58 neqnil58
mutual
def bellpulllaw05_sumOf.l0:Nat → Int → List (S60) → List Int → Int → Option (Bool)
  | 0,_,_,_,_=>none
  | k + 1,x0,x1,x2,x7=>(bellpullref05_Total.f k x2).bind fun t911=>(if x7 ≤ t911 then ((bellpullref05_All.f k x0 x7).bind fun t912=>(bellpulllaw05_sumOf.l1 k x0 x1 x2 x7 t912 0)) else (some false))
def bellpulllaw05_sumOf.l1:Nat → Int → List (S60) → List Int → Int → List (List Int) → Int → Option (Bool)
  | 0,_,_,_,_,_,_=>none
  | k + 1,x0,x1,x2,x7,x8,x9=>if x9 < (x8.length:Int) then (if 0 ≤ x9 then ((bellpullref05_Less.f k x2 (rd_L1 x8 x9)).bind fun bt916=>(if bt916.2=true then ((bellpullref05_Has.f k x1 (rd_L1 x8 x9)).bind fun t921=>(if t921=true then ((bellpulllaw05_sumOf.f k x0 x1 bt916.1).bind fun t922=>(if t922=true then (some true) else (bellpulllaw05_sumOf.l1 k x0 x1 x2 x7 x8 (wrap64 (x9 + 1))))) else (bellpulllaw05_sumOf.l1 k x0 x1 x2 x7 x8 (wrap64 (x9 + 1))))) else (bellpulllaw05_sumOf.l1 k x0 x1 x2 x7 x8 (wrap64 (x9 + 1))))) else (none)) else (bellpulllaw05_sumOf.l0 k x0 x1 x2 (wrap64 (x7 + 1)))
def bellpulllaw05_sumOf.f:Nat → Int → List (S60) → List Int → Option (Bool)
  | 0,_,_,_=>none
  | k + 1,a0,l1,l2=>(bellpullref05_Total.f k l2).bind fun t910=>(if t910=0 then (some true) else (bellpulllaw05_sumOf.l0 k a0 l1 l2 1))
end
theorem bellpulllaw05_sumOf.mono_l:∀ k,(∀ B C D,LeO (bellpulllaw05_sumOf.f k B C D) (bellpulllaw05_sumOf.f (k + 1) B C D))∧(∀ B C D E,LeO (bellpulllaw05_sumOf.l0 k B C D E) (bellpulllaw05_sumOf.l0 (k + 1) B C D E))∧(∀ B C D E J L,LeO (bellpulllaw05_sumOf.l1 k B C D E J L) (bellpulllaw05_sumOf.l1 (k + 1) B C D E J L))
  | 0=>⟨fun _ _ _ r h=>by simp [bellpulllaw05_sumOf.f] at h,fun _ _ _ _ r h=>by simp [bellpulllaw05_sumOf.l0] at h,fun _ _ _ _ _ _ r h=>by simp [bellpulllaw05_sumOf.l1] at h⟩
  | k + 1=>by
    obtain ⟨F,G,I⟩:=bellpulllaw05_sumOf.mono_l k
    refine ⟨?_,?_,?_⟩
    · intro B C D
      unfold bellpulllaw05_sumOf.f
      with_reducible repeat' first|exact F _ _ _|exact G _ _ _ _|exact I _ _ _ _ _ _|exact bellpullref05_All.mono _ _ _|exact bellpullref05_Has.mono _ _ _|exact bellpullref05_Less.mono _ _ _|exact bellpullref05_Total.mono _ _|exact LeO.refl _|exact LeO.none _|refine LeO.ite ?_ ?_|refine LeO.bind ?_ (fun _=>?_)
    · intro B C D E
      unfold bellpulllaw05_sumOf.l0
      with_reducible repeat' first|exact F _ _ _|exact G _ _ _ _|exact I _ _ _ _ _ _|exact bellpullref05_All.mono _ _ _|exact bellpullref05_Has.mono _ _ _|exact bellpullref05_Less.mono _ _ _|exact bellpullref05_Total.mono _ _|exact LeO.refl _|exact LeO.none _|refine LeO.ite ?_ ?_|refine LeO.bind ?_ (fun _=>?_)
    · intro B C D E J L
      unfold bellpulllaw05_sumOf.l1
      with_reducible repeat' first|exact F _ _ _|exact G _ _ _ _|exact I _ _ _ _ _ _|exact bellpullref05_All.mono _ _ _|exact bellpullref05_Has.mono _ _ _|exact bellpullref05_Less.mono _ _ _|exact bellpullref05_Total.mono _ _|exact LeO.refl _|exact LeO.none _|refine LeO.ite ?_ ?_|refine LeO.bind ?_ (fun _=>?_)
theorem bellpulllaw05_sumOf.mono:∀ a0 a1 a2 k,LeO (bellpulllaw05_sumOf.f k a0 a1 a2) (bellpulllaw05_sumOf.f (k + 1) a0 a1 a2):=by
  intro a0 a1 a2 k
  obtain ⟨ih0,ih1,ih2⟩:=bellpulllaw05_sumOf.mono_l k
  exact ih0 a0 a1 a2
set_option maxHeartbeats 8000000 in
set_option maxRecDepth 100000 in
theorem bellpulllaw05_sumOf.calls (k:Nat):∀ (a0:Int) (A1:Option Addr) (c1:Nat) (l1:List (S60)) (A2:Option Addr) (c2:Nat) (l2:List Int) (r:Bool) (w:World) (g2:Kd.C k60 w A1 l1.length l1) (g3:l1.length ≤ c1) (g4:Kd.C (Kd.int .i64) w A2 l2.length l2) (g5:l2.length ≤ c2) (h:bellpulllaw05_sumOf.f k a0 l1 l2=some r),
    Calls Try.prog 40 #[.int .i64 a0,.slice A1 l1.length c1,.slice A2 l2.length c2] w fun e w'=>e=.returned (.bool r)∧Below w.heap.size w w':=by
 induction k using Nat.strongRecOn with
 | _ k ih =>
 intro a0 A1 c1 l1 A2 c2 l2 r w g2 g3 g4 g5 h;cases k with
 | zero=>exact absurd h (by simp [bellpulllaw05_sumOf.f])
 | succ k =>
 simp only [bellpulllaw05_sumOf.f] at h;have f0:=mk0 g2;have f1:=mk0 g3;clear g2 g3;have e1:=mk0 g4;have e2:=mk0 g5;clear g4 g5;have J:=mk0 (Below.refl w.heap.size w);have H:((bellpullref05_Total.f k l2).bind fun c6=>(if c6=0 then (some true) else (bellpulllaw05_sumOf.l0 k a0 l1 l2 1)))=some r:=h;clear h;replace H:=Option.bind_eq_some_iff.mp H;obtain ⟨c6,h1,H⟩:=H;(try dsimp only at H);have A4:=mk0 h1;clear h1
 by_cases c5:c6=0
 ·
  rw [if_pos c5] at H;have c5b0:(c6 == 0)=true:=beq_iff_eq.mpr c5;have c5b1:(c6 != 0)=false:=bne_eq_false_iff_eq.mpr c5;clear c5;obtain rfl:=Option.some.inj H;go_enter Try.func40,Try.ntmps40;go_wp2_with (first|((with_reducible refine gate_callee (f:=45) rfl ?_);refine goesL_ (some 13) rfl rfl Try.func45 (by kernel_rfl) rfl #[.slice A2 l2.length c2] rfl (by (try simp only [m0_,m1_,m2_]);first|done|rfl|(simp only [l0_,l1_];rfl)) ?_;(with_reducible refine (bellpullref05_Total.calls k _ _ l2 c6 _ ?side1 ?side2 A4.1).mono ?_);(case side1=>repeat (first|exact e1.1|(with_reducible refine Kd.C_alloc ?_ _)|(with_reducible refine Kd.C_drewN ?_ _)|(with_reducible refine Kd.C_drew ?_)));(case side2=>exact e2.1);rintro e w' ⟨rfl,⟨nd,rfl⟩⟩;refine ⟨_,rfl,?_⟩));go_ret;exact ⟨by first|rfl|(simp [errW_none,errW_some] <;> rfl)|(simp [*,errW_none,errW_some] <;> rfl),by repeat (first|(with_reducible first|exact J.1|apply below_alloc|apply pw_below_drewN|apply below_drew1)|exact J.1)⟩
 ·
  rw [if_neg c5] at H;have c5b0:(c6 == 0)=false:=beq_eq_false_iff_ne.mpr c5;have c5b1:(c6 != 0)=true:=bne_iff_ne.mpr c5;have H':=mk0 H;clear H;go_enter Try.func40,Try.ntmps40;go_wp2_with (first|((with_reducible refine gate_callee (f:=45) rfl ?_);refine goesL_ (some 13) rfl rfl Try.func45 (by kernel_rfl) rfl #[.slice A2 l2.length c2] rfl (by (try simp only [m0_,m1_,m2_]);first|done|rfl|(simp only [l0_,l1_];rfl)) ?_;(with_reducible refine (bellpullref05_Total.calls k _ _ l2 c6 _ ?side1 ?side2 A4.1).mono ?_);(case side1=>repeat (first|exact e1.1|(with_reducible refine Kd.C_alloc ?_ _)|(with_reducible refine Kd.C_drewN ?_ _)|(with_reducible refine Kd.C_drew ?_)));(case side2=>exact e2.1);rintro e w' ⟨rfl,⟨nd,rfl⟩⟩;refine ⟨_,rfl,?_⟩))
  go_loopg [7] k (fun kq v7 w'=>∃ (a5:Int),v7=.int .i64 a5∧Aside0 (bellpulllaw05_sumOf.l0 kq a0 l1 l2 a5=some r)∧Aside0 (kq ≤ k)∧Aside0 (Below w.heap.size w w'))
  case atStart=>exact ⟨(1),(by first|rfl|(simp;done)|(simp [*];done)),H',⟨Nat.le_refl _⟩,⟨by repeat (first|(with_reducible first|exact J.1|apply below_alloc|apply pw_below_drewN|apply below_drew1)|exact J.1)⟩⟩
  case round =>
   clear H';try clear c1
   try clear c2
   try clear p2
   try clear c4
   try clear c5
   try clear c5b0
   try clear c5b1
   obtain ⟨a5,rfl,HA,d4,J⟩:=hrel;cases gk with
   | zero=>exact absurd HA.1 (by simp [bellpulllaw05_sumOf.l0])
   | succ k1 =>
    have H:=HA.1;clear HA;simp only [bellpulllaw05_sumOf.l0] at H;replace H:=Option.bind_eq_some_iff.mp H;obtain ⟨e4,h2,H⟩:=H;(try dsimp only at H);have A6:=mk0 h2;clear h2
    by_cases c7:a5 ≤ e4
    ·
     rw [if_pos c7] at H;have c7b0:decide (a5 ≤ e4)=true:=decide_eq_true c7;clear c7;replace H:=Option.bind_eq_some_iff.mp H;obtain ⟨G,h3,H⟩:=H;(try dsimp only at H);have A8:=mk0 h3;clear h3;have H':=mk0 H;clear H;go_wp2_with (first|((with_reducible refine gate_callee (f:=45) rfl ?_);refine goesL_ (some 17) rfl rfl Try.func45 (by kernel_rfl) rfl #[.slice A2 l2.length c2] rfl (by (try simp only [m0_,m1_,m2_]);first|done|rfl|(simp only [l0_,l1_];rfl)) ?_;(with_reducible refine (bellpullref05_Total.calls k1 _ _ l2 e4 _ ?side1 ?side2 A6.1).mono ?_);(case side1=>repeat (first|exact (Kd.C_below e1.1 J.1)|(with_reducible refine Kd.C_alloc ?_ _)|(with_reducible refine Kd.C_drewN ?_ _)|(with_reducible refine Kd.C_drew ?_)));(case side2=>exact e2.1);rintro e w' ⟨rfl,⟨nd,rfl⟩⟩;refine ⟨_,rfl,?_⟩)|((with_reducible refine gate_callee (f:=37) rfl ?_);refine goesL_ (some 23) rfl rfl Try.func37 (by kernel_rfl) rfl #[.int .i64 a0,.int .i64 a5] rfl (by (try simp only [m0_,m1_,m2_]);first|done|rfl|(simp only [l0_,l1_];rfl)) ?_;(with_reducible refine (bellpullref05_All.calls k1 a0 a5 G _ A8.1).mono ?_);rintro e w9 ⟨h6,rfl,a4,hb⟩;refine ⟨_,rfl,?_⟩;have h0:=mk0 (Kd.N_lower (Kd.N_mono (ok':=fun k_=>True) a4 (fun k_ hk_=>trivial)) (below_size (by repeat (first|(with_reducible first|exact J.1|apply below_alloc|apply pw_below_drewN|apply below_drew1)|exact J.1))));replace J:=mk0 (below_step (by repeat (first|(with_reducible first|exact J.1|apply below_alloc|apply pw_below_drewN|apply below_drew1)|exact J.1)) hb);(try clear hb);(try clear a4)))
     go_loopg [9] k1 (fun kq v9 w'=>∃ (D:Int),v9=.int .i64 D∧Aside0 (bellpulllaw05_sumOf.l1 kq a0 l1 l2 a5 G D=some r)∧Aside0 (kq ≤ k1)∧Aside0 (Kd.N (Kd.slice 3 (Kd.int .i64)) 23 w' w.heap.size (fun _=>True) h6 G)∧Aside0 (Below w.heap.size w w'))
     case atStart=>exact ⟨(0),(by first|rfl|(simp;done)|(simp [*];done)),H',⟨Nat.le_refl _⟩,⟨by (with_reducible repeat (first|apply Kd.N_alloc|apply Kd.N_drewN|apply Kd.N_drew));exact h0.1⟩,⟨by repeat (first|(with_reducible first|exact J.1|apply below_alloc|apply pw_below_drewN|apply below_drew1)|exact J.1)⟩⟩
     case round =>
      clear H';try clear c1
      try clear c2
      try clear p2
      try clear c3
      try clear c4
      try clear c5
      try clear c5b0
      try clear c5b1
      try clear c7
      try clear c7b0
      try clear p2
      obtain ⟨D,rfl,HA,d5,E,J⟩:=hrel;cases gk with
      | zero=>exact absurd HA.1 (by simp [bellpulllaw05_sumOf.l1])
      | succ k2 =>
       have H:=HA.1;clear HA;simp only [bellpulllaw05_sumOf.l1] at H
       by_cases c10:D < (G.length:Int)
       ·
        rw [if_pos c10] at H;have c10b0:decide (D < (G.length:Int))=true:=decide_eq_true c10;clear c10
        by_cases c11:0 ≤ D
        ·
         rw [if_pos c11] at H;have c11b0:decide (0 ≤ D)=true:=decide_eq_true c11;clear c11;replace H:=Option.bind_eq_some_iff.mp H;obtain ⟨⟨c9,h7⟩,g6,H⟩:=H;(try dsimp only at H);have f6:=mk0 g6;clear g6
         by_cases f7:h7=true
         ·
          subst f7;have H1:((bellpullref05_Has.f k2 l1 (rd_L1 G D)).bind fun f4=>(if f4=true then ((bellpulllaw05_sumOf.f k2 a0 l1 c9).bind fun e5=>(if e5=true then (some true) else (bellpulllaw05_sumOf.l1 k2 a0 l1 l2 a5 G (wrap64 (D + 1))))) else (bellpulllaw05_sumOf.l1 k2 a0 l1 l2 a5 G (wrap64 (D + 1)))))=some r:=by rw [if_pos rfl] at H;exact H
          clear H;have H:=H1;clear H1;replace H:=Option.bind_eq_some_iff.mp H;obtain ⟨f4,g7,H⟩:=H;(try dsimp only at H);have g8:=mk0 g7;clear g7
          by_cases f8:f4=true
          ·
           subst f8;have H1:((bellpulllaw05_sumOf.f k2 a0 l1 c9).bind fun e5=>(if e5=true then (some true) else (bellpulllaw05_sumOf.l1 k2 a0 l1 l2 a5 G (wrap64 (D + 1)))))=some r:=by rw [if_pos rfl] at H;exact H
           clear H;have H:=H1;clear H1;replace H:=Option.bind_eq_some_iff.mp H;obtain ⟨e5,g9,H⟩:=H;(try dsimp only at H);have h4:=mk0 g9;clear g9
           by_cases f9:e5=true
           ·
            subst f9;have H1:(some true)=some r:=by rw [if_pos rfl] at H;exact H
            clear H;have H:=H1;clear H1;obtain rfl:=Option.some.inj H;obtain ⟨j0,j1,h8⟩:=Kd.N_slice E.1;subst h8;have a1:0 ≤ (D:Int):=of_decide_eq_true (by first|(with_reducible assumption)|assumption);have a2:D < (G.length:Int):=of_decide_eq_true (by first|(with_reducible assumption)|assumption);obtain ⟨d3,b5,b6,d6,b1,U,X⟩:=at_L1 (Kd.N_reads' E.1).2.2 D a1 a2;cases d6;obtain ⟨e9,b7,b8,a3⟩:=Kd.N_get E.1 [] D a1 (by first|exact a2|exact of_decide_eq_true (by first|(with_reducible assumption)|assumption)|(have e_:=(Kd.N_reads' E.1).1;omega));obtain ⟨d9,e0,rfl,M,O⟩:=Kd.FK_slice_open b8;have L:=a3 0 _ rfl;rw [Nat.add_zero,show ((Kd.slice 3 (Kd.int .i64))).sz=1 from rfl,Nat.mul_one] at L;replace L:=Option.some.inj (L.symm.trans b1);injection L with hva_ hvn_ hvc_;rw [hva_] at O;rw [hvc_] at M;have I:=mk0 (show Kd.V (Kd.int .i64) 3 _ w.heap.size _ _ (rd_L1 G D) from Kd.V_mk M O);clear hva_ hvn_ hvc_ O M;clear a3 b7;have B:=mk0 X;have b2:=mk0 U;clear X U;replace a1:=eq_true a1;replace a2:=eq_true a2;go_wp2_with (first|((with_reducible refine gate_callee (f:=38) rfl ?_);refine goesL_ (some 36) rfl rfl Try.func38 (by kernel_rfl) rfl #[.slice A2 l2.length c2,.slice b5 (rd_L1 G D).length b6] rfl (by (try simp only [m0_,m1_,m2_]);first|done|rfl|(simp only [l0_,l1_];rfl)) ?_;(with_reducible refine (bellpullref05_Less.calls k2 _ _ l2 _ _ (rd_L1 G D) c9 true _ ?side1 ?side2 ?side3 ?side4 f6.1).mono ?_);(case side1=>repeat (first|exact (Kd.C_below e1.1 J.1)|(with_reducible refine Kd.C_alloc ?_ _)|(with_reducible refine Kd.C_drewN ?_ _)|(with_reducible refine Kd.C_drew ?_)));(case side2=>exact e2.1);(case side3=>repeat (first|exact (by repeat (first|(with_reducible exact B.1)|(with_reducible refine Kd.C_alloc ?_ _)|(with_reducible refine Kd.C_drewN ?_ _)|(with_reducible refine Kd.C_drew ?_)|exact B.1))|(with_reducible refine Kd.C_alloc ?_ _)|(with_reducible refine Kd.C_drewN ?_ _)|(with_reducible refine Kd.C_drew ?_)));(case side4=>exact b2.1);rintro e l7 ⟨f5,rfl,a4,hb⟩;refine ⟨_,rfl,?_⟩;have R:=mk0 (Kd.R_lower a4 (below_size (by repeat (first|(with_reducible first|exact J.1|apply below_alloc|apply pw_below_drewN|apply below_drew1)|exact J.1))));replace E:=mk0 (Kd.N_elder' (by (with_reducible repeat (first|apply Kd.N_alloc|apply Kd.N_drewN|apply Kd.N_drew));exact E.1) (Kd.R_base a4) hb);replace I:=mk0 (Kd.V_elder' (by (with_reducible repeat (first|apply Kd.V_alloc|apply Kd.V_drewN|apply Kd.V_drew));exact I.1) (Kd.R_base a4) hb);replace B:=mk0 (Kd.C_below (by repeat (first|(with_reducible exact B.1)|(with_reducible refine Kd.C_alloc ?_ _)|(with_reducible refine Kd.C_drewN ?_ _)|(with_reducible refine Kd.C_drew ?_)|exact B.1)) hb);replace J:=mk0 (below_step (by repeat (first|(with_reducible first|exact J.1|apply below_alloc|apply pw_below_drewN|apply below_drew1)|exact J.1)) hb);(try clear hb);(try clear a4);have a9:0 ≤ (D:Int):=of_decide_eq_true (by first|(with_reducible assumption)|assumption);have b0:D < (G.length:Int):=of_decide_eq_true (by first|(with_reducible assumption)|assumption);obtain ⟨d7,f2,f3,e6,b9,a7,a8⟩:=at_L1 (Kd.N_reads' E.1).2.2 D a9 b0;obtain rfl:d3=d7:=(by injection e6);obtain ⟨g0,d1,d2,b3⟩:=Kd.N_get E.1 [] D a9 (by first|exact b0|exact of_decide_eq_true (by first|(with_reducible assumption)|assumption)|(have e_:=(Kd.N_reads' E.1).1;omega));obtain ⟨e7,e8,rfl,Y,Z⟩:=Kd.FK_slice_open d2;have Q:=b3 0 _ rfl;rw [Nat.add_zero,show ((Kd.slice 3 (Kd.int .i64))).sz=1 from rfl,Nat.mul_one] at Q;replace Q:=Option.some.inj (Q.symm.trans b9);injection Q with hva_ hvn_ hvc_;rw [hva_] at Z;rw [hvc_] at Y;have T:=mk0 (show Kd.V (Kd.int .i64) 3 _ w.heap.size _ _ (rd_L1 G D) from Kd.V_mk Y Z);clear hva_ hvn_ hvc_ Z Y;clear b3 d1;have F:=mk0 a8;have c0:=mk0 a7;clear a8 a7;replace a9:=eq_true a9;replace b0:=eq_true b0)|(go_at_call 24;(with_reducible refine (bellpullref05_Has.calls k2 _ _ l1 _ _ (rd_L1 G D) true _ ?side1 ?side2 ?side3 ?side4 g8.1).mono ?_);(case side1=>repeat (first|exact (Kd.C_below f0.1 J.1)|(with_reducible refine Kd.C_alloc ?_ _)|(with_reducible refine Kd.C_drewN ?_ _)|(with_reducible refine Kd.C_drew ?_)));(case side2=>exact f1.1);(case side3=>repeat (first|exact (by repeat (first|(with_reducible exact F.1)|(with_reducible refine Kd.C_alloc ?_ _)|(with_reducible refine Kd.C_drewN ?_ _)|(with_reducible refine Kd.C_drew ?_)|exact F.1))|(with_reducible refine Kd.C_alloc ?_ _)|(with_reducible refine Kd.C_drewN ?_ _)|(with_reducible refine Kd.C_drew ?_)));(case side4=>exact c0.1);rintro e l8 ⟨rfl,hb⟩;replace E:=mk0 (Kd.N_below (by (with_reducible repeat (first|apply Kd.N_alloc|apply Kd.N_drewN|apply Kd.N_drew));exact E.1) hb);replace I:=mk0 (Kd.V_below (by (with_reducible repeat (first|apply Kd.V_alloc|apply Kd.V_drewN|apply Kd.V_drew));exact I.1) hb);replace R:=mk0 (Kd.R_below (by (with_reducible repeat (first|apply Kd.R_alloc|apply Kd.R_drewN|apply Kd.R_drew));exact R.1) hb);replace T:=mk0 (Kd.V_below (by (with_reducible repeat (first|apply Kd.V_alloc|apply Kd.V_drewN|apply Kd.V_drew));exact T.1) hb);replace B:=mk0 (Kd.C_below (by repeat (first|(with_reducible exact B.1)|(with_reducible refine Kd.C_alloc ?_ _)|(with_reducible refine Kd.C_drewN ?_ _)|(with_reducible refine Kd.C_drew ?_)|exact B.1)) hb);replace F:=mk0 (Kd.C_below (by repeat (first|(with_reducible exact F.1)|(with_reducible refine Kd.C_alloc ?_ _)|(with_reducible refine Kd.C_drewN ?_ _)|(with_reducible refine Kd.C_drew ?_)|exact F.1)) hb);replace J:=mk0 (below_step (by repeat (first|(with_reducible first|exact J.1|apply below_alloc|apply pw_below_drewN|apply below_drew1)|exact J.1)) hb);(try clear hb);obtain ⟨j2,j3,h9⟩:=Kd.R_slice R.1;subst h9)|(go_at_call 40;(with_reducible refine (ih k2 (by have:=d4.1;have:=d5.1;omega) a0 _ _ l1 _ _ c9 true _ ?side1 ?side2 ?side3 ?side4 h4.1).mono ?_);(case side1=>repeat (first|exact (Kd.C_below f0.1 J.1)|(with_reducible refine Kd.C_alloc ?_ _)|(with_reducible refine Kd.C_drewN ?_ _)|(with_reducible refine Kd.C_drew ?_)));(case side2=>exact f1.1);(case side3=>repeat (first|exact (Kd.R_reads' R.1).2.2|(with_reducible refine Kd.C_alloc ?_ _)|(with_reducible refine Kd.C_drewN ?_ _)|(with_reducible refine Kd.C_drew ?_)));(case side4=>exact (Kd.R_reads' R.1).2.1);rintro e l9 ⟨rfl,hb⟩;replace E:=mk0 (Kd.N_below (by (with_reducible repeat (first|apply Kd.N_alloc|apply Kd.N_drewN|apply Kd.N_drew));exact E.1) hb);replace I:=mk0 (Kd.V_below (by (with_reducible repeat (first|apply Kd.V_alloc|apply Kd.V_drewN|apply Kd.V_drew));exact I.1) hb);replace R:=mk0 (Kd.R_below (by (with_reducible repeat (first|apply Kd.R_alloc|apply Kd.R_drewN|apply Kd.R_drew));exact R.1) hb);replace T:=mk0 (Kd.V_below (by (with_reducible repeat (first|apply Kd.V_alloc|apply Kd.V_drewN|apply Kd.V_drew));exact T.1) hb);replace B:=mk0 (Kd.C_below (by repeat (first|(with_reducible exact B.1)|(with_reducible refine Kd.C_alloc ?_ _)|(with_reducible refine Kd.C_drewN ?_ _)|(with_reducible refine Kd.C_drew ?_)|exact B.1)) hb);replace F:=mk0 (Kd.C_below (by repeat (first|(with_reducible exact F.1)|(with_reducible refine Kd.C_alloc ?_ _)|(with_reducible refine Kd.C_drewN ?_ _)|(with_reducible refine Kd.C_drew ?_)|exact F.1)) hb);replace J:=mk0 (below_step (by repeat (first|(with_reducible first|exact J.1|apply below_alloc|apply pw_below_drewN|apply below_drew1)|exact J.1)) hb);(try clear hb)))
            go_ret;exact ⟨by first|rfl|(simp [errW_none,errW_some] <;> rfl)|(simp [*,errW_none,errW_some] <;> rfl),by repeat (first|(with_reducible first|exact J.1|apply below_alloc|apply pw_below_drewN|apply below_drew1)|exact J.1)⟩
           ·
            replace f9:=Bool.eq_false_iff.mpr f9;subst f9;have H1:(bellpulllaw05_sumOf.l1 k2 a0 l1 l2 a5 G (wrap64 (D + 1)))=some r:=by rw [if_neg (show ¬ (false=true) by decide)] at H;exact H
            clear H;have H:=H1;clear H1;have H':=mk0 H;clear H;obtain ⟨j4,j5,i0⟩:=Kd.N_slice E.1;subst i0;have a1:0 ≤ (D:Int):=of_decide_eq_true (by first|(with_reducible assumption)|assumption);have a2:D < (G.length:Int):=of_decide_eq_true (by first|(with_reducible assumption)|assumption);obtain ⟨d3,b5,b6,d6,b1,U,X⟩:=at_L1 (Kd.N_reads' E.1).2.2 D a1 a2;cases d6;obtain ⟨e9,b7,b8,a3⟩:=Kd.N_get E.1 [] D a1 (by first|exact a2|exact of_decide_eq_true (by first|(with_reducible assumption)|assumption)|(have e_:=(Kd.N_reads' E.1).1;omega));obtain ⟨d9,e0,rfl,M,O⟩:=Kd.FK_slice_open b8;have L:=a3 0 _ rfl;rw [Nat.add_zero,show ((Kd.slice 3 (Kd.int .i64))).sz=1 from rfl,Nat.mul_one] at L;replace L:=Option.some.inj (L.symm.trans b1);injection L with hva_ hvn_ hvc_;rw [hva_] at O;rw [hvc_] at M;have I:=mk0 (show Kd.V (Kd.int .i64) 3 _ w.heap.size _ _ (rd_L1 G D) from Kd.V_mk M O);clear hva_ hvn_ hvc_ O M;clear a3 b7;have B:=mk0 X;have b2:=mk0 U;clear X U;replace a1:=eq_true a1;replace a2:=eq_true a2;go_wp2_with (first|((with_reducible refine gate_callee (f:=38) rfl ?_);refine goesL_ (some 36) rfl rfl Try.func38 (by kernel_rfl) rfl #[.slice A2 l2.length c2,.slice b5 (rd_L1 G D).length b6] rfl (by (try simp only [m0_,m1_,m2_]);first|done|rfl|(simp only [l0_,l1_];rfl)) ?_;(with_reducible refine (bellpullref05_Less.calls k2 _ _ l2 _ _ (rd_L1 G D) c9 true _ ?side1 ?side2 ?side3 ?side4 f6.1).mono ?_);(case side1=>repeat (first|exact (Kd.C_below e1.1 J.1)|(with_reducible refine Kd.C_alloc ?_ _)|(with_reducible refine Kd.C_drewN ?_ _)|(with_reducible refine Kd.C_drew ?_)));(case side2=>exact e2.1);(case side3=>repeat (first|exact (by repeat (first|(with_reducible exact B.1)|(with_reducible refine Kd.C_alloc ?_ _)|(with_reducible refine Kd.C_drewN ?_ _)|(with_reducible refine Kd.C_drew ?_)|exact B.1))|(with_reducible refine Kd.C_alloc ?_ _)|(with_reducible refine Kd.C_drewN ?_ _)|(with_reducible refine Kd.C_drew ?_)));(case side4=>exact b2.1);rintro e m0 ⟨f5,rfl,a4,hb⟩;refine ⟨_,rfl,?_⟩;have R:=mk0 (Kd.R_lower a4 (below_size (by repeat (first|(with_reducible first|exact J.1|apply below_alloc|apply pw_below_drewN|apply below_drew1)|exact J.1))));replace E:=mk0 (Kd.N_elder' (by (with_reducible repeat (first|apply Kd.N_alloc|apply Kd.N_drewN|apply Kd.N_drew));exact E.1) (Kd.R_base a4) hb);replace I:=mk0 (Kd.V_elder' (by (with_reducible repeat (first|apply Kd.V_alloc|apply Kd.V_drewN|apply Kd.V_drew));exact I.1) (Kd.R_base a4) hb);replace B:=mk0 (Kd.C_below (by repeat (first|(with_reducible exact B.1)|(with_reducible refine Kd.C_alloc ?_ _)|(with_reducible refine Kd.C_drewN ?_ _)|(with_reducible refine Kd.C_drew ?_)|exact B.1)) hb);replace J:=mk0 (below_step (by repeat (first|(with_reducible first|exact J.1|apply below_alloc|apply pw_below_drewN|apply below_drew1)|exact J.1)) hb);(try clear hb);(try clear a4);have a9:0 ≤ (D:Int):=of_decide_eq_true (by first|(with_reducible assumption)|assumption);have b0:D < (G.length:Int):=of_decide_eq_true (by first|(with_reducible assumption)|assumption);obtain ⟨d7,f2,f3,e6,b9,a7,a8⟩:=at_L1 (Kd.N_reads' E.1).2.2 D a9 b0;obtain rfl:d3=d7:=(by injection e6);obtain ⟨g0,d1,d2,b3⟩:=Kd.N_get E.1 [] D a9 (by first|exact b0|exact of_decide_eq_true (by first|(with_reducible assumption)|assumption)|(have e_:=(Kd.N_reads' E.1).1;omega));obtain ⟨e7,e8,rfl,Y,Z⟩:=Kd.FK_slice_open d2;have Q:=b3 0 _ rfl;rw [Nat.add_zero,show ((Kd.slice 3 (Kd.int .i64))).sz=1 from rfl,Nat.mul_one] at Q;replace Q:=Option.some.inj (Q.symm.trans b9);injection Q with hva_ hvn_ hvc_;rw [hva_] at Z;rw [hvc_] at Y;have T:=mk0 (show Kd.V (Kd.int .i64) 3 _ w.heap.size _ _ (rd_L1 G D) from Kd.V_mk Y Z);clear hva_ hvn_ hvc_ Z Y;clear b3 d1;have F:=mk0 a8;have c0:=mk0 a7;clear a8 a7;replace a9:=eq_true a9;replace b0:=eq_true b0)|(go_at_call 24;(with_reducible refine (bellpullref05_Has.calls k2 _ _ l1 _ _ (rd_L1 G D) true _ ?side1 ?side2 ?side3 ?side4 g8.1).mono ?_);(case side1=>repeat (first|exact (Kd.C_below f0.1 J.1)|(with_reducible refine Kd.C_alloc ?_ _)|(with_reducible refine Kd.C_drewN ?_ _)|(with_reducible refine Kd.C_drew ?_)));(case side2=>exact f1.1);(case side3=>repeat (first|exact (by repeat (first|(with_reducible exact F.1)|(with_reducible refine Kd.C_alloc ?_ _)|(with_reducible refine Kd.C_drewN ?_ _)|(with_reducible refine Kd.C_drew ?_)|exact F.1))|(with_reducible refine Kd.C_alloc ?_ _)|(with_reducible refine Kd.C_drewN ?_ _)|(with_reducible refine Kd.C_drew ?_)));(case side4=>exact c0.1);rintro e m1 ⟨rfl,hb⟩;replace E:=mk0 (Kd.N_below (by (with_reducible repeat (first|apply Kd.N_alloc|apply Kd.N_drewN|apply Kd.N_drew));exact E.1) hb);replace I:=mk0 (Kd.V_below (by (with_reducible repeat (first|apply Kd.V_alloc|apply Kd.V_drewN|apply Kd.V_drew));exact I.1) hb);replace R:=mk0 (Kd.R_below (by (with_reducible repeat (first|apply Kd.R_alloc|apply Kd.R_drewN|apply Kd.R_drew));exact R.1) hb);replace T:=mk0 (Kd.V_below (by (with_reducible repeat (first|apply Kd.V_alloc|apply Kd.V_drewN|apply Kd.V_drew));exact T.1) hb);replace B:=mk0 (Kd.C_below (by repeat (first|(with_reducible exact B.1)|(with_reducible refine Kd.C_alloc ?_ _)|(with_reducible refine Kd.C_drewN ?_ _)|(with_reducible refine Kd.C_drew ?_)|exact B.1)) hb);replace F:=mk0 (Kd.C_below (by repeat (first|(with_reducible exact F.1)|(with_reducible refine Kd.C_alloc ?_ _)|(with_reducible refine Kd.C_drewN ?_ _)|(with_reducible refine Kd.C_drew ?_)|exact F.1)) hb);replace J:=mk0 (below_step (by repeat (first|(with_reducible first|exact J.1|apply below_alloc|apply pw_below_drewN|apply below_drew1)|exact J.1)) hb);(try clear hb);obtain ⟨j6,j7,i1⟩:=Kd.R_slice R.1;subst i1)|(go_at_call 40;(with_reducible refine (ih k2 (by have:=d4.1;have:=d5.1;omega) a0 _ _ l1 _ _ c9 false _ ?side1 ?side2 ?side3 ?side4 h4.1).mono ?_);(case side1=>repeat (first|exact (Kd.C_below f0.1 J.1)|(with_reducible refine Kd.C_alloc ?_ _)|(with_reducible refine Kd.C_drewN ?_ _)|(with_reducible refine Kd.C_drew ?_)));(case side2=>exact f1.1);(case side3=>repeat (first|exact (Kd.R_reads' R.1).2.2|(with_reducible refine Kd.C_alloc ?_ _)|(with_reducible refine Kd.C_drewN ?_ _)|(with_reducible refine Kd.C_drew ?_)));(case side4=>exact (Kd.R_reads' R.1).2.1);rintro e m2 ⟨rfl,hb⟩;replace E:=mk0 (Kd.N_below (by (with_reducible repeat (first|apply Kd.N_alloc|apply Kd.N_drewN|apply Kd.N_drew));exact E.1) hb);replace I:=mk0 (Kd.V_below (by (with_reducible repeat (first|apply Kd.V_alloc|apply Kd.V_drewN|apply Kd.V_drew));exact I.1) hb);replace R:=mk0 (Kd.R_below (by (with_reducible repeat (first|apply Kd.R_alloc|apply Kd.R_drewN|apply Kd.R_drew));exact R.1) hb);replace T:=mk0 (Kd.V_below (by (with_reducible repeat (first|apply Kd.V_alloc|apply Kd.V_drewN|apply Kd.V_drew));exact T.1) hb);replace B:=mk0 (Kd.C_below (by repeat (first|(with_reducible exact B.1)|(with_reducible refine Kd.C_alloc ?_ _)|(with_reducible refine Kd.C_drewN ?_ _)|(with_reducible refine Kd.C_drew ?_)|exact B.1)) hb);replace F:=mk0 (Kd.C_below (by repeat (first|(with_reducible exact F.1)|(with_reducible refine Kd.C_alloc ?_ _)|(with_reducible refine Kd.C_drewN ?_ _)|(with_reducible refine Kd.C_drew ?_)|exact F.1)) hb);replace J:=mk0 (below_step (by repeat (first|(with_reducible first|exact J.1|apply below_alloc|apply pw_below_drewN|apply below_drew1)|exact J.1)) hb);(try clear hb)))
            go_roundg k2
            case measure=>have:=d4.1;have:=d5.1;omega
            case rel=>exact ⟨(wrap64 (D + 1)),(by first|rfl|(simp;done)|(simp [*];done)),H',⟨by have:=d4.1;have:=d5.1;omega⟩,⟨by (with_reducible repeat (first|apply Kd.N_alloc|apply Kd.N_drewN|apply Kd.N_drew));exact Kd.N_mono E.1 (fun _ hk=>trivial)⟩,⟨by repeat (first|(with_reducible first|exact J.1|apply below_alloc|apply pw_below_drewN|apply below_drew1)|exact J.1)⟩⟩
          ·
           replace f8:=Bool.eq_false_iff.mpr f8;subst f8;have H1:(bellpulllaw05_sumOf.l1 k2 a0 l1 l2 a5 G (wrap64 (D + 1)))=some r:=by rw [if_neg (show ¬ (false=true) by decide)] at H;exact H
           clear H;have H:=H1;clear H1;have H':=mk0 H;clear H;obtain ⟨j8,j9,i2⟩:=Kd.N_slice E.1;subst i2;have a1:0 ≤ (D:Int):=of_decide_eq_true (by first|(with_reducible assumption)|assumption);have a2:D < (G.length:Int):=of_decide_eq_true (by first|(with_reducible assumption)|assumption);obtain ⟨d3,b5,b6,d6,b1,U,X⟩:=at_L1 (Kd.N_reads' E.1).2.2 D a1 a2;cases d6;obtain ⟨e9,b7,b8,a3⟩:=Kd.N_get E.1 [] D a1 (by first|exact a2|exact of_decide_eq_true (by first|(with_reducible assumption)|assumption)|(have e_:=(Kd.N_reads' E.1).1;omega));obtain ⟨d9,e0,rfl,M,O⟩:=Kd.FK_slice_open b8;have L:=a3 0 _ rfl;rw [Nat.add_zero,show ((Kd.slice 3 (Kd.int .i64))).sz=1 from rfl,Nat.mul_one] at L;replace L:=Option.some.inj (L.symm.trans b1);injection L with hva_ hvn_ hvc_;rw [hva_] at O;rw [hvc_] at M;have I:=mk0 (show Kd.V (Kd.int .i64) 3 _ w.heap.size _ _ (rd_L1 G D) from Kd.V_mk M O);clear hva_ hvn_ hvc_ O M;clear a3 b7;have B:=mk0 X;have b2:=mk0 U;clear X U;replace a1:=eq_true a1;replace a2:=eq_true a2;go_wp2_with (first|((with_reducible refine gate_callee (f:=38) rfl ?_);refine goesL_ (some 36) rfl rfl Try.func38 (by kernel_rfl) rfl #[.slice A2 l2.length c2,.slice b5 (rd_L1 G D).length b6] rfl (by (try simp only [m0_,m1_,m2_]);first|done|rfl|(simp only [l0_,l1_];rfl)) ?_;(with_reducible refine (bellpullref05_Less.calls k2 _ _ l2 _ _ (rd_L1 G D) c9 true _ ?side1 ?side2 ?side3 ?side4 f6.1).mono ?_);(case side1=>repeat (first|exact (Kd.C_below e1.1 J.1)|(with_reducible refine Kd.C_alloc ?_ _)|(with_reducible refine Kd.C_drewN ?_ _)|(with_reducible refine Kd.C_drew ?_)));(case side2=>exact e2.1);(case side3=>repeat (first|exact (by repeat (first|(with_reducible exact B.1)|(with_reducible refine Kd.C_alloc ?_ _)|(with_reducible refine Kd.C_drewN ?_ _)|(with_reducible refine Kd.C_drew ?_)|exact B.1))|(with_reducible refine Kd.C_alloc ?_ _)|(with_reducible refine Kd.C_drewN ?_ _)|(with_reducible refine Kd.C_drew ?_)));(case side4=>exact b2.1);rintro e m3 ⟨f5,rfl,a4,hb⟩;refine ⟨_,rfl,?_⟩;have R:=mk0 (Kd.R_lower a4 (below_size (by repeat (first|(with_reducible first|exact J.1|apply below_alloc|apply pw_below_drewN|apply below_drew1)|exact J.1))));replace E:=mk0 (Kd.N_elder' (by (with_reducible repeat (first|apply Kd.N_alloc|apply Kd.N_drewN|apply Kd.N_drew));exact E.1) (Kd.R_base a4) hb);replace I:=mk0 (Kd.V_elder' (by (with_reducible repeat (first|apply Kd.V_alloc|apply Kd.V_drewN|apply Kd.V_drew));exact I.1) (Kd.R_base a4) hb);replace B:=mk0 (Kd.C_below (by repeat (first|(with_reducible exact B.1)|(with_reducible refine Kd.C_alloc ?_ _)|(with_reducible refine Kd.C_drewN ?_ _)|(with_reducible refine Kd.C_drew ?_)|exact B.1)) hb);replace J:=mk0 (below_step (by repeat (first|(with_reducible first|exact J.1|apply below_alloc|apply pw_below_drewN|apply below_drew1)|exact J.1)) hb);(try clear hb);(try clear a4);have a9:0 ≤ (D:Int):=of_decide_eq_true (by first|(with_reducible assumption)|assumption);have b0:D < (G.length:Int):=of_decide_eq_true (by first|(with_reducible assumption)|assumption);obtain ⟨d7,f2,f3,e6,b9,a7,a8⟩:=at_L1 (Kd.N_reads' E.1).2.2 D a9 b0;obtain rfl:d3=d7:=(by injection e6);obtain ⟨g0,d1,d2,b3⟩:=Kd.N_get E.1 [] D a9 (by first|exact b0|exact of_decide_eq_true (by first|(with_reducible assumption)|assumption)|(have e_:=(Kd.N_reads' E.1).1;omega));obtain ⟨e7,e8,rfl,Y,Z⟩:=Kd.FK_slice_open d2;have Q:=b3 0 _ rfl;rw [Nat.add_zero,show ((Kd.slice 3 (Kd.int .i64))).sz=1 from rfl,Nat.mul_one] at Q;replace Q:=Option.some.inj (Q.symm.trans b9);injection Q with hva_ hvn_ hvc_;rw [hva_] at Z;rw [hvc_] at Y;have T:=mk0 (show Kd.V (Kd.int .i64) 3 _ w.heap.size _ _ (rd_L1 G D) from Kd.V_mk Y Z);clear hva_ hvn_ hvc_ Z Y;clear b3 d1;have F:=mk0 a8;have c0:=mk0 a7;clear a8 a7;replace a9:=eq_true a9;replace b0:=eq_true b0)|(go_at_call 24;(with_reducible refine (bellpullref05_Has.calls k2 _ _ l1 _ _ (rd_L1 G D) false _ ?side1 ?side2 ?side3 ?side4 g8.1).mono ?_);(case side1=>repeat (first|exact (Kd.C_below f0.1 J.1)|(with_reducible refine Kd.C_alloc ?_ _)|(with_reducible refine Kd.C_drewN ?_ _)|(with_reducible refine Kd.C_drew ?_)));(case side2=>exact f1.1);(case side3=>repeat (first|exact (by repeat (first|(with_reducible exact F.1)|(with_reducible refine Kd.C_alloc ?_ _)|(with_reducible refine Kd.C_drewN ?_ _)|(with_reducible refine Kd.C_drew ?_)|exact F.1))|(with_reducible refine Kd.C_alloc ?_ _)|(with_reducible refine Kd.C_drewN ?_ _)|(with_reducible refine Kd.C_drew ?_)));(case side4=>exact c0.1);rintro e m4 ⟨rfl,hb⟩;replace E:=mk0 (Kd.N_below (by (with_reducible repeat (first|apply Kd.N_alloc|apply Kd.N_drewN|apply Kd.N_drew));exact E.1) hb);replace I:=mk0 (Kd.V_below (by (with_reducible repeat (first|apply Kd.V_alloc|apply Kd.V_drewN|apply Kd.V_drew));exact I.1) hb);replace R:=mk0 (Kd.R_below (by (with_reducible repeat (first|apply Kd.R_alloc|apply Kd.R_drewN|apply Kd.R_drew));exact R.1) hb);replace T:=mk0 (Kd.V_below (by (with_reducible repeat (first|apply Kd.V_alloc|apply Kd.V_drewN|apply Kd.V_drew));exact T.1) hb);replace B:=mk0 (Kd.C_below (by repeat (first|(with_reducible exact B.1)|(with_reducible refine Kd.C_alloc ?_ _)|(with_reducible refine Kd.C_drewN ?_ _)|(with_reducible refine Kd.C_drew ?_)|exact B.1)) hb);replace F:=mk0 (Kd.C_below (by repeat (first|(with_reducible exact F.1)|(with_reducible refine Kd.C_alloc ?_ _)|(with_reducible refine Kd.C_drewN ?_ _)|(with_reducible refine Kd.C_drew ?_)|exact F.1)) hb);replace J:=mk0 (below_step (by repeat (first|(with_reducible first|exact J.1|apply below_alloc|apply pw_below_drewN|apply below_drew1)|exact J.1)) hb);(try clear hb)))
           go_roundg k2
           case measure=>have:=d4.1;have:=d5.1;omega
           case rel=>exact ⟨(wrap64 (D + 1)),(by first|rfl|(simp;done)|(simp [*];done)),H',⟨by have:=d4.1;have:=d5.1;omega⟩,⟨by (with_reducible repeat (first|apply Kd.N_alloc|apply Kd.N_drewN|apply Kd.N_drew));exact Kd.N_mono E.1 (fun _ hk=>trivial)⟩,⟨by repeat (first|(with_reducible first|exact J.1|apply below_alloc|apply pw_below_drewN|apply below_drew1)|exact J.1)⟩⟩
         ·
          replace f7:=Bool.eq_false_iff.mpr f7;subst f7;have H1:(bellpulllaw05_sumOf.l1 k2 a0 l1 l2 a5 G (wrap64 (D + 1)))=some r:=by rw [if_neg (show ¬ (false=true) by decide)] at H;exact H
          clear H;have H:=H1;clear H1;have H':=mk0 H;clear H;obtain ⟨l3,l4,i3⟩:=Kd.N_slice E.1;subst i3;have a1:0 ≤ (D:Int):=of_decide_eq_true (by first|(with_reducible assumption)|assumption);have a2:D < (G.length:Int):=of_decide_eq_true (by first|(with_reducible assumption)|assumption);obtain ⟨d3,b5,b6,d6,b1,U,X⟩:=at_L1 (Kd.N_reads' E.1).2.2 D a1 a2;cases d6;obtain ⟨e9,b7,b8,a3⟩:=Kd.N_get E.1 [] D a1 (by first|exact a2|exact of_decide_eq_true (by first|(with_reducible assumption)|assumption)|(have e_:=(Kd.N_reads' E.1).1;omega));obtain ⟨d9,e0,rfl,M,O⟩:=Kd.FK_slice_open b8;have L:=a3 0 _ rfl;rw [Nat.add_zero,show ((Kd.slice 3 (Kd.int .i64))).sz=1 from rfl,Nat.mul_one] at L;replace L:=Option.some.inj (L.symm.trans b1);injection L with hva_ hvn_ hvc_;rw [hva_] at O;rw [hvc_] at M;have I:=mk0 (show Kd.V (Kd.int .i64) 3 _ w.heap.size _ _ (rd_L1 G D) from Kd.V_mk M O);clear hva_ hvn_ hvc_ O M;clear a3 b7;have B:=mk0 X;have b2:=mk0 U;clear X U;replace a1:=eq_true a1;replace a2:=eq_true a2;go_wp2_with (first|((with_reducible refine gate_callee (f:=38) rfl ?_);refine goesL_ (some 36) rfl rfl Try.func38 (by kernel_rfl) rfl #[.slice A2 l2.length c2,.slice b5 (rd_L1 G D).length b6] rfl (by (try simp only [m0_,m1_,m2_]);first|done|rfl|(simp only [l0_,l1_];rfl)) ?_;(with_reducible refine (bellpullref05_Less.calls k2 _ _ l2 _ _ (rd_L1 G D) c9 false _ ?side1 ?side2 ?side3 ?side4 f6.1).mono ?_);(case side1=>repeat (first|exact (Kd.C_below e1.1 J.1)|(with_reducible refine Kd.C_alloc ?_ _)|(with_reducible refine Kd.C_drewN ?_ _)|(with_reducible refine Kd.C_drew ?_)));(case side2=>exact e2.1);(case side3=>repeat (first|exact (by repeat (first|(with_reducible exact B.1)|(with_reducible refine Kd.C_alloc ?_ _)|(with_reducible refine Kd.C_drewN ?_ _)|(with_reducible refine Kd.C_drew ?_)|exact B.1))|(with_reducible refine Kd.C_alloc ?_ _)|(with_reducible refine Kd.C_drewN ?_ _)|(with_reducible refine Kd.C_drew ?_)));(case side4=>exact b2.1);rintro e m5 ⟨f5,rfl,a4,hb⟩;refine ⟨_,rfl,?_⟩;have R:=mk0 (Kd.R_lower a4 (below_size (by repeat (first|(with_reducible first|exact J.1|apply below_alloc|apply pw_below_drewN|apply below_drew1)|exact J.1))));replace E:=mk0 (Kd.N_elder' (by (with_reducible repeat (first|apply Kd.N_alloc|apply Kd.N_drewN|apply Kd.N_drew));exact E.1) (Kd.R_base a4) hb);replace I:=mk0 (Kd.V_elder' (by (with_reducible repeat (first|apply Kd.V_alloc|apply Kd.V_drewN|apply Kd.V_drew));exact I.1) (Kd.R_base a4) hb);replace B:=mk0 (Kd.C_below (by repeat (first|(with_reducible exact B.1)|(with_reducible refine Kd.C_alloc ?_ _)|(with_reducible refine Kd.C_drewN ?_ _)|(with_reducible refine Kd.C_drew ?_)|exact B.1)) hb);replace J:=mk0 (below_step (by repeat (first|(with_reducible first|exact J.1|apply below_alloc|apply pw_below_drewN|apply below_drew1)|exact J.1)) hb);(try clear hb);(try clear a4)));go_roundg k2
          case measure=>have:=d4.1;have:=d5.1;omega
          case rel=>exact ⟨(wrap64 (D + 1)),(by first|rfl|(simp;done)|(simp [*];done)),H',⟨by have:=d4.1;have:=d5.1;omega⟩,⟨by (with_reducible repeat (first|apply Kd.N_alloc|apply Kd.N_drewN|apply Kd.N_drew));exact Kd.N_mono E.1 (fun _ hk=>trivial)⟩,⟨by repeat (first|(with_reducible first|exact J.1|apply below_alloc|apply pw_below_drewN|apply below_drew1)|exact J.1)⟩⟩
        ·
         rw [if_neg c11] at H;exact absurd H (by simp)
       ·
        rw [if_neg c10] at H;have c10b0:decide (D < (G.length:Int))=false:=decide_eq_false c10;clear c10;have H':=mk0 H;clear H;obtain ⟨l5,l6,i4⟩:=Kd.N_slice E.1;subst i4;go_wp2;go_roundg k2
        case measure=>have:=d4.1;have:=d5.1;omega
        case rel=>exact ⟨(wrap64 (a5 + 1)),(by first|rfl|(simp;done)|(simp [*];done)),H',⟨by have:=d4.1;have:=d5.1;omega⟩,⟨by repeat (first|(with_reducible first|exact J.1|apply below_alloc|apply pw_below_drewN|apply below_drew1)|exact J.1)⟩⟩
    ·
     rw [if_neg c7] at H;have c7b0:decide (a5 ≤ e4)=false:=decide_eq_false c7;clear c7;obtain rfl:=Option.some.inj H;go_wp2_with (first|((with_reducible refine gate_callee (f:=45) rfl ?_);refine goesL_ (some 17) rfl rfl Try.func45 (by kernel_rfl) rfl #[.slice A2 l2.length c2] rfl (by (try simp only [m0_,m1_,m2_]);first|done|rfl|(simp only [l0_,l1_];rfl)) ?_;(with_reducible refine (bellpullref05_Total.calls k1 _ _ l2 e4 _ ?side1 ?side2 A6.1).mono ?_);(case side1=>repeat (first|exact (Kd.C_below e1.1 J.1)|(with_reducible refine Kd.C_alloc ?_ _)|(with_reducible refine Kd.C_drewN ?_ _)|(with_reducible refine Kd.C_drew ?_)));(case side2=>exact e2.1);rintro e w' ⟨rfl,⟨nd,rfl⟩⟩;refine ⟨_,rfl,?_⟩));go_ret;exact ⟨by first|rfl|(simp [errW_none,errW_some] <;> rfl)|(simp [*,errW_none,errW_some] <;> rfl),by repeat (first|(with_reducible first|exact J.1|apply below_alloc|apply pw_below_drewN|apply below_drew1)|exact J.1)⟩
end Go.Proofs.Ytkonljiembcdlaa.PC
namespace Go.Proofs.Ytkonljiembcdlaa.PC
open Go.Proofs.MyWords Go.RowKit Go.Proofs.YtkonljiembcdlaaW.PrintWords Go.Proofs.YtkonljiembcdlaaW.PrintLast Go.Proofs.YtkonljiembcdlaaW.PrintMore
attribute [local go_sem] max2_int min2_int max_two min_two max_three min_three max_four min_four   -- for this text's walks alone
set_option linter.unusedVariables false
set_option linter.unusedSimpArgs false
attribute [local go_sem] eqGuard_slices eqlnil23 neqnil23 eqlnil58 neqnil58
mutual
def bellpulllaw05_CountStar.l0:Nat → Int → List (S60) → List (S60) → Int → Option (Bool)
  | 0,_,_,_,_=>none
  | k + 1,x3,x4,x6,x8=>if x8 ≤ 5 then ((bellpullref05_All.f k x3 x8).bind fun t937=>(bellpulllaw05_CountStar.l1 k x3 x4 x6 x8 t937 0)) else ((bellpulllaw05_lives.f k).bind fun t936=>(some t936))
def bellpulllaw05_CountStar.l1:Nat → Int → List (S60) → List (S60) → Int → List (List Int) → Int → Option (Bool)
  | 0,_,_,_,_,_,_=>none
  | k + 1,x3,x4,x6,x8,x9,x10=>if x10 < (x9.length:Int) then (if 0 ≤ x10 then ((count_Has.f k x3 x6 (rd_L1 x9 x10)).bind fun bt941=>(if bt941.2=0 then ((bellpulllaw05_sumOf.f k x3 x4 (rd_L1 x9 x10)).bind fun t944=>(if bt941.1=true then (if t944=true then (bellpulllaw05_CountStar.l1 k x3 x4 x6 x8 x9 (wrap64 (x10 + 1))) else (none)) else (if t944=true then (none) else (bellpulllaw05_CountStar.l1 k x3 x4 x6 x8 x9 (wrap64 (x10 + 1)))))) else (none))) else (none)) else (bellpulllaw05_CountStar.l0 k x3 x4 x6 (wrap64 (x8 + 1)))
end
def bellpulllaw05_CountStar.f (k:Nat) (a0_0:Int) (l0_1:List Int) (l0_2:List Int):Option (Bool):=(bellpulllaw05_Plan_sets.f a0_0 l0_1 l0_2 2).bind fun bt924=>((count_Star.f k bt924.1 bt924.2.1).bind fun bt931=>(if bt931.2=0 then (bellpulllaw05_CountStar.l0 k bt924.1 bt924.2.1 bt931.1 0) else (if bt931.2=7 then (if (bt931.1.length:Int)=0 then ((bellpulllaw05_lives.f k).bind fun t935=>(some t935)) else (none)) else (none))))
theorem bellpulllaw05_CountStar.mono_l:∀ k,(∀ y0 y1 y2 y3,LeO (bellpulllaw05_CountStar.l0 k y0 y1 y2 y3) (bellpulllaw05_CountStar.l0 (k + 1) y0 y1 y2 y3))∧(∀ y0 y1 y2 y3 y4 y5,LeO (bellpulllaw05_CountStar.l1 k y0 y1 y2 y3 y4 y5) (bellpulllaw05_CountStar.l1 (k + 1) y0 y1 y2 y3 y4 y5))
  | 0=>⟨fun _ _ _ _ r h=>by simp [bellpulllaw05_CountStar.l0] at h,fun _ _ _ _ _ _ r h=>by simp [bellpulllaw05_CountStar.l1] at h⟩
  | k + 1=>by
    obtain ⟨ih0,ih1⟩:=bellpulllaw05_CountStar.mono_l k
    refine ⟨?_,?_⟩
    · intro y0 y1 y2 y3
      unfold bellpulllaw05_CountStar.l0
      with_reducible repeat' first|exact ih0 _ _ _ _|exact ih1 _ _ _ _ _ _|exact bellpulllaw05_lives.mono _|exact bellpulllaw05_sumOf.mono _ _ _ _|exact bellpullref05_All.mono _ _ _|exact count_Has.mono _ _ _ _|exact count_Star.mono _ _ _|exact LeO.refl _|exact LeO.none _|refine LeO.ite ?_ ?_|refine LeO.bind ?_ (fun _=>?_)
    · intro y0 y1 y2 y3 y4 y5
      unfold bellpulllaw05_CountStar.l1
      with_reducible repeat' first|exact ih0 _ _ _ _|exact ih1 _ _ _ _ _ _|exact bellpulllaw05_lives.mono _|exact bellpulllaw05_sumOf.mono _ _ _ _|exact bellpullref05_All.mono _ _ _|exact count_Has.mono _ _ _ _|exact count_Star.mono _ _ _|exact LeO.refl _|exact LeO.none _|refine LeO.ite ?_ ?_|refine LeO.bind ?_ (fun _=>?_)
theorem bellpulllaw05_CountStar.mono:∀ a0 a1 a2 k,LeO (bellpulllaw05_CountStar.f k a0 a1 a2) (bellpulllaw05_CountStar.f (k + 1) a0 a1 a2):=by
  intro a0 a1 a2 k
  obtain ⟨ih0,ih1⟩:=bellpulllaw05_CountStar.mono_l k
  unfold bellpulllaw05_CountStar.f
  with_reducible repeat' first|exact ih0 _ _ _ _|exact ih1 _ _ _ _ _ _|exact bellpulllaw05_lives.mono _|exact bellpulllaw05_sumOf.mono _ _ _ _|exact bellpullref05_All.mono _ _ _|exact count_Has.mono _ _ _ _|exact count_Star.mono _ _ _|exact LeO.refl _|exact LeO.none _|refine LeO.ite ?_ ?_|refine LeO.bind ?_ (fun _=>?_)
set_option maxHeartbeats 8000000 in
set_option maxRecDepth 100000 in
theorem bellpulllaw05_CountStar.calls (k:Nat) (X:Int) (a3:Option Addr) (a4:Nat) (M:List Int) (a5:Option Addr) (a6:Nat) (O:List Int) (r:Bool) (w:World) (g8:Kd.C (Kd.int .u8) w a3 M.length M) (g9:M.length ≤ a4) (h0:Kd.C (Kd.int .u8) w a5 O.length O) (h1:O.length ≤ a6) (h:bellpulllaw05_CountStar.f k X M O=some r) :
    Calls Try.prog 11 #[.agg #[.int .u8 X,.slice a3 M.length a4,.slice a5 O.length a6]] w fun e w'=>e=.returned (.bool r)∧Below w.heap.size w w':=by
 have n9:=Try.underlying55;have h2:=mk0 g8;have h3:=mk0 g9;clear g8 g9;have h4:=mk0 h0;have h5:=mk0 h1;clear h0 h1;have G:=mk0 (Below.refl w.heap.size w);have H:((bellpulllaw05_Plan_sets.f X M O 2).bind fun d8=>((count_Star.f k d8.1 d8.2.1).bind fun d9=>(if d9.2=0 then (bellpulllaw05_CountStar.l0 k d8.1 d8.2.1 d9.1 0) else (if d9.2=7 then (if (d9.1.length:Int)=0 then ((bellpulllaw05_lives.f k).bind fun g2=>(some g2)) else (none)) else (none)))))=some r:=h;clear h;replace H:=Option.bind_eq_some_iff.mp H;obtain ⟨⟨R,T,i4⟩,j5,H⟩:=H;(try dsimp only at H);have A2:=mk0 j5;clear j5;replace H:=Option.bind_eq_some_iff.mp H;obtain ⟨⟨Y,b5⟩,h6,H⟩:=H;(try dsimp only at H);have A3:=mk0 h6;clear h6
 by_cases c4:b5=0
 ·
  rw [if_pos c4] at H;have c4b0:(b5 == 0)=true:=beq_iff_eq.mpr c4;have c4b1:(b5 != 0)=false:=bne_eq_false_iff_eq.mpr c4;clear c4;have H':=mk0 H;clear H;go_enter Try.func11,Try.ntmps11;go_wp2_with (first|((with_reducible refine gate_dst (N:=1) rfl ?_);(try (refine gate_guard (by rfl) ?_;dsimp only));refine box_event ?hg (N:=1) ?hd (cs:=#[.int .u8 X,.slice a3 M.length a4,.slice a5 O.length a6]) (t:=55) ?hr ?_;(case hd=>rfl);(case hg=>rfl);(case hr=>first|(go_simp;done)|(go_simp;rfl));intro E hg w5 e0 hb;have B:=mk0 (e0);have f0:=szw hg G;have b4:=f0;replace G:=bst G hb;clear hb e0 hg;have f3:=q0_ B;have f4:=q1_ B;have f5:=q2_ B;have f6:=blk_frozen B.1 0;have f7:=blk_frozen B.1 1;have f8:=blk_frozen B.1 2)|((with_reducible refine gate_callee (f:=33) rfl ?_);refine goesL_ (some 15) rfl rfl Try.func33 (by kernel_rfl) rfl #[.agg #[.int .u8 X,.slice a3 M.length a4,.slice a5 O.length a6],.int .i64 2] rfl (by (try simp only [m0_,m1_,m2_]);first|done|rfl|(simp only [l0_,l1_];rfl)) ?_;(with_reducible refine (bellpulllaw05_Plan_sets.calls X _ _ M _ _ O 2 R T i4 _ ?side1 ?side2 ?side3 ?side4 A2.1).mono ?_);(case side1=>repeat (first|exact (Kd.C_below h2.1 G.1)|(with_reducible refine Kd.C_alloc ?_ _)|(with_reducible refine Kd.C_drewN ?_ _)|(with_reducible refine Kd.C_drew ?_)));(case side2=>exact h3.1);(case side3=>repeat (first|exact (Kd.C_below h4.1 G.1)|(with_reducible refine Kd.C_alloc ?_ _)|(with_reducible refine Kd.C_drewN ?_ _)|(with_reducible refine Kd.C_drew ?_)));(case side4=>exact h5.1);rintro e w7 ⟨g3,d1,rfl,a7,f9,hb⟩;refine ⟨_,rfl,?_⟩;have a2:=mk0 (Kd.N_lower (Kd.N_mono (ok':=fun k_=>some k_ ≠ (d1:Value).ownBlock∧k_ ≠ E) (Kd.R_N (Kd.R_bound a7)) (fun k_ hk_=>⟨hk_.1,(Kd.freshB (g:=E) (o:=.cells #[.int .u8 X,.slice a3 M.length a4,.slice a5 O.length a6] 55 (0,0)) B.1 k_ hk_.2.1)⟩)) (below_size G.1));have b3:=mk0 (Kd.N_lower (Kd.N_mono (ok':=fun k_=>some k_ ≠ (g3:Value).ownBlock∧k_ ≠ E) (Kd.R_N (Kd.R_bound f9)) (fun k_ hk_=>⟨hk_.1,(Kd.freshB (g:=E) (o:=.cells #[.int .u8 X,.slice a3 M.length a4,.slice a5 O.length a6] 55 (0,0)) B.1 k_ hk_.2.1)⟩)) (below_size G.1));replace B:=bkb B hb;replace G:=bst G hb;(try clear hb);(try clear a7);(try clear f9);obtain ⟨g0,g1,n5⟩:=Kd.N_slice a2.1;subst n5)|((with_reducible refine gate_callee (f:=39) rfl ?_);refine goesL_ (some 22) rfl rfl Try.func39 (by kernel_rfl) rfl #[.int .i64 R,.slice g0 T.length g1] rfl (by (try simp only [m0_,m1_,m2_]);first|done|rfl|(simp only [l0_,l1_];rfl)) ?_;(with_reducible refine (count_Star.calls k R (fun k_=>(some k_ ≠ (d1:Value).ownBlock∧k_ ≠ E)) _ _ T Y b5 _ ?side1 A3.1).mono ?_);(case side1=>exact Kd.N_V (a2.1));rintro e w9 ⟨g4,rfl,a7,hb⟩;refine ⟨_,rfl,?_⟩;have d2:=mk0 (Kd.V_lower (Kd.V_mono (ok':=fun k_=>some k_ ≠ (d1:Value).ownBlock∧k_ ≠ E) a7 (fun k_ hk_=>⟨Or.elim hk_ (fun hs_=>hs_.1) (fun hn_=>(Kd.fresh' (Kd.N_lt b3.1) k_ hn_)),Or.elim hk_ (fun hs_=>hs_.2) (fun hn_=>(Kd.freshB (g:=E) (o:=.cells #[.int .u8 X,.slice a3 M.length a4,.slice a5 O.length a6] 55 (0,0)) B.1 k_ hn_))⟩)) (below_size G.1));replace a2:=mk0 (Kd.N_below a2.1 hb);replace b3:=mk0 (Kd.N_below b3.1 hb);replace B:=bkb B hb;replace G:=bst G hb;(try clear hb);(try clear a7)))
  go_loopg [8] k (fun kq v8 w'=>∃ (a8:Int),v8=.int .i64 a8∧Aside0 (bellpulllaw05_CountStar.l0 kq R T Y a8=some r)∧Aside0 (kq ≤ k)∧Aside0 (Kd.N k60 60 w' w.heap.size (fun k_=>k_ ≠ E) (.slice g0 T.length g1) T)∧Aside0 (Kd.V k60 60 w' w.heap.size (fun k_=>k_ ≠ E) g4 Y)∧Aside0 (w'.heap[E]?=some (.cells #[.int .u8 X,(.slice a3 M.length a4),(.slice a5 O.length a6)] 55 (0,0)))∧Aside0 (Below w.heap.size w w'))
  case atStart=>exact ⟨(0),(by first|rfl|(simp;done)|(simp [*];done)),H',⟨Nat.le_refl _⟩,⟨by (with_reducible repeat (first|apply Kd.N_alloc|apply Kd.N_drewN|apply Kd.N_drew));exact Kd.N_mono a2.1 (fun _ hk=>hk.2)⟩,⟨by (with_reducible repeat (first|apply Kd.V_alloc|apply Kd.V_drewN|apply Kd.V_drew));exact Kd.V_mono d2.1 (fun _ hk=>hk.2)⟩,⟨by exact B.1⟩,⟨by repeat (first|(with_reducible first|exact G.1|apply below_alloc|apply pw_below_drewN|apply below_drew1|refine below_set ?_ b4.1)|exact G.1)⟩⟩
  case round =>
   clear H';try clear c1
   try clear p2
   try clear c3
   try clear c4
   try clear c4b0
   try clear c4b1
   try clear f3
   try clear f4
   try clear f5
   try clear f6
   try clear f7
   try clear f8
   obtain ⟨a8,rfl,HA,e8,L,Q,B,G⟩:=hrel;cases gk with
   | zero=>exact absurd HA.1 (by simp [bellpulllaw05_CountStar.l0])
   | succ k1 =>
    have H:=HA.1;clear HA;simp only [bellpulllaw05_CountStar.l0] at H
    by_cases c10:a8 ≤ 5
    ·
     rw [if_pos c10] at H;have c10b0:decide (a8 ≤ 5)=true:=decide_eq_true c10;clear c10;replace H:=Option.bind_eq_some_iff.mp H;obtain ⟨I,i5,H⟩:=H;(try dsimp only at H);have n6:=mk0 i5;clear i5;have H':=mk0 H;clear H;go_wp2_with (first|((with_reducible refine gate_callee (f:=37) rfl ?_);refine goesL_ (some 43) rfl rfl Try.func37 (by kernel_rfl) rfl #[.int .i64 R,.int .i64 a8] rfl (by (try simp only [m0_,m1_,m2_]);first|done|rfl|(simp only [l0_,l1_];rfl)) ?_;(with_reducible refine (bellpullref05_All.calls k1 R a8 I _ n6.1).mono ?_);rintro e o7 ⟨g5,rfl,a7,hb⟩;refine ⟨_,rfl,?_⟩;have j2:=mk0 (Kd.N_lower (Kd.N_mono (ok':=fun k_=>some k_ ≠ (.slice g0 T.length g1:Value).ownBlock∧k_ ≠ E) a7 (fun k_ hk_=>⟨(Kd.fresh' (Kd.N_lt L.1) k_ hk_),(Kd.freshB (g:=E) (o:=.cells #[.int .u8 X,.slice a3 M.length a4,.slice a5 O.length a6] 55 (0,0)) B.1 k_ hk_)⟩)) (below_size G.1));replace L:=mk0 (Kd.N_elder' L.1 (by first|exact Kd.N_base a7|exact Kd.S_base a7|exact Kd.R_base a7) hb);replace Q:=mk0 (Kd.V_elder' Q.1 (by first|exact Kd.N_base a7|exact Kd.S_base a7|exact Kd.R_base a7) hb);replace B:=bkb B hb;replace G:=bst G hb;(try clear hb);(try clear a7)))
     go_loopg [10] k1 (fun kq n7 w'=>∃ (D:Int),n7=.int .i64 D∧Aside0 (bellpulllaw05_CountStar.l1 kq R T Y a8 I D=some r)∧Aside0 (kq ≤ k1)∧Aside0 (Kd.N k60 60 w' w.heap.size (fun k_=>some k_ ≠ (g5:Value).ownBlock∧k_ ≠ E) (.slice g0 T.length g1) T)∧Aside0 (Kd.V k60 60 w' w.heap.size (fun k_=>some k_ ≠ (g5:Value).ownBlock∧k_ ≠ E) g4 Y)∧Aside0 (Kd.N (Kd.slice 3 (Kd.int .i64)) 23 w' w.heap.size (fun k_=>some k_ ≠ ((.slice g0 T.length g1):Value).ownBlock∧k_ ≠ E) g5 I)∧Aside0 (w'.heap[E]?=some (.cells #[.int .u8 X,(.slice a3 M.length a4),(.slice a5 O.length a6)] 55 (0,0)))∧Aside0 (Below w.heap.size w w'))
     case atStart=>exact ⟨(0),(by first|rfl|(simp;done)|(simp [*];done)),H',⟨Nat.le_refl _⟩,⟨by (with_reducible repeat (first|apply Kd.N_alloc|apply Kd.N_drewN|apply Kd.N_drew));exact Kd.N_mono L.1 (fun _ hk=>⟨hk.2,hk.1⟩)⟩,⟨by (with_reducible repeat (first|apply Kd.V_alloc|apply Kd.V_drewN|apply Kd.V_drew));exact Kd.V_mono Q.1 (fun _ hk=>⟨hk.2,hk.1⟩)⟩,⟨by (with_reducible repeat (first|apply Kd.N_alloc|apply Kd.N_drewN|apply Kd.N_drew));exact j2.1⟩,⟨by exact B.1⟩,⟨by repeat (first|(with_reducible first|exact G.1|apply below_alloc|apply pw_below_drewN|apply below_drew1|refine below_set ?_ b4.1)|exact G.1)⟩⟩
     case round =>
      clear H';try clear c1
      try clear p2
      try clear c3
      try clear c4
      try clear c4b0
      try clear c4b1
      try clear c10
      try clear c10b0
      try clear c11
      try clear f3
      try clear f4
      try clear f5
      try clear f6
      try clear f7
      try clear f8
      try clear p2
      obtain ⟨D,rfl,HA,e9,L,Q,J,B,G⟩:=hrel;cases gk with
      | zero=>exact absurd HA.1 (by simp [bellpulllaw05_CountStar.l1])
      | succ k2 =>
       have H:=HA.1;clear HA;simp only [bellpulllaw05_CountStar.l1] at H
       by_cases c13:D < (I.length:Int)
       ·
        rw [if_pos c13] at H;have c13b0:decide (D < (I.length:Int))=true:=decide_eq_true c13;clear c13
        by_cases c14:0 ≤ D
        ·
         rw [if_pos c14] at H;have c14b0:decide (0 ≤ D)=true:=decide_eq_true c14;clear c14;replace H:=Option.bind_eq_some_iff.mp H;obtain ⟨⟨j8,e1⟩,i6,H⟩:=H;(try dsimp only at H);have j6:=mk0 i6;clear i6
         by_cases c16:e1=0
         ·
          rw [if_pos c16] at H;have c16b0:(e1 == 0)=true:=beq_iff_eq.mpr c16;have c16b1:(e1 != 0)=false:=bne_eq_false_iff_eq.mpr c16;clear c16;replace H:=Option.bind_eq_some_iff.mp H;obtain ⟨f1,i7,H⟩:=H;(try dsimp only at H);have j7:=mk0 i7;clear i7
          by_cases h7:j8=true
          ·
           subst h7;have H1:(if f1=true then (bellpulllaw05_CountStar.l1 k2 R T Y a8 I (wrap64 (D + 1))) else (none))=some r:=by rw [if_pos rfl] at H;exact H
           clear H;have H:=H1;clear H1
           by_cases h8:f1=true
           ·
            subst h8;have H1:(bellpulllaw05_CountStar.l1 k2 R T Y a8 I (wrap64 (D + 1)))=some r:=by rw [if_pos rfl] at H;exact H
            clear H;have H:=H1;clear H1;have H':=mk0 H;clear H;obtain ⟨o1,j9,l2⟩:=Kd.N_slice J.1;subst l2;have c2:0 ≤ (D:Int):=of_decide_eq_true (by first|(with_reducible assumption)|assumption);have c5:D < (I.length:Int):=of_decide_eq_true (by first|(with_reducible assumption)|assumption);obtain ⟨d3,e2,e3,g6,d4,b6,b7⟩:=at_L1 (Kd.N_reads' J.1).2.2 D c2 c5;cases g6;obtain ⟨j3,e4,e5,c9⟩:=Kd.N_get J.1 [] D c2 (by first|exact c5|exact of_decide_eq_true (by first|(with_reducible assumption)|assumption)|(have e_:=(Kd.N_reads' J.1).1;omega));obtain ⟨i0,i1,rfl,a9,b0⟩:=Kd.FK_slice_open e5;have Z:=c9 0 _ rfl;rw [Nat.add_zero,show ((Kd.slice 3 (Kd.int .i64))).sz=1 from rfl,Nat.mul_one] at Z;replace Z:=Option.some.inj (Z.symm.trans d4);injection Z with hva_ hvn_ hvc_;rw [hva_] at b0;rw [hvc_] at a9;have a0:=mk0 (show Kd.V (Kd.int .i64) 3 _ w.heap.size _ _ (rd_L1 I D) from Kd.V_mk a9 b0);clear hva_ hvn_ hvc_ b0 a9;clear c9 e4;have F:=mk0 b7;have d5:=mk0 b6;clear b7 b6;replace c2:=eq_true c2;replace c5:=eq_true c5;obtain ⟨l3,l4,l5⟩:=Kd.V_slice Q.1;subst l5;go_wp2_with (first|((with_reducible refine gate_callee (f:=23) rfl ?_);refine goesL_ (some 57) rfl rfl Try.func23 (by kernel_rfl) rfl #[.int .i64 R,.slice l3 Y.length l4,.slice e2 (rd_L1 I D).length e3] rfl (by (try simp only [m0_,m1_,m2_]);first|done|rfl|(simp only [l0_,l1_];rfl)) ?_;(with_reducible refine (count_Has.calls k2 R (fun k_=>(some k_ ≠ (.slice (some d3) I.length j9:Value).ownBlock∧k_ ≠ E)) _ _ Y _ _ (rd_L1 I D) true e1 _ ?side1 ?side2 ?side3 j6.1).mono ?_);(case side1=>exact Q.1);(case side2=>repeat (first|exact (by repeat (first|(with_reducible exact F.1)|(with_reducible refine Kd.C_alloc ?_ _)|(with_reducible refine Kd.C_drewN ?_ _)|(with_reducible refine Kd.C_drew ?_)|exact F.1))|(with_reducible refine Kd.C_alloc ?_ _)|(with_reducible refine Kd.C_drewN ?_ _)|(with_reducible refine Kd.C_drew ?_)));(case side3=>exact d5.1);rintro e o8 ⟨rfl,hb⟩;refine ⟨_,rfl,?_⟩;replace L:=mk0 (Kd.N_below L.1 hb);replace Q:=mk0 (Kd.V_below Q.1 hb);replace J:=mk0 (Kd.N_below J.1 hb);replace a0:=mk0 (Kd.V_below (by (with_reducible repeat (first|apply Kd.V_alloc|apply Kd.V_drewN|apply Kd.V_drew));exact a0.1) hb);replace B:=bkb B hb;replace F:=mk0 (Kd.C_below (by repeat (first|(with_reducible exact F.1)|(with_reducible refine Kd.C_alloc ?_ _)|(with_reducible refine Kd.C_drewN ?_ _)|(with_reducible refine Kd.C_drew ?_)|exact F.1)) hb);replace G:=bst G hb;(try clear hb);have c6:0 ≤ (D:Int):=of_decide_eq_true (by first|(with_reducible assumption)|assumption);have c7:D < (I.length:Int):=of_decide_eq_true (by first|(with_reducible assumption)|assumption);obtain ⟨f2,i8,i9,g7,d6,b8,b9⟩:=at_L1 (Kd.N_reads' J.1).2.2 D c6 c7;obtain rfl:d3=f2:=(by injection g7);obtain ⟨j4,e6,e7,d0⟩:=Kd.N_get J.1 [] D c6 (by first|exact c7|exact of_decide_eq_true (by first|(with_reducible assumption)|assumption)|(have e_:=(Kd.N_reads' J.1).1;omega));obtain ⟨i2,i3,rfl,b1,b2⟩:=Kd.FK_slice_open e7;have a1:=d0 0 _ rfl;rw [Nat.add_zero,show ((Kd.slice 3 (Kd.int .i64))).sz=1 from rfl,Nat.mul_one] at a1;replace a1:=Option.some.inj (a1.symm.trans d6);injection a1 with hva_ hvn_ hvc_;rw [hva_] at b2;rw [hvc_] at b1;have c0:=mk0 (show Kd.V (Kd.int .i64) 3 _ w.heap.size _ _ (rd_L1 I D) from Kd.V_mk b1 b2);clear hva_ hvn_ hvc_ b2 b1;clear d0 e6;have U:=mk0 b9;have d7:=mk0 b8;clear b9 b8;replace c6:=eq_true c6;replace c7:=eq_true c7)|(go_at_call 40;(with_reducible refine (bellpulllaw05_sumOf.calls k2 R _ _ T _ _ (rd_L1 I D) true _ ?side1 ?side2 ?side3 ?side4 j7.1).mono ?_);(case side1=>repeat (first|exact (Kd.N_reads' L.1).2.2|(with_reducible refine Kd.C_alloc ?_ _)|(with_reducible refine Kd.C_drewN ?_ _)|(with_reducible refine Kd.C_drew ?_)));(case side2=>exact (Kd.N_reads' L.1).2.1);(case side3=>repeat (first|exact (by repeat (first|(with_reducible exact U.1)|(with_reducible refine Kd.C_alloc ?_ _)|(with_reducible refine Kd.C_drewN ?_ _)|(with_reducible refine Kd.C_drew ?_)|exact U.1))|(with_reducible refine Kd.C_alloc ?_ _)|(with_reducible refine Kd.C_drewN ?_ _)|(with_reducible refine Kd.C_drew ?_)));(case side4=>exact d7.1);rintro e o9 ⟨rfl,hb⟩;replace L:=mk0 (Kd.N_below L.1 hb);replace Q:=mk0 (Kd.V_below Q.1 hb);replace J:=mk0 (Kd.N_below J.1 hb);replace a0:=mk0 (Kd.V_below (by (with_reducible repeat (first|apply Kd.V_alloc|apply Kd.V_drewN|apply Kd.V_drew));exact a0.1) hb);replace c0:=mk0 (Kd.V_below (by (with_reducible repeat (first|apply Kd.V_alloc|apply Kd.V_drewN|apply Kd.V_drew));exact c0.1) hb);replace B:=bkb B hb;replace F:=mk0 (Kd.C_below (by repeat (first|(with_reducible exact F.1)|(with_reducible refine Kd.C_alloc ?_ _)|(with_reducible refine Kd.C_drewN ?_ _)|(with_reducible refine Kd.C_drew ?_)|exact F.1)) hb);replace U:=mk0 (Kd.C_below (by repeat (first|(with_reducible exact U.1)|(with_reducible refine Kd.C_alloc ?_ _)|(with_reducible refine Kd.C_drewN ?_ _)|(with_reducible refine Kd.C_drew ?_)|exact U.1)) hb);replace G:=bst G hb;(try clear hb)))
            go_roundg k2
            case measure=>have:=e8.1;have:=e9.1;omega
            case rel=>exact ⟨(wrap64 (D + 1)),(by first|rfl|(simp;done)|(simp [*];done)),H',⟨by have:=e8.1;have:=e9.1;omega⟩,⟨by (with_reducible repeat (first|apply Kd.N_alloc|apply Kd.N_drewN|apply Kd.N_drew));exact L.1⟩,⟨by (with_reducible repeat (first|apply Kd.V_alloc|apply Kd.V_drewN|apply Kd.V_drew));exact Q.1⟩,⟨by (with_reducible repeat (first|apply Kd.N_alloc|apply Kd.N_drewN|apply Kd.N_drew));exact J.1⟩,⟨by exact B.1⟩,⟨by repeat (first|(with_reducible first|exact G.1|apply below_alloc|apply pw_below_drewN|apply below_drew1|refine below_set ?_ b4.1)|exact G.1)⟩⟩
           ·
            replace h8:=Bool.eq_false_iff.mpr h8;subst h8;have H1:(none)=some r:=by rw [if_neg (show ¬ (false=true) by decide)] at H;exact H
            clear H;have H:=H1;clear H1;exact absurd H (by simp)
          ·
           replace h7:=Bool.eq_false_iff.mpr h7;subst h7;have H1:(if f1=true then (none) else (bellpulllaw05_CountStar.l1 k2 R T Y a8 I (wrap64 (D + 1))))=some r:=by rw [if_neg (show ¬ (false=true) by decide)] at H;exact H
           clear H;have H:=H1;clear H1
           by_cases h9:f1=true
           ·
            subst h9;have H1:(none)=some r:=by rw [if_pos rfl] at H;exact H
            clear H;have H:=H1;clear H1;exact absurd H (by simp)
           ·
            replace h9:=Bool.eq_false_iff.mpr h9;subst h9;have H1:(bellpulllaw05_CountStar.l1 k2 R T Y a8 I (wrap64 (D + 1)))=some r:=by rw [if_neg (show ¬ (false=true) by decide)] at H;exact H
            clear H;have H:=H1;clear H1;have H':=mk0 H;clear H;obtain ⟨o2,l6,l7⟩:=Kd.N_slice J.1;subst l7;have c2:0 ≤ (D:Int):=of_decide_eq_true (by first|(with_reducible assumption)|assumption);have c5:D < (I.length:Int):=of_decide_eq_true (by first|(with_reducible assumption)|assumption);obtain ⟨d3,e2,e3,g6,d4,b6,b7⟩:=at_L1 (Kd.N_reads' J.1).2.2 D c2 c5;cases g6;obtain ⟨j3,e4,e5,c9⟩:=Kd.N_get J.1 [] D c2 (by first|exact c5|exact of_decide_eq_true (by first|(with_reducible assumption)|assumption)|(have e_:=(Kd.N_reads' J.1).1;omega));obtain ⟨i0,i1,rfl,a9,b0⟩:=Kd.FK_slice_open e5;have Z:=c9 0 _ rfl;rw [Nat.add_zero,show ((Kd.slice 3 (Kd.int .i64))).sz=1 from rfl,Nat.mul_one] at Z;replace Z:=Option.some.inj (Z.symm.trans d4);injection Z with hva_ hvn_ hvc_;rw [hva_] at b0;rw [hvc_] at a9;have a0:=mk0 (show Kd.V (Kd.int .i64) 3 _ w.heap.size _ _ (rd_L1 I D) from Kd.V_mk a9 b0);clear hva_ hvn_ hvc_ b0 a9;clear c9 e4;have F:=mk0 b7;have d5:=mk0 b6;clear b7 b6;replace c2:=eq_true c2;replace c5:=eq_true c5;obtain ⟨l8,l9,m0⟩:=Kd.V_slice Q.1;subst m0;go_wp2_with (first|((with_reducible refine gate_callee (f:=23) rfl ?_);refine goesL_ (some 57) rfl rfl Try.func23 (by kernel_rfl) rfl #[.int .i64 R,.slice l8 Y.length l9,.slice e2 (rd_L1 I D).length e3] rfl (by (try simp only [m0_,m1_,m2_]);first|done|rfl|(simp only [l0_,l1_];rfl)) ?_;(with_reducible refine (count_Has.calls k2 R (fun k_=>(some k_ ≠ (.slice (some d3) I.length l6:Value).ownBlock∧k_ ≠ E)) _ _ Y _ _ (rd_L1 I D) false e1 _ ?side1 ?side2 ?side3 j6.1).mono ?_);(case side1=>exact Q.1);(case side2=>repeat (first|exact (by repeat (first|(with_reducible exact F.1)|(with_reducible refine Kd.C_alloc ?_ _)|(with_reducible refine Kd.C_drewN ?_ _)|(with_reducible refine Kd.C_drew ?_)|exact F.1))|(with_reducible refine Kd.C_alloc ?_ _)|(with_reducible refine Kd.C_drewN ?_ _)|(with_reducible refine Kd.C_drew ?_)));(case side3=>exact d5.1);rintro e p0 ⟨rfl,hb⟩;refine ⟨_,rfl,?_⟩;replace L:=mk0 (Kd.N_below L.1 hb);replace Q:=mk0 (Kd.V_below Q.1 hb);replace J:=mk0 (Kd.N_below J.1 hb);replace a0:=mk0 (Kd.V_below (by (with_reducible repeat (first|apply Kd.V_alloc|apply Kd.V_drewN|apply Kd.V_drew));exact a0.1) hb);replace B:=bkb B hb;replace F:=mk0 (Kd.C_below (by repeat (first|(with_reducible exact F.1)|(with_reducible refine Kd.C_alloc ?_ _)|(with_reducible refine Kd.C_drewN ?_ _)|(with_reducible refine Kd.C_drew ?_)|exact F.1)) hb);replace G:=bst G hb;(try clear hb);have c6:0 ≤ (D:Int):=of_decide_eq_true (by first|(with_reducible assumption)|assumption);have c7:D < (I.length:Int):=of_decide_eq_true (by first|(with_reducible assumption)|assumption);obtain ⟨f2,i8,i9,g7,d6,b8,b9⟩:=at_L1 (Kd.N_reads' J.1).2.2 D c6 c7;obtain rfl:d3=f2:=(by injection g7);obtain ⟨j4,e6,e7,d0⟩:=Kd.N_get J.1 [] D c6 (by first|exact c7|exact of_decide_eq_true (by first|(with_reducible assumption)|assumption)|(have e_:=(Kd.N_reads' J.1).1;omega));obtain ⟨i2,i3,rfl,b1,b2⟩:=Kd.FK_slice_open e7;have a1:=d0 0 _ rfl;rw [Nat.add_zero,show ((Kd.slice 3 (Kd.int .i64))).sz=1 from rfl,Nat.mul_one] at a1;replace a1:=Option.some.inj (a1.symm.trans d6);injection a1 with hva_ hvn_ hvc_;rw [hva_] at b2;rw [hvc_] at b1;have c0:=mk0 (show Kd.V (Kd.int .i64) 3 _ w.heap.size _ _ (rd_L1 I D) from Kd.V_mk b1 b2);clear hva_ hvn_ hvc_ b2 b1;clear d0 e6;have U:=mk0 b9;have d7:=mk0 b8;clear b9 b8;replace c6:=eq_true c6;replace c7:=eq_true c7)|(go_at_call 40;(with_reducible refine (bellpulllaw05_sumOf.calls k2 R _ _ T _ _ (rd_L1 I D) false _ ?side1 ?side2 ?side3 ?side4 j7.1).mono ?_);(case side1=>repeat (first|exact (Kd.N_reads' L.1).2.2|(with_reducible refine Kd.C_alloc ?_ _)|(with_reducible refine Kd.C_drewN ?_ _)|(with_reducible refine Kd.C_drew ?_)));(case side2=>exact (Kd.N_reads' L.1).2.1);(case side3=>repeat (first|exact (by repeat (first|(with_reducible exact U.1)|(with_reducible refine Kd.C_alloc ?_ _)|(with_reducible refine Kd.C_drewN ?_ _)|(with_reducible refine Kd.C_drew ?_)|exact U.1))|(with_reducible refine Kd.C_alloc ?_ _)|(with_reducible refine Kd.C_drewN ?_ _)|(with_reducible refine Kd.C_drew ?_)));(case side4=>exact d7.1);rintro e p1 ⟨rfl,hb⟩;replace L:=mk0 (Kd.N_below L.1 hb);replace Q:=mk0 (Kd.V_below Q.1 hb);replace J:=mk0 (Kd.N_below J.1 hb);replace a0:=mk0 (Kd.V_below (by (with_reducible repeat (first|apply Kd.V_alloc|apply Kd.V_drewN|apply Kd.V_drew));exact a0.1) hb);replace c0:=mk0 (Kd.V_below (by (with_reducible repeat (first|apply Kd.V_alloc|apply Kd.V_drewN|apply Kd.V_drew));exact c0.1) hb);replace B:=bkb B hb;replace F:=mk0 (Kd.C_below (by repeat (first|(with_reducible exact F.1)|(with_reducible refine Kd.C_alloc ?_ _)|(with_reducible refine Kd.C_drewN ?_ _)|(with_reducible refine Kd.C_drew ?_)|exact F.1)) hb);replace U:=mk0 (Kd.C_below (by repeat (first|(with_reducible exact U.1)|(with_reducible refine Kd.C_alloc ?_ _)|(with_reducible refine Kd.C_drewN ?_ _)|(with_reducible refine Kd.C_drew ?_)|exact U.1)) hb);replace G:=bst G hb;(try clear hb)))
            go_roundg k2
            case measure=>have:=e8.1;have:=e9.1;omega
            case rel=>exact ⟨(wrap64 (D + 1)),(by first|rfl|(simp;done)|(simp [*];done)),H',⟨by have:=e8.1;have:=e9.1;omega⟩,⟨by (with_reducible repeat (first|apply Kd.N_alloc|apply Kd.N_drewN|apply Kd.N_drew));exact L.1⟩,⟨by (with_reducible repeat (first|apply Kd.V_alloc|apply Kd.V_drewN|apply Kd.V_drew));exact Q.1⟩,⟨by (with_reducible repeat (first|apply Kd.N_alloc|apply Kd.N_drewN|apply Kd.N_drew));exact J.1⟩,⟨by exact B.1⟩,⟨by repeat (first|(with_reducible first|exact G.1|apply below_alloc|apply pw_below_drewN|apply below_drew1|refine below_set ?_ b4.1)|exact G.1)⟩⟩
         ·
          rw [if_neg c16] at H;exact absurd H (by simp)
        ·
         rw [if_neg c14] at H;exact absurd H (by simp)
       ·
        rw [if_neg c13] at H;have c13b0:decide (D < (I.length:Int))=false:=decide_eq_false c13;clear c13;have H':=mk0 H;clear H;obtain ⟨o3,o4,m1⟩:=Kd.N_slice J.1;subst m1;go_wp2;go_roundg k2
        case measure=>have:=e8.1;have:=e9.1;omega
        case rel=>exact ⟨(wrap64 (a8 + 1)),(by first|rfl|(simp;done)|(simp [*];done)),H',⟨by have:=e8.1;have:=e9.1;omega⟩,⟨by (with_reducible repeat (first|apply Kd.N_alloc|apply Kd.N_drewN|apply Kd.N_drew));exact Kd.N_mono L.1 (fun _ hk=>hk.2)⟩,⟨by (with_reducible repeat (first|apply Kd.V_alloc|apply Kd.V_drewN|apply Kd.V_drew));exact Kd.V_mono Q.1 (fun _ hk=>hk.2)⟩,⟨by exact B.1⟩,⟨by repeat (first|(with_reducible first|exact G.1|apply below_alloc|apply pw_below_drewN|apply below_drew1|refine below_set ?_ b4.1)|exact G.1)⟩⟩
    ·
     rw [if_neg c10] at H;have c10b0:decide (a8 ≤ 5)=false:=decide_eq_false c10;clear c10;replace H:=Option.bind_eq_some_iff.mp H;obtain ⟨m2,j0,H⟩:=H;(try dsimp only at H);have h6:=mk0 j0;clear j0;obtain rfl:=Option.some.inj H;go_wp2_with (first|((with_reducible refine gate_callee (f:=22) rfl ?_);refine goesL_ (some 73) rfl rfl Try.func22 (by kernel_rfl) rfl #[] rfl (by (try simp only [m0_,m1_,m2_]);first|done|rfl|(simp only [l0_,l1_];rfl)) ?_;(with_reducible refine (bellpulllaw05_lives.calls k1  m2 _ h6.1).mono ?_);rintro e p3 ⟨rfl,hb⟩;refine ⟨_,rfl,?_⟩;replace L:=mk0 (Kd.N_below L.1 hb);replace Q:=mk0 (Kd.V_below Q.1 hb);replace B:=bkb B hb;replace G:=bst G hb;(try clear hb)));go_ret;exact ⟨by first|rfl|(simp [errW_none,errW_some] <;> rfl)|(simp [*,errW_none,errW_some] <;> rfl),by repeat (first|(with_reducible first|exact G.1|apply below_alloc|apply pw_below_drewN|apply below_drew1|refine below_set ?_ b4.1)|exact G.1)⟩
 ·
  rw [if_neg c4] at H;have c4b0:(b5 == 0)=false:=beq_eq_false_iff_ne.mpr c4;have c4b1:(b5 != 0)=true:=bne_iff_ne.mpr c4
  by_cases c32:b5=7
  ·
   rw [if_pos c32] at H;have c32b0:(b5 == 7)=true:=beq_iff_eq.mpr c32;have c32b1:(b5 != 7)=false:=bne_eq_false_iff_eq.mpr c32;clear c32
   by_cases c33:(Y.length:Int)=0
   ·
    rw [if_pos c33] at H;have c33b0:((Y.length:Int) == 0)=true:=beq_iff_eq.mpr c33;have c33b1:((Y.length:Int) != 0)=false:=bne_eq_false_iff_eq.mpr c33;clear c33;replace H:=Option.bind_eq_some_iff.mp H;obtain ⟨g2,j1,H⟩:=H;(try dsimp only at H);have n8:=mk0 j1;clear j1;obtain rfl:=Option.some.inj H;go_enter Try.func11,Try.ntmps11;go_wp2_with (first|((with_reducible refine gate_dst (N:=1) rfl ?_);(try (refine gate_guard (by rfl) ?_;dsimp only));refine box_event ?hg (N:=1) ?hd (cs:=#[.int .u8 X,.slice a3 M.length a4,.slice a5 O.length a6]) (t:=55) ?hr ?_;(case hd=>rfl);(case hg=>rfl);(case hr=>first|(go_simp;done)|(go_simp;rfl));intro E hg p4 e0 hb;have B:=mk0 (e0);have f0:=szw hg G;have b4:=f0;replace G:=bst G hb;clear hb e0 hg;have m7:=q0_ B;have m8:=q1_ B;have m9:=q2_ B;have n0:=blk_frozen B.1 0;have n1:=blk_frozen B.1 1;have n2:=blk_frozen B.1 2)|((with_reducible refine gate_callee (f:=33) rfl ?_);refine goesL_ (some 15) rfl rfl Try.func33 (by kernel_rfl) rfl #[.agg #[.int .u8 X,.slice a3 M.length a4,.slice a5 O.length a6],.int .i64 2] rfl (by (try simp only [m0_,m1_,m2_]);first|done|rfl|(simp only [l0_,l1_];rfl)) ?_;(with_reducible refine (bellpulllaw05_Plan_sets.calls X _ _ M _ _ O 2 R T i4 _ ?side1 ?side2 ?side3 ?side4 A2.1).mono ?_);(case side1=>repeat (first|exact (Kd.C_below h2.1 G.1)|(with_reducible refine Kd.C_alloc ?_ _)|(with_reducible refine Kd.C_drewN ?_ _)|(with_reducible refine Kd.C_drew ?_)));(case side2=>exact h3.1);(case side3=>repeat (first|exact (Kd.C_below h4.1 G.1)|(with_reducible refine Kd.C_alloc ?_ _)|(with_reducible refine Kd.C_drewN ?_ _)|(with_reducible refine Kd.C_drew ?_)));(case side4=>exact h5.1);rintro e p5 ⟨g3,d1,rfl,a7,f9,hb⟩;refine ⟨_,rfl,?_⟩;have a2:=mk0 (Kd.N_lower (Kd.N_mono (ok':=fun k_=>some k_ ≠ (d1:Value).ownBlock∧k_ ≠ E) (Kd.R_N (Kd.R_bound a7)) (fun k_ hk_=>⟨hk_.1,(Kd.freshB (g:=E) (o:=.cells #[.int .u8 X,.slice a3 M.length a4,.slice a5 O.length a6] 55 (0,0)) B.1 k_ hk_.2.1)⟩)) (below_size G.1));have b3:=mk0 (Kd.N_lower (Kd.N_mono (ok':=fun k_=>some k_ ≠ (g3:Value).ownBlock∧k_ ≠ E) (Kd.R_N (Kd.R_bound f9)) (fun k_ hk_=>⟨hk_.1,(Kd.freshB (g:=E) (o:=.cells #[.int .u8 X,.slice a3 M.length a4,.slice a5 O.length a6] 55 (0,0)) B.1 k_ hk_.2.1)⟩)) (below_size G.1));replace B:=bkb B hb;replace G:=bst G hb;(try clear hb);(try clear a7);(try clear f9);obtain ⟨m3,m4,m5⟩:=Kd.N_slice a2.1;subst m5)|((with_reducible refine gate_callee (f:=39) rfl ?_);refine goesL_ (some 22) rfl rfl Try.func39 (by kernel_rfl) rfl #[.int .i64 R,.slice m3 T.length m4] rfl (by (try simp only [m0_,m1_,m2_]);first|done|rfl|(simp only [l0_,l1_];rfl)) ?_;(with_reducible refine (count_Star.calls k R (fun k_=>(some k_ ≠ (d1:Value).ownBlock∧k_ ≠ E)) _ _ T Y b5 _ ?side1 A3.1).mono ?_);(case side1=>exact Kd.N_V (a2.1));rintro e p6 ⟨g4,rfl,a7,hb⟩;refine ⟨_,rfl,?_⟩;have d2:=mk0 (Kd.V_lower (Kd.V_mono (ok':=fun k_=>some k_ ≠ (d1:Value).ownBlock∧k_ ≠ E) a7 (fun k_ hk_=>⟨Or.elim hk_ (fun hs_=>hs_.1) (fun hn_=>(Kd.fresh' (Kd.N_lt b3.1) k_ hn_)),Or.elim hk_ (fun hs_=>hs_.2) (fun hn_=>(Kd.freshB (g:=E) (o:=.cells #[.int .u8 X,.slice a3 M.length a4,.slice a5 O.length a6] 55 (0,0)) B.1 k_ hn_))⟩)) (below_size G.1));replace a2:=mk0 (Kd.N_below a2.1 hb);replace b3:=mk0 (Kd.N_below b3.1 hb);replace B:=bkb B hb;replace G:=bst G hb;(try clear hb);(try clear a7);obtain ⟨o5,o6,m6⟩:=Kd.V_slice d2.1;subst m6)|(go_at_call 22;(with_reducible refine (bellpulllaw05_lives.calls k  g2 _ n8.1).mono ?_);rintro e p7 ⟨rfl,hb⟩;replace a2:=mk0 (Kd.N_below a2.1 hb);replace b3:=mk0 (Kd.N_below b3.1 hb);replace d2:=mk0 (Kd.V_below d2.1 hb);replace B:=bkb B hb;replace G:=bst G hb;(try clear hb)))
    go_ret;exact ⟨by first|rfl|(simp [errW_none,errW_some] <;> rfl)|(simp [*,errW_none,errW_some] <;> rfl),by repeat (first|(with_reducible first|exact G.1|apply below_alloc|apply pw_below_drewN|apply below_drew1|refine below_set ?_ b4.1)|exact G.1)⟩
   ·
    rw [if_neg c33] at H;exact absurd H (by simp)
  ·
   rw [if_neg c32] at H;exact absurd H (by simp)
end Go.Proofs.Ytkonljiembcdlaa.PC
/- Small tools for statements of the form 'with enough rounds the answer is r'. -/
set_option linter.unusedVariables false
set_option linter.unusedSimpArgs false
namespace Go.Proofs.Ytkonljiembcdlaa.Pure
open Go.RowKit Go.Proofs.YtkonljiembcdlaaW.PrintWords
theorem wrap_id {x:Int} (h0:-9223372036854775808 ≤ x) (h1:x ≤ 9223372036854775807):wrap64 x=x:=by
  unfold wrap64;omega
section
variable {α β:Type} {g a b:Nat → Option α} {r:α}
theorem Ev.rounds (h:Ev g r):∃ k,g k=some r:=by
  obtain ⟨K,hK⟩:=h
  exact ⟨K,hK K (Nat.le_refl _)⟩
theorem Ev.succ (h:Ev (fun k=>g (k + 1)) r):Ev g r:=Ev.step (fun _=>rfl) h
theorem Ev.pos {c:Prop} [Decidable c] (hc:c) (h:Ev a r):Ev (fun k=>if c then a k else b k) r:=by
  simpa only [if_pos hc] using h
theorem Ev.neg {c:Prop} [Decidable c] (hc:¬ c) (h:Ev b r):Ev (fun k=>if c then a k else b k) r:=by
  simpa only [if_neg hc] using h
theorem Ev.bindc {o:Option β} {f:Nat → β → Option α} {x:β} (ho:o=some x) (h:Ev (fun k=>f k x) r):Ev (fun k=>o.bind (f k)) r:=by
  subst ho;simpa only [Option.bind_some] using h
end
theorem rd_app (pre:List Int) (x:Int) (t:List Int):rd (pre ++ x :: t) (pre.length:Int)=x:=by
  simp [rd,List.getD_eq_getElem?_getD]
theorem rd_nat (l:List Int) (j:Nat) (h:j < l.length):rd l (j:Int)=l[j]:=by
  simp [rd,List.getD_eq_getElem?_getD,List.getElem?_eq_getElem h]
theorem wf_u8 {a:Int} (h:(Lit.int .u8 a).wf=true):0 ≤ a∧a ≤ 255:=by
  simp only [Lit.wf,Bool.and_eq_true,decide_eq_true_eq] at h
  exact h
end Go.Proofs.Ytkonljiembcdlaa.Pure
/- Sums of periods, in plain Lean. -/
set_option linter.unusedVariables false
namespace Go.Proofs.Ytkonljiembcdlaa.Sem
abbrev Vec:=List Int
def addV:Vec → Vec → Vec
  | x :: v,y :: w=>(x + y) :: addV v w
  | _,_=>[]
def subV:Vec → Vec → Vec
  | x :: v,y :: w=>(x - y) :: subV v w
  | _,_=>[]
def zeroN (d:Nat):Vec:=List.replicate d 0
def nnV (v:Vec):Prop:=∀ x,x ∈ v → 0 ≤ x
instance (v:Vec):Decidable (nnV v):=by unfold nnV;infer_instance
theorem addV_comm:∀ v w:Vec,addV v w=addV w v
  | [],[]=>rfl
  | [],y :: w=>rfl
  | x :: v,[]=>rfl
  | x :: v,y :: w=>by rw [addV,addV,addV_comm v w,Int.add_comm]
theorem addV_assoc:∀ v w u:Vec,addV (addV v w) u=addV v (addV w u)
  | [],w,u=>by simp [addV]
  | x :: v,[],u=>by simp [addV]
  | x :: v,y :: w,[]=>by simp [addV]
  | x :: v,y :: w,z :: u=>by rw [addV,addV,addV,addV,addV_assoc v w u,Int.add_assoc]
theorem addV_swap (v w u:Vec):addV (addV v w) u=addV (addV v u) w:=by
  rw [addV_assoc,addV_comm w u,← addV_assoc]
theorem addV_len {d:Nat}:∀ {v w:Vec},v.length=d → w.length=d → (addV v w).length=d:=by
  induction d with
  | zero=>intro v w hv hw;rw [List.length_eq_zero_iff.1 hv,List.length_eq_zero_iff.1 hw];rfl
  | succ d ih =>
    intro v w hv hw
    match v,w,hv,hw with
    | x :: v,y :: w,hv,hw=>simp at hv hw;simp [addV,ih hv hw]
theorem subV_len {d:Nat}:∀ {v w:Vec},v.length=d → w.length=d → (subV v w).length=d:=by
  induction d with
  | zero=>intro v w hv hw;rw [List.length_eq_zero_iff.1 hv,List.length_eq_zero_iff.1 hw];rfl
  | succ d ih =>
    intro v w hv hw
    match v,w,hv,hw with
    | x :: v,y :: w,hv,hw=>simp at hv hw;simp [subV,ih hv hw]
theorem zeroN_len (d:Nat):(zeroN d).length=d:=List.length_replicate
theorem zeroN_mem {d:Nat} {x:Int} (h:x ∈ zeroN d):x=0:=List.eq_of_mem_replicate h
theorem zeroN_succ (d:Nat):zeroN (d + 1)=0 :: zeroN d:=rfl
theorem eq_zeroN:∀ {v:Vec} {d:Nat},v.length=d → (∀ x,x ∈ v → x=0) → v=zeroN d
  | v,d,h,hz=>List.eq_replicate_iff.2 ⟨h,hz⟩
theorem addV_zero:∀ {v:Vec} {d:Nat},v.length=d → addV v (zeroN d)=v
  | [],0,_=>rfl
  | x :: v,d + 1,h=>by
    simp at h
    rw [zeroN_succ,addV,addV_zero h,Int.add_zero]
theorem zero_addV {v:Vec} {d:Nat} (h:v.length=d):addV (zeroN d) v=v:=by rw [addV_comm,addV_zero h]
theorem subV_add:∀ {v w:Vec},v.length=w.length → addV (subV v w) w=v
  | [],[],_=>rfl
  | x :: v,y :: w,h=>by
    simp at h
    rw [subV,addV,subV_add h,Int.sub_add_cancel]
theorem addV_sub:∀ {v w:Vec},v.length=w.length → subV (addV v w) w=v
  | [],[],_=>rfl
  | x :: v,y :: w,h=>by
    simp at h
    rw [addV,subV,addV_sub h,Int.add_sub_cancel]
theorem sum_addV:∀ {v w:Vec},v.length=w.length → (addV v w).sum=v.sum + w.sum
  | [],[],_=>rfl
  | x :: v,y :: w,h=>by
    simp at h
    rw [addV,List.sum_cons,List.sum_cons,List.sum_cons,sum_addV h]
    omega
theorem sum_subV {v w:Vec} (h:v.length=w.length):(subV v w).sum=v.sum - w.sum:=by
  have h1:=sum_addV (v:=subV v w) (w:=w) (by rw [subV_len h rfl])
  rw [subV_add h] at h1
  omega
theorem sum_zeroN:∀ d,(zeroN d).sum=0
  | 0=>rfl
  | d + 1=>by rw [zeroN_succ,List.sum_cons,sum_zeroN d];rfl
theorem nn_addV:∀ {v w:Vec},nnV v → nnV w → nnV (addV v w)
  | [],w,_,_=>by intro x hx;simp [addV] at hx
  | x :: v,[],_,_=>by intro x hx;simp [addV] at hx
  | x :: v,y :: w,hv,hw=>by
    intro z hz
    rw [addV] at hz
    rcases List.mem_cons.1 hz with rfl|hz
    · have:=hv x (by simp)
      have:=hw y (by simp)
      omega
    · exact nn_addV (fun a ha=>hv a (by simp [ha])) (fun a ha=>hw a (by simp [ha])) z hz
theorem sum_nn:∀ {v:Vec},nnV v → 0 ≤ v.sum
  | [],_=>by simp
  | x :: v,h=>by
    rw [List.sum_cons]
    have:=h x (by simp)
    have:=sum_nn (v:=v) (fun a ha=>h a (by simp [ha]))
    omega
theorem zero_of_sum:∀ {v:Vec},nnV v → v.sum=0 → ∀ x,x ∈ v → x=0
  | [],_,_=>by simp
  | x :: v,h,hs=>by
    rw [List.sum_cons] at hs
    have h1:=h x (by simp)
    have h2:=sum_nn (v:=v) (fun a ha=>h a (by simp [ha]))
    intro y hy
    rcases List.mem_cons.1 hy with rfl|hy
    · omega
    · exact zero_of_sum (fun a ha=>h a (by simp [ha])) (by omega) y hy
theorem mem_le_sum:∀ {v:Vec},nnV v → ∀ x,x ∈ v → x ≤ v.sum
  | [],_,x,hx=>by simp at hx
  | y :: v,h,x,hx=>by
    rw [List.sum_cons]
    have h1:=h y (by simp)
    have h2:=sum_nn (v:=v) (fun a ha=>h a (by simp [ha]))
    rcases List.mem_cons.1 hx with rfl|hx
    · omega
    · have:=mem_le_sum (v:=v) (fun a ha=>h a (by simp [ha])) x hx
      omega
theorem nn_zeroN (d:Nat):nnV (zeroN d):=fun x hx=>by rw [zeroN_mem hx];decide
inductive Comb (d:Nat) (ps:List Vec):Vec → Prop
  | zero:Comb d ps (zeroN d)
  | add {p w}:p ∈ ps → Comb d ps w → Comb d ps (addV w p)
def okD (d:Nat) (ps:List Vec):Prop:=∀ p,p ∈ ps → p.length=d∧nnV p
theorem okD.tail {d:Nat} {p:Vec} {ps:List Vec} (h:okD d (p :: ps)):okD d ps:=fun q hq=>h q (by simp [hq])
section
variable {d:Nat} {ps:List Vec}
theorem Comb.len (hp:okD d ps) {v:Vec} (h:Comb d ps v):v.length=d:=by
  induction h with
  | zero=>exact zeroN_len d
  | add h1 _ ih=>exact addV_len ih (hp _ h1).1
theorem Comb.nn (hp:okD d ps) {v:Vec} (h:Comb d ps v):nnV v:=by
  induction h with
  | zero=>exact nn_zeroN d
  | add h1 _ ih=>exact nn_addV ih (hp _ h1).2
theorem Comb.mono {qs:List Vec} (hs:∀ p,p ∈ ps → p ∈ qs) {v:Vec} (h:Comb d ps v):Comb d qs v:=by
  induction h with
  | zero=>exact .zero
  | add h1 _ ih=>exact .add (hs _ h1) ih
theorem Comb.plus (hp:okD d ps) {v w:Vec} (h:Comb d ps v) (k:Comb d ps w):Comb d ps (addV v w):=by
  induction k with
  | zero=>rw [addV_zero (h.len hp)];exact h
  | add h1 _ ih=>rw [← addV_assoc];exact .add h1 ih
theorem Comb.one (hp:okD d ps) {p:Vec} (h:p ∈ ps):Comb d ps p:=by
  have:=Comb.add (d:=d) h .zero
  rwa [zero_addV (hp p h).1] at this
theorem comb_nil {v:Vec}:Comb d [] v ↔ v=zeroN d :=
  ⟨fun h=>by cases h with
    | zero=>rfl
    | add h1 _=>simp at h1,fun h=>h ▸ .zero⟩
theorem comb_cons {p v:Vec}:Comb d (p :: ps) v ↔ Comb d ps v ∨ ∃ w,Comb d (p :: ps) w∧v=addV w p:=by
  constructor
  · intro h
    induction h with
    | zero=>exact .inl .zero
    | @add q w h1 h2 ih =>
      rcases List.mem_cons.1 h1 with rfl|h1
      · exact .inr ⟨w,h2,rfl⟩
      · rcases ih with ih|⟨u,hu,rfl⟩
        · exact .inl (.add h1 ih)
        · exact .inr ⟨addV u q,.add (by simp [h1]) hu,addV_swap _ _ _⟩
  · rintro (h|⟨w,h,rfl⟩)
    · exact h.mono (fun q hq=>by simp [hq])
    · exact .add (by simp) h
theorem comb_sub {p v:Vec} (hp:okD d (p :: ps)) (hv:v.length=d):Comb d (p :: ps) v ↔ Comb d ps v ∨ Comb d (p :: ps) (subV v p):=by
  have hl:v.length=p.length:=hv.trans (hp p (by simp)).1.symm
  rw [comb_cons]
  constructor
  · rintro (h|⟨w,h,rfl⟩)
    · exact .inl h
    · rw [addV_sub ((h.len hp).trans (hp p (by simp)).1.symm)]
      exact .inr h
  · rintro (h|h)
    · exact .inl h
    · exact .inr ⟨_,h,(subV_add hl).symm⟩
theorem comb_skip {p:Vec} (hz:p=zeroN d) (hp:okD d ps) {v:Vec}:Comb d (p :: ps) v ↔ Comb d ps v:=by
  constructor
  · intro h
    induction h with
    | zero=>exact .zero
    | add h1 _ ih =>
      rcases List.mem_cons.1 h1 with rfl|h1
      · rw [hz,addV_zero (ih.len hp)];exact ih
      · exact .add h1 ih
  · exact fun h=>h.mono (fun q hq=>by simp [hq])
theorem comb_filter (hp:okD d ps) (f:Vec → Bool) (hf:∀ p,p ∈ ps → f p=false → p=zeroN d) {v:Vec}:Comb d (ps.filter f) v ↔ Comb d ps v:=by
  constructor
  · exact fun h=>h.mono (fun q hq=>(List.mem_filter.1 hq).1)
  · intro h
    have ho:okD d (ps.filter f):=fun q hq=>hp q (List.mem_filter.1 hq).1
    induction h with
    | zero=>exact .zero
    | @add p w h1 _ ih =>
      cases hb:f p with
      | true=>exact .add (List.mem_filter.2 ⟨h1,hb⟩) ih
      | false=>rw [hf p h1 hb,addV_zero (ih.len ho)];exact ih
end
end Go.Proofs.Ytkonljiembcdlaa.Sem
/- Differences of vectors, and sums of periods, as the program and the reference take them, in plain Lean. -/
set_option linter.unusedVariables false
set_option linter.unusedSimpArgs false
namespace Go.Proofs.Ytkonljiembcdlaa.Pure
open Go.RowKit Go.Proofs.MyWords Go.Proofs.YtkonljiembcdlaaW.PrintWords Go.Proofs.YtkonljiembcdlaaW.PrintLast Go.Proofs.YtkonljiembcdlaaW.PrintMore Go.Proofs.Ytkonljiembcdlaa.PC Go.Proofs.Ytkonljiembcdlaa.Sem
theorem getD_app {α:Type} (pre:List α) (x:α) (t:List α) (d:α):(pre ++ x :: t).getD ((pre.length:Int)).toNat d=x:=by
  simp [List.getD_eq_getElem?_getD]
theorem rdL1_app (pre:List (List Int)) (x:List Int) (t:List (List Int)):rd_L1 (pre ++ x :: t) (pre.length:Int)=x:=getD_app _ _ _ _
theorem rdL4_app (pre:List (List S60)) (x:List S60) (t:List (List S60)):rd_L4 (pre ++ x :: t) (pre.length:Int)=x:=getD_app _ _ _ _
theorem rdT60_app (pre:List S60) (x:S60) (t:List S60):rd_T60 (pre ++ x :: t) (pre.length:Int)=x:=getD_app _ _ _ _
theorem wsucc {n:Nat} (h:n < 4611686018427387904):wrap64 ((n:Int) + 1)=((n + 1:Nat):Int):=by rw [wrap_id (by omega) (by omega)];omega
theorem len_snoc {α:Type} (pre:List α) (x:α):pre.length + 1=(pre ++ [x]).length:=by simp
theorem app_snoc {α:Type} (pre:List α) (x:α) (t:List α):pre ++ x :: t=(pre ++ [x]) ++ t:=by simp
theorem lt_app {α:Type} (pre:List α) (x:α) (t:List α):(pre.length:Int) < ((pre ++ x :: t).length:Int):=by simp;omega
theorem set_app {α:Type} (pre:List α) (x y:α) (t:List α):(pre ++ x :: t).set ((pre.length:Int)).toNat y=pre ++ y :: t:=by simp
def inB (m:Int) (v:List Int):Prop:=∀ x,x ∈ v → 0 ≤ x∧x ≤ m
theorem inB.nn {m:Int} {v:List Int} (h:inB m v):nnV v:=fun x hx=>(h x hx).1
theorem outside_iff (v:List Int) (m:Int):(v.any fun x=>decide (x < 0) || decide (m < x))=true ↔ ¬ inB m v:=by
  rw [List.any_eq_true]
  constructor
  · rintro ⟨x,hx,h⟩ hi
    have:=hi x hx
    simp at h
    omega
  · intro h
    apply Classical.byContradiction
    intro h2
    refine h (fun x hx=>?_)
    apply Classical.byContradiction
    intro h3
    exact h2 ⟨x,hx,by simp;omega⟩
theorem less_go (m:Int):∀ (v2 w2 v1 w1 o1:List Int),v1.length=w1.length → o1.length=v1.length → v2.length=w2.length → inB 1000000 v2 → inB 1000000 w2 → (v1 ++ v2).length < 1000000 →
    Ev (fun k=>count_less.l0 k (v1 ++ v2) (w1 ++ w2) (o1 ++ List.replicate v2.length 0) ((v1 ++ v2).length:Int) (v1.length:Int)) (o1 ++ subV v2 w2,!((o1 ++ subV v2 w2).any fun x=>decide (x < 0) || decide (60 < x)))
  | [],[],v1,w1,o1,h1,h2,h3,b1,b2,hl=>by
    refine Ev.succ ?_
    simp only [count_less.l0]
    refine Ev.neg (by simp) ?_
    refine Ev.bindc (x:=(o1 ++ subV [] []).any fun x=>decide (x < 0) || decide (60 < x)) (by simp [count_outside.f,subV]) ?_
    simp [subV]
    exact Ev.now _
  | x :: v2,y :: w2,v1,w1,o1,h1,h2,h3,b1,b2,hl=>by
    have hlen:(v1 ++ x :: v2).length=v1.length + (v2.length + 1):=by simp
    have ih:=less_go m v2 w2 (v1 ++ [x]) (w1 ++ [y]) (o1 ++ [x - y]) (by simp [h1]) (by simp [h2]) (by simpa using h3) (fun z hz=>b1 z (by simp [hz])) (fun z hz=>b2 z (by simp [hz])) (by simp at hl ⊢;omega)
    have bx:=b1 x (by simp)
    have by':=b2 y (by simp)
    refine Ev.succ ?_
    simp only [count_less.l0]
    refine Ev.pos (by simp;omega) (Ev.pos (by omega) (Ev.pos (by simp;omega) (Ev.pos (by simp;omega) (Ev.pos (by simp;omega) ?_))))
    rw [rd_app v1 x v2,show (v1.length:Int)=(w1.length:Int) by omega,rd_app w1 y w2,← h1,wrap_id (by omega) (by omega),wsucc (by simp at hl;omega)]
    rw [← app_snoc,← app_snoc] at ih
    have e:(o1 ++ List.replicate (x :: v2).length 0).set ((v1.length:Int)).toNat (x - y)=o1 ++ [x - y] ++ List.replicate v2.length 0:=by
      rw [← h2,List.length_cons,List.replicate_succ,set_app];simp
    rw [e,len_snoc v1 x,subV]
    rw [List.append_assoc o1 [x - y] (subV v2 w2)] at ih
    exact ih
theorem less_ev {v w:List Int} (h:v.length=w.length) (hv:inB 1000000 v) (hw:inB 1000000 w) (hl:v.length < 1000000):Ev (fun k=>count_less.f k v w) (subV v w,!((subV v w).any fun x=>decide (x < 0) || decide (60 < x))):=by
  have:=less_go 0 v w [] [] [] rfl rfl h hv hw hl
  simp only [List.nil_append,List.length_nil] at this
  unfold count_less.f
  refine Ev.pos (by omega) (Ev.pos (by omega) ?_)
  rw [Int.toNat_natCast]
  exact this
theorem less_ok {m:Int} {v w:List Int} (h:v.length=w.length) (hv:inB 60 v) (hw:inB 1000000 w) (hl:v.length < 1000000):Ev (fun k=>count_less.f k v w) (subV v w,decide (nnV (subV v w))):=by
  have h1:=less_ev h (fun x hx=>⟨(hv x hx).1,by have:=hv x hx;omega⟩) hw hl
  have le60:∀ (v w:List Int),inB 60 v → nnV w → ∀ x,x ∈ subV v w → x ≤ 60:=fun v=>by
    induction v with
    | nil=>intro w _ _ x hx;simp [subV] at hx
    | cons a v ih =>
      intro w hv hw x hx
      match w,hw,hx with
      | b :: w,hw,hx =>
        rw [subV] at hx
        rcases List.mem_cons.1 hx with rfl|hx
        · have:=hv a (by simp)
          have:=hw b (by simp)
          omega
        · exact ih w (fun z hz=>hv z (by simp [hz])) (fun z hz=>hw z (by simp [hz])) x hx
  have e:(!((subV v w).any fun x=>decide (x < 0) || decide (60 < x)))=decide (nnV (subV v w)):=by
    rw [Bool.eq_iff_iff,decide_eq_true_iff,Bool.not_eq_true',← Bool.not_eq_true,outside_iff]
    constructor
    · intro h x hx
      exact (Classical.byContradiction h x hx).1
    · exact fun h hn=>hn (fun x hx=>⟨h x hx,le60 v w hv hw.nn x hx⟩)
  rw [← e]
  exact h1
theorem refLess_go:∀ (v2 w2 v1 w1 o1:List Int) (ok:Bool),v1.length=w1.length → v2.length=w2.length → inB 1000000 v2 → inB 1000000 w2 → (v1 ++ v2).length < 1000000 → o1.length=v1.length →
    Ev (fun k=>bellpullref05_Less.l0 k (v1 ++ v2) (w1 ++ w2) o1 ok (v1.length:Int)) (o1 ++ subV v2 w2,ok && decide (nnV (subV v2 w2)))
  | [],[],v1,w1,o1,ok,h1,h3,b1,b2,hl,ho=>by
    refine Ev.succ ?_
    simp only [bellpullref05_Less.l0]
    refine Ev.neg (by simp) ?_
    have:decide (nnV (subV [] []))=true:=decide_eq_true (fun x hx=>by simp [subV] at hx)
    rw [this]
    simp [subV]
    exact Ev.now _
  | x :: v2,y :: w2,v1,w1,o1,ok,h1,h3,b1,b2,hl,ho=>by
    have ih:∀ ok:Bool,Ev (fun k=>bellpullref05_Less.l0 k (v1 ++ x :: v2) (w1 ++ y :: w2) (o1 ++ [x - y]) ok ((v1.length + 1:Nat):Int)) (o1 ++ (x - y) :: subV v2 w2,ok && decide (nnV (subV v2 w2))):=fun ok=>by
      have:=refLess_go v2 w2 (v1 ++ [x]) (w1 ++ [y]) (o1 ++ [x - y]) ok (by simp [h1]) (by simpa using h3) (fun z hz=>b1 z (by simp [hz])) (fun z hz=>b2 z (by simp [hz])) (by simp at hl ⊢;omega) (by simp [ho])
      rw [← app_snoc,← app_snoc,← len_snoc,List.append_assoc o1] at this
      exact this
    have bx:=b1 x (by simp)
    have by':=b2 y (by simp)
    have e:decide (nnV (subV (x :: v2) (y :: w2)))=(decide (x ≥ y) && decide (nnV (subV v2 w2))):=by
      rw [Bool.eq_iff_iff,Bool.and_eq_true,decide_eq_true_iff,decide_eq_true_iff,decide_eq_true_iff,subV]
      constructor
      · exact fun h=>⟨by have:=h (x - y) (by simp);omega,fun z hz=>h z (by simp [hz])⟩
      · rintro ⟨h,h2⟩ z hz
        rcases List.mem_cons.1 hz with rfl|hz
        · omega
        · exact h2 z hz
    refine Ev.succ ?_
    simp only [bellpullref05_Less.l0]
    refine Ev.pos (by simp;omega) (Ev.pos (by omega) (Ev.pos (by simp;omega) (Ev.pos (by simp at hl;omega) ?_)))
    rw [rd_app v1 x v2,show (v1.length:Int)=(w1.length:Int) by omega,rd_app w1 y w2,← h1,wrap_id (by omega) (by omega),wsucc (by simp at hl;omega)]
    simp only [Option.bind_some]
    rw [e,subV]
    cases ok with
    | true =>
      refine Ev.pos rfl ?_
      rw [Bool.true_and]
      exact ih _
    | false =>
      refine Ev.neg (by simp) ?_
      rw [Bool.false_and]
      have:=ih false
      rw [Bool.false_and] at this
      exact this
theorem refLess_ev {v w:List Int} (h:v.length=w.length) (hv:inB 1000000 v) (hw:inB 1000000 w) (hl:v.length < 1000000):Ev (fun k=>bellpullref05_Less.f k v w) (subV v w,decide (nnV (subV v w))):=by
  have:=refLess_go v w [] [] [] true rfl h hv hw hl rfl
  simp only [List.nil_append,List.length_nil,Bool.true_and] at this
  exact this
theorem refTotal_go:∀ (v2 v1:List Int) (s:Int),inB 1000000 v2 → 0 ≤ s → s ≤ 1000000 * v1.length → (v1 ++ v2).length < 1000000 → Ev (fun k=>bellpullref05_Total.l0 k (v1 ++ v2) s (v1.length:Int)) (s + v2.sum)
  | [],v1,s,_,h0,h1,hl=>by
    refine Ev.succ ?_
    simp only [bellpullref05_Total.l0]
    refine Ev.neg (by simp) ?_
    simp
    exact Ev.now _
  | x :: v2,v1,s,hb,h0,h1,hl=>by
    have bx:=hb x (by simp)
    have ih:=refTotal_go v2 (v1 ++ [x]) (s + x) (fun z hz=>hb z (by simp [hz])) (by omega) (by simp;omega) (by simp at hl ⊢;omega)
    rw [← app_snoc,← len_snoc] at ih
    refine Ev.succ ?_
    simp only [bellpullref05_Total.l0]
    refine Ev.pos (by simp;omega) (Ev.pos (by omega) ?_)
    have hl2:v1.length < 1000000:=by simp at hl;omega
    rw [rd_app,wrap_id (x:=s + x) (by omega) (by omega),wsucc (by omega),List.sum_cons,← Int.add_assoc]
    exact ih
theorem refTotal_ev {v:List Int} (hv:inB 1000000 v) (hl:v.length < 1000000):Ev (fun k=>bellpullref05_Total.f k v) v.sum:=by
  have:=refTotal_go v [] 0 hv (by omega) (by simp) hl
  simp only [List.nil_append,List.length_nil,Int.zero_add] at this
  exact this
end Go.Proofs.Ytkonljiembcdlaa.Pure
/- Has, of the program and of the reference, in plain Lean. -/
set_option linter.unusedVariables false
set_option linter.unusedSimpArgs false
namespace Go.Proofs.Ytkonljiembcdlaa.Pure
open Go.RowKit Go.Proofs.MyWords Go.Proofs.YtkonljiembcdlaaW.PrintWords Go.Proofs.YtkonljiembcdlaaW.PrintLast Go.Proofs.YtkonljiembcdlaaW.PrintMore Go.Proofs.Ytkonljiembcdlaa.PC Go.Proofs.Ytkonljiembcdlaa.Sem
def okV (d:Nat) (m:Int) (v:List Int):Prop:=v.length=d∧inB m v
theorem okV.mono {d:Nat} {m n:Int} {v:List Int} (h:okV d m v) (hm:m ≤ n):okV d n v:=⟨h.1,fun x hx=>⟨(h.2 x hx).1,by have:=h.2 x hx;omega⟩⟩
def okP (d:Nat) (ps:List (List Int)):Prop:=∀ p,p ∈ ps → okV d 1000000 p
theorem okP.okD {d:Nat} {ps:List (List Int)} (h:okP d ps):okD d ps:=fun p hp=>⟨(h p hp).1,(h p hp).2.nn⟩
theorem okP.tail {d:Nat} {p:List Int} {ps:List (List Int)} (h:okP d (p :: ps)):okP d ps:=fun q hq=>h q (by simp [hq])
theorem sub60 {d:Nat} {v w:List Int} (hv:okV d 60 v) (hw:okV d 1000000 w) (h:nnV (subV v w)):okV d 60 (subV v w):=by
  refine ⟨subV_len hv.1 hw.1,fun x hx=>⟨h x hx,?_⟩⟩
  have:∀ (v w:List Int),inB 60 v → nnV w → ∀ x,x ∈ subV v w → x ≤ 60:=fun v=>by
    induction v with
    | nil=>intro w _ _ x hx;simp [subV] at hx
    | cons a v ih =>
      intro w hv hw x hx
      match w,hw,hx with
      | b :: w,hw,hx =>
        rw [subV] at hx
        rcases List.mem_cons.1 hx with rfl|hx
        · have:=hv a (by simp)
          have:=hw b (by simp)
          omega
        · exact ih w (fun z hz=>hv z (by simp [hz])) (fun z hz=>hw z (by simp [hz])) x hx
  exact this v w hv.2 hw.2.nn x hx
theorem zeroV_iff (v:List Int):zeroV v=true ↔ ∀ x,x ∈ v → x=0:=by
  unfold zeroV
  rw [Bool.not_eq_true',← Bool.not_eq_true,List.any_eq_true]
  constructor
  · intro h x hx
    apply Classical.byContradiction
    intro h2
    exact h ⟨x,hx,by simp [h2]⟩
  · rintro h ⟨x,hx,h2⟩
    rw [h x hx] at h2
    simp at h2
theorem zero_f (v:List Int):count_zero.f v=some (zeroV v):=rfl
theorem pos_of_nz {p:List Int} (hn:nnV p) (h:zeroV p=false):0 < p.sum:=by
  have:=sum_nn hn
  rcases Int.lt_or_eq_of_le this with h1|h1
  · exact h1
  · have:=(zeroV_iff p).2 (zero_of_sum hn h1.symm)
    rw [h] at this
    cases this
theorem made_nil (v:List Int):Ev (fun k=>count_made.f k v []) (zeroV v):=by
  refine Ev.succ ?_
  simp only [count_made.f,zero_f,Option.bind_some]
  cases h:zeroV v with
  | true=>exact Ev.pos rfl (Ev.now _)
  | false=>exact Ev.neg (by simp) (Ev.pos (by simp) (Ev.now _))
theorem made_ev (d:Nat) (hd:d < 1000000):∀ (ps:List (List Int)),okP d ps → (∀ p,p ∈ ps → zeroV p=false) → ∀ v,okV d 60 v → ∃ b,Ev (fun k=>count_made.f k v ps) b∧(b=true ↔ Comb d ps v)
  | [],_,_,v,hv=>⟨_,made_nil v,by
      rw [zeroV_iff,comb_nil]
      exact ⟨eq_zeroN hv.1,fun h x hx=>by rw [h] at hx;exact zeroN_mem hx⟩⟩
  | p :: ps,hp,hz,v,hv=>by
    have IH:=made_ev d hd ps hp.tail (fun q hq=>hz q (by simp [hq]))
    have pp:0 < p.sum:=pos_of_nz (hp p (by simp)).2.nn (hz p (by simp))
    have loop:∀ (n:Nat) (v:List Int),v.sum.toNat < n → okV d 60 v → ∃ b,Ev (fun k=>count_made.l0 k v (p :: ps) true) b∧(b=true ↔ Comb d (p :: ps) v):=fun n=>by
      induction n with
      | zero=>intro v h _;omega
      | succ n ih =>
        intro v hn hv
        have hl:v.length=p.length:=hv.1.trans (hp p (by simp)).1.symm
        have hle:=less_ok (m:=0) hl hv.2 (hp p (by simp)).2 (by rw [hv.1];exact hd)
        obtain ⟨b1,e1,i1⟩:=IH v hv
        have hc:=comb_sub hp.okD (v:=v) hv.1
        cases b1 with
        | true =>
          refine ⟨true,?_,⟨fun _=>hc.2 (.inl (i1.1 rfl)),fun _=>rfl⟩⟩
          refine Ev.succ ?_
          simp only [count_made.l0]
          refine Ev.pos trivial (Ev.pos (by simp <;> omega) (Ev.bind e1 (Ev.pos rfl (Ev.now _))))
        | false =>
          have hno:¬ Comb d ps v:=fun h=>by have:=i1.2 h;cases this
          have rd0:rd_L1 (p :: ps) 0=p:=rfl
          have start:∀ b,Ev (fun k=>count_made.l0 k (subV v p) (p :: ps) (decide (nnV (subV v p)))) b → Ev (fun k=>count_made.l0 k v (p :: ps) true) b:=fun b hb=>by
            refine Ev.succ ?_
            simp only [count_made.l0]
            refine Ev.pos trivial (Ev.pos (by simp <;> omega) (Ev.bind e1 (Ev.neg (by simp) (Ev.pos (by simp <;> omega) ?_))))
            rw [rd0]
            exact Ev.bind hle hb
          by_cases hnn:nnV (subV v p)
          · have hs:=sub60 hv (hp p (by simp)) hnn
            have hsum:=sum_subV hl
            have:=sum_nn hs.2.nn
            have:=sum_nn hv.2.nn
            obtain ⟨b,e2,i2⟩:=ih (subV v p) (by omega) hs
            refine ⟨b,start b (by rw [decide_eq_true hnn];exact e2),?_⟩
            rw [i2,hc]
            exact ⟨.inr,fun h=>h.resolve_left hno⟩
          · refine ⟨false,start false (by rw [decide_eq_false hnn];refine Ev.succ ?_;simp only [count_made.l0];exact Ev.neg (by simp) (Ev.now _)),⟨fun h=>(by cases h),fun h=>?_⟩⟩
            rcases hc.1 h with h|h
            · exact absurd h hno
            · exact absurd (h.nn hp.okD) hnn
    cases hzv:zeroV v with
    | true =>
      have:v=zeroN d:=eq_zeroN hv.1 ((zeroV_iff v).1 hzv)
      refine ⟨true,?_,⟨fun _=>this ▸ .zero,fun _=>rfl⟩⟩
      refine Ev.succ ?_
      simp only [count_made.f,zero_f,Option.bind_some,hzv]
      exact Ev.pos trivial (Ev.now _)
    | false =>
      obtain ⟨b,e,i⟩:=loop (v.sum.toNat + 1) v (by omega) hv
      refine ⟨b,?_,i⟩
      refine Ev.succ ?_
      simp only [count_made.f,zero_f,Option.bind_some,hzv]
      exact Ev.neg (by simp) (Ev.neg (by simp <;> omega) e)
def InL (d:Nat) (b:List Int) (ps:List (List Int)) (v:List Int):Prop:=∃ w,Comb d ps w∧v=addV b w
def InS (d:Nat) (set:List S60) (v:List Int):Prop:=∃ l,l ∈ set∧InL d l.f0 l.f1 v
def okL (d:Nat) (l:S60):Prop:=okV d 1000000 l.f0∧okP d l.f1∧l.f1.length ≤ 1000000
theorem inL_sub {d:Nat} {b:List Int} {ps:List (List Int)} (hb:okV d 1000000 b) (hp:okP d ps) {v:List Int} (hv:v.length=d):InL d b ps v ↔ nnV (subV v b)∧Comb d ps (subV v b):=by
  constructor
  · rintro ⟨w,hw,rfl⟩
    have hl:=hw.len hp.okD
    rw [addV_comm,addV_sub (hl.trans hb.1.symm)]
    exact ⟨hw.nn hp.okD,hw⟩
  · rintro ⟨_,h⟩
    exact ⟨_,h,by rw [addV_comm,subV_add (hv.trans hb.1.symm)]⟩
theorem in_ev {d:Nat} (hd:d < 1000000) {l:S60} (hl:okL d l) {v:List Int} (hv:okV d 60 v):∃ b,Ev (fun k=>count_in.f k l.f0 l.f1 v) b∧(b=true ↔ InL d l.f0 l.f1 v):=by
  obtain ⟨hb,hp,hn⟩:=hl
  have hle:=less_ok (m:=0) (hv.1.trans hb.1.symm) hv.2 hb.2 (by rw [hv.1];exact hd)
  have hi:=inL_sub hb hp hv.1
  have start:∀ b,Ev (fun k=>if decide (nnV (subV v l.f0))=true then count_made.f k (subV v l.f0) (l.f1.filter fun x=>!zeroV x) else some false) b → Ev (fun k=>count_in.f k l.f0 l.f1 v) b:=fun b h=>by
    unfold count_in.f
    exact Ev.pos (by omega) (Ev.bind hle h)
  by_cases hnn:nnV (subV v l.f0)
  · have hz:∀ p,p ∈ (l.f1.filter fun x=>!zeroV x) → zeroV p=false:=fun p h=>by simpa using (List.mem_filter.1 h).2
    obtain ⟨b,e,i⟩:=made_ev d hd (l.f1.filter fun x=>!zeroV x) (fun p h=>hp p (List.mem_filter.1 h).1) hz _ (sub60 hv hb hnn)
    refine ⟨b,start b (Ev.pos (decide_eq_true hnn) e),?_⟩
    rw [i,hi,comb_filter hp.okD (fun x=>!zeroV x) (fun p h hf=>eq_zeroN (hp p h).1 ((zeroV_iff p).1 (by simpa using hf)))]
    exact ⟨fun h=>⟨hnn,h⟩,fun h=>h.2⟩
  · exact ⟨false,start false (Ev.neg (by simpa using hnn) (Ev.now _)),⟨fun h=>(by cases h),fun h=>absurd (hi.1 h).1 hnn⟩⟩
theorem has_go {d:Nat} (hd:d < 1000000) {v:List Int} (hv:okV d 60 v):∀ set:List S60,(∀ l,l ∈ set → okL d l) → ∃ b,Ev (fun k=>count_has.g k v set) b∧(b=true ↔ InS d set v)
  | [],_=>⟨false,Ev.now _,⟨fun h=>(by cases h),fun ⟨l,h,_⟩=>by simp at h⟩⟩
  | l :: set,h=>by
    obtain ⟨b,e,i⟩:=in_ev hd (h l (by simp)) hv
    obtain ⟨c,f,j⟩:=has_go hd hv set (fun x hx=>h x (by simp [hx]))
    refine ⟨b || c,Ev.bind e (Ev.bind f (Ev.now _)),?_⟩
    rw [Bool.or_eq_true,i,j]
    constructor
    · rintro (h|⟨x,hx,h⟩)
      · exact ⟨l,by simp,h⟩
      · exact ⟨x,by simp [hx],h⟩
    · rintro ⟨x,hx,h2⟩
      rcases List.mem_cons.1 hx with rfl|hx
      · exact .inl h2
      · exact .inr ⟨x,hx,h2⟩
theorem has_ev {d:Nat} (hd:d < 1000000) {v:List Int} (hv:okV d 60 v) {set:List S60} (h:∀ l,l ∈ set → okL d l):∃ b,Ev (fun k=>count_has.f k set v) b∧(b=true ↔ InS d set v):=has_go hd hv set h
theorem refSums_ev (d:Nat) (hd:d < 1000000):∀ (n:Nat) (v:List Int) (ps:List (List Int)),v.sum.toNat < n → okV d 1000000 v → okP d ps → ps.length < 1000000 → ∃ b,Ev (fun k=>bellpullref05_sums.f k v ps) b∧(b=true ↔ Comb d ps v)
  | 0,v,ps,hn,_,_,_=>by omega
  | n + 1,v,ps,hn,hv,hp,hlen=>by
    have IH:=refSums_ev d hd n
    have tv:=refTotal_ev hv.2 (by rw [hv.1];exact hd)
    by_cases h0:v.sum=0
    · have:v=zeroN d:=eq_zeroN hv.1 (zero_of_sum hv.2.nn h0)
      refine ⟨true,?_,⟨fun _=>this ▸ .zero,fun _=>rfl⟩⟩
      refine Ev.succ ?_
      simp only [bellpullref05_sums.f]
      exact Ev.bind tv (Ev.pos h0 (Ev.now _))
    · have vp:0 < v.sum:=by have:=sum_nn hv.2.nn;omega
      have loop:∀ (t pre:List (List Int)),okP d t → (pre ++ t).length < 1000000 → ∃ b,Ev (fun k=>bellpullref05_sums.l0 k v (pre ++ t) (pre.length:Int)) b∧(b=true ↔ Comb d t v):=fun t=>by
        induction t with
        | nil =>
          intro pre _ _
          refine ⟨false,Ev.succ ?_,⟨fun h=>(by cases h),fun h=>?_⟩⟩
          · simp only [bellpullref05_sums.l0]
            exact Ev.neg (by simp) (Ev.now _)
          · rw [comb_nil.1 h,sum_zeroN] at h0
            exact absurd rfl h0
        | cons p t ih =>
          intro pre hpt hlen
          obtain ⟨b,e,i⟩:=ih (pre ++ [p]) hpt.tail (by simp at hlen ⊢;omega)
          rw [← app_snoc,← len_snoc] at e
          have op:=hpt p (by simp)
          have tp:=refTotal_ev op.2 (by rw [op.1];exact hd)
          have ws:wrap64 ((pre.length:Int) + 1)=((pre.length + 1:Nat):Int):=wsucc (by simp at hlen;omega)
          by_cases hp0:p.sum=0
          · have pz:p=zeroN d:=eq_zeroN op.1 (zero_of_sum op.2.nn hp0)
            refine ⟨b,Ev.succ ?_,i.trans (comb_skip pz hpt.tail.okD).symm⟩
            simp only [bellpullref05_sums.l0,rdL1_app,ws]
            exact Ev.pos (lt_app _ _ _) (Ev.pos (by omega) (Ev.bind tp (Ev.pos hp0 e)))
          · have hl:v.length=p.length:=hv.1.trans op.1.symm
            have hle:=refLess_ev hl hv.2 op.2 (by rw [hv.1];exact hd)
            have hc:=comb_sub hpt.okD (v:=v) hv.1
            have pp:0 < p.sum:=by have:=sum_nn op.2.nn;omega
            have hdrop:(pre ++ p :: t).drop ((pre.length:Int)).toNat=p :: t:=by simp
            by_cases hnn:nnV (subV v p)
            · have hs:okV d 1000000 (subV v p):=by
                refine ⟨subV_len hv.1 op.1,fun x hx=>⟨hnn x hx,?_⟩⟩
                have:∀ (v w:List Int),inB 1000000 v → nnV w → ∀ x,x ∈ subV v w → x ≤ 1000000:=fun v=>by
                  induction v with
                  | nil=>intro w _ _ x hx;simp [subV] at hx
                  | cons a v ih =>
                    intro w hv hw x hx
                    match w,hw,hx with
                    | b :: w,hw,hx =>
                      rw [subV] at hx
                      rcases List.mem_cons.1 hx with rfl|hx
                      · have:=hv a (by simp)
                        have:=hw b (by simp)
                        omega
                      · exact ih w (fun z hz=>hv z (by simp [hz])) (fun z hz=>hw z (by simp [hz])) x hx
                exact this v p hv.2 op.2.nn x hx
              have hsum:=sum_subV hl
              have:=sum_nn hs.2.nn
              obtain ⟨c,f,j⟩:=IH (subV v p) (p :: t) (by omega) hs hpt (by simp at hlen ⊢;omega)
              refine ⟨if c=true then true else b,Ev.succ ?_,?_⟩
              · simp only [bellpullref05_sums.l0,rdL1_app,ws]
                refine Ev.pos (lt_app _ _ _) (Ev.pos (by omega) (Ev.bind tp (Ev.neg hp0 (Ev.bind hle (Ev.pos (decide_eq_true hnn) (Ev.pos (by simp;omega) ?_))))))
                rw [hdrop]
                refine Ev.bind f ?_
                cases c with
                | true=>exact Ev.pos rfl (Ev.now _)
                | false=>exact Ev.neg (by simp) e
              · rw [hc,← j,← i]
                cases c <;> simp
            · refine ⟨b,Ev.succ ?_,?_⟩
              · simp only [bellpullref05_sums.l0,rdL1_app,ws]
                exact Ev.pos (lt_app _ _ _) (Ev.pos (by omega) (Ev.bind tp (Ev.neg hp0 (Ev.bind hle (Ev.neg (by simpa using hnn) e)))))
              · rw [i,hc]
                exact ⟨.inl,fun h=>h.resolve_right (fun h=>hnn (h.nn hpt.okD))⟩
      obtain ⟨b,e,i⟩:=loop ps [] hp hlen
      refine ⟨b,?_,i⟩
      refine Ev.succ ?_
      simp only [bellpullref05_sums.f]
      exact Ev.bind tv (Ev.neg h0 e)
theorem refHas_go {d:Nat} (hd:d < 1000000) {v:List Int} (hv:okV d 60 v):∀ (t pre:List S60),(∀ l,l ∈ t → okL d l∧l.f1.length < 1000000) → (pre ++ t).length < 1000000 → ∃ b,Ev (fun k=>bellpullref05_Has.l0 k (pre ++ t) v (pre.length:Int)) b∧(b=true ↔ InS d t v)
  | [],pre,_,_=>⟨false,by
      refine Ev.succ ?_
      simp only [bellpullref05_Has.l0]
      exact Ev.neg (by simp) (Ev.now _),⟨fun h=>(by cases h),fun ⟨l,h,_⟩=>by simp at h⟩⟩
  | l :: t,pre,h,hlen=>by
    obtain ⟨b,e,i⟩:=refHas_go hd hv t (pre ++ [l]) (fun x hx=>h x (by simp [hx])) (by simp at hlen ⊢;omega)
    rw [← app_snoc,← len_snoc] at e
    obtain ⟨⟨hb,hp,hn⟩,hn2⟩:=h l (by simp)
    have ws:wrap64 ((pre.length:Int) + 1)=((pre.length + 1:Nat):Int):=wsucc (by simp at hlen;omega)
    have hle:=refLess_ev (hv.1.trans hb.1.symm) (hv.mono (by decide)).2 hb.2 (by rw [hv.1];exact hd)
    have hi:=inL_sub hb hp hv.1
    have hs:InS d (l :: t) v ↔ InL d l.f0 l.f1 v ∨ InS d t v:=by
      constructor
      · rintro ⟨x,hx,h2⟩
        rcases List.mem_cons.1 hx with rfl|hx
        · exact .inl h2
        · exact .inr ⟨x,hx,h2⟩
      · rintro (h|⟨x,hx,h⟩)
        · exact ⟨l,by simp,h⟩
        · exact ⟨x,by simp [hx],h⟩
    by_cases hnn:nnV (subV v l.f0)
    · obtain ⟨c,f,j⟩:=refSums_ev d hd _ (subV v l.f0) l.f1 (Nat.lt_succ_self _) ((sub60 hv hb hnn).mono (by decide)) hp hn2
      refine ⟨if c=true then true else b,Ev.succ ?_,?_⟩
      · simp only [bellpullref05_Has.l0,rdT60_app,ws]
        refine Ev.pos (lt_app _ _ _) (Ev.pos (by omega) (Ev.bind hle (Ev.pos (decide_eq_true hnn) (Ev.bind f ?_))))
        cases c with
        | true=>exact Ev.pos rfl (Ev.now _)
        | false=>exact Ev.neg (by simp) e
      · rw [hs,hi,← j,← i]
        cases c <;> simp [hnn]
    · refine ⟨b,Ev.succ ?_,?_⟩
      · simp only [bellpullref05_Has.l0,rdT60_app,ws]
        exact Ev.pos (lt_app _ _ _) (Ev.pos (by omega) (Ev.bind hle (Ev.neg (by simpa using hnn) e)))
      · rw [hs,hi,i]
        exact ⟨.inr,fun h=>h.resolve_left (fun h=>hnn h.1)⟩
theorem refHas_ev {d:Nat} (hd:d < 1000000) {v:List Int} (hv:okV d 60 v) {set:List S60} (h:∀ l,l ∈ set → okL d l∧l.f1.length < 1000000) (hl:set.length < 1000000):∃ b,Ev (fun k=>bellpullref05_Has.f k set v) b∧(b=true ↔ InS d set v):=refHas_go hd hv set [] h hl
end Go.Proofs.Ytkonljiembcdlaa.Pure
/- Sums of sets of vectors, and all sums, in plain Lean. -/
set_option linter.unusedVariables false
namespace Go.Proofs.Ytkonljiembcdlaa.Sem
open Go.Proofs.Ytkonljiembcdlaa.PC Go.Proofs.Ytkonljiembcdlaa.Pure
theorem okD_app {d:Nat} {p q:List Vec} (hp:okD d p) (hq:okD d q):okD d (p ++ q):=fun x hx=>(List.mem_append.1 hx).elim (hp x) (hq x)
theorem comb_app {d:Nat} {p q:List Vec} (hp:okD d p) (hq:okD d q) {v:Vec}:Comb d (p ++ q) v ↔ ∃ u w,Comb d p u∧Comb d q w∧v=addV u w:=by
  constructor
  · intro h
    induction h with
    | zero=>exact ⟨_,_,.zero,.zero,(addV_zero (zeroN_len d)).symm⟩
    | @add x y h1 _ ih =>
      obtain ⟨u,w,hu,hw,rfl⟩:=ih
      rcases List.mem_append.1 h1 with h1|h1
      · exact ⟨addV u x,w,.add h1 hu,hw,addV_swap _ _ _⟩
      · exact ⟨u,addV w x,hu,.add h1 hw,addV_assoc _ _ _⟩
  · rintro ⟨u,w,hu,hw,rfl⟩
    exact Comb.plus (okD_app hp hq) (hu.mono (fun x hx=>List.mem_append_left _ hx)) (hw.mono (fun x hx=>List.mem_append_right _ hx))
theorem InL.len {d:Nat} {l:S60} (h:okL d l) {v:Vec} (hv:InL d l.f0 l.f1 v):v.length=d∧nnV v:=by
  obtain ⟨w,hw,rfl⟩:=hv
  exact ⟨addV_len h.1.1 (hw.len h.2.1.okD),nn_addV h.1.2.nn (hw.nn h.2.1.okD)⟩
theorem InS.len {d:Nat} {x:List S60} (hx:∀ l,l ∈ x → okL d l) {v:Vec} (hv:InS d x v):v.length=d∧nnV v:=by
  obtain ⟨l,hl,h⟩:=hv
  exact InL.len (hx l hl) h
inductive StarV (d:Nat) (P:Vec → Prop):Vec → Prop
  | zero:StarV d P (zeroN d)
  | add {u w}:P u → StarV d P w → StarV d P (addV w u)
theorem StarV.mono {d:Nat} {P Q:Vec → Prop} (h:∀ v,P v → Q v) {v:Vec} (hv:StarV d P v):StarV d Q v:=by
  induction hv with
  | zero=>exact .zero
  | add h1 _ ih=>exact .add (h _ h1) ih
theorem StarV.len {d:Nat} {P:Vec → Prop} (h:∀ v,P v → v.length=d) {v:Vec} (hv:StarV d P v):v.length=d:=by
  induction hv with
  | zero=>exact zeroN_len d
  | add h1 _ ih=>exact addV_len ih (h _ h1)
theorem StarV.plus {d:Nat} {P:Vec → Prop} (h:∀ v,P v → v.length=d) {v w:Vec} (hv:StarV d P v) (hw:StarV d P w):StarV d P (addV v w):=by
  induction hw with
  | zero=>rw [addV_zero (hv.len h)];exact hv
  | add h1 _ ih=>rw [← addV_assoc];exact .add h1 ih
theorem StarV.one {d:Nat} {P:Vec → Prop} {v:Vec} (hl:v.length=d) (h:P v):StarV d P v:=by
  have:=StarV.add (d:=d) h .zero
  rwa [zero_addV hl] at this
def sumB (d:Nat):List S60 → Vec
  | []=>zeroN d
  | a :: t=>addV a.f0 (sumB d t)
def starOf (d:Nat) (ch:List S60):S60:=⟨sumB d ch,ch.flatMap fun a=>a.f0 :: a.f1⟩
section
variable {d:Nat}
theorem sumB_len:∀ {ch:List S60},(∀ a,a ∈ ch → okL d a) → (sumB d ch).length=d∧nnV (sumB d ch)
  | [],_=>⟨zeroN_len d,nn_zeroN d⟩
  | a :: t,h=>by
    have ih:=sumB_len (ch:=t) (fun x hx=>h x (by simp [hx]))
    have ha:=(h a (by simp)).1
    exact ⟨addV_len ha.1 ih.1,nn_addV ha.2.nn ih.2⟩
theorem okD_star {ch:List S60} (h:∀ a,a ∈ ch → okL d a):okD d (ch.flatMap fun a=>a.f0 :: a.f1):=fun p hp=>by
  obtain ⟨a,ha,hp⟩:=List.mem_flatMap.1 hp
  have:=h a ha
  rcases List.mem_cons.1 hp with rfl|hp
  · exact ⟨this.1.1,this.1.2.nn⟩
  · exact this.2.1.okD p hp
theorem comb_split {b:Vec} {ps:List Vec} (hb:b.length=d∧nnV b) (hp:okD d ps) {w:Vec} (h:Comb d (b :: ps) w):∃ u s,Comb d ps u∧StarV d (InL d b ps) s∧w=addV u s:=by
  induction h with
  | zero=>exact ⟨_,_,.zero,.zero,(addV_zero (zeroN_len d)).symm⟩
  | @add p w h1 _ ih =>
    obtain ⟨u,s,hu,hs,rfl⟩:=ih
    rcases List.mem_cons.1 h1 with rfl|h1
    · exact ⟨u,addV s p,hu,.add ⟨_,.zero,(addV_zero hb.1).symm⟩ hs,addV_assoc _ _ _⟩
    · exact ⟨addV u p,s,.add h1 hu,hs,addV_swap _ _ _⟩
theorem star_in {x:List S60} (hx:∀ a,a ∈ x → okL d a):∀ {ch:List S60},(∀ a,a ∈ ch → a ∈ x) → ∀ {v:Vec},InL d (starOf d ch).f0 (starOf d ch).f1 v → StarV d (InS d x) v:=by
  have hP:∀ v,InS d x v → v.length=d:=fun v h=>(InS.len hx h).1
  intro ch
  induction ch with
  | nil =>
    intro _ v h
    obtain ⟨w,hw,rfl⟩:=h
    have hw':Comb d [] w:=hw
    rw [comb_nil.1 hw']
    show StarV d (InS d x) (addV (zeroN d) (zeroN d))
    rw [addV_zero (zeroN_len d)]
    exact .zero
  | cons a t ih =>
    intro hch v h
    obtain ⟨w,hw,rfl⟩:=h
    have ha:=hx a (hch a (by simp))
    have ht:∀ b,b ∈ t → okL d b:=fun b hb=>hx b (hch b (by simp [hb]))
    have hw':Comb d ((a.f0 :: a.f1) ++ t.flatMap fun a=>a.f0 :: a.f1) w:=hw
    have oa:okD d (a.f0 :: a.f1):=fun p hp=>by
      rcases List.mem_cons.1 hp with rfl|hp
      · exact ⟨ha.1.1,ha.1.2.nn⟩
      · exact ha.2.1.okD p hp
    obtain ⟨w1,w2,h1,h2,rfl⟩:=(comb_app oa (okD_star ht)).1 hw'
    obtain ⟨u,s,hu,hs,rfl⟩:=comb_split ⟨ha.1.1,ha.1.2.nn⟩ ha.2.1.okD h1
    have e:addV (starOf d (a :: t)).f0 (addV (addV u s) w2)=addV (addV (addV (sumB d t) w2) s) (addV a.f0 u):=by
      show addV (addV a.f0 (sumB d t)) (addV (addV u s) w2)=_
      rw [addV_assoc a.f0,addV_comm (addV (addV (sumB d t) w2) s),addV_assoc a.f0 u]
      congr 1
      rw [addV_assoc u s w2,← addV_assoc (sumB d t) u,addV_comm (sumB d t) u,addV_assoc u]
      congr 1
      rw [addV_comm s w2,addV_assoc]
    rw [e]
    have hin:InS d x (addV a.f0 u):=⟨a,hch a (by simp),u,hu,rfl⟩
    have hrest:StarV d (InS d x) (addV (sumB d t) w2):=ih (fun b hb=>hch b (by simp [hb])) ⟨w2,h2,rfl⟩
    exact .add hin (hrest.plus hP (hs.mono (fun v hv=>⟨a,hch a (by simp),hv⟩)))
theorem sumB_perm {c1 c2:List S60} (h:c1.Perm c2):sumB d c1=sumB d c2:=by
  induction h with
  | nil=>rfl
  | cons a _ ih=>rw [sumB,sumB,ih]
  | swap a b l=>rw [sumB,sumB,sumB,sumB,← addV_assoc,← addV_assoc,addV_comm b.f0]
  | trans _ _ h1 h2=>exact h1.trans h2
theorem ins {ch x:List S60} (h:ch.Sublist x) (a:S60) (ha:a ∈ x):a ∈ ch ∨ ∃ c2:List S60,c2.Sublist x∧c2.Perm (a :: ch):=by
  induction h with
  | slnil=>simp at ha
  | @cons c x b hs ih =>
    rcases List.mem_cons.1 ha with rfl|ha
    · exact .inr ⟨a :: c,hs.cons_cons a,List.Perm.refl _⟩
    · rcases ih ha with h|⟨c2,h1,h2⟩
      · exact .inl h
      · exact .inr ⟨c2,h1.cons b,h2⟩
  | @cons_cons c x b hs ih =>
    rcases List.mem_cons.1 ha with rfl|ha
    · exact .inl (by simp)
    · rcases ih ha with h|⟨c2,h1,h2⟩
      · exact .inl (by simp [h])
      · exact .inr ⟨b :: c2,h1.cons_cons b,(h2.cons b).trans (List.Perm.swap a b c)⟩
theorem star_out {x:List S60} (hx:∀ a,a ∈ x → okL d a) {v:Vec} (h:StarV d (InS d x) v):∃ ch:List S60,ch.Sublist x∧InL d (starOf d ch).f0 (starOf d ch).f1 v:=by
  induction h with
  | zero=>exact ⟨[],List.nil_sublist x,_,.zero,(addV_zero (zeroN_len d)).symm⟩
  | @add u w h1 _ ih =>
    obtain ⟨ch,hs,z,hz,rfl⟩:=ih
    obtain ⟨a,ha,t,ht,rfl⟩:=h1
    have hch:∀ b,b ∈ ch → okL d b:=fun b hb=>hx b (hs.subset hb)
    have hz':Comb d (ch.flatMap fun a=>a.f0 :: a.f1) z:=hz
    rcases ins hs a ha with hin|⟨c2,h2,hp⟩
    · have o:=okD_star hch
      have m:∀ p,p ∈ a.f0 :: a.f1 → p ∈ ch.flatMap fun a=>a.f0 :: a.f1:=fun p hp=>List.mem_flatMap.2 ⟨a,hin,hp⟩
      refine ⟨ch,hs,addV z (addV a.f0 t),Comb.plus o hz' (Comb.plus o (Comb.one o (m _ (by simp))) (ht.mono (fun p hp=>m p (by simp [hp])))),?_⟩
      rw [addV_assoc]
    · have hc2:∀ b,b ∈ c2 → okL d b:=fun b hb=>hx b (h2.subset hb)
      have o:=okD_star hc2
      have m:∀ b,b ∈ a :: ch → ∀ p,p ∈ b.f0 :: b.f1 → p ∈ c2.flatMap fun a=>a.f0 :: a.f1:=fun b hb p hp'=>List.mem_flatMap.2 ⟨b,hp.mem_iff.2 hb,hp'⟩
      refine ⟨c2,h2,addV z t,Comb.plus o (hz'.mono (fun p hp'=>?_)) (ht.mono (fun p hp'=>m a (by simp) p (by simp [hp']))),?_⟩
      · obtain ⟨b,hb,hp'⟩:=List.mem_flatMap.1 hp'
        exact m b (by simp [hb]) p hp'
      · show addV (addV (sumB d ch) z) (addV a.f0 t)=addV (sumB d c2) (addV z t)
        rw [sumB_perm hp,sumB,addV_comm a.f0 (sumB d ch),addV_assoc,addV_assoc]
        congr 1
        rw [← addV_assoc z,addV_comm z a.f0,addV_assoc]
end
def pickN:Nat → List S60 → List S60
  | _,[]=>[]
  | c,a :: t=>if c % 2=1 then a :: pickN (c / 2) t else pickN (c / 2) t
theorem pick_sub:∀ (x:List S60) (c:Nat),(pickN c x).Sublist x
  | [],c=>List.nil_sublist _
  | a :: t,c=>by
    rw [pickN]
    split
    · exact (pick_sub t (c / 2)).cons_cons a
    · exact (pick_sub t (c / 2)).cons a
theorem sub_pick {ch x:List S60} (h:ch.Sublist x):∃ c,c < 2 ^ x.length∧pickN c x=ch:=by
  induction h with
  | slnil=>exact ⟨0,by simp,rfl⟩
  | @cons c x b hs ih =>
    obtain ⟨n,h1,h2⟩:=ih
    refine ⟨2 * n,by rw [List.length_cons,Nat.pow_succ];omega,?_⟩
    rw [pickN,if_neg (by omega),show 2 * n / 2=n by omega,h2]
  | @cons_cons c x b hs ih =>
    obtain ⟨n,h1,h2⟩:=ih
    refine ⟨2 * n + 1,by rw [List.length_cons,Nat.pow_succ];omega,?_⟩
    rw [pickN,if_pos (by omega),show (2 * n + 1) / 2=n by omega,h2]
theorem pick_zero:∀ x:List S60,pickN 0 x=[]
  | []=>rfl
  | a :: t=>by rw [pickN,if_neg (by decide)];exact pick_zero t
def starL (d:Nat) (x:List S60):List S60:=(List.range (2 ^ x.length)).map fun c=>starOf d (pickN c x)
theorem inS_star {d:Nat} {x:List S60} (hx:∀ a,a ∈ x → okL d a) {v:Vec}:InS d (starL d x) v ↔ StarV d (InS d x) v:=by
  constructor
  · rintro ⟨l,hl,h⟩
    obtain ⟨c,_,rfl⟩:=List.mem_map.1 hl
    exact star_in hx (fun a ha=>(pick_sub x c).subset ha) h
  · intro h
    obtain ⟨ch,hs,hi⟩:=star_out hx h
    obtain ⟨c,hc,rfl⟩:=sub_pick hs
    exact ⟨_,List.mem_map.2 ⟨c,List.mem_range.2 hc,rfl⟩,hi⟩
end Go.Proofs.Ytkonljiembcdlaa.Sem
namespace Go.Proofs.Ytkonljiembcdlaa.PC
open Go.Proofs.MyWords Go.RowKit Go.Proofs.YtkonljiembcdlaaW.PrintWords Go.Proofs.YtkonljiembcdlaaW.PrintLast Go.Proofs.YtkonljiembcdlaaW.PrintMore
attribute [local go_sem] max2_int min2_int max_two min_two max_three min_three max_four min_four   -- for this text's walks alone
set_option linter.unusedVariables false
set_option linter.unusedSimpArgs false
attribute [local go_sem] eqGuard_slices eqlnil23 neqnil23 eqlnil58 neqnil58
def bellpullref01_In.f (a0:Int) (a1:Int) (a2:Int):Option (Bool):=if a0 ≥ a1 then (some (decide (a0 ≤ a2))) else (some false)
end Go.Proofs.Ytkonljiembcdlaa.PC
namespace Go.Proofs.Ytkonljiembcdlaa.PC
open Go.Proofs.MyWords Go.RowKit Go.Proofs.YtkonljiembcdlaaW.PrintWords Go.Proofs.YtkonljiembcdlaaW.PrintLast Go.Proofs.YtkonljiembcdlaaW.PrintMore
attribute [local go_sem] max2_int min2_int max_two min_two max_three min_three max_four min_four   -- for this text's walks alone
set_option linter.unusedVariables false
set_option linter.unusedSimpArgs false
attribute [local go_sem] eqGuard_slices eqlnil23 neqnil23 eqlnil58 neqnil58
def bellpullref05_Long.l0:Nat → List (S60) → Int → Option (Bool)
  | 0,_,_=>none
  | k + 1,x0,x3=>if x3 < (x0.length:Int) then (if 0 ≤ x3 then (if (((rd_T60 x0 x3).f1).length:Int) > 4 then (some true) else (bellpullref05_Long.l0 k x0 (wrap64 (x3 + 1)))) else (none)) else (some (decide ((x0.length:Int) > 8)))
def bellpullref05_Long.f (k:Nat) (l0:List (S60)):Option (Bool):=bellpullref05_Long.l0 k l0 0
theorem bellpullref05_Long.mono_l:∀ k,(∀ y0 y1,LeO (bellpullref05_Long.l0 k y0 y1) (bellpullref05_Long.l0 (k + 1) y0 y1))
  | 0=>fun _ _ r h=>by simp [bellpullref05_Long.l0] at h
  | k + 1=>by
    have ih0:=bellpullref05_Long.mono_l k
    · intro y0 y1
      unfold bellpullref05_Long.l0
      with_reducible repeat' first|exact ih0 _ _|exact LeO.refl _|exact LeO.none _|refine LeO.ite ?_ ?_|refine LeO.bind ?_ (fun _=>?_)
theorem bellpullref05_Long.mono:∀ a0 k,LeO (bellpullref05_Long.f k a0) (bellpullref05_Long.f (k + 1) a0):=by
  intro a0 k
  have ih0:=bellpullref05_Long.mono_l k
  unfold bellpullref05_Long.f
  with_reducible repeat' first|exact ih0 _ _|exact LeO.refl _|exact LeO.none _|refine LeO.ite ?_ ?_|refine LeO.bind ?_ (fun _=>?_)
end Go.Proofs.Ytkonljiembcdlaa.PC
namespace Go.Proofs.Ytkonljiembcdlaa.PC
open Go.Proofs.MyWords Go.RowKit Go.Proofs.YtkonljiembcdlaaW.PrintWords Go.Proofs.YtkonljiembcdlaaW.PrintLast Go.Proofs.YtkonljiembcdlaaW.PrintMore
attribute [local go_sem] max2_int min2_int max_two min_two max_three min_three max_four min_four   -- for this text's walks alone
set_option linter.unusedVariables false
set_option linter.unusedSimpArgs false
attribute [local go_sem] eqGuard_slices eqlnil23 neqnil23 eqlnil58 neqnil58
def bellpullref05_wide.l0:Nat → List Int → Int → Int → Option (Bool)
  | 0,_,_,_=>none
  | k + 1,x0,x1,x5=>if x5 < (x0.length:Int) then (if 0 ≤ x5 then ((bellpullref01_In.f (rd x0 x5) 0 x1).bind fun t386=>(if t386=true then (bellpullref05_wide.l0 k x0 x1 (wrap64 (x5 + 1))) else (some true))) else (none)) else (some false)
def bellpullref05_wide.f (k:Nat) (l0:List Int) (a1:Int):Option (Bool):=bellpullref05_wide.l0 k l0 a1 0
theorem bellpullref05_wide.mono_l:∀ k,(∀ y0 y1 y2,LeO (bellpullref05_wide.l0 k y0 y1 y2) (bellpullref05_wide.l0 (k + 1) y0 y1 y2))
  | 0=>fun _ _ _ r h=>by simp [bellpullref05_wide.l0] at h
  | k + 1=>by
    have ih0:=bellpullref05_wide.mono_l k
    · intro y0 y1 y2
      unfold bellpullref05_wide.l0
      with_reducible repeat' first|exact ih0 _ _ _|exact LeO.refl _|exact LeO.none _|refine LeO.ite ?_ ?_|refine LeO.bind ?_ (fun _=>?_)
theorem bellpullref05_wide.mono:∀ a0 a1 k,LeO (bellpullref05_wide.f k a0 a1) (bellpullref05_wide.f (k + 1) a0 a1):=by
  intro a0 a1 k
  have ih0:=bellpullref05_wide.mono_l k
  unfold bellpullref05_wide.f
  with_reducible repeat' first|exact ih0 _ _ _|exact LeO.refl _|exact LeO.none _|refine LeO.ite ?_ ?_|refine LeO.bind ?_ (fun _=>?_)
end Go.Proofs.Ytkonljiembcdlaa.PC
namespace Go.Proofs.Ytkonljiembcdlaa.PC
open Go.Proofs.MyWords Go.RowKit Go.Proofs.YtkonljiembcdlaaW.PrintWords Go.Proofs.YtkonljiembcdlaaW.PrintLast Go.Proofs.YtkonljiembcdlaaW.PrintMore
attribute [local go_sem] max2_int min2_int max_two min_two max_three min_three max_four min_four   -- for this text's walks alone
set_option linter.unusedVariables false
set_option linter.unusedSimpArgs false
attribute [local go_sem] eqGuard_slices eqlnil23 neqnil23 eqlnil58 neqnil58
mutual
def bellpullref05_Wide.l0:Nat → List (S60) → Int → Option (Bool)
  | 0,_,_=>none
  | k + 1,x1,x5=>if x5 < (x1.length:Int) then (if 0 ≤ x5 then ((bellpullref05_vectors.f ((rd_T60 x1 x5).f0) ((rd_T60 x1 x5).f1)).bind fun t389=>(bellpullref05_Wide.l1 k x1 x5 t389 0)) else (none)) else (some false)
def bellpullref05_Wide.l1:Nat → List (S60) → Int → List (List Int) → Int → Option (Bool)
  | 0,_,_,_,_=>none
  | k + 1,x1,x5,x6,x7=>if x7 < (x6.length:Int) then (if 0 ≤ x7 then ((bellpullref05_wide.f k (rd_L1 x6 x7) 20).bind fun t393=>(if t393=true then (some true) else (bellpullref05_Wide.l1 k x1 x5 x6 (wrap64 (x7 + 1))))) else (none)) else (bellpullref05_Wide.l0 k x1 (wrap64 (x5 + 1)))
end
def bellpullref05_Wide.f (k:Nat) (a0:Int) (l1:List (S60)):Option (Bool):=(bellpullref01_In.f a0 1 3).bind fun t387=>(if t387=true then (bellpullref05_Wide.l0 k l1 0) else (some true))
theorem bellpullref05_Wide.mono_l:∀ k,(∀ y0 y1,LeO (bellpullref05_Wide.l0 k y0 y1) (bellpullref05_Wide.l0 (k + 1) y0 y1))∧(∀ y0 y1 y2 y3,LeO (bellpullref05_Wide.l1 k y0 y1 y2 y3) (bellpullref05_Wide.l1 (k + 1) y0 y1 y2 y3))
  | 0=>⟨fun _ _ r h=>by simp [bellpullref05_Wide.l0] at h,fun _ _ _ _ r h=>by simp [bellpullref05_Wide.l1] at h⟩
  | k + 1=>by
    obtain ⟨ih0,ih1⟩:=bellpullref05_Wide.mono_l k
    refine ⟨?_,?_⟩
    · intro y0 y1
      unfold bellpullref05_Wide.l0
      with_reducible repeat' first|exact ih0 _ _|exact ih1 _ _ _ _|exact bellpullref05_wide.mono _ _ _|exact LeO.refl _|exact LeO.none _|refine LeO.ite ?_ ?_|refine LeO.bind ?_ (fun _=>?_)
    · intro y0 y1 y2 y3
      unfold bellpullref05_Wide.l1
      with_reducible repeat' first|exact ih0 _ _|exact ih1 _ _ _ _|exact bellpullref05_wide.mono _ _ _|exact LeO.refl _|exact LeO.none _|refine LeO.ite ?_ ?_|refine LeO.bind ?_ (fun _=>?_)
theorem bellpullref05_Wide.mono:∀ a0 a1 k,LeO (bellpullref05_Wide.f k a0 a1) (bellpullref05_Wide.f (k + 1) a0 a1):=by
  intro a0 a1 k
  obtain ⟨ih0,ih1⟩:=bellpullref05_Wide.mono_l k
  unfold bellpullref05_Wide.f
  with_reducible repeat' first|exact ih0 _ _|exact ih1 _ _ _ _|exact bellpullref05_wide.mono _ _ _|exact LeO.refl _|exact LeO.none _|refine LeO.ite ?_ ?_|refine LeO.bind ?_ (fun _=>?_)
end Go.Proofs.Ytkonljiembcdlaa.PC
namespace Go.Proofs.Ytkonljiembcdlaa.PC
open Go.Proofs.MyWords Go.RowKit Go.Proofs.YtkonljiembcdlaaW.PrintWords Go.Proofs.YtkonljiembcdlaaW.PrintLast Go.Proofs.YtkonljiembcdlaaW.PrintMore
attribute [local go_sem] max2_int min2_int max_two min_two max_three min_three max_four min_four   -- for this text's walks alone
set_option linter.unusedVariables false
set_option linter.unusedSimpArgs false
attribute [local go_sem] eqGuard_slices eqlnil23 neqnil23 eqlnil58 neqnil58
mutual
def bellpullref05_Odd.l0:Nat → Int → List (S60) → Int → Option (Bool)
  | 0,_,_,_=>none
  | k + 1,x0,x1,x5=>if x5 < (x1.length:Int) then (if 0 ≤ x5 then ((bellpullref05_vectors.f ((rd_T60 x1 x5).f0) ((rd_T60 x1 x5).f1)).bind fun t395=>(bellpullref05_Odd.l1 k x0 x1 x5 t395 0)) else (none)) else (some false)
def bellpullref05_Odd.l1:Nat → Int → List (S60) → Int → List (List Int) → Int → Option (Bool)
  | 0,_,_,_,_,_=>none
  | k + 1,x0,x1,x5,x6,x7=>if x7 < (x6.length:Int) then (if 0 ≤ x7 then (if ((rd_L1 x6 x7).length:Int)=x0 then (bellpullref05_Odd.l1 k x0 x1 x5 x6 (wrap64 (x7 + 1))) else (some true)) else (none)) else (bellpullref05_Odd.l0 k x0 x1 (wrap64 (x5 + 1)))
end
def bellpullref05_Odd.f (k:Nat) (a0:Int) (l1:List (S60)):Option (Bool):=bellpullref05_Odd.l0 k a0 l1 0
theorem bellpullref05_Odd.mono_l:∀ k,(∀ y0 y1 y2,LeO (bellpullref05_Odd.l0 k y0 y1 y2) (bellpullref05_Odd.l0 (k + 1) y0 y1 y2))∧(∀ y0 y1 y2 y3 y4,LeO (bellpullref05_Odd.l1 k y0 y1 y2 y3 y4) (bellpullref05_Odd.l1 (k + 1) y0 y1 y2 y3 y4))
  | 0=>⟨fun _ _ _ r h=>by simp [bellpullref05_Odd.l0] at h,fun _ _ _ _ _ r h=>by simp [bellpullref05_Odd.l1] at h⟩
  | k + 1=>by
    obtain ⟨ih0,ih1⟩:=bellpullref05_Odd.mono_l k
    refine ⟨?_,?_⟩
    · intro y0 y1 y2
      unfold bellpullref05_Odd.l0
      with_reducible repeat' first|exact ih0 _ _ _|exact ih1 _ _ _ _ _|exact LeO.refl _|exact LeO.none _|refine LeO.ite ?_ ?_|refine LeO.bind ?_ (fun _=>?_)
    · intro y0 y1 y2 y3 y4
      unfold bellpullref05_Odd.l1
      with_reducible repeat' first|exact ih0 _ _ _|exact ih1 _ _ _ _ _|exact LeO.refl _|exact LeO.none _|refine LeO.ite ?_ ?_|refine LeO.bind ?_ (fun _=>?_)
theorem bellpullref05_Odd.mono:∀ a0 a1 k,LeO (bellpullref05_Odd.f k a0 a1) (bellpullref05_Odd.f (k + 1) a0 a1):=by
  intro a0 a1 k
  obtain ⟨ih0,ih1⟩:=bellpullref05_Odd.mono_l k
  unfold bellpullref05_Odd.f
  with_reducible repeat' first|exact ih0 _ _ _|exact ih1 _ _ _ _ _|exact LeO.refl _|exact LeO.none _|refine LeO.ite ?_ ?_|refine LeO.bind ?_ (fun _=>?_)
end Go.Proofs.Ytkonljiembcdlaa.PC
namespace Go.Proofs.Ytkonljiembcdlaa.PC
open Go.Proofs.MyWords Go.RowKit Go.Proofs.YtkonljiembcdlaaW.PrintWords Go.Proofs.YtkonljiembcdlaaW.PrintLast Go.Proofs.YtkonljiembcdlaaW.PrintMore
attribute [local go_sem] max2_int min2_int max_two min_two max_three min_three max_four min_four   -- for this text's walks alone
set_option linter.unusedVariables false
set_option linter.unusedSimpArgs false
attribute [local go_sem] eqGuard_slices eqlnil23 neqnil23 eqlnil58 neqnil58
mutual
def bellpullref05_Check.l0:Nat → Int → List (List (S60)) → Int → Option (Int)
  | 0,_,_,_=>none
  | k + 1,x0,x1,x5=>if x5 < (x1.length:Int) then (if 0 ≤ x5 then ((bellpullref05_Long.f k (rd_L4 x1 x5)).bind fun t400=>(if t400=true then (some 3) else (bellpullref05_Check.l0 k x0 x1 (wrap64 (x5 + 1))))) else (none)) else (bellpullref05_Check.l1 k x0 x1 0)
def bellpullref05_Check.l1:Nat → Int → List (List (S60)) → Int → Option (Int)
  | 0,_,_,_=>none
  | k + 1,x0,x1,x6=>if x6 < (x1.length:Int) then (if 0 ≤ x6 then ((bellpullref05_Wide.f k x0 (rd_L4 x1 x6)).bind fun t402=>(if t402=true then (some 1) else (bellpullref05_Check.l1 k x0 x1 (wrap64 (x6 + 1))))) else (none)) else ((bellpullref01_In.f x0 1 3).bind fun t403=>(if t403=true then (bellpullref05_Check.l2 k x0 x1 0) else (some 1)))
def bellpullref05_Check.l2:Nat → Int → List (List (S60)) → Int → Option (Int)
  | 0,_,_,_=>none
  | k + 1,x0,x1,x7=>if x7 < (x1.length:Int) then (if 0 ≤ x7 then ((bellpullref05_Odd.f k x0 (rd_L4 x1 x7)).bind fun t405=>(if t405=true then (some 2) else (bellpullref05_Check.l2 k x0 x1 (wrap64 (x7 + 1))))) else (none)) else (some 0)
end
def bellpullref05_Check.f (k:Nat) (a0:Int) (l1:List (List (S60))):Option (Int):=bellpullref05_Check.l0 k a0 l1 0
theorem bellpullref05_Check.mono_l:∀ k,(∀ B C D,LeO (bellpullref05_Check.l0 k B C D) (bellpullref05_Check.l0 (k + 1) B C D))∧(∀ B C D,LeO (bellpullref05_Check.l1 k B C D) (bellpullref05_Check.l1 (k + 1) B C D))∧(∀ B C D,LeO (bellpullref05_Check.l2 k B C D) (bellpullref05_Check.l2 (k + 1) B C D))
  | 0=>⟨fun _ _ _ r h=>by simp [bellpullref05_Check.l0] at h,fun _ _ _ r h=>by simp [bellpullref05_Check.l1] at h,fun _ _ _ r h=>by simp [bellpullref05_Check.l2] at h⟩
  | k + 1=>by
    obtain ⟨E,F,G⟩:=bellpullref05_Check.mono_l k
    refine ⟨?_,?_,?_⟩
    · intro B C D
      unfold bellpullref05_Check.l0
      with_reducible repeat' first|exact E _ _ _|exact F _ _ _|exact G _ _ _|exact bellpullref05_Long.mono _ _|exact bellpullref05_Odd.mono _ _ _|exact bellpullref05_Wide.mono _ _ _|exact LeO.refl _|exact LeO.none _|refine LeO.ite ?_ ?_|refine LeO.bind ?_ (fun _=>?_)
    · intro B C D
      unfold bellpullref05_Check.l1
      with_reducible repeat' first|exact E _ _ _|exact F _ _ _|exact G _ _ _|exact bellpullref05_Long.mono _ _|exact bellpullref05_Odd.mono _ _ _|exact bellpullref05_Wide.mono _ _ _|exact LeO.refl _|exact LeO.none _|refine LeO.ite ?_ ?_|refine LeO.bind ?_ (fun _=>?_)
    · intro B C D
      unfold bellpullref05_Check.l2
      with_reducible repeat' first|exact E _ _ _|exact F _ _ _|exact G _ _ _|exact bellpullref05_Long.mono _ _|exact bellpullref05_Odd.mono _ _ _|exact bellpullref05_Wide.mono _ _ _|exact LeO.refl _|exact LeO.none _|refine LeO.ite ?_ ?_|refine LeO.bind ?_ (fun _=>?_)
theorem bellpullref05_Check.mono:∀ a0 a1 k,LeO (bellpullref05_Check.f k a0 a1) (bellpullref05_Check.f (k + 1) a0 a1):=by
  intro a0 a1 k
  obtain ⟨ih0,ih1,ih2⟩:=bellpullref05_Check.mono_l k
  unfold bellpullref05_Check.f
  with_reducible repeat' first|exact ih0 _ _ _|exact ih1 _ _ _|exact ih2 _ _ _|exact bellpullref05_Long.mono _ _|exact bellpullref05_Odd.mono _ _ _|exact bellpullref05_Wide.mono _ _ _|exact LeO.refl _|exact LeO.none _|refine LeO.ite ?_ ?_|refine LeO.bind ?_ (fun _=>?_)
end Go.Proofs.Ytkonljiembcdlaa.PC
