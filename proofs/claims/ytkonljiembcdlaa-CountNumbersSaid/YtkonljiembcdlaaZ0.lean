import Derived.Test.YtkonljiembcdlaaPCx0
import Derived.Test.YtkonljiembcdlaaMyTiny
import Derived.Test.YtkonljiembcdlaaPCx1
import Derived.Test.YtkonljiembcdlaaPCx5
import Derived.Test.YtkonljiembcdlaaPCx3
import Derived.Test.YtkonljiembcdlaaPCx4
import Derived.Test.YtkonljiembcdlaaWMore
import Derived.Test.YtkonljiembcdlaaProg
import Derived.WalkKit
import Derived.ProofKit
import Derived.OpenShut
import Derived.Lib.SmallJoins
import Derived.SizedLaws
import Derived.Deep.Slices
namespace Go.Proofs.Ytkonljiembcdlaa.PC
open Go.Proofs.MyWords Go.RowKit Go.Proofs.YtkonljiembcdlaaW.PrintWords Go.Proofs.YtkonljiembcdlaaW.PrintLast Go.Proofs.YtkonljiembcdlaaW.PrintMore
attribute [local go_sem] max2_int min2_int max_two min_two max_three min_three max_four min_four   -- for this text's walks alone
set_option linter.unusedVariables false
set_option linter.unusedSimpArgs false
attribute [local go_sem] eqGuard_slices eqlnil23 neqnil23 eqlnil58 neqnil58
def bellpullref05_Total.l0:Nat → List Int → Int → Int → Option (Int)
  | 0,_,_,_=>none
  | k + 1,x0,x3,x4=>if x4 < (x0.length:Int) then (if 0 ≤ x4 then (bellpullref05_Total.l0 k x0 (wrap64 (x3 + (rd x0 x4))) (wrap64 (x4 + 1))) else (none)) else (some x3)
def bellpullref05_Total.f (k:Nat) (l0:List Int):Option (Int):=bellpullref05_Total.l0 k l0 0 0
set_option maxHeartbeats 8000000 in
set_option maxRecDepth 100000 in
theorem bellpullref05_Total.calls (k:Nat) (O:Option Addr) (Q:Nat) (D:List Int) (r:Int) (w:World) (I:Kd.C (Kd.int .i64) w O D.length D) (J:D.length ≤ Q) (h:bellpullref05_Total.f k D=some r) :
    Calls Try.prog 45 #[.slice O D.length Q] w fun e w'=>e=.returned (.int .i64 r)∧Drawn0 w w':=by
 have R:=mk0 I;have X:=mk0 J;clear I J;have H:(bellpullref05_Total.l0 k D 0 0)=some r:=h;clear h;have H':=mk0 H;clear H;go_enter Try.func45,Try.ntmps45;go_wp2
 go_loopg [3,4] k (fun kq U V w'=>∃ (E:Int) (B:Int),U=.int .i64 E∧V=.int .i64 B∧Aside0 (bellpullref05_Total.l0 kq D E B=some r)∧Aside0 (kq ≤ k)∧Drawn0 w w')
 case atStart=>exact ⟨(0),(0),(by first|rfl|(simp;done)|(simp [*];done)),(by first|rfl|(simp;done)|(simp [*];done)),H',⟨Nat.le_refl _⟩,by repeat (first|exact Drawn0.refl _|apply Drawn0.step)⟩
 case round =>
  clear H';obtain ⟨E,B,rfl,rfl,HA,L,⟨Y,rfl⟩⟩:=hrel;cases gk with
  | zero=>exact absurd HA.1 (by simp [bellpullref05_Total.l0])
  | succ k1 =>
   have H:=HA.1;clear HA;simp only [bellpullref05_Total.l0] at H
   by_cases c2:B < (D.length:Int)
   ·
    rw [if_pos c2] at H;have c2b0:decide (B < (D.length:Int))=true:=decide_eq_true c2;clear c2
    by_cases c3:0 ≤ B
    ·
     rw [if_pos c3] at H;have c3b0:decide (0 ≤ B)=true:=decide_eq_true c3;clear c3;have H':=mk0 H;clear H;have F:0 ≤ (B:Int):=of_decide_eq_true (by first|(with_reducible assumption)|assumption);have G:B < (D.length:Int):=of_decide_eq_true (by first|(with_reducible assumption)|assumption);obtain ⟨T,M,N⟩:=Kd.at_int R.1 B F G;cases M;replace F:=eq_true F;replace G:=eq_true G;go_wp2;go_roundg k1
     case measure=>have:=L.1;omega
     case rel=>exact ⟨(wrap64 (E + (rd D B))),(wrap64 (B + 1)),(by first|rfl|(simp;done)|(simp [*];done)),(by first|rfl|(simp;done)|(simp [*];done)),H',⟨by have:=L.1;omega⟩,by repeat (first|exact Drawn0.refl _|apply Drawn0.step)⟩
    ·
     rw [if_neg c3] at H;exact absurd H (by simp)
   ·
    rw [if_neg c2] at H;have c2b0:decide (B < (D.length:Int))=false:=decide_eq_false c2;clear c2;obtain rfl:=Option.some.inj H;go_wp2;go_ret;exact ⟨by first|rfl|(simp;done)|(simp [*];done),by repeat (first|exact Drawn0.refl _|apply Drawn0.step)⟩
end Go.Proofs.Ytkonljiembcdlaa.PC
namespace Go.Proofs.Ytkonljiembcdlaa.PC
open Go.Proofs.MyWords Go.RowKit Go.Proofs.YtkonljiembcdlaaW.PrintWords Go.Proofs.YtkonljiembcdlaaW.PrintLast Go.Proofs.YtkonljiembcdlaaW.PrintMore
attribute [local go_sem] max2_int min2_int max_two min_two max_three min_three max_four min_four   -- for this text's walks alone
set_option linter.unusedVariables false
set_option linter.unusedSimpArgs false
attribute [local go_sem] eqGuard_slices eqlnil23 neqnil23 eqlnil58 neqnil58
def nextV (d:Nat) (x:List Int) (p:Nat):List Int:=(List.range d).map fun k=>if p + k < x.length then Int.tmod (wrap64 (rd x ((p + k:Nat):Int))) 5 else 0
theorem nextV_succ (d:Nat) (x:List Int) (p:Nat):nextV (d + 1) x p=nextV d x p ++ [if p + d < x.length then Int.tmod (wrap64 (rd x ((p + d:Nat):Int))) 5 else 0]:=by unfold nextV;rw [List.range_succ,List.map_append];rfl
theorem mg_join {a b c:World} {g:Nat} (h:a.grownBy b (some g)) (k:b.grownBy c (some g)):a.grownBy c (some g) :=
  ⟨k.os.trans h.os,k.tape.trans h.tape,k.output.trans h.output,Nat.le_trans h.size k.size,fun i hi hn=>(k.block i (Nat.lt_of_lt_of_le hi h.size) hn).trans (h.block i hi hn)⟩
theorem mg_ofb {a b:World} (g:Nat) {B:Nat} (h:Below B a b) (hB:a.heap.size ≤ B):a.grownBy b (some g):=⟨h.os,h.tape,h.output,h.size,fun i hi _=>h.block i (by omega)⟩
theorem mg_snoc {a b c:World} {g:Nat} (h:a.grownBy b (some g)) (k:Below a.heap.size b c):a.grownBy c (some g) :=
  ⟨k.os.trans h.os,k.tape.trans h.tape,k.output.trans h.output,Nat.le_trans h.size k.size,fun i hi hn=>(k.block i hi).trans (h.block i hi hn)⟩
theorem mg_set {W w:World} {g:Nat} (h:W.grownBy w (some g)) (u:Value):W.grownBy (w.setCell ⟨g,0,none⟩ u) (some g) :=
  mg_join h ⟨rfl,rfl,rfl,by simp [World.setCell],fun i _ hi=>Below.heap_setCell _ _ _ _ (fun e=>hi (by rw [e]))⟩
theorem mg_below {W w:World} {g B:Nat} (h:W.grownBy w (some g)) (hg:B ≤ g) (hB:B ≤ W.heap.size):Below B W w :=
  ⟨h.os,h.tape,h.output,h.size,fun k hk=>h.block k (by omega) (fun e=>by injection e with e;omega)⟩
set_option maxHeartbeats 2000000 in
set_option maxRecDepth 100000 in
theorem made_next.calls (d p gd gat gx:Nat) (A:Option Addr) (c:Nat) (x:List Int) (w0 W:World) (hd:d ≤ 100) (hp:p ≤ 4611686018427387904) (hn1:gd ≠ gat) (hn2:gx ≠ gat) (hg0:w0.heap.size ≤ gat)
    (hbd:W.heap[gd]?=some (.cells #[.int .i64 (d:Int)] 3 (0,0))) (hba:W.heap[gat]?=some (.cells #[.int .i64 (p:Int)] 3 (0,0))) (hbx:W.heap[gx]?=some (.cells #[.slice A x.length c] 50 (0,0)))
    (hC:Kd.C (Kd.int .u8) w0 A x.length x) (hB:Below w0.heap.size w0 W) :
    Calls Try.prog 96 #[.pointer (some ⟨gd,0,none⟩),.pointer (some ⟨gat,0,none⟩),.pointer (some ⟨gx,0,none⟩)] W fun e w'=>∃ v,e=.returned v∧Kd.R (Kd.int .i64) 3 w' W.heap.size (fun _=>True) v (nextV d x p) ∧
      w'.heap[gat]?=some (.cells #[.int .i64 ((p + d:Nat):Int)] 3 (0,0))∧W.grownBy w' (some gat):=by
  have HD:=mk0 hd;have HP:=mk0 hp;have HN1:=mk0 hn1;have HN2:=mk0 hn2;have HG0:=mk0 hg0;have HBD:=mk0 hbd;have HBA:=mk0 hba;have HBX:=mk0 hbx;have HC:=mk0 hC;have HB0:=mk0 hB;have HL:=mk0 (show gat < W.heap.size from (Array.getElem?_eq_some_iff.1 hba).1);clear hd hp hn1 hn2 hg0 hbd hba hbx hC hB;go_enter Try.func96,Try.ntmps96
  go_wp2_with (first
    | ((with_reducible refine gate_dst (N:=7) rfl ?_);refine Kd.R_lit (Kd.int .i64) _ 3 ?hg (N:=7) ?hd (xs:=([]:List Int)) (inner:=[]) (ok:=fun _=>True) (okp:=fun _=>True) ?hr ?hp (fun _ hk=>hk) trivial (Below.refl _ _) (Nat.le_refl _) (by simp) ?_;(case hd=>rfl);(case hg=>rfl);(case hr=>first|(go_simp;done)|(go_simp;rfl));(case hp=>exact (Reps.none _ _));intro v7 w2 ho3 hb hg_ hnew_;clear hg_ hnew_;have HO:=mk0 ho3;have HB1:=mk0 hb;clear hb ho3))
  go_loopw [4,5] (fun v4 v5 wr=>∃ (k:Nat),v5=.int .i64 (k:Int)∧Aside0 (k ≤ d)∧Aside0 (Kd.R (Kd.int .i64) 3 wr W.heap.size (fun _=>True) v4 (nextV k x p))∧Aside0 (wr.heap[gat]?=some (.cells #[.int .i64 ((p + k:Nat):Int)] 3 (0,0)))∧Aside0 (W.grownBy wr (some gat))) (fun _ v5 _=>d - (intOf v5).toNat);case atStart=>exact ⟨0,rfl,⟨Nat.zero_le _⟩,HO,⟨(HB1.out.block gat HL.out).trans HBA.out⟩,⟨mg_ofb gat HB1.out (Nat.le_refl _)⟩⟩
  case round =>
    obtain ⟨k,rfl,HK,HR,HA,HGR⟩:=hrel;have HWD:=mk0 ((HGR.out.block gd (Array.getElem?_eq_some_iff.1 HBD.out).1 (fun e=>HN1.out (by injection e))).trans HBD.out);have HWX:=mk0 ((HGR.out.block gx (Array.getElem?_eq_some_iff.1 HBX.out).1 (fun e=>HN2.out (by injection e))).trans HBX.out);have HBW:=mk0 (HB0.out.trans (mg_below HGR.out HG0.out HB0.out.size));have hc0:wr.cell? ⟨gd,0,none⟩=some (.int .i64 (d:Int)):=(blk_cell HWD.out 0).trans rfl;have hc1:wr.cell? ⟨gat,0,none⟩=some (.int .i64 ((p + k:Nat):Int)):=(blk_cell HA.out 0).trans rfl;have hc2:wr.cell? ⟨gx,0,none⟩=some (.slice A x.length c):=(blk_cell HWX.out 0).trans rfl;by_cases hlt:k < d
    · have hd1:decide ((k:Int) < (d:Int))=true:=decide_eq_true (by omega)
      have hd2:decide (k < d)=true:=decide_eq_true hlt
      have hwk:wrap64 ((k:Int) + 1)=((k + 1:Nat):Int):=by have:=HD.out;unfold wrap64;omega
      have hwp:wrap64 (((p + k:Nat):Int) + 1)=((p + (k + 1):Nat):Int):=by have:=HD.out;have:=HP.out;unfold wrap64;omega
      have hlk:(nextV k x p).length=k:=by unfold nextV;simp
      obtain ⟨y,hy⟩:∃ y:Int,y=(if p + k < x.length then Int.tmod (wrap64 (rd x ((p + k:Nat):Int))) 5 else 0):=⟨_,rfl⟩
      have HWK:=mk0 hwk
      have HWP:=mk0 hwp
      have HLK:=mk0 hlk
      have HY:=mk0 hy
      have HKD:=mk0 hlt
      clear hwk hwp hlk hlt
      obtain ⟨q,hq⟩:∃ q:Int,q=((p + k:Nat):Int):=⟨_,rfl⟩
      rw [← hq] at hc1
      have hf1:=blk_frozen HA.out 0
      by_cases hin:p + k < x.length
      · have q0:(0:Int) ≤ q:=by omega
        have q1:q < (x.length:Int):=by omega
        obtain ⟨ad,e,hx0⟩:=Kd.at_int HC.out q q0 q1
        cases e
        have hx1:=(HBW.out.cell (World.block_lt_of_cell? w0 _ hx0)).trans hx0
        have hd3:decide (q < (x.length:Int))=true:=decide_eq_true q1
        have p0:((0:Int) ≤ q)=True:=eq_true q0
        have p1:(q < (x.length:Int))=True:=eq_true q1
        have hyv:Int.tmod (wrap64 (rd x q)) 5=y:=by rw [hy,if_pos hin,hq]
        have HQ:=mk0 hq
        have HIN:=mk0 hin
        clear hx0 q0 q1 hy hq hin
        go_wp2_with (first
          | ((with_reducible refine gate_builtin (b:=.append) (xs:=#[.tmp 23,.tmp 25]) rfl ?_);at_builtin;refine Kd.R_append (Kd.int .i64) (w0:=wr) W.heap.size rfl (.tmp 23) (.tmp 25) 23 3 (.int .i64 0) 8 rfl Try.underlying23 info3 rfl (by decide) (by omega) u4 (nextV k x p) y [.int .i64 y] (fun _=>True) (fun _=>False) rfl (by first|rfl|(rw [← hyv];rfl)) ?aP (fun _ hk=>hk.elim) ?aF ?aO ?aB ?aS ?aL ?_;(case aP=>exact rfl);(case aB=>exact Below.refl _ _);(case aF=>exact (fun _ _=>trivial));(case aO=>exact HR.out);(case aS=>exact HGR.out.size);(case aL=>rw [HLK.out];have:=HD.out;have:=HKD.out;omega);intro v1 w1 ho hb hg hat;have HR1:=mk0 ho;have HA1:=mk0 ((hg.block gat (Array.getElem?_eq_some_iff.1 HA.out).1 (fun e=>by have:=Kd.R_base HR.out gat e.symm;have:=HL.out;omega)).trans HA.out);have HGR1:=mk0 (mg_snoc HGR.out hb);clear ho hb hg hat;have hc3:w1.cell? ⟨gat,0,none⟩=some (.int .i64 q):=(blk_cell HA1.out 0).trans (by rw [HQ.out];rfl);have hf3:=blk_frozen HA1.out 0))
        go_roundw
        case measure=>rw [HWK.out];simp only [intOf];have:=HKD.out;omega
        case rel =>
          rw [HWK.out];refine ⟨k + 1,rfl,⟨by have:=HKD.out;omega⟩,⟨?_⟩,⟨?_⟩,⟨mg_set HGR1.out _⟩⟩
          · rw [nextV_succ,← HY.out]
            exact Kd.R_mono (Kd.R_far (p:=⟨gat,0,none⟩) (Kd.R_bound HR1.out) (fun kk hk=>by have h1:=hk.2.1;have h2:=HL.out;show kk ≠ gat;omega) _) (fun _ _=>trivial)
          · rw [HQ.out,HWP.out];exact blk_put HA1.out 0 _ rfl
      · have hd3:decide (q < (x.length:Int))=false:=decide_eq_false (by omega)
        have hy0:y=0:=by rw [hy,if_neg hin]
        have HQ:=mk0 hq
        have HIN:=mk0 hin
        have HY0:=mk0 hy0
        clear hq hin hy hy0
        go_wp2_with (first
          | ((with_reducible refine gate_builtin (b:=.append) (xs:=#[.tmp 23,.tmp 25]) rfl ?_);at_builtin;refine Kd.R_append (Kd.int .i64) (w0:=wr) W.heap.size rfl (.tmp 23) (.tmp 25) 23 3 (.int .i64 0) 8 rfl Try.underlying23 info3 rfl (by decide) (by omega) u4 (nextV k x p) y [.int .i64 0] (fun _=>True) (fun _=>False) rfl rfl ?aP (fun _ hk=>hk.elim) ?aF ?aO ?aB ?aS ?aL ?_;(case aP=>rw [HY0.out];exact rfl);(case aB=>exact Below.refl _ _);(case aF=>exact (fun _ _=>trivial));(case aO=>exact HR.out);(case aS=>exact HGR.out.size);(case aL=>rw [HLK.out];have:=HD.out;have:=HKD.out;omega);intro v1 w1 ho hb hg hat;have HR1:=mk0 ho;have HA1:=mk0 ((hg.block gat (Array.getElem?_eq_some_iff.1 HA.out).1 (fun e=>by have:=Kd.R_base HR.out gat e.symm;have:=HL.out;omega)).trans HA.out);have HGR1:=mk0 (mg_snoc HGR.out hb);clear ho hb hg hat;have hc3:w1.cell? ⟨gat,0,none⟩=some (.int .i64 q):=(blk_cell HA1.out 0).trans (by rw [HQ.out];rfl);have hf3:=blk_frozen HA1.out 0))
        go_roundw
        case measure=>rw [HWK.out];simp only [intOf];have:=HKD.out;omega
        case rel =>
          rw [HWK.out];refine ⟨k + 1,rfl,⟨by have:=HKD.out;omega⟩,⟨?_⟩,⟨?_⟩,⟨mg_set HGR1.out _⟩⟩
          · rw [nextV_succ,← HY.out]
            exact Kd.R_mono (Kd.R_far (p:=⟨gat,0,none⟩) (Kd.R_bound HR1.out) (fun kk hk=>by have h1:=hk.2.1;have h2:=HL.out;show kk ≠ gat;omega) _) (fun _ _=>trivial)
          · rw [HQ.out,HWP.out];exact blk_put HA1.out 0 _ rfl
    · have hd1:decide ((k:Int) < (d:Int))=false:=decide_eq_false (by omega)
      have hd2:decide (k < d)=false:=decide_eq_false hlt
      have hkd:k=d:=by have:=HK.out;omega
      subst hkd
      go_wp2
      go_ret
      exact ⟨_,rfl,HR.out,HA.out,HGR.out⟩
def manyV (x:List Int) (p:Nat):Nat:=(Int.tmod (wrap64 (rd x (p:Int))) 3).toNat
def perV (d:Nat) (x:List Int) (q n:Nat):List (List Int):=(List.range n).map fun k=>nextV d x (q + d * k)
theorem perV_succ (d:Nat) (x:List Int) (q n:Nat):perV d x q (n + 1)=perV d x q n ++ [nextV d x (q + d * n)]:=by unfold perV;rw [List.range_succ,List.map_append];rfl
def madeG (d:Nat) (x:List Int):Nat → Nat → List S60
  | 0,_=>[]
  | m + 1,p=>if p < x.length then ⟨nextV d x (p + 1),perV d x (p + 1 + d) (manyV x p)⟩ :: madeG d x m (p + 1 + d + d * manyV x p) else []
def bellpulllaw05_made.f (a0:Int) (l1:List Int) (a2:Int):Option (List S60) :=
  if 0 ≤ a0∧a0 ≤ 3∧0 ≤ a2∧a2 ≤ 1000∧l1.length ≤ 4611686018427386000∧(l1.all fun z=>decide (0 ≤ z) && decide (z ≤ 255))=true then some (madeG a0.toNat l1 a2.toNat 0) else none
theorem manyV_le {x:List Int} (hx:∀ z,z ∈ x → 0 ≤ z∧z ≤ 255) {p:Nat} (hp:p < x.length):Int.tmod (wrap64 (rd x (p:Int))) 3=((manyV x p:Nat):Int)∧manyV x p ≤ 2:=by (have hr:rd x (p:Int)=x[p]'hp:=by simp [rd,List.getD_eq_getElem?_getD,List.getElem?_eq_getElem hp]);have h1:=hx _ (List.getElem_mem hp);(have hw:wrap64 (rd x (p:Int))=rd x (p:Int):=by rw [hr];unfold wrap64;omega);have ht:Int.tmod (rd x (p:Int)) 3=rd x (p:Int) % 3:=Int.tmod_eq_emod_of_nonneg (by rw [hr];exact h1.1);unfold manyV;rw [hw,ht];omega
def mg_len:Value → Nat
  | .slice _ n _=>n
  | _=>0
theorem mg_ne {W:World} {g t e:Nat} {cs:Array Value} {v:Value} (hb:W.heap[g]?=some (.cells cs t (0,0))) (hty:∀ k,v.ownBlock=some k → ∃ cells,W.heap[k]?=some (.cells cells e (0,0))) (hte:t ≠ e):some g ≠ v.ownBlock:=fun h=>by obtain ⟨cells,hc⟩:=hty g h.symm;rw [hc] at hb;injection hb with hb;injection hb with _ hb;exact hte hb.symm
theorem mg_R {α:Type} {d:Kd α} {e:Nat} {w w1:World} {base:Nat} {ok:Nat → Prop} {v:Value} {xs:List α} {g:Nat} (h:d.R e w base ok v xs) (hg:w.grownBy w1 (some g)) (hok:∀ k,ok k → k ≠ g):d.R e w1 base ok v xs :=
  Kd.R_mono (Kd.R_move (Kd.R_bound h) (fun k hk=>hg.block k hk.2.2.1 (fun e=>hok k hk.1 (by injection e)))) (fun _ hk=>hk.1)
set_option maxHeartbeats 4000000 in
set_option maxRecDepth 100000 in
theorem bellpulllaw05_made.calls (a0:Int) (A1:Option Addr) (c1:Nat) (l1:List Int) (a2:Int) (r:List S60) (w:World) (hr1:Kd.C (Kd.int .u8) w A1 l1.length l1) (hc1:l1.length ≤ c1) (h:bellpulllaw05_made.f a0 l1 a2=some r) :
    Calls Try.prog 76 #[.int .i64 a0,.slice A1 l1.length c1,.int .i64 a2] w fun e w'=>∃ v0_:Value,e=.returned v0_∧Kd.R k60 60 w' w.heap.size (fun _=>True) v0_ r∧Below w.heap.size w w':=by
  unfold bellpulllaw05_made.f at h;split at h;(case isFalse=>cases h);rename_i hall;obtain ⟨h0,h3,hm0,hm1,hlen,hx0⟩:=hall;obtain rfl:=Option.some.inj h;(have hx:∀ z,z ∈ l1 → 0 ≤ z∧z ≤ 255:=fun z hz=>by have:=List.all_eq_true.1 hx0 z hz;simp only [Bool.and_eq_true,decide_eq_true_eq] at this;exact this);obtain ⟨d,rfl⟩:∃ d:Nat,a0=(d:Int):=⟨a0.toNat,by omega⟩;obtain ⟨most,rfl⟩:∃ m:Nat,a2=(m:Int):=⟨a2.toNat,by omega⟩;rw [Int.toNat_natCast,Int.toNat_natCast];have HD:=mk0 (show d ≤ 3 by omega);have HM:=mk0 (show most ≤ 1000 by omega);have HLEN:=mk0 hlen;have HX:=mk0 hx;have HC:=mk0 hr1;have HB:=mk0 (Below.refl w.heap.size w);have eg:∀ args w,(callFunc 96 args).run Try.prog w=.ok (.enter 96 args) w:=enters_of Try.func96 (by kernel_rfl) rfl;clear h h0 h3 hm0 hm1 hlen hx0 hx hr1;go_enter Try.func76,Try.ntmps76
  go_wp2_with (first
    | ((with_reducible refine gate_dst (N:=3) rfl ?_);refine box_event ?hg (N:=3) ?hd (cs:=#[.int .i64 (d:Int)]) (t:=3) ?hr ?_;(case hd=>rfl);(case hg=>rfl);(case hr=>first|(go_simp;done)|(go_simp;rfl));intro gd hg w1 hbox hb;have HBD:=mk0 hbox;have HGD:=mk0 hg;replace HB:=mk0 (HB.out.trans (hb.mono (Nat.le_refl _)));clear hb hbox hg)
    | ((with_reducible refine gate_dst (N:=4) rfl ?_);refine box_event ?hg (N:=4) ?hd (cs:=#[.slice A1 l1.length c1]) (t:=50) ?hr ?_;(case hd=>rfl);(case hg=>rfl);(case hr=>first|(go_simp;done)|(go_simp;rfl));intro gx hg w2 hbox hb;have HBX:=mk0 hbox;have HGX:=mk0 hg;replace HBD:=mk0 (blk_below HBD.out hb);replace HB:=mk0 (HB.out.trans (hb.mono HB.out.size));clear hb hbox hg)
    | ((with_reducible refine gate_dst (N:=14) rfl ?_);refine Kd.R_lit k60 _ 60 ?hg (N:=14) ?hd (xs:=([]:List S60)) (inner:=[]) (ok:=fun _=>True) (okp:=fun _=>True) ?hr ?hp (fun _ hk=>hk) trivial (Below.refl _ _) (Nat.le_refl _) (by simp) ?_;(case hd=>rfl);(case hg=>rfl);(case hr=>first|(go_simp;done)|(go_simp;rfl));(case hp=>exact (Reps.none _ _));intro v7 w3 ho3 hb hg_ hnew_;have HO:=mk0 (Kd.R_lower ho3 HB.out.size);replace HBD:=mk0 (blk_below HBD.out hb);replace HBX:=mk0 (blk_below HBX.out hb);replace HB:=mk0 (HB.out.trans (hb.mono HB.out.size));clear hb ho3 hg_ hnew_)
    | ((with_reducible refine gate_dst (N:=8) rfl ?_);refine box_event ?hg (N:=8) ?hd (cs:=#[.int .i64 0]) (t:=3) ?hr ?_;(case hd=>rfl);(case hg=>rfl);(case hr=>first|(go_simp;done)|(go_simp;rfl));intro gat hg w4 hbox hb;have HBA:=mk0 hbox;have HGA:=mk0 hg;have HNE:=mk0 (show gd ≠ gat∧gx ≠ gat from ⟨by have:=(Array.getElem?_eq_some_iff.1 HBD.out).1;omega,by have:=(Array.getElem?_eq_some_iff.1 HBX.out).1;omega⟩);have HGW:=mk0 (show w.heap.size ≤ gat from by have:=HB.out.size;omega);replace HO:=mk0 (Kd.R_below (Kd.R_mono (Kd.R_bound HO.out) (ok':=fun k=>k ≠ gat) (fun k hk=>by have:=hk.2.2.1;omega)) hb);replace HBD:=mk0 (blk_below HBD.out hb);replace HBX:=mk0 (blk_below HBX.out hb);replace HB:=mk0 (HB.out.trans (hb.mono HB.out.size));clear hb hbox hg;have hc8:w4.cell? ⟨gat,0,none⟩=some (.int .i64 0):=(blk_cell HBA.out 0).trans rfl;have hf8:=blk_frozen HBA.out 0))
  go_loopw [7] (fun v7 wr=>∃ (o:List S60) (p:Nat) (A:Option Addr) (c:Nat),v7=.slice A o.length c∧Aside0 (o ++ madeG d l1 (most - o.length) p=madeG d l1 most 0)∧Aside0 (o.length ≤ most)∧Aside0 (p ≤ l1.length + 9)∧Aside0 (Kd.R k60 60 wr w.heap.size (fun k=>k ≠ gat) (.slice A o.length c) o) ∧
      Aside0 (wr.heap[gd]?=some (.cells #[.int .i64 (d:Int)] 3 (0,0)))∧Aside0 (wr.heap[gx]?=some (.cells #[.slice A1 l1.length c1] 50 (0,0)))∧Aside0 (wr.heap[gat]?=some (.cells #[.int .i64 (p:Int)] 3 (0,0)))∧Aside0 (Below w.heap.size w wr)) (fun v7 _=>most - mg_len v7)
  case atStart =>obtain ⟨A,c,rfl⟩:=Kd.R_slice HO.out;refine ⟨[],0,A,c,rfl,⟨by simp⟩,⟨Nat.zero_le _⟩,⟨Nat.zero_le _⟩,⟨Kd.R_far (p:=⟨gat,0,none⟩) HO.out (fun _ hk=>hk) _⟩,⟨blk_far HBD.out HNE.out.1 _⟩,⟨blk_far HBX.out HNE.out.2 _⟩,⟨blk_put HBA.out 0 _ rfl⟩,⟨below_set HB.out HGW.out⟩⟩
  case round =>
    clear HO HBD HBX HBA HB hc8 hf8 HGD HGX HGA;obtain ⟨o,p,A,c,rfl,HREL,HOL,HP,HO,HBD,HBX,HBA,HB⟩:=hrel;have hcx:wr.cell? ⟨gx,0,none⟩=some (.slice A1 l1.length c1):=(blk_cell HBX.out 0).trans rfl;by_cases hl:o.length < most
    · have hd1:decide ((o.length:Int) < (most:Int))=true:=decide_eq_true (by omega)
      have hd2:decide (o.length < most)=true:=decide_eq_true hl
      by_cases hp:p < l1.length
      · obtain ⟨q,hq⟩:∃ q:Int,q=(p:Int):=⟨_,rfl⟩
        have hca:wr.cell? ⟨gat,0,none⟩=some (.int .i64 q):=(blk_cell HBA.out 0).trans (by rw [hq];rfl)
        have hfa:=blk_frozen HBA.out 0
        have hd3:decide (q < (l1.length:Int))=true:=decide_eq_true (by omega)
        have q0:(0:Int) ≤ q:=by omega
        have q1:q < (l1.length:Int):=by omega
        obtain ⟨ad,e,hx0⟩:=Kd.at_int HC.out q q0 q1
        cases e
        have hx1:=(HB.out.cell (World.block_lt_of_cell? w _ hx0)).trans hx0
        have p0:((0:Int) ≤ q)=True:=eq_true q0
        have p1:(q < (l1.length:Int))=True:=eq_true q1
        obtain ⟨hmv,hm2⟩:=manyV_le HX.out hp
        rw [← hq] at hmv
        obtain ⟨n,hn⟩:∃ n:Nat,n=manyV l1 p:=⟨_,rfl⟩
        rw [← hn] at hmv hm2
        have hwq:wrap64 (q + 1)=((p + 1:Nat):Int):=by have:=HLEN.out;unfold wrap64;omega
        have HN:=mk0 hn
        have HQ:=mk0 hq
        have HPL:=mk0 hp
        have HLM:=mk0 hl
        have HN2:=mk0 hm2
        have HWQ:=mk0 hwq
        have hga:=(Array.getElem?_eq_some_iff.1 HBA.out).1
        have HGLT:=mk0 hga
        clear hx0 q0 q1 hq hp hl hn hm2 hwq hga
        have HO1:=mk0 (Kd.R_far (p:=⟨gat,0,none⟩) HO.out (fun _ hk=>hk) (.int .i64 (wrap64 (q + 1))))
        have HBD1:=mk0 (blk_far HBD.out HNE.out.1 (p:=⟨gat,0,none⟩) (.int .i64 (wrap64 (q + 1))))
        have HBX1:=mk0 (blk_far HBX.out HNE.out.2 (p:=⟨gat,0,none⟩) (.int .i64 (wrap64 (q + 1))))
        have HBA1:Aside0 ((wr.setCell ⟨gat,0,none⟩ (.int .i64 (wrap64 (q + 1)))).heap[gat]?=some (.cells #[.int .i64 ((p + 1:Nat):Int)] 3 (0,0))):=⟨by rw [HWQ.out];exact blk_put HBA.out 0 _ rfl⟩
        have HB1:Aside0 (Below w.heap.size w (wr.setCell ⟨gat,0,none⟩ (.int .i64 (wrap64 (q + 1))))):=⟨below_set HB.out HGW.out⟩
        clear HO HBD HBX HBA HB
        go_wp2_with (fail)
        generalize (wr.setCell ⟨gat,0,none⟩ (.int .i64 (wrap64 (q + 1))))=W1 at HO1 HBD1 HBX1 HBA1 HB1 ⊢;(with_reducible refine (made_next.calls d (p + 1) gd gat gx _ c1 l1 w W1 ?s1 ?s2 HNE.out.1 HNE.out.2 HGW.out HBD1.out HBA1.out HBX1.out HC.out HB1.out).mono ?_);(case s1=>have:=HD.out;omega);(case s2=>have:=HLEN.out;have:=HPL.out;omega);rintro e W2 ⟨vf,rfl,hR,hA,hG⟩;have HF:=mk0 (Kd.R_mono (Kd.R_bound hR) (ok':=fun k=>k ≠ gat) (fun k hk=>by have:=hk.2.1;have:=(Array.getElem?_eq_some_iff.1 HBA1.out).1;omega));have HO:=mk0 (mg_R HO1.out hG (fun _ hk=>hk));have HBD:=mk0 ((hG.block gd (Array.getElem?_eq_some_iff.1 HBD1.out).1 (fun e=>HNE.out.1 (by injection e))).trans HBD1.out);have HBX:=mk0 ((hG.block gx (Array.getElem?_eq_some_iff.1 HBX1.out).1 (fun e=>HNE.out.2 (by injection e))).trans HBX1.out);have HBA:=mk0 hA;have HB:=mk0 (HB1.out.trans (mg_below hG HGW.out HB1.out.size));replace HF:=mk0 (Kd.R_lower HF.out HB1.out.size);clear hR hA hG HO1 HBD1 HBX1 HBA1 HB1;obtain ⟨Af,cf,ef⟩:=Kd.R_slice HF.out;subst ef
        go_wp2_with (first
          | ((with_reducible refine gate_dst (N:=11) rfl ?_);refine box_event ?hg (N:=11) ?hd (cs:=#[.slice none 0 0,.slice none 0 0]) (t:=60) ?hr ?_;(case hd=>rfl);(case hg=>rfl);(case hr=>first|(go_simp;done)|(go_simp;rfl));intro gl hg w6 hbox hb;have HBL:=mk0 hbox;have HNL:=mk0 (show gd ≠ gl∧gx ≠ gl∧gat ≠ gl from ⟨by have:=(Array.getElem?_eq_some_iff.1 HBD.out).1;omega,by have:=(Array.getElem?_eq_some_iff.1 HBX.out).1;omega,by have:=(Array.getElem?_eq_some_iff.1 HBA.out).1;omega⟩);have HGL:=mk0 (show w.heap.size ≤ gl from by have:=HB.out.size;omega);replace HO:=mk0 (Kd.R_below (Kd.R_elderB HO.out gl (Nat.le_of_eq hg.symm)) hb);replace HF:=mk0 (Kd.R_below HF.out hb);replace HBD:=mk0 (blk_below HBD.out hb);replace HBX:=mk0 (blk_below HBX.out hb);replace HBA:=mk0 (blk_below HBA.out hb);replace HB:=mk0 (HB.out.trans (hb.mono HB.out.size));clear hb hbox hg;have hcl0:w6.cell? ⟨gl,0,none⟩=some (.slice none 0 0):=(blk_cell HBL.out 0).trans rfl;have hcl1:w6.cell? ⟨gl,1,none⟩=some (.slice none 0 0):=(blk_cell HBL.out 1).trans rfl;have hfl0:=blk_frozen HBL.out 0;have hfl1:=blk_frozen HBL.out 1))
        obtain ⟨F,hF⟩:∃ F:List Int,F=nextV d l1 (p + 1):=⟨_,rfl⟩
        rw [← hF] at HF
        have HFF:=mk0 hF
        rw [← hF]
        clear hF
        go_loopw [12] (fun v12 wi=>∃ (k:Nat) (u:Value),v12=.int .i64 (k:Int)∧Aside0 (k ≤ n)∧Aside0 (Kd.R k60 60 wi w.heap.size (fun z=>(z ≠ gat∧z ≠ gl)∧some z ≠ u.ownBlock) (.slice A o.length c) o)∧Aside0 (Kd.R (Kd.int .i64) 3 wi w.heap.size (fun z=>z ≠ gat) (.slice Af F.length cf) F) ∧
            Aside0 (Kd.R (Kd.slice 3 (Kd.int .i64)) 23 wi w.heap.size (fun z=>z ≠ gat) u (perV d l1 (p + 1 + d) k))∧Aside0 (wi.heap[gl]?=some (.cells #[.slice Af F.length cf,u] 60 (0,0))) ∧
            Aside0 (wi.heap[gd]?=some (.cells #[.int .i64 (d:Int)] 3 (0,0)))∧Aside0 (wi.heap[gx]?=some (.cells #[.slice (some ad) l1.length c1] 50 (0,0)))∧Aside0 (wi.heap[gat]?=some (.cells #[.int .i64 ((p + 1 + d + d * k:Nat):Int)] 3 (0,0)))∧Aside0 (Below w.heap.size w wi)) (fun v12 _=>n - (intOf v12).toNat)
        case atStart =>
          exact ⟨0,.slice none 0 0,rfl,⟨Nat.zero_le _⟩,⟨Kd.R_mono (Kd.R_far (p:=⟨gl,1,none⟩) (Kd.R_far (p:=⟨gl,0,none⟩) HO.out (fun _ hk=>hk.2) _) (fun _ hk=>hk.2) _) (fun _ hk=>⟨hk,by simp [Value.ownBlock]⟩)⟩,
            ⟨Kd.R_mono (Kd.R_far (p:=⟨gl,1,none⟩) (Kd.R_far (p:=⟨gl,0,none⟩) (Kd.R_types HF.out HBL.out (by decide)) (fun _ hk=>hk.2) _) (fun _ hk=>hk.2) _) (fun _ hk=>hk.1)⟩,⟨Kd.R_nil _ _ _ _ _⟩,
            ⟨by refine blk_put (cs:=#[.slice Af F.length cf,.slice none 0 0]) ?_ 1 _ rfl;exact blk_put HBL.out 0 _ rfl⟩,⟨blk_far (blk_far HBD.out HNL.out.1 _) HNL.out.1 _⟩,⟨blk_far (blk_far HBX.out HNL.out.2.1 _) HNL.out.2.1 _⟩,⟨blk_far (blk_far HBA.out HNL.out.2.2 _) HNL.out.2.2 _⟩,⟨below_set (below_set HB.out HGL.out) HGL.out⟩⟩
        case round =>
          clear HO HF HBL HBD HBX HBA HB hcl0 hcl1 hfl0 hfl1;obtain ⟨k,u,rfl,HK,HO,HF,HS,HBL,HBD,HBX,HBA,HB⟩:=hrel;have hcl0:wr.cell? ⟨gl,0,none⟩=some (.slice Af F.length cf):=(blk_cell HBL.out 0).trans rfl;have hcl1:wr.cell? ⟨gl,1,none⟩=some u:=(blk_cell HBL.out 1).trans rfl;by_cases hkn:k < n
          · have hd5:decide ((k:Int) < (n:Int))=true:=decide_eq_true (by omega)
            have hd6:decide (k < n)=true:=decide_eq_true hkn
            have hwk:wrap64 ((k:Int) + 1)=((k + 1:Nat):Int):=by have:=HN2.out;unfold wrap64;omega
            have HWK:=mk0 hwk
            have HKN:=mk0 hkn
            have hmul:d * k ≤ 6:=Nat.le_trans (Nat.mul_le_mul HD.out (show k ≤ 2 by have:=HN2.out;omega)) (by decide)
            have HMU:=mk0 hmul
            obtain ⟨p2,hp2⟩:∃ p2:Nat,p2=p + 1 + d + d * k:=⟨_,rfl⟩
            rw [← hp2] at HBA
            have HP2:=mk0 hp2
            have hpl:(perV d l1 (p + 1 + d) k).length=k:=by unfold perV;simp
            have HPV:=mk0 hpl
            clear hwk hkn hmul hp2 hpl
            go_wp2_with (fail)
            (with_reducible refine (made_next.calls d p2 gd gat gx _ c1 l1 w wr ?s1 ?s2 HNE.out.1 HNE.out.2 HGW.out HBD.out HBA.out HBX.out HC.out HB.out).mono ?_)
            case s1=>have:=HD.out;omega
            case s2=>rw [HP2.out];have:=HLEN.out;have:=HPL.out;have:=HMU.out;have:=HD.out;omega
            rintro e W2 ⟨vn,rfl,hR,hA,hG⟩
            have HV:=mk0 (Kd.R_lower (Kd.R_mono (Kd.R_bound hR) (ok':=fun k=>k ≠ gat) (fun z hk=>by have:=hk.2.1;have:=(Array.getElem?_eq_some_iff.1 HBA.out).1;omega)) HB.out.size)
            replace HO:=mk0 (mg_R HO.out hG (fun _ hk=>hk.1.1))
            replace HF:=mk0 (mg_R HF.out hG (fun _ hk=>hk))
            replace HS:=mk0 (mg_R HS.out hG (fun _ hk=>hk))
            replace HBL:=mk0 ((hG.block gl (Array.getElem?_eq_some_iff.1 HBL.out).1 (fun e=>HNL.out.2.2 (by injection e with e;exact e.symm))).trans HBL.out)
            replace HBD:=mk0 ((hG.block gd (Array.getElem?_eq_some_iff.1 HBD.out).1 (fun e=>HNE.out.1 (by injection e))).trans HBD.out)
            replace HBX:=mk0 ((hG.block gx (Array.getElem?_eq_some_iff.1 HBX.out).1 (fun e=>HNE.out.2 (by injection e))).trans HBX.out)
            replace HB:=mk0 (HB.out.trans (mg_below hG HGW.out HB.out.size))
            replace HBA:=mk0 hA
            clear hR hA hG hcl0 hcl1
            obtain ⟨V,hV⟩:∃ V:List Int,V=nextV d l1 p2:=⟨_,rfl⟩
            rw [← hV] at HV
            have HVV:=mk0 hV
            clear hV
            obtain ⟨An,cn,en⟩:=Kd.R_slice HV.out
            subst en
            go_wp2_with (first
              | ((with_reducible refine gate_builtin (b:=.append) (xs:=#[.tmp 44,.tmp 47]) rfl ?_);at_builtin;refine Kd.R_append (Kd.slice 3 (Kd.int .i64)) (w0:=w) w.heap.size rfl (.tmp 44) (.tmp 47) 58 23 (.slice none 0 0) 24 rfl Try.underlying58 info23 rfl (by decide) (by omega) u (perV d l1 (p + 1 + d) k) V [.slice An V.length cn] (fun z=>z ≠ gat) (fun z=>z ≠ gat∧some z ≠ u.ownBlock) rfl rfl ?aP (fun _ hk=>hk) ?aF ?aO ?aB ?aS ?aL ?_;(case aP=>exact Kd.M_row (Kd.R_apart' HV.out (Kd.R_typed HS.out) (by decide)));(case aF=>exact fun z hk=>Kd.freshB HBA.out z hk);(case aO=>exact HS.out);(case aB=>exact HB.out);(case aS=>exact below_size HB.out);(case aL=>rw [HPV.out];have:=HKN.out;have:=HN2.out;omega);intro u1 w9 ho hb hg hat;replace HO:=mk0 (Kd.R_after (ok:=fun z=>z ≠ gat∧z ≠ gl) HO.out hg hat);replace HF:=mk0 (Kd.R_over' HF.out (Kd.R_typed HS.out) (by decide) hg);replace HBL:=mk0 (blk_grown HBL.out hg (mg_ne HBL.out (Kd.R_typed HS.out) (by decide)));replace HBD:=mk0 (blk_grown HBD.out hg (mg_ne HBD.out (Kd.R_typed HS.out) (by decide)));replace HBX:=mk0 (blk_grown HBX.out hg (mg_ne HBX.out (Kd.R_typed HS.out) (by decide)));replace HBA:=mk0 (blk_grown HBA.out hg (mg_ne HBA.out (Kd.R_typed HS.out) (by decide)));obtain ⟨P2,hP2⟩:∃ P2:List (List Int),P2=perV d l1 (p + 1 + d) k ++ [V]:=⟨_,rfl⟩;rw [← hP2] at ho;have HP3:=mk0 hP2;replace HS:=mk0 ho;replace HB:=mk0 hb;clear ho hb hg hat hP2;obtain ⟨A8,c8,e8⟩:=Kd.R_slice HS.out;subst e8;have hcl0:w9.cell? ⟨gl,0,none⟩=some (.slice Af F.length cf):=(blk_cell HBL.out 0).trans rfl;have hcl1:w9.cell? ⟨gl,1,none⟩=some u:=(blk_cell HBL.out 1).trans rfl;have hfl0:=blk_frozen HBL.out 0;have hfl1:=blk_frozen HBL.out 1))
            go_roundw
            case measure=>rw [HWK.out];simp only [intOf];have:=HKN.out;omega
            case rel =>
              rw [HWK.out];refine ⟨k + 1,.slice A8 P2.length c8,rfl,⟨by have:=HKN.out;omega⟩,⟨Kd.R_far (p:=⟨gl,1,none⟩) HO.out (fun _ hk=>hk.1.2) _⟩,⟨Kd.R_mono (Kd.R_far (p:=⟨gl,1,none⟩) (Kd.R_types HF.out HBL.out (by decide)) (fun _ hk=>hk.2) _) (fun _ hk=>hk.1)⟩,⟨?_⟩,⟨blk_put HBL.out 1 _ rfl⟩,⟨blk_far HBD.out HNL.out.1 _⟩,⟨blk_far HBX.out HNL.out.2.1 _⟩,⟨?_⟩,⟨below_set HB.out HGL.out⟩⟩
              · rw [perV_succ,← HP2.out,← HVV.out,← HP3.out]
                exact Kd.R_mono (Kd.R_far (p:=⟨gl,1,none⟩) (Kd.R_types HS.out HBL.out (by decide)) (fun _ hk=>hk.2) _) (fun _ hk=>hk.1)
              · rw [show p + 1 + d + d * (k + 1)=p2 + d from by rw [HP2.out,Nat.mul_succ];omega]
                exact blk_far HBA.out HNL.out.2.2 _
          · have hd5:decide ((k:Int) < (n:Int))=false:=decide_eq_false (by omega)
            have hd6:decide (k < n)=false:=decide_eq_false hkn
            obtain rfl:k=n:=by have:=HK.out;omega
            obtain ⟨Au,cu,rfl⟩:=Kd.R_slice HS.out
            obtain ⟨P,hP⟩:∃ P:List (List Int),P=perV d l1 (p + 1 + d) k:=⟨_,rfl⟩
            rw [← hP] at HS hcl1 HBL HO
            have HPP:=mk0 hP
            clear hP hkn
            go_wp2_with (first
              | ((with_reducible refine gate_builtin (b:=.append) (xs:=#[.tmp 50,.tmp 52]) rfl ?_);at_builtin;refine Kd.R_append k60 (w0:=w) w.heap.size rfl (.tmp 50) (.tmp 52) 22 60 (.agg #[(.slice none 0 0),(.slice none 0 0)]) 48 rfl Try.underlying22 info60 rfl (by decide) (by omega) (.slice A o.length c) o (⟨F,P⟩:S60) [.slice Af F.length cf,.slice Au P.length cu] (fun z=>z ≠ gat) (fun z=>z ≠ gat∧some z ≠ (.slice A o.length c:Value).ownBlock) rfl rfl ?aP (fun _ hk=>hk) ?aF ?aO ?aB ?aS ?aL ?_;(case aP=>exact k60_mkM _ _ _ (⟨F,P⟩:S60) (Kd.R_apart' HF.out (Kd.R_typed HO.out) (by decide)) (Kd.R_apart' HS.out (Kd.R_typed HO.out) (by decide)));(case aF=>exact fun z hk=>Kd.freshB HBA.out z hk);(case aO=>exact Kd.R_mono HO.out (fun _ h=>h.1.1));(case aB=>exact HB.out);(case aS=>exact below_size HB.out);(case aL=>have:=HLM.out;have:=HM.out;omega);intro u2 w10 ho hb hg hat;replace HBD:=mk0 (blk_grown HBD.out hg (mg_ne HBD.out (Kd.R_typed HO.out) (by decide)));replace HBX:=mk0 (blk_grown HBX.out hg (mg_ne HBX.out (Kd.R_typed HO.out) (by decide)));replace HBA:=mk0 (blk_grown HBA.out hg (mg_ne HBA.out (Kd.R_typed HO.out) (by decide)));replace HO:=mk0 ho;replace HB:=mk0 hb;clear ho hb hg hat;obtain ⟨A9,c9,e9⟩:=Kd.R_slice HO.out;subst e9))
            go_roundw
            case measure=>simp only [mg_len];have:=HLM.out;omega
            case rel =>
              refine ⟨o ++ [⟨F,P⟩],p + 1 + d + d * k,A9,c9,by simp,⟨?_⟩,⟨by rw [List.length_append,List.length_singleton];have:=HLM.out;omega⟩,⟨?_⟩,HO,HBD,HBX,HBA,HB⟩
              · have h1:=HREL.out
                obtain ⟨m,hm⟩:∃ m,most - o.length=m + 1:=⟨most - o.length - 1,by have:=HLM.out;omega⟩
                rw [hm,madeG,if_pos HPL.out,← HN.out,← HFF.out,← HPP.out] at h1
                rw [List.length_append,List.length_singleton,show most - (o.length + 1)=m by omega,List.append_assoc]
                exact h1
              · have hmul:d * k ≤ 6:=Nat.le_trans (Nat.mul_le_mul HD.out (show k ≤ 2 from HN2.out)) (by decide)
                have:=HD.out;have:=HPL.out;omega
      · obtain ⟨q,hq⟩:∃ q:Int,q=(p:Int):=⟨_,rfl⟩
        have hca:wr.cell? ⟨gat,0,none⟩=some (.int .i64 q):=(blk_cell HBA.out 0).trans (by rw [hq];rfl)
        have hd3:decide (q < (l1.length:Int))=false:=decide_eq_false (by omega)
        have e1:madeG d l1 (most - o.length) p=[]:=by obtain ⟨m,hm⟩:∃ m,most - o.length=m + 1:=⟨most - o.length - 1,by omega⟩;rw [hm,madeG,if_neg hp]
        have HE:=mk0 e1
        clear hq hp hl e1
        go_wp2
        go_ret
        refine ⟨_,rfl,?_,HB.out⟩
        rw [← HREL.out,HE.out,List.append_nil]
        exact Kd.R_mono HO.out (fun _ _=>trivial)
    · have hd1:decide ((o.length:Int) < (most:Int))=false:=decide_eq_false (by omega)
      have hd2:decide (o.length < most)=false:=decide_eq_false hl
      have e1:madeG d l1 (most - o.length) p=[]:=by rw [show most - o.length=0 by omega,madeG]
      have HE:=mk0 e1
      clear hl e1
      go_wp2
      go_ret
      refine ⟨_,rfl,?_,HB.out⟩
      rw [← HREL.out,HE.out,List.append_nil]
      exact Kd.R_mono HO.out (fun _ _=>trivial)
end Go.Proofs.Ytkonljiembcdlaa.PC
namespace Go.Proofs.Ytkonljiembcdlaa.PC
open Go.Proofs.MyWords Go.RowKit Go.Proofs.YtkonljiembcdlaaW.PrintWords Go.Proofs.YtkonljiembcdlaaW.PrintLast Go.Proofs.YtkonljiembcdlaaW.PrintMore
attribute [local go_sem] max2_int min2_int max_two min_two max_three min_three max_four min_four   -- for this text's walks alone
set_option linter.unusedVariables false
set_option linter.unusedSimpArgs false
attribute [local go_sem] eqGuard_slices eqlnil23 neqnil23 eqlnil58 neqnil58
def bellpulllaw05_Plan_sets.f (a0_0:Int) (l0_1:List Int) (l0_2:List Int) (a1:Int):Option (Int × (List (S60)) × (List (S60))):=(bellpulllaw05_made.f (wrap64 ((Int.tmod (wrap64 (a0_0)) 3) + 1)) l0_1 a1).bind fun t778=>((bellpulllaw05_made.f (wrap64 ((Int.tmod (wrap64 (a0_0)) 3) + 1)) l0_2 a1).bind fun t781=>(some (wrap64 ((Int.tmod (wrap64 (a0_0)) 3) + 1),t778,t781)))
def bellpulllaw05_Plan_sets.T2:Bool × List (List Nat × List Nat):=(true,[([],[]),([],[]),([],[]),([2],[2]),([],[]),([1,3,4],[1,3,4]),([],[]),([],[]),([7],[7]),([],[]),([6,8,9,5],[6,8,9]),([0,10,0],[0]),([5,11,0,1,2,3,4,5,11],[5]),([10,12,0,1,2,3,4,5,6,7,8,9,10,11,12],[10])])
def bellpulllaw05_Plan_sets.B2:List Nat:=[0,0,0,4,0,30,0,0,128,0,1022,2047,4095,8191]
theorem bellpulllaw05_Plan_sets.tab2:rtab .any (opsOf Try.f33 2)=bellpulllaw05_Plan_sets.T2:=by kernel_rfl
theorem bellpulllaw05_Plan_sets.bits2:waitsOk bellpulllaw05_Plan_sets.T2.2 bellpulllaw05_Plan_sets.B2=true:=by kernel_rfl
set_option maxHeartbeats 8000000 in
set_option maxRecDepth 100000 in
theorem bellpulllaw05_Plan_sets.calls (D:Int) (M:Option Addr) (O:Nat) (F:List Int) (Q:Option Addr) (T:Nat) (G:List Int) (X:Int) (r1:Int) (r2:List (S60)) (r3:List (S60)) (w:World) (a0:Kd.C (Kd.int .u8) w M F.length F) (a2:F.length ≤ O) (a3:Kd.C (Kd.int .u8) w Q G.length G) (a4:G.length ≤ T) (h:bellpulllaw05_Plan_sets.f D F G X=some (r1,r2,r3)) :
    Calls Try.prog 33 #[.agg #[.int .u8 D,.slice M F.length O,.slice Q G.length T],.int .i64 X] w fun e w'=>∃ a5 a6:Value,e=.returned (.tuple #[.int .i64 r1,a5,a6])∧Kd.R k60 60 w' w.heap.size (fun k_=>some k_ ≠ (a6:Value).ownBlock) a5 r2∧Kd.R k60 60 w' w.heap.size (fun k_=>some k_ ≠ (a5:Value).ownBlock) a6 r3∧Below w.heap.size w w':=by
 (have c8:=Try.underlying55;have a9:=mk0 a0;have b0:=mk0 a2;clear a0 a2;have b1:=mk0 a3;have b2:=mk0 a4;clear a3 a4;have I:=mk0 (Below.refl w.heap.size w);have H:((bellpulllaw05_made.f (wrap64 ((Int.tmod (wrap64 (D)) 3) + 1)) F X).bind fun Y=>((bellpulllaw05_made.f (wrap64 ((Int.tmod (wrap64 (D)) 3) + 1)) G X).bind fun Z=>(some (wrap64 ((Int.tmod (wrap64 (D)) 3) + 1),Y,Z))))=some (r1,r2,r3):=h;clear h;replace H:=Option.bind_eq_some_iff.mp H;obtain ⟨Y,b6,H⟩:=H;(try dsimp only at H);have A3:=mk0 b6;clear b6;replace H:=Option.bind_eq_some_iff.mp H;obtain ⟨Z,b7,H⟩:=H;(try dsimp only at H);have A4:=mk0 b7;clear b7;simp only [Option.some.injEq,Prod.mk.injEq] at H;obtain ⟨rfl,rfl,rfl⟩:=H;go_enter Try.func33,Try.ntmps33;try go_wp2_with (first|((with_reducible refine gate_dst (N:=2) rfl ?_);refine box_event ?hg (N:=2) ?hd (cs:=#[.int .u8 D,.slice M F.length O,.slice Q G.length T]) (t:=55) ?hr ?_;(case hd=>rfl);(case hg=>rfl);(case hr=>first|(go_simp;done)|(go_simp;rfl));intro V hg w5 a7 hb;have B:=mk0 (a7);have b3:=szw hg I;have b4:=b3;replace I:=bst I hb;clear hb a7 hg;have c2:=q0_ B;have c3:=q1_ B;have c4:=q2_ B;have c5:=blk_frozen B.1 0;have c6:=blk_frozen B.1 1;have c7:=blk_frozen B.1 2)));replace B:=bdr B;replace I:=hdr I;refine start_ (n:=14) (S:=fun w'=>w'.cell? ⟨V,0,none⟩=some (.int .u8 D)∧w'.cell? ⟨V,1,none⟩=some (.slice M F.length O)∧w'.cell? ⟨V,2,none⟩=some (.slice Q G.length T)) (ds:=[]) #[n_,n_,n_,n_,n_,n_,n_,n_,n_,n_,n_,n_,n_,n_] (by kernel_rfl) rfl rfl ⟨q0_ B,q1_ B,q2_ B⟩ (fun J=>?_);refine with_tabW bellpulllaw05_Plan_sets.tab2 bellpulllaw05_Plan_sets.bits2 (fun E b8=>?_);generalize w5.drew=w7 at B I J ⊢;refine pure_ (i:=0) (N:=some 13) (v:=?_) (a':=?_) #[y_,n_,n_,n_,n_,n_,n_,n_,n_,n_,n_,n_,n_,n_] rfl rfl (any_of E.1 (by kernel_rfl)) (fun _ _ _ h=>h) (Or.inl ⟨by rfl,?_⟩) ?_ ?_;rotate_left;(· intro w';go_simp;with_reducible rfl);rotate_left;(· simp only [Act.put,s0_,s1_,s2_,i64_w,i32_w];rfl);refine pure_ (i:=1) (N:=some 14) (v:=?_) (a':=?_) #[y_,y_,n_,n_,n_,n_,n_,n_,n_,n_,n_,n_,n_,n_] rfl rfl (any_of E.1 (by kernel_rfl)) (fun _ _ _ h=>h) (Or.inl ⟨by rfl,?_⟩) ?_ ?_;rotate_left;(· intro w';go_simp;with_reducible rfl);rotate_left;(· simp only [Act.put,s0_,s1_,s2_,i64_w,i32_w];rfl);refine pure_ (i:=2) (N:=some 15) (v:=?_) (a':=?_) #[y_,y_,y_,n_,n_,n_,n_,n_,n_,n_,n_,n_,n_,n_] rfl rfl (any_of E.1 (by kernel_rfl)) (fun _ _ _ h=>h) (Or.inl ⟨by rfl,?_⟩) ?_ ?_;rotate_left;(· intro w';go_simp;with_reducible rfl);rotate_left;(· simp only [Act.put,s0_,s1_,s2_,i64_w,i32_w];rfl);refine pure_ (i:=4) (N:=some 17) (v:=?_) (a':=?_) #[y_,y_,y_,n_,y_,n_,n_,n_,n_,n_,n_,n_,n_,n_] rfl rfl (any_of E.1 (by kernel_rfl)) (fun _ _ _ h=>h) (Or.inl ⟨by rfl,?_⟩) ?_ ?_;rotate_left;(· intro w';go_simp;with_reducible rfl);rotate_left;(· simp only [Act.put,s0_,s1_,s2_,i64_w,i32_w];rfl);refine pure_ (i:=6) (N:=some 19) (v:=?_) (a':=?_) #[y_,y_,y_,n_,y_,n_,y_,n_,n_,n_,n_,n_,n_,n_] rfl rfl (any_of E.1 (by kernel_rfl)) (fun _ _ _ h=>h) (Or.inl ⟨by rfl,?_⟩) ?_ ?_;rotate_left;(· intro w';go_simp;with_reducible rfl);rotate_left;(· simp only [Act.put,s0_,s1_,s2_,i64_w,i32_w];rfl);refine pure_ (i:=7) (N:=some 20) (v:=?_) (a':=?_) #[y_,y_,y_,n_,y_,n_,y_,y_,n_,n_,n_,n_,n_,n_] rfl rfl (any_of E.1 (by kernel_rfl)) (fun _ _ _ h=>h) (Or.inl ⟨by rfl,?_⟩) ?_ ?_;rotate_left;(· intro w';go_simp;with_reducible rfl);rotate_left;(· simp only [Act.put,s0_,s1_,s2_,i64_w,i32_w];rfl);refine pure_ (i:=9) (N:=some 22) (v:=?_) (a':=?_) #[y_,y_,y_,n_,y_,n_,y_,y_,n_,y_,n_,n_,n_,n_] rfl rfl (any_of E.1 (by kernel_rfl)) (fun _ _ _ h=>h) (Or.inl ⟨by rfl,?_⟩) ?_ ?_;rotate_left;(· intro w';go_simp;with_reducible rfl);rotate_left;(· simp only [Act.put,s0_,s1_,s2_,i64_w,i32_w];rfl);refine take_ (i:=3) (N:=some 16) (v:=?_) (a':=?_) #[y_,y_,y_,y_,y_,n_,y_,y_,n_,y_,n_,n_,n_,n_] rfl rfl (take_ofW E.1 b8.1 (by kernel_rfl)) (fun _ _ _ h=>h) (Or.inl ⟨by rfl,?_⟩) J ?_ ?_;rotate_left;(· rintro w' ⟨s0,s1,s2⟩;go_simp;with_reducible rfl);rotate_left;(· simp only [Act.put,s0_,s1_,s2_,i64_w,i32_w];rfl);refine take_ (i:=8) (N:=some 21) (v:=?_) (a':=?_) #[y_,y_,y_,y_,y_,n_,y_,y_,y_,y_,n_,n_,n_,n_] rfl rfl (take_ofW E.1 b8.1 (by kernel_rfl)) (fun _ _ _ h=>h) (Or.inl ⟨by rfl,?_⟩) J ?_ ?_;rotate_left;(· rintro w' ⟨s0,s1,s2⟩;go_simp;with_reducible rfl);rotate_left;(· simp only [Act.put,s0_,s1_,s2_,i64_w,i32_w];rfl);(refine one_ (i:=5) (N:=some 18) #[y_,y_,y_,y_,y_,y_,y_,y_,y_,y_,n_,n_,n_,n_] rfl rfl (one_of E.1 (by kernel_rfl)) (by decide) (fun K hK=>?_);refine goes_ Try.func76 (by kernel_rfl) rfl #[.int .i64 (wrap64 ((Int.tmod (wrap64 (D)) 3) + 1)),.slice M F.length O,.int .i64 X] (by rfl) rfl rfl (by (try simp only [m0_,m1_,m2_]);first|done|rfl|(simp only [l0_,l1_];rfl)) ?_;with_reducible refine (bellpulllaw05_made.calls (wrap64 ((Int.tmod (wrap64 (D)) 3) + 1)) _ _ F X Y _ ?side1 ?side2 A3.1).mono ?_);(case side1=>repeat (first|exact (Kd.C_below a9.1 I.1)|(with_reducible refine Kd.C_alloc ?_ _)|(with_reducible refine Kd.C_drewN ?_ _)|(with_reducible refine Kd.C_drew ?_)));(case side2=>exact b0.1);rintro e w8 ⟨d5,rfl,U,hb⟩;refine ⟨_,rfl,?_⟩;have L:=mk0 (Kd.R_lower U (below_size I.1));replace B:=bkb B hb;replace I:=bst I hb;(try clear hb);(try clear U);refine hK.out _ _ ⟨q0_ B,q1_ B,q2_ B⟩ (fun J=>?_);clear hK K;refine norm_ (a':=?_) ?_ ?_;rotate_left;(· show Act.put _ (some 18) _=_;simp only [Act.put,s0_,s1_,s2_,i64_w,i32_w];rfl);(refine one_ (i:=10) (N:=some 23) #[y_,y_,y_,y_,y_,y_,y_,y_,y_,y_,y_,n_,n_,n_] rfl rfl (one_of E.1 (by kernel_rfl)) (by decide) (fun K hK=>?_);refine goes_ Try.func76 (by kernel_rfl) rfl #[.int .i64 (wrap64 ((Int.tmod (wrap64 (D)) 3) + 1)),.slice Q G.length T,.int .i64 X] (by rfl) rfl rfl (by (try simp only [m0_,m1_,m2_]);first|done|rfl|(simp only [l0_,l1_];rfl)) ?_;with_reducible refine (bellpulllaw05_made.calls (wrap64 ((Int.tmod (wrap64 (D)) 3) + 1)) _ _ G X Z _ ?side1 ?side2 A4.1).mono ?_);(case side1=>repeat (first|exact (Kd.C_below b1.1 I.1)|(with_reducible refine Kd.C_alloc ?_ _)|(with_reducible refine Kd.C_drewN ?_ _)|(with_reducible refine Kd.C_drew ?_)));(case side2=>exact b2.1);rintro e w9 ⟨d6,rfl,U,hb⟩;refine ⟨_,rfl,?_⟩;have b5:=mk0 (Kd.R_lower (Kd.R_new' U (Kd.R_lt L.1)) (below_size I.1));replace L:=mk0 (Kd.R_elder' L.1 (Kd.R_base U) hb);replace B:=bkb B hb;replace I:=bst I hb;(try clear hb);(try clear U);refine hK.out _ _ ⟨q0_ B,q1_ B,q2_ B⟩ (fun J=>?_);clear hK K;refine norm_ (a':=?_) ?_ ?_;rotate_left;(· show Act.put _ (some 23) _=_;simp only [Act.put,s0_,s1_,s2_,i64_w,i32_w];rfl);refine pure_ (i:=11) (N:=some 4) (v:=?_) (a':=?_) #[y_,y_,y_,y_,y_,y_,y_,y_,y_,y_,y_,y_,n_,n_] rfl rfl (any_of E.1 (by kernel_rfl)) (fun _ _ _ h=>h) (Or.inl ⟨by rfl,?_⟩) ?_ ?_;rotate_left;(· intro w';go_simp;with_reducible rfl);rotate_left;(· simp only [Act.put,s0_,s1_,s2_,i64_w,i32_w];rfl);refine pure_ (i:=12) (N:=some 5) (v:=?_) (a':=?_) #[y_,y_,y_,y_,y_,y_,y_,y_,y_,y_,y_,y_,y_,n_] rfl rfl (any_of E.1 (by kernel_rfl)) (fun _ _ _ h=>h) (Or.inl ⟨by rfl,?_⟩) ?_ ?_;rotate_left;(· intro w';go_simp;with_reducible rfl);rotate_left;(· simp only [Act.put,s0_,s1_,s2_,i64_w,i32_w];rfl);refine pure_ (i:=13) (N:=some 6) (v:=?_) (a':=?_) #[y_,y_,y_,y_,y_,y_,y_,y_,y_,y_,y_,y_,y_,y_] rfl rfl (any_of E.1 (by kernel_rfl)) (fun _ _ _ h=>h) (Or.inl ⟨by rfl,?_⟩) ?_ ?_;rotate_left;(· intro w';go_simp;with_reducible rfl);rotate_left;(· simp only [Act.put,s0_,s1_,s2_,i64_w,i32_w];rfl);(refine done_ (done_of E.1 (by kernel_rfl)) ?_;try go_wp2);go_ret3;exact ⟨_,_,by first|rfl|(simp [errW_none,errW_some] <;> rfl)|(simp [*,errW_none,errW_some] <;> rfl),by (with_reducible repeat (first|apply Kd.R_alloc|apply Kd.R_drewN|apply Kd.R_drew));exact Kd.R_mono L.1 (fun _ hk=>hk.2),by (with_reducible repeat (first|apply Kd.R_alloc|apply Kd.R_drewN|apply Kd.R_drew));exact Kd.R_mono b5.1 (fun _ hk=>hk.2),by repeat (first|(with_reducible first|exact I.1|apply below_alloc|apply pw_below_drewN|apply below_drew1|refine below_set ?_ b4.1)|exact I.1)⟩
end Go.Proofs.Ytkonljiembcdlaa.PC
namespace Go.Proofs.Ytkonljiembcdlaa.PC
open Go.Proofs.MyWords Go.RowKit Go.Proofs.YtkonljiembcdlaaW.PrintWords Go.Proofs.YtkonljiembcdlaaW.PrintLast Go.Proofs.YtkonljiembcdlaaW.PrintMore
attribute [local go_sem] max2_int min2_int max_two min_two max_three min_three max_four min_four   -- for this text's walks alone
set_option linter.unusedVariables false
set_option linter.unusedSimpArgs false
attribute [local go_sem] eqGuard_slices eqlnil23 neqnil23 eqlnil58 neqnil58
mutual
def bellpullref05_All.l0:Nat → Int → Int → List (List Int) → Int → Option ((List (List Int)))
  | 0,_,_,_,_=>none
  | k + 1,x0,x1,x5,x6=>if x6 ≤ x1 then ((bellpullref05_All.f k (wrap64 (x0 - 1)) (wrap64 (x1 - x6))).bind fun t855=>(bellpullref05_All.l1 k x0 x1 x5 x6 t855 0)) else (some x5)
def bellpullref05_All.l1:Nat → Int → Int → List (List Int) → Int → List (List Int) → Int → Option ((List (List Int)))
  | 0,_,_,_,_,_,_=>none
  | k + 1,x0,x1,x5,x6,x7,x8=>if x8 < (x7.length:Int) then ((some (([x6]:List Int):List Int)).bind fun y858=>(if 0 ≤ x8 then (if y858.length + (rd_L1 x7 x8).length < 17592186044416 then (if x5.length < 5864062014805 then (bellpullref05_All.l1 k x0 x1 (x5 ++ [(y858 ++ (rd_L1 x7 x8))]) x6 x7 (wrap64 (x8 + 1))) else (none)) else (none)) else (none))) else (bellpullref05_All.l0 k x0 x1 x5 (wrap64 (x6 + 1)))
def bellpullref05_All.f:Nat → Int → Int → Option ((List (List Int)))
  | 0,_,_=>none
  | k + 1,a0,a1=>if a0=1 then (some (([(([a1]:List Int))]:List (List Int)))) else (bellpullref05_All.l0 k a0 a1 (([]:List (List Int))) 0)
end
set_option maxHeartbeats 8000000 in
set_option maxRecDepth 100000 in
theorem bellpullref05_All.calls (k:Nat):∀ (R:Int) (L:Int) (r:List (List Int)) (w:World) (h:bellpullref05_All.f k R L=some r),
    Calls Try.prog 37 #[.int .i64 R,.int .i64 L] w fun e w'=>∃ f3:Value,e=.returned (f3)∧Kd.N (Kd.slice 3 (Kd.int .i64)) 23 w' w.heap.size (fun k_=>(w.heap.size ≤ k_)) f3 r∧Below w.heap.size w w':=by
 induction k using Nat.strongRecOn with
 | _ k ih =>
 intro R L r w h;cases k with
 | zero=>exact absurd h (by simp [bellpullref05_All.f])
 | succ k =>
 simp only [bellpullref05_All.f] at h;have B:=mk0 (Below.refl w.heap.size w);have H:(if R=1 then (some (([(([L]:List Int))]:List (List Int)))) else (bellpullref05_All.l0 k R L (([]:List (List Int))) 0))=some r:=h;clear h;by_cases c3:R=1;· rw [if_pos c3] at H;have c3b0:(R == 1)=true:=beq_iff_eq.mpr c3;have c3b1:(R != 1)=false:=bne_eq_false_iff_eq.mpr c3;clear c3;obtain ⟨a7,Z⟩:∃ y_:List Int,y_=(([L]:List Int)):=⟨_,rfl⟩;(replace H:(some (([a7]:List (List Int))))=some r:=by first|(rw [Z];with_reducible exact H)|(have F:=(Option.bind_some _ _).symm.trans H;rw [Z];with_reducible exact F)|(have F:=(Option.bind_some _ _).symm.trans H;with_reducible exact F)|with_reducible exact H|(rw [Z];exact H)|exact H);have d0:=mk0 Z;clear Z;obtain ⟨f6,a2⟩:∃ y_:List (List Int),y_=(([a7]:List (List Int))):=⟨_,rfl⟩;(replace H:(some f6)=some r:=by first|(rw [a2];with_reducible exact H)|(have F:=(Option.bind_some _ _).symm.trans H;rw [a2];with_reducible exact F)|(have F:=(Option.bind_some _ _).symm.trans H;with_reducible exact F)|with_reducible exact H|(rw [a2];exact H)|exact H);have d1:=mk0 a2;clear a2;obtain rfl:=Option.some.inj H;go_enter Try.func37,Try.ntmps37;go_wp2_with (first|((with_reducible refine gate_dst (N:=12) rfl ?_);refine Kd.R_lit (Kd.int .i64) _ 3 ?hg (N:=12) ?hd (xs:=([L]:List Int)) (inner:=[.int .i64 L]) (ok:=fun _=>True) (okp:=fun _=>True) ?hr ?hp (fun _ hk=>hk) trivial (Below.refl _ _) (Nat.le_refl _) (by simp) ?_;(case hd=>rfl);(case hg=>rfl);(case hr=>first|(go_simp;done)|(go_simp;rfl));(case hp=>exact (Reps.one (show Kd.M (Kd.int .i64) _ _ _ L [.int .i64 L] from rfl) (Reps.none _ _)));intro h0 w4 c2 hb hg_ O;clear hg_ O;(first|rw [← d0.1] at c2|(simp only [Int.reduceToNat] at c2;rw [← d0.1] at c2));have b1:=mk0 (Kd.R_lower (Kd.R_newM (M:=fun k_=>(w.heap.size ≤ k_)) c2 (below_size B.1) (fun k_ h_=>h_)) (below_size B.1));replace B:=bst B hb;clear hb c2;obtain ⟨f4,f5,g5⟩:=Kd.R_slice b1.1;subst g5)|((with_reducible refine gate_dst (N:=13) rfl ?_);refine Kd.N_lit (Kd.slice 3 (Kd.int .i64)) _ 23 ?hg (N':=13) ?hd (xs:=([a7]:List (List Int))) (inner:=[.slice f4 a7.length f5]) (ok:=(fun k_=>(w.heap.size ≤ k_))) (okp:=(fun k_=>(w.heap.size ≤ k_))) ?hr ?hp (fun _ hk=>hk) ((show ∀ k_,w4.heap.size ≤ k_ → (fun k_=>(w.heap.size ≤ k_)) k_ from fun k_ hk=>(Nat.le_trans (below_size B.1) hk)) _ (Nat.le_refl _)) (Below.refl _ _) (Nat.le_refl _) (by simp) ?_;(case hd=>rfl);(case hg=>rfl);(case hr=>first|(go_simp;done)|(go_simp;rfl));(case hp=>exact (Reps.one (show Kd.FK (Kd.slice 3 (Kd.int .i64)) _ _ a7 [.slice f4 a7.length f5] from (Kd.FK_slice_mk (Kd.R_reads' (Kd.R_mono (ok':=(fun k_=>(w.heap.size ≤ k_))) (b1.1) (fun k_ hk=>hk.1))).2.1 (Kd.R_F (Kd.R_mono (ok':=(fun k_=>(w.heap.size ≤ k_))) (b1.1) (fun k_ hk=>hk.1))))) (Reps.none _ _)));intro h2 w7 c4 hb hg_ O;clear hg_ O;(first|rw [← d1.1] at c4|(simp only [Int.reduceToNat] at c4;rw [← d1.1] at c4));have e4:=mk0 (Kd.N_lower c4 (below_size B.1));replace B:=bst B hb;clear b1;clear hb c4));go_ret;exact ⟨_,by first|rfl|(simp [errW_none,errW_some] <;> rfl)|(simp [*,errW_none,errW_some] <;> rfl),by exact e4.1,by exact B.1⟩
 ·
  rw [if_neg c3] at H;have c3b0:(R == 1)=false:=beq_eq_false_iff_ne.mpr c3;have c3b1:(R != 1)=true:=bne_iff_ne.mpr c3;obtain ⟨d8,a3⟩:∃ y_:List (List Int),y_=(([]:List (List Int))):=⟨_,rfl⟩;(replace H:(bellpullref05_All.l0 k R L d8 0)=some r:=by first|(rw [a3];with_reducible exact H)|(have F:=(Option.bind_some _ _).symm.trans H;rw [a3];with_reducible exact F)|(have F:=(Option.bind_some _ _).symm.trans H;with_reducible exact F)|with_reducible exact H|(rw [a3];exact H)|exact H);have d2:=mk0 a3;clear a3;have H':=mk0 H;clear H;go_enter Try.func37,Try.ntmps37;go_wp2_with (first|((with_reducible refine gate_dst (N:=14) rfl ?_);refine Kd.N_lit (Kd.slice 3 (Kd.int .i64)) _ 23 ?hg (N':=14) ?hd (xs:=([]:List (List Int))) (inner:=[]) (ok:=(fun k_=>(w.heap.size ≤ k_))) (okp:=(fun k_=>(w.heap.size ≤ k_))) ?hr ?hp (fun _ hk=>hk) ((show ∀ k_,w.heap.size ≤ k_ → (fun k_=>(w.heap.size ≤ k_)) k_ from fun k_ hk=>(Nat.le_trans (below_size B.1) hk)) _ (Nat.le_refl _)) (Below.refl _ _) (Nat.le_refl _) (by simp) ?_;(case hd=>rfl);(case hg=>rfl);(case hr=>first|(go_simp;done)|(go_simp;rfl));(case hp=>exact (Reps.none _ _));intro h3 w9 b3 hb hg_ O;clear hg_ O;(first|rw [← d2.1] at b3|(simp only [Int.reduceToNat] at b3;rw [← d2.1] at b3));have e5:=mk0 (Kd.N_lower b3 (below_size B.1));replace B:=bst B hb;clear hb b3));go_loopg [5,6] k (fun kq v5 v6 w'=>∃ (b8:List (List Int)) (E:Int),v6=.int .i64 E∧Aside0 (bellpullref05_All.l0 kq R L b8 E=some r)∧Aside0 (kq ≤ k)∧Aside0 (Kd.N (Kd.slice 3 (Kd.int .i64)) 23 w' w.heap.size (fun k_=>(w.heap.size ≤ k_)) v5 b8)∧Aside0 (Below w.heap.size w w'));case atStart=>exact ⟨(d8),(0),(by first|rfl|(simp;done)|(simp [*];done)),H',⟨Nat.le_refl _⟩,⟨by exact e5.1⟩,⟨by exact B.1⟩⟩
  case round =>
   (clear H';try clear p2);(try clear c3);(try clear c3b0);try clear c3b1
   obtain ⟨b8,E,rfl,HA,c5,G,B⟩:=hrel;cases gk with
   | zero=>exact absurd HA.1 (by simp [bellpullref05_All.l0])
   | succ k1 =>
    have H:=HA.1;clear HA;simp only [bellpullref05_All.l0] at H;by_cases c11:E ≤ L
    ·
     rw [if_pos c11] at H;have c11b0:decide (E ≤ L)=true:=decide_eq_true c11;clear c11;replace H:=Option.bind_eq_some_iff.mp H;obtain ⟨C,d9,H⟩:=H;(try dsimp only at H);have g6:=mk0 d9;clear d9;have H':=mk0 H;clear H;go_wp2_with (first|((with_reducible refine gate_callee (f:=37) rfl ?_);refine goesL_ (some 25) rfl rfl Try.func37 (by kernel_rfl) rfl #[.int .i64 (wrap64 (R - 1)),.int .i64 (wrap64 (L - E))] rfl (by (try simp only [m0_,m1_,m2_]);first|done|rfl|(simp only [l0_,l1_];rfl)) ?_;(with_reducible refine (ih k1 (by have:=c5.1;omega) (wrap64 (R - 1)) (wrap64 (L - E)) C _ g6.1).mono ?_);rintro e i1 ⟨e0,rfl,c6,hb⟩;refine ⟨_,rfl,?_⟩;have e7:=mk0 (Kd.N_lower (Kd.N_mono (ok':=fun k_=>(w.heap.size ≤ k_)∧some k_ ≠ (u5:Value).ownBlock) c6 (fun k_ hk_=>⟨(Nat.le_trans (below_size B.1) hk_),(Kd.fresh' (Kd.N_lt G.1) k_ hk_)⟩)) (below_size B.1));replace G:=mk0 (Kd.N_elder' G.1 (by first|exact Kd.N_base c6|exact Kd.S_base c6|exact Kd.R_base c6) hb);replace B:=bst B hb;(try clear hb);(try clear c6)));go_loopg [5,8] k1 (fun kq v5 v8 w'=>∃ (J:List (List Int)) (D:Int),v8=.int .i64 D∧Aside0 (bellpullref05_All.l1 kq R L J E C D=some r)∧Aside0 (kq ≤ k1)∧Aside0 (Kd.N (Kd.slice 3 (Kd.int .i64)) 23 w' w.heap.size (fun k_=>(w.heap.size ≤ k_)∧some k_ ≠ (e0:Value).ownBlock) v5 J)∧Aside0 (Kd.N (Kd.slice 3 (Kd.int .i64)) 23 w' w.heap.size (fun k_=>(w.heap.size ≤ k_)∧some k_ ≠ (v5:Value).ownBlock) e0 C)∧Aside0 (Below w.heap.size w w'));case atStart=>exact ⟨(b8),(0),(by first|rfl|(simp;done)|(simp [*];done)),H',⟨Nat.le_refl _⟩,⟨by exact G.1⟩,⟨by exact e7.1⟩,⟨by exact B.1⟩⟩
     case round =>
      (clear H';try clear c1);(try clear p2);(try clear c3);(try clear c3b0);(try clear c3b1);(try clear p6);(try clear c11);(try clear c11b0);try clear p2
      obtain ⟨J,D,rfl,HA,d3,G,I,B⟩:=hrel;cases gk with
      | zero=>exact absurd HA.1 (by simp [bellpullref05_All.l1])
      | succ k2 =>have H:=HA.1;clear HA;simp only [bellpullref05_All.l1] at H;by_cases c14:D < (C.length:Int);(· rw [if_pos c14] at H;have c14b0:decide (D < (C.length:Int))=true:=decide_eq_true c14;clear c14;obtain ⟨b4,a4⟩:∃ y_:List Int,y_=(([E]:List Int)):=⟨_,rfl⟩;(replace H:(if 0 ≤ D then (if b4.length + (rd_L1 C D).length < 17592186044416 then (if J.length < 5864062014805 then (bellpullref05_All.l1 k2 R L (J ++ [(b4 ++ (rd_L1 C D))]) E C (wrap64 (D + 1))) else (none)) else (none)) else (none))=some r:=by first|(rw [a4];with_reducible exact H)|(have F:=(Option.bind_some _ _).symm.trans H;rw [a4];with_reducible exact F)|(have F:=(Option.bind_some _ _).symm.trans H;with_reducible exact F)|with_reducible exact H|(rw [a4];exact H)|exact H);have d4:=mk0 a4;clear a4;by_cases c15:0 ≤ D;(· rw [if_pos c15] at H;have c15b0:decide (0 ≤ D)=true:=decide_eq_true c15;clear c15;by_cases c16:b4.length + (rd_L1 C D).length < 17592186044416;(· rw [if_pos c16] at H;have e8:=mk0 c16;clear c16;obtain ⟨a8,a5⟩:∃ y_:List Int,y_=(b4 ++ (rd_L1 C D)):=⟨_,rfl⟩;(replace H:(if J.length < 5864062014805 then (bellpullref05_All.l1 k2 R L (J ++ [a8]) E C (wrap64 (D + 1))) else (none))=some r:=by first|(rw [a5];with_reducible exact H)|(have F:=(Option.bind_some _ _).symm.trans H;rw [a5];with_reducible exact F)|(have F:=(Option.bind_some _ _).symm.trans H;with_reducible exact F)|with_reducible exact H|(rw [a5];exact H)|exact H);have e9:=mk0 a5;clear a5;by_cases c17:J.length < 5864062014805;(· rw [if_pos c17] at H;have f0:=mk0 c17;clear c17;obtain ⟨e1,a6⟩:∃ y_:List (List Int),y_=(J ++ [a8]):=⟨_,rfl⟩;(replace H:(bellpullref05_All.l1 k2 R L e1 E C (wrap64 (D + 1)))=some r:=by first|(rw [a6];with_reducible exact H)|(have F:=(Option.bind_some _ _).symm.trans H;rw [a6];with_reducible exact F)|(have F:=(Option.bind_some _ _).symm.trans H;with_reducible exact F)|with_reducible exact H|(rw [a6];exact H)|exact H);have f1:=mk0 a6;clear a6;have H':=mk0 H;clear H;obtain ⟨h6,X,f7⟩:=Kd.N_slice I.1;subst f7;go_wp2_with (first|((with_reducible refine gate_dst (N:=34) rfl ?_);refine Kd.R_lit (Kd.int .i64) _ 3 ?hg (N:=34) ?hd (xs:=([E]:List Int)) (inner:=[.int .i64 E]) (ok:=fun _=>True) (okp:=fun _=>True) ?hr ?hp (fun _ hk=>hk) trivial (Below.refl _ _) (Nat.le_refl _) (by simp) ?_;(case hd=>rfl);(case hg=>rfl);(case hr=>first|(go_simp;done)|(go_simp;rfl));(case hp=>exact (Reps.one (show Kd.M (Kd.int .i64) _ _ _ E [.int .i64 E] from rfl) (Reps.none _ _)));intro f8 i2 Y hb hg_ O;clear hg_ O;(first|rw [← d4.1] at Y|(simp only [Int.reduceToNat] at Y;rw [← d4.1] at Y));have d5:=mk0 (Kd.R_lower (Kd.R_newM (M:=fun k_=>(w.heap.size ≤ k_)) Y (below_size B.1) (fun k_ h_=>h_)) (below_size B.1));replace G:=mk0 (Kd.N_elder' G.1 (Kd.R_base Y) hb);replace I:=mk0 (Kd.N_elder' I.1 (Kd.R_base Y) hb);replace B:=bst B hb;clear hb Y;have b9:0 ≤ (D:Int):=of_decide_eq_true (by assumption);have c0:D < (C.length:Int):=of_decide_eq_true (by assumption);obtain ⟨Q,g7,g8,f9,d7,b5,b6⟩:=at_L1 (Kd.N_reads' I.1).2.2 D b9 c0;cases f9;obtain ⟨g9,e2,e3,c7⟩:=Kd.N_get I.1 [] D b9 (by first|exact c0|exact of_decide_eq_true (by assumption)|(have e_:=(Kd.N_reads' I.1).1;omega));obtain ⟨g2,g3,rfl,a9,b0⟩:=Kd.FK_slice_open e3;have T:=c7 0 _ rfl;rw [Nat.add_zero,show ((Kd.slice 3 (Kd.int .i64))).sz=1 from rfl,Nat.mul_one] at T;replace T:=Option.some.inj (T.symm.trans d7);injection T with hva_ hvn_ hvc_;rw [hva_] at b0;rw [hvc_] at a9;have U:=mk0 (show Kd.V (Kd.int .i64) 3 _ w.heap.size _ _ (rd_L1 C D) from Kd.V_mk a9 b0);clear hva_ hvn_ hvc_ b0 a9;clear c7 e2;have b7:=mk0 b6;have g4:=mk0 b5;clear b6 b5;replace b9:=eq_true b9;replace c0:=eq_true c0)|((with_reducible refine gate_builtin (b:=.append) (xs:=#[.tmp 34,.tmp 38]) rfl ?_);at_builtin;refine Kd.R_append_rows (Kd.int .i64) (w0:=w) w.heap.size rfl (.tmp 34) (.tmp 38) 23 3 (.int .i64 0) 8 rfl Try.underlying23 info3 rfl (by decide) (by omega) f8 b4 (rd_L1 C D) _ _ _ (fun k_=>(w.heap.size ≤ k_)) (fun _=>False) rfl rfl ?aO ?aR (fun _ _ h=>h) (fun _ h=>h.elim) ?aF ?aB ?aS ?aL ?_;(case aR=>repeat (first|exact (by repeat (first|(with_reducible exact b7.1)|(with_reducible refine Kd.C_alloc ?_ _)|(with_reducible refine Kd.C_drewN ?_ _)|(with_reducible refine Kd.C_drew ?_)|exact b7.1))|(with_reducible refine Kd.C_alloc ?_ _)|(with_reducible refine Kd.C_drewN ?_ _)|(with_reducible refine Kd.C_drew ?_)));(case aB=>exact (by exact B.1));(case aF=>exact (fun k_ hk=>(Nat.le_trans (below_size (by exact B.1)) hk)));(case aO=>exact (by exact Kd.R_mono d5.1 (fun _ hk=>hk.1)));(case aS=>exact (below_size (by exact B.1)));(case aL=>have:=e8.1;omega);intro h7 i3 ho hb hg hat;rw [← e9.1] at ho;have b2:=mk0 (ho);replace G:=mk0 (Kd.N_afterv (ok:=(fun k_=>(w.heap.size ≤ k_)∧some k_ ≠ (.slice (some Q) C.length X:Value).ownBlock)) (by exact G.1) hg hat);replace I:=mk0 (Kd.N_afterv (ok:=(fun k_=>(w.heap.size ≤ k_)∧some k_ ≠ (u5:Value).ownBlock)) (by exact I.1) hg hat);replace U:=mk0 (Kd.V_afterv (ok:=(fun k_=>(w.heap.size ≤ k_)∧some k_ ≠ (u5:Value).ownBlock∧some k_ ≠ (.slice (some Q) C.length X:Value).ownBlock)) (by exact Kd.V_mono U.1 (fun _ hk=>⟨⟨hk.1.1.1,⟨hk.1.1.2,hk.2⟩⟩,hk.1.2⟩)) hg hat);replace B:=mk0 (hb);clear d5;clear ho hb hg hat;obtain ⟨c8,c9,g0⟩:=Kd.R_slice b2.1;subst g0)|((with_reducible refine gate_builtin (b:=.append) (xs:=#[.tmp 32,.tmp 40]) rfl ?_);at_builtin;refine Kd.N_append (Kd.slice 3 (Kd.int .i64)) (w0:=w) w.heap.size rfl (.tmp 32) (.tmp 40) 58 23 (.slice none 0 0) 24 rfl Try.underlying58 info23 rfl (by decide) (by omega) u5 J a8 [.slice c8 a8.length c9] (fun k_=>(w.heap.size ≤ k_)∧some k_ ≠ (.slice (some Q) C.length X:Value).ownBlock) (fun k_=>((fun k_=>(w.heap.size ≤ k_)∧some k_ ≠ (.slice (some Q) C.length X:Value).ownBlock)) k_∧some k_ ≠ (u5:Value).ownBlock) rfl rfl ?aP (fun _ hk=>hk) ?aF ?aO ?aB ?aS ?aL ?_;(case aP=>exact (Kd.FK_slice_mk (Kd.R_reads' (Kd.R_mono (ok':=(fun k_=>((fun k_=>(w.heap.size ≤ k_)∧some k_ ≠ (.slice (some Q) C.length X:Value).ownBlock)) k_∧some k_ ≠ (u5:Value).ownBlock)) (Kd.R_apart' (Kd.R_apart' (b2.1) (Kd.N_typed I.1) (by decide)) (Kd.N_typed G.1) (by decide)) (fun k_ hk=>⟨⟨hk.1.1,hk.1.2⟩,hk.2⟩))).2.1 (Kd.R_F (Kd.R_mono (ok':=(fun k_=>((fun k_=>(w.heap.size ≤ k_)∧some k_ ≠ (.slice (some Q) C.length X:Value).ownBlock)) k_∧some k_ ≠ (u5:Value).ownBlock)) (Kd.R_apart' (Kd.R_apart' (b2.1) (Kd.N_typed I.1) (by decide)) (Kd.N_typed G.1) (by decide)) (fun k_ hk=>⟨⟨hk.1.1,hk.1.2⟩,hk.2⟩)))));(case aB=>exact (by exact B.1));(case aF=>exact (fun k_ hk=>⟨(Nat.le_trans (below_size (by exact B.1)) hk),Kd.fresh' (Kd.N_lt (by exact I.1)) k_ hk⟩));(case aO=>exact (by exact Kd.N_mono G.1 (fun _ hk=>⟨hk.1.1,hk.1.2⟩)));(case aS=>exact (below_size (by exact B.1)));(case aL=>have:=f0.1;omega);intro h8 i4 ho hb hg hat;rw [← f1.1] at ho;have f2:=mk0 (ho);replace I:=mk0 (Kd.N_afterv (ok:=(fun k_=>(w.heap.size ≤ k_)∧some k_ ≠ (.slice c8 a8.length c9:Value).ownBlock)) (by exact Kd.N_mono I.1 (fun _ hk=>⟨⟨hk.1.1,hk.2⟩,hk.1.2⟩)) hg hat);replace U:=mk0 (Kd.V_afterv (ok:=(fun k_=>(w.heap.size ≤ k_)∧some k_ ≠ (.slice (some Q) C.length X:Value).ownBlock∧some k_ ≠ (.slice c8 a8.length c9:Value).ownBlock)) (by exact Kd.V_mono U.1 (fun _ hk=>⟨⟨hk.1.1,⟨hk.1.2.2,hk.2⟩⟩,hk.1.2.1⟩)) hg hat);replace B:=mk0 (hb);clear G;clear b2;clear ho hb hg hat));go_roundg k2;(case measure=>have:=c5.1;have:=d3.1;omega);case rel=>exact ⟨(e1),(wrap64 (D + 1)),(by first|rfl|(simp;done)|(simp [*];done)),H',⟨by have:=c5.1;have:=d3.1;omega⟩,⟨by exact f2.1⟩,⟨by exact Kd.N_mono I.1 (fun _ hk=>⟨hk.1.1,hk.2⟩)⟩,⟨by exact B.1⟩⟩);· rw [if_neg c17] at H;exact absurd H (by simp));· rw [if_neg c16] at H;exact absurd H (by simp));· rw [if_neg c15] at H;exact absurd H (by simp));· rw [if_neg c14] at H;have c14b0:decide (D < (C.length:Int))=false:=decide_eq_false c14;clear c14;have H':=mk0 H;clear H;obtain ⟨h9,i0,g1⟩:=Kd.N_slice I.1;subst g1;go_wp2;go_roundg k2;(case measure=>have:=c5.1;have:=d3.1;omega);case rel=>exact ⟨(J),(wrap64 (E + 1)),(by first|rfl|(simp;done)|(simp [*];done)),H',⟨by have:=c5.1;have:=d3.1;omega⟩,⟨by exact Kd.N_mono G.1 (fun _ hk=>hk.1)⟩,⟨by exact B.1⟩⟩
    · rw [if_neg c11] at H;have c11b0:decide (E ≤ L)=false:=decide_eq_false c11;clear c11;obtain rfl:=Option.some.inj H;go_wp2;go_ret;exact ⟨_,by first|rfl|(simp [errW_none,errW_some] <;> rfl)|(simp [*,errW_none,errW_some] <;> rfl),by exact G.1,by exact B.1⟩
end Go.Proofs.Ytkonljiembcdlaa.PC
namespace Go.Proofs.Ytkonljiembcdlaa.PC
open Go.Proofs.MyWords Go.RowKit Go.Proofs.YtkonljiembcdlaaW.PrintWords Go.Proofs.YtkonljiembcdlaaW.PrintLast Go.Proofs.YtkonljiembcdlaaW.PrintMore
attribute [local go_sem] max2_int min2_int max_two min_two max_three min_three max_four min_four   -- for this text's walks alone
set_option linter.unusedVariables false
set_option linter.unusedSimpArgs false
attribute [local go_sem] eqGuard_slices eqlnil23 neqnil23 eqlnil58 neqnil58
def lastD (p:List Int → Bool) (vs:List (List Int)):Option (List Int):=(vs.filter p).getLast?
theorem lastD_snoc (p:List Int → Bool) (vs:List (List Int)) (v:List Int):lastD p (vs ++ [v])=if p v=true then some v else lastD p vs:=by unfold lastD;rw [List.filter_append];by_cases h:p v=true <;> simp [h]
theorem visit_last (p:List Int → Bool):∀ (l vs:List (List Int)),lastD p vs=none → lastD p (visit (fun us=>(lastD p us).isNone) vs l).1=l.find? p
  | [],vs,h=>h
  | v :: r,vs,h=>by
    by_cases hp:p v=true
    · have e:lastD p (vs ++ [v])=some v:=by rw [lastD_snoc,if_pos hp]
      rw [visit,if_neg (by rw [e];simp),List.find?_cons_of_pos hp]
      exact e
    · have e:lastD p (vs ++ [v])=none:=by rw [lastD_snoc,if_neg hp];exact h
      rw [visit,if_pos (by rw [e];rfl),List.find?_cons_of_neg hp]
      exact visit_last p r _ e
theorem vecs_pos:∀ (d s:Nat) (pre v:List Int),v ∈ vecs d s pre → 0 < v.length
  | 0,s,pre,v,h=>by (obtain rfl:v=pre ++ [(s:Int)]:=by simpa [vecs] using h);simp
  | d + 1,s,pre,v,h=>by obtain ⟨x,_,hx⟩:=List.mem_flatMap.1 h;exact vecs_pos d _ _ v hx
def differL (k:Nat) (x y:List S60):List (List Int) → Option (List (List Int))
  | []=>some []
  | v :: r=>(count_has.f k x v).bind fun a=>(count_has.f k y v).bind fun b=>(differL k x y r).bind fun t=>some (if a=b then t else v :: t)
def differGo (k d:Nat) (x y:List S60):List Nat → Option (Option (List Int))
  | []=>some none
  | s :: r=>(differL k x y (vecs d s [])).bind fun t=>match t with|[]=>differGo k d x y r|v :: _=>some (some v)
def count_Differ.f (k:Nat) (d:Int) (x y:List S60) (n:Int):Option (List Int × Int):=(count_bounded.f k n d [x,y]).bind fun e=>if e=0 then (if 1 ≤ d∧d ≤ 20∧0 ≤ n∧n ≤ 20 then (differGo k (d - 1).toNat x y (List.range (n.toNat + 1))).bind fun o=>match o with|none=>some ([],5)|some v=>some (v,0) else none) else some ([],e)
def apartP (k:Nat) (x y:List S60) (v:List Int):Bool:=(count_has.f k x v).getD false != (count_has.f k y v).getD false
theorem differL_some (k:Nat) (x y:List S60):∀ (l t:List (List Int)),differL k x y l=some t → (∀ v ∈ l,(count_has.f k x v).isSome=true∧(count_has.f k y v).isSome=true)∧t=l.filter (apartP k x y)
  | [],t,h=>⟨fun v hv=>by simp at hv,by obtain rfl:=Option.some.inj h;rfl⟩
  | z :: zs,t,h=>by
    obtain ⟨a,ha,h⟩:=Option.bind_eq_some_iff.mp h;obtain ⟨b,hb,h⟩:=Option.bind_eq_some_iff.mp h;obtain ⟨c,hc,h⟩:=Option.bind_eq_some_iff.mp h;obtain rfl:=Option.some.inj h;obtain ⟨h1,h2⟩:=differL_some k x y zs c hc;refine ⟨fun w hw=>?_,?_⟩
    · rcases List.mem_cons.mp hw with rfl|hw
      · rw [ha,hb];exact ⟨rfl,rfl⟩
      · exact h1 w hw
    · rw [List.filter_cons,h2]
      have:apartP k x y z=(a != b):=by unfold apartP;rw [ha,hb];rfl
      rw [this]
      cases a <;> cases b <;> rfl
theorem find_head (p:List Int → Bool):∀ l:List (List Int),l.find? p=(l.filter p).head?
  | []=>rfl
  | v :: r=>by by_cases h:p v=true;(· rw [List.find?_cons_of_pos h,List.filter_cons_of_pos h];rfl);· rw [List.find?_cons_of_neg h,List.filter_cons_of_neg h];exact find_head p r
theorem C_two_sets {w:World} {g:Nat} {A B:Option Addr} {c e:Nat} {l m:List S60} (h:w.heap[g]?=some (.cells #[.slice A l.length c,.slice B m.length e] 22 (0,0))) (hC:Kd.C k60 w A l.length l) (hc:l.length ≤ c) (hD:Kd.C k60 w B m.length m) (he:m.length ≤ e):Kd.C (Kd.slice 60 k60) w (some ⟨g,0,none⟩) [l,m].length [l,m]:=by
  refine ⟨rfl,by simp,fun _=>⟨⟨g,0,none⟩,rfl,fun q u hq=>?_⟩⟩
  match q,hq with
  | 0,hq =>
    (have hu:u=l:=by simpa using hq.symm);subst hu;refine ⟨[.slice A u.length c],rfl,⟨A,c,rfl,hc,hC⟩,fun a b hab=>?_⟩
    match a,hab with
    | 0,hab =>(have hb:b=.slice A u.length c:=by simpa using hab.symm);subst hb;(have e:(⟨g,0,none⟩:Addr).add (0 * (Kd.slice 60 k60).sz + 0)=⟨g,0,none⟩:=by simp [Addr.add]);rw [e,blk_cell h];rfl
    | a + 1,hab=>simp at hab
  | 1,hq =>
    (have hu:u=m:=by simpa using hq.symm);subst hu;refine ⟨[.slice B u.length e],rfl,⟨B,e,rfl,he,hD⟩,fun a b hab=>?_⟩
    match a,hab with
    | 0,hab =>(have hb:b=.slice B u.length e:=by simpa using hab.symm);subst hb;(have e:(⟨g,0,none⟩:Addr).add (1 * (Kd.slice 60 k60).sz + 0)=⟨g,1,none⟩:=by simp [Addr.add,Kd.slice]);rw [e,blk_cell h];rfl
    | a + 1,hab=>simp at hab
  | q + 2,hq=>simp at hq
def OutV (W:World) (B gm:Nat) (u:Value):Option (List Int) → Prop
  | none=>u=.slice none 0 0
  | some v=>∃ A c,u=.slice (some A) v.length c∧v.length ≤ c∧Kd.F (Kd.int .i64) W (fun k=>k ≠ gm∧B ≤ k) (some A) v.length v
theorem OutV.below {W W':World} {B gm:Nat} {u:Value}:∀ {o:Option (List Int)},OutV W B gm u o → Below W.heap.size W W' → OutV W' B gm u o
  | none,h,_=>h
  | some v,⟨A,c,h1,h2,h3⟩,hb=>⟨A,c,h1,h2,Kd.F_below h3 hb⟩
theorem OutV.eqn {W:World} {B gm:Nat} {u:Value} {o:Option (List Int)} (h:OutV W B gm u o):u=.slice none 0 0∧o=none ∨ ∃ A n c,u=.slice (some A) n c∧o.isNone=false:=by
  cases o with
  | none=>exact .inl ⟨h,rfl⟩
  | some v=>obtain ⟨A,c,h1,_⟩:=h;exact .inr ⟨A,_,c,h1,rfl⟩
structure TwoSets (w:World) (Ax:Option Addr) (cx:Nat) (x:List S60) (Ay:Option Addr) (cy:Nat) (y:List S60) (gx gy gm:Nat):Prop where
  lx:w.heap.size ≤ gx
  ly:w.heap.size ≤ gy
  lm:w.heap.size ≤ gm
  nx:gx ≠ gm
  ny:gy ≠ gm
  kx:Kd.C k60 w Ax x.length x
  ky:Kd.C k60 w Ay y.length y
  ex:x.length ≤ cx
  ey:y.length ≤ cy
def DifferInv (w:World) (p:List Int → Bool) (Ax:Option Addr) (cx:Nat) (x:List S60) (Ay:Option Addr) (cy:Nat) (y:List S60) (gx gy gm:Nat) (W:World) (vs:List (List Int)):Prop :=
  Below w.heap.size w W∧W.heap[gx]?=some (.cells #[.slice Ax x.length cx] 22 (0,0))∧W.heap[gy]?=some (.cells #[.slice Ay y.length cy] 22 (0,0))∧(∃ u,W.heap[gm]?=some (.cells #[u] 23 (0,0))∧OutV W w.heap.size gm u (lastD p vs))∧Aside0 (TwoSets w Ax cx x Ay cy y gx gy gm)
theorem DifferInv.below {w:World} {p:List Int → Bool} {Ax:Option Addr} {cx:Nat} {x:List S60} {Ay:Option Addr} {cy:Nat} {y:List S60} {gx gy gm:Nat} {W W':World} {vs:List (List Int)} (h:DifferInv w p Ax cx x Ay cy y gx gy gm W vs) (hb:Below W.heap.size W W'):DifferInv w p Ax cx x Ay cy y gx gy gm W' vs:=by obtain ⟨h1,h2,h3,⟨u,h4,h5⟩,h6⟩:=h;exact ⟨h1.trans (hb.mono h1.size),blk_below h2 hb,blk_below h3 hb,⟨u,blk_below h4 hb,h5.below hb⟩,h6⟩
attribute [local go_sem] eqGuard_slices eqlnil23 neqnil23 in
set_option maxHeartbeats 1000000 in
set_option maxRecDepth 100000 in
theorem count_Differ.tells (k:Nat) (Ax:Option Addr) (cx:Nat) (x:List S60) (Ay:Option Addr) (cy:Nat) (y:List S60) (gx gy gm:Nat) (w:World) :
    TellsV 81 #[.pointer (some ⟨gx,0,none⟩),.pointer (some ⟨gy,0,none⟩),.pointer (some ⟨gm,0,none⟩)] gm w.heap.size (DifferInv w (apartP k x y) Ax cx x Ay cy y gx gy gm) (fun us=>(lastD (apartP k x y) us).isNone) (fun v=>(count_has.f k x v).isSome=true∧(count_has.f k y v).isSome=true∧0 < v.length):=fun W A0 c0 v vs hI hD hl hg hF=>by
  obtain ⟨a,ha⟩:=Option.isSome_iff_exists.mp hD.1;obtain ⟨b,hb⟩:=Option.isSome_iff_exists.mp hD.2.1;(have hp:apartP k x y v=(a != b):=by unfold apartP;rw [ha,hb];rfl);(have hls:lastD (apartP k x y) (vs ++ [v])=if a != b then some v else lastD (apartP k x y) vs:=by rw [lastD_snoc,hp]);have HI:=Aside0.mk hI;obtain ⟨hB,hcx,hcy,⟨u,hcm,hu⟩,hX⟩:=hI;have HA1:Aside0 (∀ W1:World,Below W.heap.size W W1 → Calls Try.prog 53 #[.slice Ax x.length cx,.slice A0 v.length c0] W1 fun e w'=>e=.returned (.bool a)∧Below W.heap.size W w'):=⟨fun W1 h1=>(count_has.calls k Ax cx x A0 c0 v a W1 (Kd.C_below hX.out.kx (hB.trans (h1.mono hB.size))) hX.out.ex (Kd.C_below (Kd.F_now hF) h1) hl ha).mono (fun e w' h=>⟨h.1,h1.trans (h.2.mono h1.size)⟩)⟩;have HA2:Aside0 (∀ W1:World,Below W.heap.size W W1 → Calls Try.prog 53 #[.slice Ay y.length cy,.slice A0 v.length c0] W1 fun e w'=>e=.returned (.bool b)∧Below W.heap.size W w'):=⟨fun W1 h1=>(count_has.calls k Ay cy y A0 c0 v b W1 (Kd.C_below hX.out.ky (hB.trans (h1.mono hB.size))) hX.out.ey (Kd.C_below (Kd.F_now hF) h1) hl hb).mono (fun e w' h=>⟨h.1,h1.trans (h.2.mono h1.size)⟩)⟩;have hv0:=hD.2.2;obtain ⟨ad,rfl,_⟩:=(Kd.F_now hF).2.2 hv0;have HF:=Aside0.mk hF;have HL:=Aside0.mk hl;have HG:=Aside0.mk hg;have HLS:=Aside0.mk hls;have HSOF:Aside0 (∀ w':World,Below W.heap.size W w' → w'.cell? ⟨gx,0,none⟩=some (.slice Ax x.length cx)∧w'.cell? ⟨gy,0,none⟩=some (.slice Ay y.length cy)):=⟨fun w' h=>⟨(blk_cell (blk_below hcx h) 0).trans rfl,(blk_cell (blk_below hcy h) 0).trans rfl⟩⟩;have HCM:=Aside0.mk hcm;have HU:=Aside0.mk hu;clear hD ha hb hB hcx hcy hcm hg hF hl hp hls hv0 hu;show Calls Try.prog 81 #[.slice (some ad) v.length c0,.pointer (some ⟨gx,0,none⟩),.pointer (some ⟨gy,0,none⟩),.pointer (some ⟨gm,0,none⟩)] W _;go_enter Try.func81,Try.ntmps81;go_wp2
  go_region_held3 (fun w'=>w'.cell? ⟨gx,0,none⟩=some (.slice Ax x.length cx)∧w'.cell? ⟨gy,0,none⟩=some (.slice Ay y.length cy))
    (exact HSOF.out _ (by ((repeat (first|exact Below.refl _ _|assumption|exact HB2.out|exact HB1.out|apply Below.drew));done)))
    (first
      | (go_at_call 53;(with_reducible refine (HA1.out _ ?bb).mono ?_);(case bb=>((repeat (first|exact Below.refl _ _|apply Below.drew));done));rintro e w1 ⟨rfl,hb1⟩;have HB1:=Aside0.mk hb1;clear hb1)
      | (go_at_call 53;(with_reducible refine (HA2.out _ ?bb).mono ?_);(case bb=>((repeat (first|exact HB1.out|apply Below.drew));done));rintro e w2 ⟨rfl,hb2⟩;have HB2:=Aside0.mk hb2;clear hb2)
      | fail)
  have HM2:=Aside0.mk (blk_below HCM.out HB2.out);have hc3:w2.cell? ⟨gm,0,none⟩=some u:=(blk_cell HM2.out 0).trans rfl;have hf3:w2.frozen? ⟨gm,0,none⟩=false:=blk_frozen HM2.out 0;by_cases hab:a=b
  · have HLS2:Aside0 (lastD (apartP k x y) (vs ++ [v])=lastD (apartP k x y) vs):=⟨by rw [HLS.out,hab];simp⟩
    clear HLS
    subst hab
    rw [show (!(a == a))=false by simp]
    rcases HU.out.eqn with ⟨rfl,he⟩|⟨A,n,c,rfl,he⟩
    · have HE:=Aside0.mk he
      clear he
      go_wp2
      go_ret
      refine ⟨by rw [HLS2.out,HE.out];rfl,?_,below_grown gm HB2.out⟩
      have:=HI.out.below HB2.out
      unfold DifferInv at this ⊢
      rw [HLS2.out];exact this
    · have HE:=Aside0.mk he
      clear he
      go_wp2
      go_ret
      refine ⟨by rw [HLS2.out,HE.out];rfl,?_,below_grown gm HB2.out⟩
      have:=HI.out.below HB2.out
      unfold DifferInv at this ⊢
      rw [HLS2.out];exact this
  · rw [show (!(a == b))=true by simp [hab]]
    have HLS2:Aside0 (lastD (apartP k x y) (vs ++ [v])=some v):=⟨by rw [HLS.out,if_pos (bne_iff_ne.mpr hab)]⟩
    clear HLS hab
    go_wp2
    go_ret
    obtain ⟨hB,hcx,hcy,_,hX⟩:=HI.out.below HB2.out
    refine ⟨by rw [HLS2.out];rfl,?_,?_⟩
    · unfold DifferInv
      rw [HLS2.out]
      refine ⟨below_set hB hX.out.lm,blk_far hcx hX.out.nx _,blk_far hcy hX.out.ny _,⟨_,blk_put HM2.out 0 _ rfl,ad,c0,rfl,HL.out,?_⟩,hX⟩
      exact Kd.F_far (Kd.F_below HF.out HB2.out) (fun k hk=>hk.1) _
    · exact grown_trans (below_grown gm HB2.out) ⟨rfl,rfl,rfl,by simp [World.setCell],fun i _ hi=>Below.heap_setCell _ _ _ _ (fun e=>hi (by rw [e]))⟩
theorem DifferInv.cong {w:World} {p:List Int → Bool} {Ax:Option Addr} {cx:Nat} {x:List S60} {Ay:Option Addr} {cy:Nat} {y:List S60} {gx gy gm:Nat} {W:World} {vs us:List (List Int)} (h:DifferInv w p Ax cx x Ay cy y gx gy gm W vs) (e:lastD p vs=lastD p us):DifferInv w p Ax cx x Ay cy y gx gy gm W us:=by unfold DifferInv at h ⊢;rw [← e];exact h
theorem DifferInv.start {w WA w1 w3:World} {p:List Int → Bool} {Ax:Option Addr} {cx:Nat} {x:List S60} {Ay:Option Addr} {cy:Nat} {y:List S60} {gm:Nat} (kx:Kd.C k60 w Ax x.length x) (ex:x.length ≤ cx) (ky:Kd.C k60 w Ay y.length y) (ey:y.length ≤ cy)
    (hA:Below w.heap.size w WA) (hs:w.heap.size + 2 ≤ WA.heap.size) (hx:WA.heap[w.heap.size]?=some (.cells #[.slice Ax x.length cx] 22 (0,0))) (hy:WA.heap[w.heap.size + 1]?=some (.cells #[.slice Ay y.length cy] 22 (0,0)))
    (h1:Below WA.heap.size WA w1) (hg:gm=w1.heap.size) (h3:Below w1.heap.size w1 w3) (hb:w3.heap[gm]?=some (.cells #[.slice none 0 0] 23 (0,0))):DifferInv w p Ax cx x Ay cy y w.heap.size (w.heap.size + 1) gm w3 []:=by
  have s1:=h1.size;have hB3:Below w.heap.size w w3:=(hA.trans (h1.mono (by omega))).trans (h3.mono (by omega));exact ⟨hB3,blk_below (blk_below hx h1) h3,blk_below (blk_below hy h1) h3,⟨_,hb,rfl⟩,⟨⟨by omega,by omega,by omega,by omega,by omega,kx,ky,ex,ey⟩⟩⟩
def DifferGo (k d:Nat) (x y:List S60) (s n:Nat) (res:Option (List Int)):Option (List Int) → Prop
  | none=>differGo k d x y (List.range' s (n + 1 - s))=some res
  | some v=>res=some v
attribute [local go_sem] eqGuard_slices eqlnil23 neqnil23 in
set_option maxHeartbeats 2000000 in
set_option maxRecDepth 100000 in
theorem count_Differ.calls (k:Nat) (a0:Int) (A1:Option Addr) (c1:Nat) (l1:List S60) (A2:Option Addr) (c2:Nat) (l2:List S60) (a3:Int) (r1:List Int) (r2:Int) (w:World) (hr1:Kd.C k60 w A1 l1.length l1) (hc1:l1.length ≤ c1) (hr2:Kd.C k60 w A2 l2.length l2) (hc2:l2.length ≤ c2) (h:count_Differ.f k a0 l1 l2 a3=some (r1,r2)) :
    Calls Try.prog 43 #[.int .i64 a0,.slice A1 l1.length c1,.slice A2 l2.length c2,.int .i64 a3] w fun e w'=>∃ v0_:Value,e=.returned (.tuple #[v0_,.int .i64 r2])∧Kd.V (Kd.int .i64) 3 w' w.heap.size (fun k_=>w.heap.size ≤ k_) v0_ r1∧Below w.heap.size w w':=by
  unfold count_Differ.f at h;obtain ⟨e0,he0,h⟩:=Option.bind_eq_some_iff.mp h;have HR1:=Aside0.mk hr1;have HC1:=Aside0.mk hc1;have HR2:=Aside0.mk hr2;have HC2:=Aside0.mk hc2
  have HBD:Aside0 (∀ (g:Nat) (W:World),Below w.heap.size w W → W.heap[g]?=some (.cells #[.slice A1 l1.length c1,.slice A2 l2.length c2] 22 (0,0)) → Calls Try.prog 77 #[.int .i64 a3,.int .i64 a0,.slice (some ⟨g,0,none⟩) 2 2] W fun e w'=>e=.returned (.int .i64 e0)∧Below W.heap.size W w') :=
    ⟨fun g W hb hg=>count_bounded.calls k a3 a0 (some ⟨g,0,none⟩) 2 [l1,l2] e0 W (C_two_sets hg (Kd.C_below HR1.out hb) HC1.out (Kd.C_below HR2.out hb) HC2.out) (Nat.le_refl _) he0⟩
  clear hr1 hc1 hr2 hc2 he0;by_cases hz:e0=0
  · subst hz
    rw [if_pos rfl] at h
    split at h
    case isFalse=>cases h
    rename_i hd
    obtain ⟨res,hres,h⟩:=Option.bind_eq_some_iff.mp h
    have HH:=Aside0.mk h
    have HD:=Aside0.mk hd
    have HRES:Aside0 (DifferGo k (a0 - 1).toNat l1 l2 0 a3.toNat res none):=⟨by unfold DifferGo;rw [← List.range_eq_range'];exact hres⟩
    clear h hd hres
    have eg:∀ args w,(callFunc 81 args).run Try.prog w=.ok (.enter 81 args) w:=enters_of Try.func81 (by kernel_rfl) rfl
    have HV:Aside0 (∀ (gx gy gm s:Nat) (W:World),gm < W.heap.size → w.heap.size ≤ W.heap.size → s ≤ a3.toNat → DifferInv w (apartP k l1 l2) A1 c1 l1 A2 c2 l2 gx gy gm W [] → DifferGo k (a0 - 1).toNat l1 l2 s a3.toNat res none →
        Calls Try.prog 78 #[.int .i64 a0,.int .i64 (s:Int),.slice none 0 0,.func (.func 81) #[] #[.pointer (some ⟨gx,0,none⟩),.pointer (some ⟨gy,0,none⟩),.pointer (some ⟨gm,0,none⟩)]] W fun e w'=>∃ b vs,e=.returned (.bool b)∧DifferInv w (apartP k l1 l2) A1 c1 l1 A2 c2 l2 gx gy gm w' vs∧DifferGo k (a0 - 1).toNat l1 l2 (s + 1) a3.toNat res (lastD (apartP k l1 l2) vs)):=⟨fun gx gy gm s W h1 h2 h3 h4 h5=>by
      have hd:=HD.out;unfold DifferGo at h5;rw [show a3.toNat + 1 - s=(a3.toNat + 1 - (s + 1)) + 1 by omega,List.range'_succ,differGo] at h5;obtain ⟨t,ht,h5⟩:=Option.bind_eq_some_iff.mp h5;obtain ⟨hD,rfl⟩:=differL_some k l1 l2 _ t ht
      have hcall:=count_vectors.calls 81 #[.pointer (some ⟨gx,0,none⟩),.pointer (some ⟨gy,0,none⟩),.pointer (some ⟨gm,0,none⟩)] gm w.heap.size (DifferInv w (apartP k l1 l2) A1 c1 l1 A2 c2 l2 gx gy gm) (fun us=>(lastD (apartP k l1 l2) us).isNone) (fun v=>(count_has.f k l1 v).isSome=true∧(count_has.f k l2 v).isSome=true∧0 < v.length) eg (count_Differ.tells k A1 c1 l1 A2 c2 l2 gx gy gm w)
        (fun W W' vs hI hb=>hI.below hb) (a0 - 1).toNat s [] none 0 [] W h1 h2 h4 (Kd.F_nil _ _ _) (Nat.le_refl _) (by simp;omega) (by omega) (fun v hv=>⟨(hD v hv).1,(hD v hv).2,vecs_pos _ _ _ _ hv⟩)
      (have e1:(((a0 - 1).toNat:Nat):Int) + 1=a0:=by omega);rw [e1] at hcall;refine hcall.mono ?_;rintro e w' ⟨rfl,h6,_⟩;refine ⟨_,_,rfl,h6,?_⟩;rw [visit_last (apartP k l1 l2) _ [] rfl,find_head]
      cases hf:(vecs (a0 - 1).toNat s []).filter (apartP k l1 l2) with
      | nil=>rw [hf] at h5;exact h5
      | cons v t=>rw [hf] at h5;exact (Option.some.inj h5).symm⟩
    obtain ⟨WA,hWA⟩:∃ WA,WA=((w.alloc (Obj.cells #[Value.slice A1 l1.length c1] 22)).alloc (Obj.cells #[Value.slice A2 l2.length c2] 22)).alloc (Obj.cells #[Value.slice A1 l1.length c1,Value.slice A2 l2.length c2] 22):=⟨_,rfl⟩
    have HA:Aside0 (Below w.heap.size w WA∧WA.heap.size=w.heap.size + 3∧WA.heap[w.heap.size]?=some (.cells #[.slice A1 l1.length c1] 22 (0,0))∧WA.heap[w.heap.size + 1]?=some (.cells #[.slice A2 l2.length c2] 22 (0,0))∧WA.heap[w.heap.size + 1 + 1]?=some (.cells #[.slice A1 l1.length c1,.slice A2 l2.length c2] 22 (0,0))):=⟨by
      subst hWA;refine ⟨below_alloc (below_alloc (below_alloc (Below.refl _ _) _) _) _,by simp,?_,?_,?_⟩;(· exact (Below.heap_alloc _ _ _ (by simp;omega)).trans ((Below.heap_alloc _ _ _ (by simp)).trans (blk_new w _)));· exact (Below.heap_alloc _ _ _ (by simp)).trans (by have:=blk_new (w.alloc (Obj.cells #[Value.slice A1 l1.length c1] 22)) (Obj.cells #[Value.slice A2 l2.length c2] 22);simpa using this)
      · have:=blk_new ((w.alloc (Obj.cells #[Value.slice A1 l1.length c1] 22)).alloc (Obj.cells #[Value.slice A2 l2.length c2] 22)) (Obj.cells #[Value.slice A1 l1.length c1,Value.slice A2 l2.length c2] 22)
        simpa using this⟩
    go_enter Try.func43,Try.ntmps43
    go_wp2_with (first
      | (go_at_call 77;rw [← hWA];(with_reducible refine (HBD.out (w.heap.size + 1 + 1) WA HA.out.1 HA.out.2.2.2.2).mono ?_);rintro e w1 ⟨rfl,hb1⟩;have HB1:=Aside0.mk hb1;clear hb1)
      | ((with_reducible refine gate_dst (N:=11) rfl ?_);refine box_event ?hg (N:=11) ?hd (cs:=#[.slice none 0 0]) (t:=23) ?hr ?_;(case hd=>rfl);(case hg=>rfl);(case hr=>first|(go_simp;done)|(go_simp;rfl));intro gm hg w3 hbox hb;have HINV:=Aside0.mk (show DifferInv w (apartP k l1 l2) A1 c1 l1 A2 c2 l2 w.heap.size (w.heap.size + 1) gm w3 [] from DifferInv.start HR1.out HC1.out HR2.out HC2.out HA.out.1 (by have:=HA.out.2.1;omega) HA.out.2.2.1 HA.out.2.2.2.1 HB1.out hg hb hbox);have HGM:=Aside0.mk (blk_lt hbox);clear hb hbox hg))
    go_loopw [12] (fun v12 wr=>∃ (s:Nat) (q:Int) (vs:List (List Int)),v12=.int .i64 q∧Aside0 (q=(s:Int))∧Aside0 (s ≤ a3.toNat + 1)∧Aside0 (DifferInv w (apartP k l1 l2) A1 c1 l1 A2 c2 l2 w.heap.size (w.heap.size + 1) gm wr vs)∧Aside0 (DifferGo k (a0 - 1).toNat l1 l2 s a3.toNat res (lastD (apartP k l1 l2) vs))) (fun v12 _=>a3.toNat + 1 - (intOf v12).toNat)
    case atStart=>exact ⟨0,0,[],rfl,⟨rfl⟩,⟨Nat.zero_le _⟩,HINV,HRES⟩
    case round =>
      clear HINV HRES;obtain ⟨s,q,vs,rfl,HQ,HS,HINV,HGO⟩:=hrel;obtain ⟨u,hu,hou⟩:=HINV.out.2.2.2.1;have hcu:wr.cell? ⟨gm,0,none⟩=some u:=(blk_cell hu 0).trans rfl
      cases ho:lastD (apartP k l1 l2) vs with
      | none =>
        rw [ho] at hou;have hu0:u=.slice none 0 0:=hou;subst hu0;have HG0:=Aside0.mk (show DifferGo k (a0 - 1).toNat l1 l2 s a3.toNat res none from by have:=HGO.out;rw [ho] at this;exact this);have HI0:=Aside0.mk (HINV.out.cong (us:=[]) ho);clear hou hu HGO ho;by_cases hlt:s ≤ a3.toNat
        · have hd:decide (q ≤ a3)=true:=decide_eq_true (by have:=HQ.out;have:=HD.out;omega)
          have HW:=Aside0.mk (show wrap64 (q + 1)=((s + 1:Nat):Int) from by have:=HQ.out;have:=HD.out;unfold wrap64;omega)
          have HLT:=Aside0.mk hlt
          clear hlt
          have HSZ:=Aside0.mk (show w.heap.size ≤ wr.heap.size from HI0.out.1.size)
          have HVV:=Aside0.mk (show q=(s:Int) → w.heap.size ≤ wr.heap.size → Calls Try.prog 78 #[.int .i64 a0,.int .i64 q,.slice none 0 0,.func (.func 81) #[] #[.pointer (some ⟨w.heap.size,0,none⟩),.pointer (some ⟨w.heap.size + 1,0,none⟩),.pointer (some ⟨gm,0,none⟩)]] wr fun e w'=>∃ b vs,e=.returned (.bool b)∧DifferInv w (apartP k l1 l2) A1 c1 l1 A2 c2 l2 w.heap.size (w.heap.size + 1) gm w' vs∧DifferGo k (a0 - 1).toNat l1 l2 (s + 1) a3.toNat res (lastD (apartP k l1 l2) vs) from fun hq hsz=>by
            rw [hq]
            exact HV.out w.heap.size (w.heap.size + 1) gm s wr (World.block_lt_of_cell? wr ⟨gm,0,none⟩ hcu) hsz HLT.out HI0.out HG0.out)
          go_wp2_with (first
            | (go_at_call 78;(with_reducible refine (HVV.out HQ.out HSZ.out).mono ?_);rintro e w4 ⟨b,us,rfl,hi4,hg4⟩;have HI4:=Aside0.mk hi4;have HG4:=Aside0.mk hg4;clear hi4 hg4))
          go_roundw
          case measure=>rw [HW.out,HQ.out];simp only [intOf];have:=HLT.out;omega
          case rel=>exact ⟨s + 1,wrap64 (q + 1),us,rfl,HW,⟨by have:=HLT.out;omega⟩,HI4,HG4⟩
        · have hd:decide (q ≤ a3)=false:=decide_eq_false (by have:=HQ.out;have:=HD.out;omega)
          have hs:s=a3.toNat + 1:=by have:=HS.out;omega
          subst hs
          have hres:res=none:=by have:=HG0.out;unfold DifferGo at this;rw [Nat.sub_self] at this;exact (Option.some.inj this).symm
          subst hres
          obtain ⟨rfl,rfl⟩:=Prod.mk.inj (Option.some.inj HH.out)
          go_wp2
          go_ret2
          exact ⟨_,rfl,Kd.V_nil _ _ _ _ _,HI0.out.1⟩
      | some v =>
        rw [ho] at hou;obtain ⟨A,c,rfl,hlc,hF⟩:=hou;(have hres:res=some v:=by have:=HGO.out;rw [ho] at this;exact this);subst hres;obtain ⟨rfl,rfl⟩:=Prod.mk.inj (Option.some.inj HH.out);have HLC:=Aside0.mk hlc;have HF:=Aside0.mk hF;clear hlc hF hu ho HH;by_cases hlt:s ≤ a3.toNat
        · have hd:decide (q ≤ a3)=true:=decide_eq_true (by have:=HQ.out;have:=HD.out;omega)
          clear hlt
          go_wp2
          go_ret2
          exact ⟨_,rfl,Kd.V_mk HLC.out (Kd.F_mono HF.out (fun k hk=>hk.2)),HINV.out.1⟩
        · have hd:decide (q ≤ a3)=false:=decide_eq_false (by have:=HQ.out;have:=HD.out;omega)
          clear hlt
          go_wp2
          go_ret2
          exact ⟨_,rfl,Kd.V_mk HLC.out (Kd.F_mono HF.out (fun k hk=>hk.2)),HINV.out.1⟩
  · rw [if_neg hz] at h
    obtain ⟨rfl,rfl⟩:=Prod.mk.inj (Option.some.inj h)
    have hn:(e0 != 0)=true:=bne_iff_ne.mpr hz
    clear h hz
    have HA:Aside0 (Below w.heap.size w (((w.alloc (Obj.cells #[Value.slice A1 l1.length c1] 22)).alloc (Obj.cells #[Value.slice A2 l2.length c2] 22)).alloc (Obj.cells #[Value.slice A1 l1.length c1,Value.slice A2 l2.length c2] 22))):=⟨below_alloc (below_alloc (below_alloc (Below.refl _ _) _) _) _⟩
    have HG:=Aside0.mk (show (((w.alloc (Obj.cells #[Value.slice A1 l1.length c1] 22)).alloc (Obj.cells #[Value.slice A2 l2.length c2] 22)).alloc (Obj.cells #[Value.slice A1 l1.length c1,Value.slice A2 l2.length c2] 22)).heap[w.heap.size + 1 + 1]?=some (.cells #[.slice A1 l1.length c1,.slice A2 l2.length c2] 22 (0,0)) from by
      have:=blk_new ((w.alloc (Obj.cells #[Value.slice A1 l1.length c1] 22)).alloc (Obj.cells #[Value.slice A2 l2.length c2] 22)) (Obj.cells #[Value.slice A1 l1.length c1,Value.slice A2 l2.length c2] 22)
      simpa using this)
    go_enter Try.func43,Try.ntmps43
    go_wp2_with (first
      | (go_at_call 77;(with_reducible refine (HBD.out (w.heap.size + 1 + 1) _ HA.out HG.out).mono ?_);rintro e w1 ⟨rfl,hb1⟩;have HB1:=Aside0.mk (HA.out.trans (hb1.mono HA.out.size));clear hb1))
    go_ret2
    exact ⟨_,rfl,Kd.V_nil _ _ _ _ _,HB1.out⟩
end Go.Proofs.Ytkonljiembcdlaa.PC
namespace Go.Proofs.Ytkonljiembcdlaa.PC
open Go.Proofs.MyWords Go.RowKit Go.Proofs.YtkonljiembcdlaaW.PrintWords Go.Proofs.YtkonljiembcdlaaW.PrintLast Go.Proofs.YtkonljiembcdlaaW.PrintMore
attribute [local go_sem] max2_int min2_int max_two min_two max_three min_three max_four min_four   -- for this text's walks alone
set_option linter.unusedVariables false
set_option linter.unusedSimpArgs false
attribute [local go_sem] eqGuard_slices eqlnil23 neqnil23 eqlnil58 neqnil58
mutual
def bellpulllaw05_CountNumbers.l0:Nat → Int → List (S60) → List (S60) → Int → Int → Int → List (List Int) → Int → Int → Option (Bool)
  | 0,_,_,_,_,_,_,_,_,_=>none
  | k + 1,x5,x6,x7,x8,x9,x10,x11,x12,x13=>if x13 < (x11.length:Int) then (if 0 ≤ x13 then ((count_Has.f k x5 x6 (rd_L1 x11 x13)).bind fun bt1016=>(if bt1016.2=0 then (if bt1016.1=true then (bellpulllaw05_CountNumbers.l0 k x5 x6 x7 x8 x9 x10 x11 (wrap64 (x12 + 1)) (wrap64 (x13 + 1))) else (bellpulllaw05_CountNumbers.l0 k x5 x6 x7 x8 x9 x10 x11 x12 (wrap64 (x13 + 1)))) else (none))) else (none)) else ((count_Differ.f k x5 x6 x6 x8).bind fun bt1018=>((count_Differ.f k x5 x6 x7 x8).bind fun bt1022=>(if x10=0 then (if x9=x12 then (if bt1018.2=5 then ((bellpulllaw05_lives.f k).bind fun t1026=>(bellpulllaw05_CountNumbers.j1 k x5 x6 x7 x8 x9 bt1022.1 bt1022.2 (!t1026))) else (none)) else (none)) else (none))))
def bellpulllaw05_CountNumbers.j1:Nat → Int → List (S60) → List (S60) → Int → Int → List Int → Int → Bool → Option (Bool)
  | 0,_,_,_,_,_,_,_,_=>none
  | k + 1,x5,x6,x7,x8,x9,x18,x19,x96=>if x96=true then (none) else (if x19=0 then ((count_Has.f k x5 x6 x18).bind fun bt1027=>((count_Has.f k x5 x7 x18).bind fun bt1029=>(if bt1027.2=0 then (if bt1029.2=0 then (if bt1027.1=true then (if bt1029.1=true then (none) else ((bellpullref05_Total.f k x18).bind fun t1031=>(some (decide (t1031 ≤ x8))))) else (if bt1029.1=true then ((bellpullref05_Total.f k x18).bind fun t1032=>(some (decide (t1032 ≤ x8)))) else (none))) else (none)) else (none)))) else ((count_Count.f k x5 x7 x8).bind fun bt1033=>(if x19=5 then (if bt1033.2=0 then (some (bt1033.1 == x9)) else (none)) else (none))))
end
def bellpulllaw05_CountNumbers.f (k:Nat) (a0_0:Int) (l0_1:List Int) (l0_2:List Int) (a1:Int):Option (Bool):=(bellpulllaw05_Plan_sets.f a0_0 l0_1 l0_2 3).bind fun bt1003=>((count_Count.f k bt1003.1 bt1003.2.1 (Int.tmod (wrap64 (a1)) 9)).bind fun bt1010=>((bellpullref05_All.f k bt1003.1 (Int.tmod (wrap64 (a1)) 9)).bind fun t1012=>(bellpulllaw05_CountNumbers.l0 k bt1003.1 bt1003.2.1 bt1003.2.2 (Int.tmod (wrap64 (a1)) 9) bt1010.1 bt1010.2 t1012 0 0)))
set_option maxHeartbeats 8000000 in
set_option maxRecDepth 100000 in
theorem bellpulllaw05_CountNumbers.calls (k:Nat) (Z:Int) (a0:Option Addr) (a2:Nat) (Q:List Int) (a3:Option Addr) (a4:Nat) (R:List Int) (a1:Int) (r:Bool) (w:World) (g9:Kd.C (Kd.int .u8) w a0 Q.length Q) (h0:Q.length ≤ a2) (h1:Kd.C (Kd.int .u8) w a3 R.length R) (h2:R.length ≤ a4) (h:bellpulllaw05_CountNumbers.f k Z Q R a1=some r) :
    Calls Try.prog 14 #[.agg #[.int .u8 Z,.slice a0 Q.length a2,.slice a3 R.length a4],.int .u8 a1] w fun e w'=>e=.returned (.bool r)∧Below w.heap.size w w':=by
 have o4:=Try.underlying55;have j8:=mk0 g9;have j9:=mk0 h0;clear g9 h0;have l1:=mk0 h1;have l2:=mk0 h2;clear h1 h2;have I:=mk0 (Below.refl w.heap.size w);have H:((bellpulllaw05_Plan_sets.f Z Q R 3).bind fun d0=>((count_Count.f k d0.1 d0.2.1 (Int.tmod (wrap64 (a1)) 9)).bind fun f5=>((bellpullref05_All.f k d0.1 (Int.tmod (wrap64 (a1)) 9)).bind fun X=>(bellpulllaw05_CountNumbers.l0 k d0.1 d0.2.1 d0.2.2 (Int.tmod (wrap64 (a1)) 9) f5.1 f5.2 X 0 0))))=some r:=h;clear h;replace H:=Option.bind_eq_some_iff.mp H;obtain ⟨⟨G,E,T⟩,l9,H⟩:=H;(try dsimp only at H);have A3:=mk0 l9;clear l9;replace H:=Option.bind_eq_some_iff.mp H;obtain ⟨⟨b9,d3⟩,m0,H⟩:=H;(try dsimp only at H);have A4:=mk0 m0;clear m0;replace H:=Option.bind_eq_some_iff.mp H;obtain ⟨X,h3,H⟩:=H;(try dsimp only at H);have A5:=mk0 h3;clear h3;have H':=mk0 H;clear H;go_enter Try.func14,Try.ntmps14;go_wp2_with (first|((with_reducible refine gate_dst (N:=2) rfl ?_);refine box_event ?hg (N:=2) ?hd (cs:=#[.int .u8 Z,.slice a0 Q.length a2,.slice a3 R.length a4]) (t:=55) ?hr ?_;(case hd=>rfl);(case hg=>rfl);(case hr=>first|(go_simp;done)|(go_simp;rfl));intro D hg w6 h9 hb;have B:=mk0 (h9);have n3:=mk0 ((by rw [hg];exact (below_size (by repeat (first|(with_reducible first|exact I.1|apply below_alloc|apply pw_below_drewN|apply below_drew1)|exact I.1))):w.heap.size ≤ D));have F:=mk0 ((by rw [hg];exact (below_size (by repeat (first|(with_reducible first|exact I.1|apply below_alloc|apply pw_below_drewN|apply below_drew1)|exact I.1))):w.heap.size ≤ D));replace I:=mk0 (below_step (by repeat (first|(with_reducible first|exact I.1|apply below_alloc|apply pw_below_drewN|apply below_drew1)|exact I.1)) hb);clear hb h9 hg;have f6:=q0_ B;have f7:=q1_ B;have f8:=q2_ B;have f9:=blk_frozen B.1 0;have g0:=blk_frozen B.1 1;have g1:=blk_frozen B.1 2)|((with_reducible refine gate_callee (f:=33) rfl ?_);refine goesL_ (some 28) rfl rfl Try.func33 (by kernel_rfl) rfl #[.agg #[.int .u8 Z,.slice a0 Q.length a2,.slice a3 R.length a4],.int .i64 3] rfl (by (try simp only [m0_,m1_,m2_]);first|done|rfl|(simp only [l0_,l1_];rfl)) ?_;(with_reducible refine (bellpulllaw05_Plan_sets.calls Z _ _ Q _ _ R 3 G E T _ ?side1 ?side2 ?side3 ?side4 A3.1).mono ?_);(case side1=>repeat (first|exact (Kd.C_below j8.1 I.1)|(with_reducible refine Kd.C_alloc ?_ _)|(with_reducible refine Kd.C_drewN ?_ _)|(with_reducible refine Kd.C_drew ?_)));(case side2=>exact j9.1);(case side3=>repeat (first|exact (Kd.C_below l1.1 I.1)|(with_reducible refine Kd.C_alloc ?_ _)|(with_reducible refine Kd.C_drewN ?_ _)|(with_reducible refine Kd.C_drew ?_)));(case side4=>exact l2.1);rintro e w8 ⟨l3,c7,rfl,b8,m1,hb⟩;refine ⟨_,rfl,?_⟩;have b0:=mk0 (Kd.N_lower (Kd.N_mono (ok':=fun k_=>some k_ ≠ (c7:Value).ownBlock∧k_ ≠ D) (Kd.R_N (Kd.R_bound b8)) (fun k_ hk_=>⟨hk_.1,(Kd.freshB (g:=D) (o:=.cells #[.int .u8 Z,.slice a0 Q.length a2,.slice a3 R.length a4] 55 (0,0)) (by (with_reducible repeat (first|refine blk_drewN ?_ _|refine blk_drew ?_|refine blk_alloc ?_ _));exact B.1) k_ hk_.2.1)⟩)) (below_size (by repeat (first|(with_reducible first|exact I.1|apply below_alloc|apply pw_below_drewN|apply below_drew1|refine below_set ?_ F.1)|exact I.1))));have d1:=mk0 (Kd.N_lower (Kd.N_mono (ok':=fun k_=>some k_ ≠ (l3:Value).ownBlock∧k_ ≠ D) (Kd.R_N (Kd.R_bound m1)) (fun k_ hk_=>⟨hk_.1,(Kd.freshB (g:=D) (o:=.cells #[.int .u8 Z,.slice a0 Q.length a2,.slice a3 R.length a4] 55 (0,0)) (by (with_reducible repeat (first|refine blk_drewN ?_ _|refine blk_drew ?_|refine blk_alloc ?_ _));exact B.1) k_ hk_.2.1)⟩)) (below_size (by repeat (first|(with_reducible first|exact I.1|apply below_alloc|apply pw_below_drewN|apply below_drew1|refine below_set ?_ F.1)|exact I.1))));replace B:=mk0 (blk_below (g:=D) (o:=.cells #[.int .u8 Z,.slice a0 Q.length a2,.slice a3 R.length a4] 55 (0,0)) (by (with_reducible repeat (first|refine blk_drewN ?_ _|refine blk_drew ?_|refine blk_alloc ?_ _));exact B.1) hb);replace I:=mk0 (below_step (by repeat (first|(with_reducible first|exact I.1|apply below_alloc|apply pw_below_drewN|apply below_drew1|refine below_set ?_ F.1)|exact I.1)) hb);(try clear hb);(try clear b8);(try clear m1);obtain ⟨b1,b2,n4⟩:=Kd.N_slice b0.1;subst n4)|((with_reducible refine gate_callee (f:=35) rfl ?_);refine goesL_ (some 39) rfl rfl Try.func35 (by kernel_rfl) rfl #[.int .i64 G,.slice b1 E.length b2,.int .i64 (Int.tmod (wrap64 (a1)) 9)] rfl (by (try simp only [m0_,m1_,m2_]);first|done|rfl|(simp only [l0_,l1_];rfl)) ?_;(with_reducible refine (count_Count.calls k G _ _ E (Int.tmod (wrap64 (a1)) 9) b9 d3 _ ?side1 ?side2 A4.1).mono ?_);(case side1=>repeat (first|exact (Kd.N_reads' b0.1).2.2|(with_reducible refine Kd.C_alloc ?_ _)|(with_reducible refine Kd.C_drewN ?_ _)|(with_reducible refine Kd.C_drew ?_)));(case side2=>exact (Kd.N_reads' b0.1).2.1);rintro e p3 ⟨rfl,hb⟩;refine ⟨_,rfl,?_⟩;replace b0:=mk0 (Kd.N_below (by (with_reducible repeat (first|apply Kd.N_alloc|apply Kd.N_drewN|apply Kd.N_drew));exact b0.1) hb);replace d1:=mk0 (Kd.N_below (by (with_reducible repeat (first|apply Kd.N_alloc|apply Kd.N_drewN|apply Kd.N_drew));exact d1.1) hb);replace B:=mk0 (blk_below (g:=D) (o:=.cells #[.int .u8 Z,.slice a0 Q.length a2,.slice a3 R.length a4] 55 (0,0)) (by (with_reducible repeat (first|refine blk_drewN ?_ _|refine blk_drew ?_|refine blk_alloc ?_ _));exact B.1) hb);replace I:=mk0 (below_step (by repeat (first|(with_reducible first|exact I.1|apply below_alloc|apply pw_below_drewN|apply below_drew1|refine below_set ?_ F.1)|exact I.1)) hb);(try clear hb))|((with_reducible refine gate_callee (f:=37) rfl ?_);refine goesL_ (some 44) rfl rfl Try.func37 (by kernel_rfl) rfl #[.int .i64 G,.int .i64 (Int.tmod (wrap64 (a1)) 9)] rfl (by (try simp only [m0_,m1_,m2_]);first|done|rfl|(simp only [l0_,l1_];rfl)) ?_;(with_reducible refine (bellpullref05_All.calls k G (Int.tmod (wrap64 (a1)) 9) X _ A5.1).mono ?_);rintro e p4 ⟨f3,rfl,b8,hb⟩;refine ⟨_,rfl,?_⟩;have i0:=mk0 (Kd.N_lower (Kd.N_mono (ok':=fun k_=>some k_ ≠ (.slice b1 E.length b2:Value).ownBlock∧some k_ ≠ (c7:Value).ownBlock∧k_ ≠ D) b8 (fun k_ hk_=>⟨(Kd.fresh' (Kd.N_lt (by (with_reducible repeat (first|apply Kd.N_alloc|apply Kd.N_drewN|apply Kd.N_drew));exact b0.1)) k_ hk_),(Kd.fresh' (Kd.N_lt (by (with_reducible repeat (first|apply Kd.N_alloc|apply Kd.N_drewN|apply Kd.N_drew));exact d1.1)) k_ hk_),(Kd.freshB (g:=D) (o:=.cells #[.int .u8 Z,.slice a0 Q.length a2,.slice a3 R.length a4] 55 (0,0)) (by (with_reducible repeat (first|refine blk_drewN ?_ _|refine blk_drew ?_|refine blk_alloc ?_ _));exact B.1) k_ hk_)⟩)) (below_size (by repeat (first|(with_reducible first|exact I.1|apply below_alloc|apply pw_below_drewN|apply below_drew1|refine below_set ?_ F.1)|exact I.1))));replace b0:=mk0 (Kd.N_elder' (by (with_reducible repeat (first|apply Kd.N_alloc|apply Kd.N_drewN|apply Kd.N_drew));exact b0.1) (by first|exact Kd.N_base b8|exact Kd.S_base b8|exact Kd.R_base b8) hb);replace d1:=mk0 (Kd.N_elder' (by (with_reducible repeat (first|apply Kd.N_alloc|apply Kd.N_drewN|apply Kd.N_drew));exact d1.1) (by first|exact Kd.N_base b8|exact Kd.S_base b8|exact Kd.R_base b8) hb);replace B:=mk0 (blk_below (g:=D) (o:=.cells #[.int .u8 Z,.slice a0 Q.length a2,.slice a3 R.length a4] 55 (0,0)) (by (with_reducible repeat (first|refine blk_drewN ?_ _|refine blk_drew ?_|refine blk_alloc ?_ _));exact B.1) hb);replace I:=mk0 (below_step (by repeat (first|(with_reducible first|exact I.1|apply below_alloc|apply pw_below_drewN|apply below_drew1|refine below_set ?_ F.1)|exact I.1)) hb);(try clear hb);(try clear b8)));go_loopg [12,13] k (fun kq n5 n6 w'=>∃ (b4:Int) (M:Int),n5=.int .i64 b4∧n6=.int .i64 M∧Aside0 (bellpulllaw05_CountNumbers.l0 kq G E T (Int.tmod (wrap64 (a1)) 9) b9 d3 X b4 M=some r)∧Aside0 (kq ≤ k)∧Aside0 (Kd.N k60 60 w' w.heap.size (fun k_=>some k_ ≠ (c7:Value).ownBlock∧some k_ ≠ (f3:Value).ownBlock∧k_ ≠ D) (.slice b1 E.length b2) E)∧Aside0 (Kd.N k60 60 w' w.heap.size (fun k_=>some k_ ≠ ((.slice b1 E.length b2):Value).ownBlock∧some k_ ≠ (f3:Value).ownBlock∧k_ ≠ D) c7 T)∧Aside0 (Kd.N (Kd.slice 3 (Kd.int .i64)) 23 w' w.heap.size (fun k_=>some k_ ≠ ((.slice b1 E.length b2):Value).ownBlock∧some k_ ≠ (c7:Value).ownBlock∧k_ ≠ D) f3 X)∧Aside0 (w'.heap[D]?=some (.cells #[.int .u8 Z,(.slice a0 Q.length a2),(.slice a3 R.length a4)] 55 (0,0)))∧Aside0 (Below w.heap.size w w'));case atStart=>exact ⟨(0),(0),(by first|rfl|(simp;done)|(simp [*];done)),(by first|rfl|(simp;done)|(simp [*];done)),H',⟨Nat.le_refl _⟩,⟨by (with_reducible repeat (first|apply Kd.N_alloc|apply Kd.N_drewN|apply Kd.N_drew));exact Kd.N_mono b0.1 (fun _ hk=>⟨hk.1.1,⟨hk.2,hk.1.2⟩⟩)⟩,⟨by (with_reducible repeat (first|apply Kd.N_alloc|apply Kd.N_drewN|apply Kd.N_drew));exact Kd.N_mono d1.1 (fun _ hk=>⟨hk.1.1,⟨hk.2,hk.1.2⟩⟩)⟩,⟨by (with_reducible repeat (first|apply Kd.N_alloc|apply Kd.N_drewN|apply Kd.N_drew));exact i0.1⟩,⟨by (with_reducible repeat (first|refine blk_drewN ?_ _|refine blk_drew ?_|refine blk_alloc ?_ _));exact B.1⟩,⟨by repeat (first|(with_reducible first|exact I.1|apply below_alloc|apply pw_below_drewN|apply below_drew1|refine below_set ?_ F.1)|exact I.1)⟩⟩
 case round =>
  (clear H';try clear c1);(try clear p2);(try clear c3);(try clear p6);(try clear f6);(try clear f7);(try clear f8);(try clear f9);(try clear g0);try clear g1
  obtain ⟨b4,M,rfl,rfl,HA,g2,J,L,U,B,I⟩:=hrel;cases gk with
  | zero=>exact absurd HA.1 (by simp [bellpulllaw05_CountNumbers.l0])
  | succ k1 =>
   have H:=HA.1;clear HA;simp only [bellpulllaw05_CountNumbers.l0] at H;by_cases c12:M < (X.length:Int);· rw [if_pos c12] at H;have c12b0:decide (M < (X.length:Int))=true:=decide_eq_true c12;clear c12;by_cases c13:0 ≤ M;(· rw [if_pos c13] at H;have c13b0:decide (0 ≤ M)=true:=decide_eq_true c13;clear c13;replace H:=Option.bind_eq_some_iff.mp H;obtain ⟨⟨l4,d8⟩,i1,H⟩:=H;(try dsimp only at H);have m2:=mk0 i1;clear i1;by_cases c15:d8=0;(· rw [if_pos c15] at H;have c15b0:(d8 == 0)=true:=beq_iff_eq.mpr c15;have c15b1:(d8 != 0)=false:=bne_eq_false_iff_eq.mpr c15;clear c15;by_cases g3:l4=true;(· (subst g3;have H1:(bellpulllaw05_CountNumbers.l0 k1 G E T (Int.tmod (wrap64 (a1)) 9) b9 d3 X (wrap64 (b4 + 1)) (wrap64 (M + 1)))=some r:=by rw [if_pos rfl] at H;exact H);clear H;have H:=H1;clear H1;have H':=mk0 H;clear H;obtain ⟨o8,m5,m6⟩:=Kd.N_slice U.1;subst m6;have b5:0 ≤ (M:Int):=of_decide_eq_true (by first|(with_reducible assumption)|assumption);have b6:M < (X.length:Int):=of_decide_eq_true (by first|(with_reducible assumption)|assumption);obtain ⟨f0,e3,e4,f4,d4,c0,c5⟩:=at_L1 (Kd.N_reads' U.1).2.2 M b5 b6;cases f4;obtain ⟨i2,e5,e6,d2⟩:=Kd.N_get U.1 [] M b5 (by first|exact b6|exact of_decide_eq_true (by first|(with_reducible assumption)|assumption)|(have e_:=(Kd.N_reads' U.1).1;omega));obtain ⟨g6,g7,rfl,a8,a9⟩:=Kd.FK_slice_open e6;have a6:=d2 0 _ rfl;rw [Nat.add_zero,show ((Kd.slice 3 (Kd.int .i64))).sz=1 from rfl,Nat.mul_one] at a6;replace a6:=Option.some.inj (a6.symm.trans d4);injection a6 with hva_ hvn_ hvc_;rw [hva_] at a9;rw [hvc_] at a8;have c6:=mk0 (show Kd.V (Kd.int .i64) 3 _ w.heap.size _ _ (rd_L1 X M) from Kd.V_mk a8 a9);clear hva_ hvn_ hvc_ a9 a8;clear d2 e5;have a5:=mk0 c5;have d7:=mk0 c0;clear c5 c0;replace b5:=eq_true b5;replace b6:=eq_true b6;go_wp2_with (first|((with_reducible refine gate_callee (f:=23) rfl ?_);refine goesL_ (some 58) rfl rfl Try.func23 (by kernel_rfl) rfl #[.int .i64 G,.slice b1 E.length b2,.slice e3 (rd_L1 X M).length e4] rfl (by (try simp only [m0_,m1_,m2_]);first|done|rfl|(simp only [l0_,l1_];rfl)) ?_;(with_reducible refine (count_Has.calls k1 G (fun k_=>(some k_ ≠ (c7:Value).ownBlock∧(some k_ ≠ (.slice (some f0) X.length m5:Value).ownBlock∧k_ ≠ D))) _ _ E _ _ (rd_L1 X M) true d8 _ ?side1 ?side2 ?side3 m2.1).mono ?_);(case side1=>exact Kd.N_V (J.1));(case side2=>repeat (first|exact (by repeat (first|(with_reducible exact a5.1)|(with_reducible refine Kd.C_alloc ?_ _)|(with_reducible refine Kd.C_drewN ?_ _)|(with_reducible refine Kd.C_drew ?_)|exact a5.1))|(with_reducible refine Kd.C_alloc ?_ _)|(with_reducible refine Kd.C_drewN ?_ _)|(with_reducible refine Kd.C_drew ?_)));(case side3=>exact d7.1);rintro e p5 ⟨rfl,hb⟩;refine ⟨_,rfl,?_⟩;replace J:=mk0 (Kd.N_below (by (with_reducible repeat (first|apply Kd.N_alloc|apply Kd.N_drewN|apply Kd.N_drew));exact J.1) hb);replace L:=mk0 (Kd.N_below (by (with_reducible repeat (first|apply Kd.N_alloc|apply Kd.N_drewN|apply Kd.N_drew));exact L.1) hb);replace U:=mk0 (Kd.N_below (by (with_reducible repeat (first|apply Kd.N_alloc|apply Kd.N_drewN|apply Kd.N_drew));exact U.1) hb);replace c6:=mk0 (Kd.V_below (by (with_reducible repeat (first|apply Kd.V_alloc|apply Kd.V_drewN|apply Kd.V_drew));exact c6.1) hb);replace B:=mk0 (blk_below (g:=D) (o:=.cells #[.int .u8 Z,.slice a0 Q.length a2,.slice a3 R.length a4] 55 (0,0)) (by (with_reducible repeat (first|refine blk_drewN ?_ _|refine blk_drew ?_|refine blk_alloc ?_ _));exact B.1) hb);replace a5:=mk0 (Kd.C_below (by repeat (first|(with_reducible exact a5.1)|(with_reducible refine Kd.C_alloc ?_ _)|(with_reducible refine Kd.C_drewN ?_ _)|(with_reducible refine Kd.C_drew ?_)|exact a5.1)) hb);replace I:=mk0 (below_step (by repeat (first|(with_reducible first|exact I.1|apply below_alloc|apply pw_below_drewN|apply below_drew1|refine below_set ?_ F.1)|exact I.1)) hb);(try clear hb)));go_roundg k1;(case measure=>have:=g2.1;omega);case rel=>exact ⟨(wrap64 (b4 + 1)),(wrap64 (M + 1)),(by first|rfl|(simp;done)|(simp [*];done)),(by first|rfl|(simp;done)|(simp [*];done)),H',⟨by have:=g2.1;omega⟩,⟨by (with_reducible repeat (first|apply Kd.N_alloc|apply Kd.N_drewN|apply Kd.N_drew));exact J.1⟩,⟨by (with_reducible repeat (first|apply Kd.N_alloc|apply Kd.N_drewN|apply Kd.N_drew));exact L.1⟩,⟨by (with_reducible repeat (first|apply Kd.N_alloc|apply Kd.N_drewN|apply Kd.N_drew));exact U.1⟩,⟨by (with_reducible repeat (first|refine blk_drewN ?_ _|refine blk_drew ?_|refine blk_alloc ?_ _));exact B.1⟩,⟨by repeat (first|(with_reducible first|exact I.1|apply below_alloc|apply pw_below_drewN|apply below_drew1|refine below_set ?_ F.1)|exact I.1)⟩⟩);· (replace g3:=Bool.eq_false_iff.mpr g3;subst g3;have H1:(bellpulllaw05_CountNumbers.l0 k1 G E T (Int.tmod (wrap64 (a1)) 9) b9 d3 X b4 (wrap64 (M + 1)))=some r:=by rw [if_neg (show ¬ (false=true) by decide)] at H;exact H);clear H;have H:=H1;clear H1;have H':=mk0 H;clear H;obtain ⟨o9,m7,m8⟩:=Kd.N_slice U.1;subst m8;have b5:0 ≤ (M:Int):=of_decide_eq_true (by first|(with_reducible assumption)|assumption);have b6:M < (X.length:Int):=of_decide_eq_true (by first|(with_reducible assumption)|assumption);obtain ⟨f0,e3,e4,f4,d4,c0,c5⟩:=at_L1 (Kd.N_reads' U.1).2.2 M b5 b6;cases f4;obtain ⟨i2,e5,e6,d2⟩:=Kd.N_get U.1 [] M b5 (by first|exact b6|exact of_decide_eq_true (by first|(with_reducible assumption)|assumption)|(have e_:=(Kd.N_reads' U.1).1;omega));obtain ⟨g6,g7,rfl,a8,a9⟩:=Kd.FK_slice_open e6;have a6:=d2 0 _ rfl;rw [Nat.add_zero,show ((Kd.slice 3 (Kd.int .i64))).sz=1 from rfl,Nat.mul_one] at a6;replace a6:=Option.some.inj (a6.symm.trans d4);injection a6 with hva_ hvn_ hvc_;rw [hva_] at a9;rw [hvc_] at a8;have c6:=mk0 (show Kd.V (Kd.int .i64) 3 _ w.heap.size _ _ (rd_L1 X M) from Kd.V_mk a8 a9);clear hva_ hvn_ hvc_ a9 a8;clear d2 e5;have a5:=mk0 c5;have d7:=mk0 c0;clear c5 c0;replace b5:=eq_true b5;replace b6:=eq_true b6;go_wp2_with (first|((with_reducible refine gate_callee (f:=23) rfl ?_);refine goesL_ (some 58) rfl rfl Try.func23 (by kernel_rfl) rfl #[.int .i64 G,.slice b1 E.length b2,.slice e3 (rd_L1 X M).length e4] rfl (by (try simp only [m0_,m1_,m2_]);first|done|rfl|(simp only [l0_,l1_];rfl)) ?_;(with_reducible refine (count_Has.calls k1 G (fun k_=>(some k_ ≠ (c7:Value).ownBlock∧(some k_ ≠ (.slice (some f0) X.length m7:Value).ownBlock∧k_ ≠ D))) _ _ E _ _ (rd_L1 X M) false d8 _ ?side1 ?side2 ?side3 m2.1).mono ?_);(case side1=>exact Kd.N_V (J.1));(case side2=>repeat (first|exact (by repeat (first|(with_reducible exact a5.1)|(with_reducible refine Kd.C_alloc ?_ _)|(with_reducible refine Kd.C_drewN ?_ _)|(with_reducible refine Kd.C_drew ?_)|exact a5.1))|(with_reducible refine Kd.C_alloc ?_ _)|(with_reducible refine Kd.C_drewN ?_ _)|(with_reducible refine Kd.C_drew ?_)));(case side3=>exact d7.1);rintro e p7 ⟨rfl,hb⟩;refine ⟨_,rfl,?_⟩;replace J:=mk0 (Kd.N_below (by (with_reducible repeat (first|apply Kd.N_alloc|apply Kd.N_drewN|apply Kd.N_drew));exact J.1) hb);replace L:=mk0 (Kd.N_below (by (with_reducible repeat (first|apply Kd.N_alloc|apply Kd.N_drewN|apply Kd.N_drew));exact L.1) hb);replace U:=mk0 (Kd.N_below (by (with_reducible repeat (first|apply Kd.N_alloc|apply Kd.N_drewN|apply Kd.N_drew));exact U.1) hb);replace c6:=mk0 (Kd.V_below (by (with_reducible repeat (first|apply Kd.V_alloc|apply Kd.V_drewN|apply Kd.V_drew));exact c6.1) hb);replace B:=mk0 (blk_below (g:=D) (o:=.cells #[.int .u8 Z,.slice a0 Q.length a2,.slice a3 R.length a4] 55 (0,0)) (by (with_reducible repeat (first|refine blk_drewN ?_ _|refine blk_drew ?_|refine blk_alloc ?_ _));exact B.1) hb);replace a5:=mk0 (Kd.C_below (by repeat (first|(with_reducible exact a5.1)|(with_reducible refine Kd.C_alloc ?_ _)|(with_reducible refine Kd.C_drewN ?_ _)|(with_reducible refine Kd.C_drew ?_)|exact a5.1)) hb);replace I:=mk0 (below_step (by repeat (first|(with_reducible first|exact I.1|apply below_alloc|apply pw_below_drewN|apply below_drew1|refine below_set ?_ F.1)|exact I.1)) hb);(try clear hb)));go_roundg k1;(case measure=>have:=g2.1;omega);case rel=>exact ⟨(b4),(wrap64 (M + 1)),(by first|rfl|(simp;done)|(simp [*];done)),(by first|rfl|(simp;done)|(simp [*];done)),H',⟨by have:=g2.1;omega⟩,⟨by (with_reducible repeat (first|apply Kd.N_alloc|apply Kd.N_drewN|apply Kd.N_drew));exact J.1⟩,⟨by (with_reducible repeat (first|apply Kd.N_alloc|apply Kd.N_drewN|apply Kd.N_drew));exact L.1⟩,⟨by (with_reducible repeat (first|apply Kd.N_alloc|apply Kd.N_drewN|apply Kd.N_drew));exact U.1⟩,⟨by (with_reducible repeat (first|refine blk_drewN ?_ _|refine blk_drew ?_|refine blk_alloc ?_ _));exact B.1⟩,⟨by repeat (first|(with_reducible first|exact I.1|apply below_alloc|apply pw_below_drewN|apply below_drew1|refine below_set ?_ F.1)|exact I.1)⟩⟩);· rw [if_neg c15] at H;exact absurd H (by simp));· rw [if_neg c13] at H;exact absurd H (by simp)
   ·
    rw [if_neg c12] at H;have c12b0:decide (M < (X.length:Int))=false:=decide_eq_false c12;clear c12;replace H:=Option.bind_eq_some_iff.mp H;obtain ⟨⟨l5,e7⟩,i3,H⟩:=H;(try dsimp only at H);have n7:=mk0 i3;clear i3;replace H:=Option.bind_eq_some_iff.mp H;obtain ⟨⟨Y,a7⟩,i4,H⟩:=H;(try dsimp only at H);have n8:=mk0 i4;clear i4;have g8:=mk0 H;clear H;obtain ⟨i5,i6,m9⟩:=Kd.N_slice U.1;subst m9;go_upto_region 15 with (first|((with_reducible refine gate_callee (f:=43) rfl ?_);refine goesL_ (some 71) rfl rfl Try.func43 (by kernel_rfl) rfl #[.int .i64 G,.slice b1 E.length b2,.slice b1 E.length b2,.int .i64 (Int.tmod (wrap64 (a1)) 9)] rfl (by (try simp only [m0_,m1_,m2_]);first|done|rfl|(simp only [l0_,l1_];rfl)) ?_;(with_reducible refine (count_Differ.calls k1 G _ _ E _ _ E (Int.tmod (wrap64 (a1)) 9) l5 e7 _ ?side1 ?side2 ?side3 ?side4 n7.1).mono ?_);(case side1=>repeat (first|exact (Kd.N_reads' J.1).2.2|(with_reducible refine Kd.C_alloc ?_ _)|(with_reducible refine Kd.C_drewN ?_ _)|(with_reducible refine Kd.C_drew ?_)));(case side2=>exact (Kd.N_reads' J.1).2.1);(case side3=>repeat (first|exact (Kd.N_reads' J.1).2.2|(with_reducible refine Kd.C_alloc ?_ _)|(with_reducible refine Kd.C_drewN ?_ _)|(with_reducible refine Kd.C_drew ?_)));(case side4=>exact (Kd.N_reads' J.1).2.1);rintro e p8 ⟨o3,rfl,b8,hb⟩;refine ⟨_,rfl,?_⟩;have d9:=mk0 (Kd.V_lower (Kd.V_mono (ok':=fun k_=>some k_ ≠ (.slice b1 E.length b2:Value).ownBlock∧some k_ ≠ (c7:Value).ownBlock∧some k_ ≠ (.slice i5 X.length i6:Value).ownBlock∧k_ ≠ D) b8 (fun k_ hk_=>⟨(Kd.fresh' (Kd.N_lt (by (with_reducible repeat (first|apply Kd.N_alloc|apply Kd.N_drewN|apply Kd.N_drew));exact J.1)) k_ hk_),(Kd.fresh' (Kd.N_lt (by (with_reducible repeat (first|apply Kd.N_alloc|apply Kd.N_drewN|apply Kd.N_drew));exact L.1)) k_ hk_),(Kd.fresh' (Kd.N_lt (by (with_reducible repeat (first|apply Kd.N_alloc|apply Kd.N_drewN|apply Kd.N_drew));exact U.1)) k_ hk_),(Kd.freshB (g:=D) (o:=.cells #[.int .u8 Z,.slice a0 Q.length a2,.slice a3 R.length a4] 55 (0,0)) (by (with_reducible repeat (first|refine blk_drewN ?_ _|refine blk_drew ?_|refine blk_alloc ?_ _));exact B.1) k_ hk_)⟩)) (below_size (by repeat (first|(with_reducible first|exact I.1|apply below_alloc|apply pw_below_drewN|apply below_drew1|refine below_set ?_ F.1)|exact I.1))));replace J:=mk0 (Kd.N_below (by (with_reducible repeat (first|apply Kd.N_alloc|apply Kd.N_drewN|apply Kd.N_drew));exact J.1) hb);replace L:=mk0 (Kd.N_below (by (with_reducible repeat (first|apply Kd.N_alloc|apply Kd.N_drewN|apply Kd.N_drew));exact L.1) hb);replace U:=mk0 (Kd.N_below (by (with_reducible repeat (first|apply Kd.N_alloc|apply Kd.N_drewN|apply Kd.N_drew));exact U.1) hb);replace B:=mk0 (blk_below (g:=D) (o:=.cells #[.int .u8 Z,.slice a0 Q.length a2,.slice a3 R.length a4] 55 (0,0)) (by (with_reducible repeat (first|refine blk_drewN ?_ _|refine blk_drew ?_|refine blk_alloc ?_ _));exact B.1) hb);replace I:=mk0 (below_step (by repeat (first|(with_reducible first|exact I.1|apply below_alloc|apply pw_below_drewN|apply below_drew1|refine below_set ?_ F.1)|exact I.1)) hb);(try clear hb);(try clear b8);obtain ⟨c8,c9,n0⟩:=Kd.N_slice L.1;subst n0)|((with_reducible refine gate_callee (f:=43) rfl ?_);refine goesL_ (some 79) rfl rfl Try.func43 (by kernel_rfl) rfl #[.int .i64 G,.slice b1 E.length b2,.slice c8 T.length c9,.int .i64 (Int.tmod (wrap64 (a1)) 9)] rfl (by (try simp only [m0_,m1_,m2_]);first|done|rfl|(simp only [l0_,l1_];rfl)) ?_;(with_reducible refine (count_Differ.calls k1 G _ _ E _ _ T (Int.tmod (wrap64 (a1)) 9) Y a7 _ ?side1 ?side2 ?side3 ?side4 n8.1).mono ?_);(case side1=>repeat (first|exact (Kd.N_reads' J.1).2.2|(with_reducible refine Kd.C_alloc ?_ _)|(with_reducible refine Kd.C_drewN ?_ _)|(with_reducible refine Kd.C_drew ?_)));(case side2=>exact (Kd.N_reads' J.1).2.1);(case side3=>repeat (first|exact (Kd.N_reads' L.1).2.2|(with_reducible refine Kd.C_alloc ?_ _)|(with_reducible refine Kd.C_drewN ?_ _)|(with_reducible refine Kd.C_drew ?_)));(case side4=>exact (Kd.N_reads' L.1).2.1);rintro e p9 ⟨l6,rfl,b8,hb⟩;refine ⟨_,rfl,?_⟩;have f1:=mk0 (Kd.V_lower (Kd.V_mono (ok':=fun k_=>some k_ ≠ (.slice b1 E.length b2:Value).ownBlock∧some k_ ≠ (.slice c8 T.length c9:Value).ownBlock∧some k_ ≠ (.slice i5 X.length i6:Value).ownBlock∧k_ ≠ D) b8 (fun k_ hk_=>⟨(Kd.fresh' (Kd.N_lt (by (with_reducible repeat (first|apply Kd.N_alloc|apply Kd.N_drewN|apply Kd.N_drew));exact J.1)) k_ hk_),(Kd.fresh' (Kd.N_lt (by (with_reducible repeat (first|apply Kd.N_alloc|apply Kd.N_drewN|apply Kd.N_drew));exact L.1)) k_ hk_),(Kd.fresh' (Kd.N_lt (by (with_reducible repeat (first|apply Kd.N_alloc|apply Kd.N_drewN|apply Kd.N_drew));exact U.1)) k_ hk_),(Kd.freshB (g:=D) (o:=.cells #[.int .u8 Z,.slice a0 Q.length a2,.slice a3 R.length a4] 55 (0,0)) (by (with_reducible repeat (first|refine blk_drewN ?_ _|refine blk_drew ?_|refine blk_alloc ?_ _));exact B.1) k_ hk_)⟩)) (below_size (by repeat (first|(with_reducible first|exact I.1|apply below_alloc|apply pw_below_drewN|apply below_drew1|refine below_set ?_ F.1)|exact I.1))));replace J:=mk0 (Kd.N_below (by (with_reducible repeat (first|apply Kd.N_alloc|apply Kd.N_drewN|apply Kd.N_drew));exact J.1) hb);replace L:=mk0 (Kd.N_below (by (with_reducible repeat (first|apply Kd.N_alloc|apply Kd.N_drewN|apply Kd.N_drew));exact L.1) hb);replace U:=mk0 (Kd.N_below (by (with_reducible repeat (first|apply Kd.N_alloc|apply Kd.N_drewN|apply Kd.N_drew));exact U.1) hb);replace d9:=mk0 (Kd.V_below (by (with_reducible repeat (first|apply Kd.V_alloc|apply Kd.V_drewN|apply Kd.V_drew));exact d9.1) hb);replace B:=mk0 (blk_below (g:=D) (o:=.cells #[.int .u8 Z,.slice a0 Q.length a2,.slice a3 R.length a4] 55 (0,0)) (by (with_reducible repeat (first|refine blk_drewN ?_ _|refine blk_drew ?_|refine blk_alloc ?_ _));exact B.1) hb);replace I:=mk0 (below_step (by repeat (first|(with_reducible first|exact I.1|apply below_alloc|apply pw_below_drewN|apply below_drew1|refine below_set ?_ F.1)|exact I.1)) hb);(try clear hb);(try clear b8)));(try simp only [Act.put,s0_,s1_,s2_]);go_cut [96] (fun n9 wc=>∃ (kq:Nat) (e0:Bool),n9=.bool e0∧Aside0 (bellpulllaw05_CountNumbers.j1 kq G E T (Int.tmod (wrap64 (a1)) 9) b9 Y a7 e0=some r)∧Aside0 (kq ≤ k1)∧Aside0 (Kd.N k60 60 wc w.heap.size (fun k_=>some k_ ≠ ((.slice c8 T.length c9):Value).ownBlock∧k_ ≠ D) (.slice b1 E.length b2) E)∧Aside0 (Kd.N k60 60 wc w.heap.size (fun k_=>some k_ ≠ ((.slice b1 E.length b2):Value).ownBlock∧k_ ≠ D) (.slice c8 T.length c9) T)∧Aside0 (Kd.V (Kd.int .i64) 3 wc w.heap.size (fun k_=>some k_ ≠ ((.slice b1 E.length b2):Value).ownBlock∧some k_ ≠ ((.slice c8 T.length c9):Value).ownBlock∧k_ ≠ D) l6 Y)∧Aside0 (wc.heap[D]?=some (.cells #[.int .u8 Z,(.slice a0 Q.length a2),(.slice a3 R.length a4)] 55 (0,0)))∧Aside0 (Below w.heap.size w wc));case first =>have H:=g8.1;clear g8;by_cases c28:d3=0;(· rw [if_pos c28] at H;have c28b0:(d3 == 0)=true:=beq_iff_eq.mpr c28;have c28b1:(d3 != 0)=false:=bne_eq_false_iff_eq.mpr c28;clear c28;(first|rw [c28b0]|(simp only [i64_w,i32_w];rw [c28b0])|skip);by_cases c29:b9=b4;(· rw [if_pos c29] at H;have c29b0:(b9 == b4)=true:=beq_iff_eq.mpr c29;have c29b1:(b9 != b4)=false:=bne_eq_false_iff_eq.mpr c29;clear c29;by_cases c30:e7=5;(· rw [if_pos c30] at H;have c30b0:(e7 == 5)=true:=beq_iff_eq.mpr c30;have c30b1:(e7 != 5)=false:=bne_eq_false_iff_eq.mpr c30;clear c30;replace H:=Option.bind_eq_some_iff.mp H;obtain ⟨h4,i7,H⟩:=H;(try dsimp only at H);have o0:=mk0 i7;clear i7;have H':=mk0 H;clear H;go_wp2_with (first|(go_at_call 22;(with_reducible refine (bellpulllaw05_lives.calls k1  h4 _ o0.1).mono ?_);rintro e q0 ⟨rfl,hb⟩;replace J:=mk0 (Kd.N_below (by (with_reducible repeat (first|apply Kd.N_alloc|apply Kd.N_drewN|apply Kd.N_drew));exact J.1) hb);replace L:=mk0 (Kd.N_below (by (with_reducible repeat (first|apply Kd.N_alloc|apply Kd.N_drewN|apply Kd.N_drew));exact L.1) hb);replace U:=mk0 (Kd.N_below (by (with_reducible repeat (first|apply Kd.N_alloc|apply Kd.N_drewN|apply Kd.N_drew));exact U.1) hb);replace d9:=mk0 (Kd.V_below (by (with_reducible repeat (first|apply Kd.V_alloc|apply Kd.V_drewN|apply Kd.V_drew));exact d9.1) hb);replace f1:=mk0 (Kd.V_below (by (with_reducible repeat (first|apply Kd.V_alloc|apply Kd.V_drewN|apply Kd.V_drew));exact f1.1) hb);replace B:=mk0 (blk_below (g:=D) (o:=.cells #[.int .u8 Z,.slice a0 Q.length a2,.slice a3 R.length a4] 55 (0,0)) (by (with_reducible repeat (first|refine blk_drewN ?_ _|refine blk_drew ?_|refine blk_alloc ?_ _));exact B.1) hb);replace I:=mk0 (below_step (by repeat (first|(with_reducible first|exact I.1|apply below_alloc|apply pw_below_drewN|apply below_drew1|refine below_set ?_ F.1)|exact I.1)) hb);(try clear hb)));go_meet;case rel=>exact ⟨_,(!h4),(by first|rfl|(simp;done)|(simp [*];done)),H',⟨by have:=g2.1;first|omega|exact Nat.le_refl _⟩,⟨by (with_reducible repeat (first|apply Kd.N_alloc|apply Kd.N_drewN|apply Kd.N_drew));exact Kd.N_mono J.1 (fun _ hk=>⟨hk.1,hk.2.2⟩)⟩,⟨by (with_reducible repeat (first|apply Kd.N_alloc|apply Kd.N_drewN|apply Kd.N_drew));exact Kd.N_mono L.1 (fun _ hk=>⟨hk.1,hk.2.2⟩)⟩,⟨by (with_reducible repeat (first|apply Kd.V_alloc|apply Kd.V_drewN|apply Kd.V_drew));exact Kd.V_mono f1.1 (fun _ hk=>⟨hk.1,⟨hk.2.1,hk.2.2.2⟩⟩)⟩,⟨by (with_reducible repeat (first|refine blk_drewN ?_ _|refine blk_drew ?_|refine blk_alloc ?_ _));exact B.1⟩,⟨by repeat (first|(with_reducible first|exact I.1|apply below_alloc|apply pw_below_drewN|apply below_drew1|refine below_set ?_ F.1)|exact I.1)⟩⟩);· rw [if_neg c30] at H;exact absurd H (by simp));· rw [if_neg c29] at H;exact absurd H (by simp));· rw [if_neg c28] at H;exact absurd H (by simp)
    case rest =>
     (clear g8;try clear c1);(try clear p1);(try clear q1);(try clear hx1);(try clear c2);(try clear p2);(try clear c3);(try clear c4);(try clear p6);(try clear c10);(try clear p10);(try clear q10);(try clear hx10);(try clear c12);(try clear c12b0);(try clear c13);(try clear c13b0);(try clear c14);(try clear c15);(try clear c15b0);(try clear c15b1);(try clear g3);(try clear c23);(try clear c28);(try clear c28b0);(try clear c28b1);(try clear c29);(try clear c29b0);(try clear c29b1);(try clear c30);(try clear c30b0);(try clear c30b1);(try clear f6);(try clear f7);(try clear f8);(try clear f9);(try clear g0);(try clear g1);(try clear d4);(try clear b5);(try clear p2);(try clear p6);try clear b6
     obtain ⟨kq,e0,rfl,HA,p0,J,L,O,B,I⟩:=hcut;cases kq with
     | zero=>exact absurd HA.1 (by simp [bellpulllaw05_CountNumbers.j1])
     | succ kj22 =>have H:=HA.1;clear HA;simp only [bellpulllaw05_CountNumbers.j1] at H;by_cases h5:e0=true;(· (subst h5;have H1:(none)=some r:=by rw [if_pos rfl] at H;exact H);clear H;have H:=H1;clear H1;exact absurd H (by simp));· (replace h5:=Bool.eq_false_iff.mpr h5;subst h5;have H1:(if a7=0 then ((count_Has.f kj22 G E Y).bind fun g4=>((count_Has.f kj22 G T Y).bind fun f2=>(if g4.2=0 then (if f2.2=0 then (if g4.1=true then (if f2.1=true then (none) else ((bellpullref05_Total.f kj22 Y).bind fun d5=>(some (decide (d5 ≤ (Int.tmod (wrap64 (a1)) 9)))))) else (if f2.1=true then ((bellpullref05_Total.f kj22 Y).bind fun d6=>(some (decide (d6 ≤ (Int.tmod (wrap64 (a1)) 9))))) else (none))) else (none)) else (none)))) else ((count_Count.f kj22 G T (Int.tmod (wrap64 (a1)) 9)).bind fun g5=>(if a7=5 then (if g5.2=0 then (some (g5.1 == b9)) else (none)) else (none))))=some r:=by rw [if_neg (show ¬ (false=true) by decide)] at H;exact H);clear H;have H:=H1;clear H1;by_cases c34:a7=0;(· rw [if_pos c34] at H;have c34b0:(a7 == 0)=true:=beq_iff_eq.mpr c34;have c34b1:(a7 != 0)=false:=bne_eq_false_iff_eq.mpr c34;clear c34;replace H:=Option.bind_eq_some_iff.mp H;obtain ⟨⟨l7,e1⟩,i8,H⟩:=H;(try dsimp only at H);have m3:=mk0 i8;clear i8;replace H:=Option.bind_eq_some_iff.mp H;obtain ⟨⟨e8,e2⟩,i9,H⟩:=H;(try dsimp only at H);have m4:=mk0 i9;clear i9;by_cases c37:e1=0;(· rw [if_pos c37] at H;have c37b0:(e1 == 0)=true:=beq_iff_eq.mpr c37;have c37b1:(e1 != 0)=false:=bne_eq_false_iff_eq.mpr c37;clear c37;by_cases c38:e2=0;(· rw [if_pos c38] at H;have c38b0:(e2 == 0)=true:=beq_iff_eq.mpr c38;have c38b1:(e2 != 0)=false:=bne_eq_false_iff_eq.mpr c38;clear c38;by_cases h6:l7=true;(· (subst h6;have H1:(if e8=true then (none) else ((bellpullref05_Total.f kj22 Y).bind fun d5=>(some (decide (d5 ≤ (Int.tmod (wrap64 (a1)) 9))))))=some r:=by rw [if_pos rfl] at H;exact H);clear H;have H:=H1;clear H1;by_cases h7:e8=true;(· (subst h7;have H1:(none)=some r:=by rw [if_pos rfl] at H;exact H);clear H;have H:=H1;clear H1;exact absurd H (by simp));· (replace h7:=Bool.eq_false_iff.mpr h7;subst h7;have H1:((bellpullref05_Total.f kj22 Y).bind fun d5=>(some (decide (d5 ≤ (Int.tmod (wrap64 (a1)) 9)))))=some r:=by rw [if_neg (show ¬ (false=true) by decide)] at H;exact H);clear H;have H:=H1;clear H1;replace H:=Option.bind_eq_some_iff.mp H;obtain ⟨d5,j0,H⟩:=H;(try dsimp only at H);have o1:=mk0 j0;clear j0;obtain rfl:=Option.some.inj H;obtain ⟨j2,j3,n1⟩:=Kd.V_slice O.1;subst n1;go_wp2_with (first|((with_reducible refine gate_callee (f:=23) rfl ?_);refine goesL_ (some 121) rfl rfl Try.func23 (by kernel_rfl) rfl #[.int .i64 G,.slice b1 E.length b2,.slice j2 Y.length j3] rfl (by (try simp only [m0_,m1_,m2_]);first|done|rfl|(simp only [l0_,l1_];rfl)) ?_;(with_reducible refine (count_Has.calls kj22 G (fun k_=>(some k_ ≠ (.slice c8 T.length c9:Value).ownBlock∧k_ ≠ D)) _ _ E _ _ Y true e1 _ ?side1 ?side2 ?side3 m3.1).mono ?_);(case side1=>exact Kd.N_V (J.1));(case side2=>repeat (first|exact (Kd.V_reads' O.1).2.2|(with_reducible refine Kd.C_alloc ?_ _)|(with_reducible refine Kd.C_drewN ?_ _)|(with_reducible refine Kd.C_drew ?_)));(case side3=>exact (Kd.V_reads' O.1).2.1);rintro e q2 ⟨rfl,hb⟩;refine ⟨_,rfl,?_⟩;replace J:=mk0 (Kd.N_below (by (with_reducible repeat (first|apply Kd.N_alloc|apply Kd.N_drewN|apply Kd.N_drew));exact J.1) hb);replace L:=mk0 (Kd.N_below (by (with_reducible repeat (first|apply Kd.N_alloc|apply Kd.N_drewN|apply Kd.N_drew));exact L.1) hb);replace O:=mk0 (Kd.V_below (by (with_reducible repeat (first|apply Kd.V_alloc|apply Kd.V_drewN|apply Kd.V_drew));exact O.1) hb);replace B:=mk0 (blk_below (g:=D) (o:=.cells #[.int .u8 Z,.slice a0 Q.length a2,.slice a3 R.length a4] 55 (0,0)) (by (with_reducible repeat (first|refine blk_drewN ?_ _|refine blk_drew ?_|refine blk_alloc ?_ _));exact B.1) hb);replace I:=mk0 (below_step (by repeat (first|(with_reducible first|exact I.1|apply below_alloc|apply pw_below_drewN|apply below_drew1|refine below_set ?_ F.1)|exact I.1)) hb);(try clear hb))|((with_reducible refine gate_callee (f:=23) rfl ?_);refine goesL_ (some 128) rfl rfl Try.func23 (by kernel_rfl) rfl #[.int .i64 G,.slice c8 T.length c9,.slice j2 Y.length j3] rfl (by (try simp only [m0_,m1_,m2_]);first|done|rfl|(simp only [l0_,l1_];rfl)) ?_;(with_reducible refine (count_Has.calls kj22 G (fun k_=>(some k_ ≠ (.slice b1 E.length b2:Value).ownBlock∧k_ ≠ D)) _ _ T _ _ Y false e2 _ ?side1 ?side2 ?side3 m4.1).mono ?_);(case side1=>exact Kd.N_V (L.1));(case side2=>repeat (first|exact (Kd.V_reads' O.1).2.2|(with_reducible refine Kd.C_alloc ?_ _)|(with_reducible refine Kd.C_drewN ?_ _)|(with_reducible refine Kd.C_drew ?_)));(case side3=>exact (Kd.V_reads' O.1).2.1);rintro e q3 ⟨rfl,hb⟩;refine ⟨_,rfl,?_⟩;replace J:=mk0 (Kd.N_below (by (with_reducible repeat (first|apply Kd.N_alloc|apply Kd.N_drewN|apply Kd.N_drew));exact J.1) hb);replace L:=mk0 (Kd.N_below (by (with_reducible repeat (first|apply Kd.N_alloc|apply Kd.N_drewN|apply Kd.N_drew));exact L.1) hb);replace O:=mk0 (Kd.V_below (by (with_reducible repeat (first|apply Kd.V_alloc|apply Kd.V_drewN|apply Kd.V_drew));exact O.1) hb);replace B:=mk0 (blk_below (g:=D) (o:=.cells #[.int .u8 Z,.slice a0 Q.length a2,.slice a3 R.length a4] 55 (0,0)) (by (with_reducible repeat (first|refine blk_drewN ?_ _|refine blk_drew ?_|refine blk_alloc ?_ _));exact B.1) hb);replace I:=mk0 (below_step (by repeat (first|(with_reducible first|exact I.1|apply below_alloc|apply pw_below_drewN|apply below_drew1|refine below_set ?_ F.1)|exact I.1)) hb);(try clear hb))|(go_at_call 45;(with_reducible refine (bellpullref05_Total.calls kj22 _ _ Y d5 _ ?side1 ?side2 o1.1).mono ?_);(case side1=>repeat (first|exact (Kd.V_reads' O.1).2.2|(with_reducible refine Kd.C_alloc ?_ _)|(with_reducible refine Kd.C_drewN ?_ _)|(with_reducible refine Kd.C_drew ?_)));(case side2=>exact (Kd.V_reads' O.1).2.1);rintro e w' ⟨rfl,⟨nd,rfl⟩⟩));go_ret;exact ⟨by first|rfl|(simp [errW_none,errW_some] <;> rfl)|(simp [*,errW_none,errW_some] <;> rfl),by repeat (first|(with_reducible first|exact I.1|apply below_alloc|apply pw_below_drewN|apply below_drew1|refine below_set ?_ F.1)|exact I.1)⟩);· (replace h6:=Bool.eq_false_iff.mpr h6;subst h6;have H1:(if e8=true then ((bellpullref05_Total.f kj22 Y).bind fun d6=>(some (decide (d6 ≤ (Int.tmod (wrap64 (a1)) 9))))) else (none))=some r:=by rw [if_neg (show ¬ (false=true) by decide)] at H;exact H);clear H;have H:=H1;clear H1;by_cases h8:e8=true;(· (subst h8;have H1:((bellpullref05_Total.f kj22 Y).bind fun d6=>(some (decide (d6 ≤ (Int.tmod (wrap64 (a1)) 9)))))=some r:=by rw [if_pos rfl] at H;exact H);clear H;have H:=H1;clear H1;replace H:=Option.bind_eq_some_iff.mp H;obtain ⟨d6,j4,H⟩:=H;(try dsimp only at H);have o2:=mk0 j4;clear j4;obtain rfl:=Option.some.inj H;obtain ⟨j5,j6,n2⟩:=Kd.V_slice O.1;subst n2;go_wp2_with (first|((with_reducible refine gate_callee (f:=23) rfl ?_);refine goesL_ (some 121) rfl rfl Try.func23 (by kernel_rfl) rfl #[.int .i64 G,.slice b1 E.length b2,.slice j5 Y.length j6] rfl (by (try simp only [m0_,m1_,m2_]);first|done|rfl|(simp only [l0_,l1_];rfl)) ?_;(with_reducible refine (count_Has.calls kj22 G (fun k_=>(some k_ ≠ (.slice c8 T.length c9:Value).ownBlock∧k_ ≠ D)) _ _ E _ _ Y false e1 _ ?side1 ?side2 ?side3 m3.1).mono ?_);(case side1=>exact Kd.N_V (J.1));(case side2=>repeat (first|exact (Kd.V_reads' O.1).2.2|(with_reducible refine Kd.C_alloc ?_ _)|(with_reducible refine Kd.C_drewN ?_ _)|(with_reducible refine Kd.C_drew ?_)));(case side3=>exact (Kd.V_reads' O.1).2.1);rintro e q4 ⟨rfl,hb⟩;refine ⟨_,rfl,?_⟩;replace J:=mk0 (Kd.N_below (by (with_reducible repeat (first|apply Kd.N_alloc|apply Kd.N_drewN|apply Kd.N_drew));exact J.1) hb);replace L:=mk0 (Kd.N_below (by (with_reducible repeat (first|apply Kd.N_alloc|apply Kd.N_drewN|apply Kd.N_drew));exact L.1) hb);replace O:=mk0 (Kd.V_below (by (with_reducible repeat (first|apply Kd.V_alloc|apply Kd.V_drewN|apply Kd.V_drew));exact O.1) hb);replace B:=mk0 (blk_below (g:=D) (o:=.cells #[.int .u8 Z,.slice a0 Q.length a2,.slice a3 R.length a4] 55 (0,0)) (by (with_reducible repeat (first|refine blk_drewN ?_ _|refine blk_drew ?_|refine blk_alloc ?_ _));exact B.1) hb);replace I:=mk0 (below_step (by repeat (first|(with_reducible first|exact I.1|apply below_alloc|apply pw_below_drewN|apply below_drew1|refine below_set ?_ F.1)|exact I.1)) hb);(try clear hb))|((with_reducible refine gate_callee (f:=23) rfl ?_);refine goesL_ (some 128) rfl rfl Try.func23 (by kernel_rfl) rfl #[.int .i64 G,.slice c8 T.length c9,.slice j5 Y.length j6] rfl (by (try simp only [m0_,m1_,m2_]);first|done|rfl|(simp only [l0_,l1_];rfl)) ?_;(with_reducible refine (count_Has.calls kj22 G (fun k_=>(some k_ ≠ (.slice b1 E.length b2:Value).ownBlock∧k_ ≠ D)) _ _ T _ _ Y true e2 _ ?side1 ?side2 ?side3 m4.1).mono ?_);(case side1=>exact Kd.N_V (L.1));(case side2=>repeat (first|exact (Kd.V_reads' O.1).2.2|(with_reducible refine Kd.C_alloc ?_ _)|(with_reducible refine Kd.C_drewN ?_ _)|(with_reducible refine Kd.C_drew ?_)));(case side3=>exact (Kd.V_reads' O.1).2.1);rintro e q5 ⟨rfl,hb⟩;refine ⟨_,rfl,?_⟩;replace J:=mk0 (Kd.N_below (by (with_reducible repeat (first|apply Kd.N_alloc|apply Kd.N_drewN|apply Kd.N_drew));exact J.1) hb);replace L:=mk0 (Kd.N_below (by (with_reducible repeat (first|apply Kd.N_alloc|apply Kd.N_drewN|apply Kd.N_drew));exact L.1) hb);replace O:=mk0 (Kd.V_below (by (with_reducible repeat (first|apply Kd.V_alloc|apply Kd.V_drewN|apply Kd.V_drew));exact O.1) hb);replace B:=mk0 (blk_below (g:=D) (o:=.cells #[.int .u8 Z,.slice a0 Q.length a2,.slice a3 R.length a4] 55 (0,0)) (by (with_reducible repeat (first|refine blk_drewN ?_ _|refine blk_drew ?_|refine blk_alloc ?_ _));exact B.1) hb);replace I:=mk0 (below_step (by repeat (first|(with_reducible first|exact I.1|apply below_alloc|apply pw_below_drewN|apply below_drew1|refine below_set ?_ F.1)|exact I.1)) hb);(try clear hb))|(go_at_call 45;(with_reducible refine (bellpullref05_Total.calls kj22 _ _ Y d6 _ ?side1 ?side2 o2.1).mono ?_);(case side1=>repeat (first|exact (Kd.V_reads' O.1).2.2|(with_reducible refine Kd.C_alloc ?_ _)|(with_reducible refine Kd.C_drewN ?_ _)|(with_reducible refine Kd.C_drew ?_)));(case side2=>exact (Kd.V_reads' O.1).2.1);rintro e w' ⟨rfl,⟨nd,rfl⟩⟩));go_ret;exact ⟨by first|rfl|(simp [errW_none,errW_some] <;> rfl)|(simp [*,errW_none,errW_some] <;> rfl),by repeat (first|(with_reducible first|exact I.1|apply below_alloc|apply pw_below_drewN|apply below_drew1|refine below_set ?_ F.1)|exact I.1)⟩);· (replace h8:=Bool.eq_false_iff.mpr h8;subst h8;have H1:(none)=some r:=by rw [if_neg (show ¬ (false=true) by decide)] at H;exact H);clear H;have H:=H1;clear H1;exact absurd H (by simp));· rw [if_neg c38] at H;exact absurd H (by simp));· rw [if_neg c37] at H;exact absurd H (by simp));· rw [if_neg c34] at H;have c34b0:(a7 == 0)=false:=beq_eq_false_iff_ne.mpr c34;have c34b1:(a7 != 0)=true:=bne_iff_ne.mpr c34;replace H:=Option.bind_eq_some_iff.mp H;obtain ⟨⟨l8,e9⟩,j7,H⟩:=H;(try dsimp only at H);have h3:=mk0 j7;clear j7;by_cases c51:a7=5;(· rw [if_pos c51] at H;have c51b0:(a7 == 5)=true:=beq_iff_eq.mpr c51;have c51b1:(a7 != 5)=false:=bne_eq_false_iff_eq.mpr c51;clear c51;by_cases c52:e9=0;(· rw [if_pos c52] at H;have c52b0:(e9 == 0)=true:=beq_iff_eq.mpr c52;have c52b1:(e9 != 0)=false:=bne_eq_false_iff_eq.mpr c52;clear c52;obtain rfl:=Option.some.inj H;go_wp2_with (first|((with_reducible refine gate_callee (f:=35) rfl ?_);refine goesL_ (some 103) rfl rfl Try.func35 (by kernel_rfl) rfl #[.int .i64 G,.slice c8 T.length c9,.int .i64 (Int.tmod (wrap64 (a1)) 9)] rfl (by (try simp only [m0_,m1_,m2_]);first|done|rfl|(simp only [l0_,l1_];rfl)) ?_;(with_reducible refine (count_Count.calls kj22 G _ _ T (Int.tmod (wrap64 (a1)) 9) l8 e9 _ ?side1 ?side2 h3.1).mono ?_);(case side1=>repeat (first|exact (Kd.N_reads' L.1).2.2|(with_reducible refine Kd.C_alloc ?_ _)|(with_reducible refine Kd.C_drewN ?_ _)|(with_reducible refine Kd.C_drew ?_)));(case side2=>exact (Kd.N_reads' L.1).2.1);rintro e q6 ⟨rfl,hb⟩;refine ⟨_,rfl,?_⟩;replace J:=mk0 (Kd.N_below (by (with_reducible repeat (first|apply Kd.N_alloc|apply Kd.N_drewN|apply Kd.N_drew));exact J.1) hb);replace L:=mk0 (Kd.N_below (by (with_reducible repeat (first|apply Kd.N_alloc|apply Kd.N_drewN|apply Kd.N_drew));exact L.1) hb);replace O:=mk0 (Kd.V_below (by (with_reducible repeat (first|apply Kd.V_alloc|apply Kd.V_drewN|apply Kd.V_drew));exact O.1) hb);replace B:=mk0 (blk_below (g:=D) (o:=.cells #[.int .u8 Z,.slice a0 Q.length a2,.slice a3 R.length a4] 55 (0,0)) (by (with_reducible repeat (first|refine blk_drewN ?_ _|refine blk_drew ?_|refine blk_alloc ?_ _));exact B.1) hb);replace I:=mk0 (below_step (by repeat (first|(with_reducible first|exact I.1|apply below_alloc|apply pw_below_drewN|apply below_drew1|refine below_set ?_ F.1)|exact I.1)) hb);(try clear hb)));go_ret;exact ⟨by first|rfl|(simp [errW_none,errW_some] <;> rfl)|(simp [*,errW_none,errW_some] <;> rfl),by repeat (first|(with_reducible first|exact I.1|apply below_alloc|apply pw_below_drewN|apply below_drew1|refine below_set ?_ F.1)|exact I.1)⟩);· rw [if_neg c52] at H;exact absurd H (by simp));· rw [if_neg c51] at H;exact absurd H (by simp)
end Go.Proofs.Ytkonljiembcdlaa.PC
namespace Go.Proofs.Ytkonljiembcdlaa.PC
open Go.Proofs.MyWords Go.RowKit Go.Proofs.YtkonljiembcdlaaW.PrintWords Go.Proofs.YtkonljiembcdlaaW.PrintLast Go.Proofs.YtkonljiembcdlaaW.PrintMore
attribute [local go_sem] max2_int min2_int max_two min_two max_three min_three max_four min_four   -- for this text's walks alone
set_option linter.unusedVariables false
set_option linter.unusedSimpArgs false
attribute [local go_sem] eqGuard_slices eqlnil23 neqnil23 eqlnil58 neqnil58
end Go.Proofs.Ytkonljiembcdlaa.PC
namespace Go.Proofs.Ytkonljiembcdlaa.PC
open Go.Proofs.MyWords Go.RowKit Go.Proofs.YtkonljiembcdlaaW.PrintWords Go.Proofs.YtkonljiembcdlaaW.PrintLast Go.Proofs.YtkonljiembcdlaaW.PrintMore
attribute [local go_sem] max2_int min2_int max_two min_two max_three min_three max_four min_four   -- for this text's walks alone
set_option linter.unusedVariables false
set_option linter.unusedSimpArgs false
attribute [local go_sem] eqGuard_slices eqlnil23 neqnil23 eqlnil58 neqnil58
end Go.Proofs.Ytkonljiembcdlaa.PC
namespace Go.Proofs.Ytkonljiembcdlaa.PC
open Go.Proofs.MyWords Go.RowKit Go.Proofs.YtkonljiembcdlaaW.PrintWords Go.Proofs.YtkonljiembcdlaaW.PrintLast Go.Proofs.YtkonljiembcdlaaW.PrintMore
attribute [local go_sem] max2_int min2_int max_two min_two max_three min_three max_four min_four   -- for this text's walks alone
set_option linter.unusedVariables false
set_option linter.unusedSimpArgs false
attribute [local go_sem] eqGuard_slices eqlnil23 neqnil23 eqlnil58 neqnil58
end Go.Proofs.Ytkonljiembcdlaa.PC
namespace Go.Proofs.Ytkonljiembcdlaa.PC
open Go.Proofs.MyWords Go.RowKit Go.Proofs.YtkonljiembcdlaaW.PrintWords Go.Proofs.YtkonljiembcdlaaW.PrintLast Go.Proofs.YtkonljiembcdlaaW.PrintMore
attribute [local go_sem] max2_int min2_int max_two min_two max_three min_three max_four min_four   -- for this text's walks alone
set_option linter.unusedVariables false
set_option linter.unusedSimpArgs false
attribute [local go_sem] eqGuard_slices eqlnil23 neqnil23 eqlnil58 neqnil58
end Go.Proofs.Ytkonljiembcdlaa.PC
namespace Go.Proofs.Ytkonljiembcdlaa.PC
open Go.Proofs.MyWords Go.RowKit Go.Proofs.YtkonljiembcdlaaW.PrintWords Go.Proofs.YtkonljiembcdlaaW.PrintLast Go.Proofs.YtkonljiembcdlaaW.PrintMore
attribute [local go_sem] max2_int min2_int max_two min_two max_three min_three max_four min_four   -- for this text's walks alone
set_option linter.unusedVariables false
set_option linter.unusedSimpArgs false
attribute [local go_sem] eqGuard_slices eqlnil23 neqnil23 eqlnil58 neqnil58
end Go.Proofs.Ytkonljiembcdlaa.PC
namespace Go.Proofs.Ytkonljiembcdlaa.PC
open Go.Proofs.MyWords Go.RowKit Go.Proofs.YtkonljiembcdlaaW.PrintWords Go.Proofs.YtkonljiembcdlaaW.PrintLast Go.Proofs.YtkonljiembcdlaaW.PrintMore
attribute [local go_sem] max2_int min2_int max_two min_two max_three min_three max_four min_four   -- for this text's walks alone
set_option linter.unusedVariables false
set_option linter.unusedSimpArgs false
attribute [local go_sem] eqGuard_slices eqlnil23 neqnil23 eqlnil58 neqnil58
end Go.Proofs.Ytkonljiembcdlaa.PC
namespace Go.Proofs.Ytkonljiembcdlaa.PC
open Go.Proofs.MyWords Go.RowKit Go.Proofs.YtkonljiembcdlaaW.PrintWords Go.Proofs.YtkonljiembcdlaaW.PrintLast Go.Proofs.YtkonljiembcdlaaW.PrintMore
attribute [local go_sem] max2_int min2_int max_two min_two max_three min_three max_four min_four   -- for this text's walks alone
set_option linter.unusedVariables false
set_option linter.unusedSimpArgs false
attribute [local go_sem] eqGuard_slices eqlnil23 neqnil23 eqlnil58 neqnil58
end Go.Proofs.Ytkonljiembcdlaa.PC
namespace Go.Proofs.Ytkonljiembcdlaa.PC
open Go.Proofs.MyWords Go.RowKit Go.Proofs.YtkonljiembcdlaaW.PrintWords Go.Proofs.YtkonljiembcdlaaW.PrintLast Go.Proofs.YtkonljiembcdlaaW.PrintMore
attribute [local go_sem] max2_int min2_int max_two min_two max_three min_three max_four min_four   -- for this text's walks alone
set_option linter.unusedVariables false
set_option linter.unusedSimpArgs false
attribute [local go_sem] eqGuard_slices eqlnil23 neqnil23 eqlnil58 neqnil58
end Go.Proofs.Ytkonljiembcdlaa.PC
namespace Go.Proofs.Ytkonljiembcdlaa.PC
open Go.Proofs.MyWords Go.RowKit Go.Proofs.YtkonljiembcdlaaW.PrintWords Go.Proofs.YtkonljiembcdlaaW.PrintLast Go.Proofs.YtkonljiembcdlaaW.PrintMore
attribute [local go_sem] max2_int min2_int max_two min_two max_three min_three max_four min_four   -- for this text's walks alone
set_option linter.unusedVariables false
set_option linter.unusedSimpArgs false
attribute [local go_sem] eqGuard_slices eqlnil23 neqnil23 eqlnil58 neqnil58
end Go.Proofs.Ytkonljiembcdlaa.PC
namespace Go.Proofs.Ytkonljiembcdlaa.PC
open Go.Proofs.MyWords Go.RowKit Go.Proofs.YtkonljiembcdlaaW.PrintWords Go.Proofs.YtkonljiembcdlaaW.PrintLast Go.Proofs.YtkonljiembcdlaaW.PrintMore
attribute [local go_sem] max2_int min2_int max_two min_two max_three min_three max_four min_four   -- for this text's walks alone
set_option linter.unusedVariables false
set_option linter.unusedSimpArgs false
attribute [local go_sem] eqGuard_slices eqlnil23 neqnil23 eqlnil58 neqnil58
end Go.Proofs.Ytkonljiembcdlaa.PC
namespace Go.Proofs.Ytkonljiembcdlaa.PC
open Go.Proofs.MyWords Go.RowKit Go.Proofs.YtkonljiembcdlaaW.PrintWords Go.Proofs.YtkonljiembcdlaaW.PrintLast Go.Proofs.YtkonljiembcdlaaW.PrintMore
attribute [local go_sem] max2_int min2_int max_two min_two max_three min_three max_four min_four   -- for this text's walks alone
set_option linter.unusedVariables false
set_option linter.unusedSimpArgs false
attribute [local go_sem] eqGuard_slices eqlnil23 neqnil23 eqlnil58 neqnil58
end Go.Proofs.Ytkonljiembcdlaa.PC
namespace Go.Proofs.Ytkonljiembcdlaa.PC
open Go.Proofs.MyWords Go.RowKit Go.Proofs.YtkonljiembcdlaaW.PrintWords Go.Proofs.YtkonljiembcdlaaW.PrintLast Go.Proofs.YtkonljiembcdlaaW.PrintMore
attribute [local go_sem] max2_int min2_int max_two min_two max_three min_three max_four min_four   -- for this text's walks alone
set_option linter.unusedVariables false
set_option linter.unusedSimpArgs false
attribute [local go_sem] eqGuard_slices eqlnil23 neqnil23 eqlnil58 neqnil58
end Go.Proofs.Ytkonljiembcdlaa.PC
namespace Go.Proofs.Ytkonljiembcdlaa.PC
open Go.Proofs.MyWords Go.RowKit Go.Proofs.YtkonljiembcdlaaW.PrintWords Go.Proofs.YtkonljiembcdlaaW.PrintLast Go.Proofs.YtkonljiembcdlaaW.PrintMore
attribute [local go_sem] max2_int min2_int max_two min_two max_three min_three max_four min_four   -- for this text's walks alone
set_option linter.unusedVariables false
set_option linter.unusedSimpArgs false
attribute [local go_sem] eqGuard_slices eqlnil23 neqnil23 eqlnil58 neqnil58
end Go.Proofs.Ytkonljiembcdlaa.PC
namespace Go.Proofs.Ytkonljiembcdlaa.PC
open Go.Proofs.MyWords Go.RowKit Go.Proofs.YtkonljiembcdlaaW.PrintWords Go.Proofs.YtkonljiembcdlaaW.PrintLast Go.Proofs.YtkonljiembcdlaaW.PrintMore
attribute [local go_sem] max2_int min2_int max_two min_two max_three min_three max_four min_four   -- for this text's walks alone
set_option linter.unusedVariables false
set_option linter.unusedSimpArgs false
attribute [local go_sem] eqGuard_slices eqlnil23 neqnil23 eqlnil58 neqnil58
end Go.Proofs.Ytkonljiembcdlaa.PC
namespace Go.Proofs.Ytkonljiembcdlaa.PC
open Go.Proofs.MyWords Go.RowKit Go.Proofs.YtkonljiembcdlaaW.PrintWords Go.Proofs.YtkonljiembcdlaaW.PrintLast Go.Proofs.YtkonljiembcdlaaW.PrintMore
attribute [local go_sem] max2_int min2_int max_two min_two max_three min_three max_four min_four   -- for this text's walks alone
set_option linter.unusedVariables false
set_option linter.unusedSimpArgs false
attribute [local go_sem] eqGuard_slices eqlnil23 neqnil23 eqlnil58 neqnil58
end Go.Proofs.Ytkonljiembcdlaa.PC
/- Small tools for statements of the form 'with enough rounds the answer is r'. -/
set_option linter.unusedVariables false
set_option linter.unusedSimpArgs false
namespace Go.Proofs.Ytkonljiembcdlaa.Pure
open Go.RowKit Go.Proofs.YtkonljiembcdlaaW.PrintWords
theorem wrap_id {x:Int} (h0:-9223372036854775808 ≤ x) (h1:x ≤ 9223372036854775807):wrap64 x=x:=by
  unfold wrap64;omega
section
variable {α β:Type} {g a b:Nat → Option α} {r:α}
theorem Ev.rounds (h:Ev g r):∃ k,g k=some r:=by
  obtain ⟨K,hK⟩:=h
  exact ⟨K,hK K (Nat.le_refl _)⟩
theorem Ev.succ (h:Ev (fun k=>g (k + 1)) r):Ev g r:=Ev.step (fun _=>rfl) h
theorem Ev.pos {c:Prop} [Decidable c] (hc:c) (h:Ev a r):Ev (fun k=>if c then a k else b k) r:=by
  simpa only [if_pos hc] using h
theorem Ev.neg {c:Prop} [Decidable c] (hc:¬ c) (h:Ev b r):Ev (fun k=>if c then a k else b k) r:=by
  simpa only [if_neg hc] using h
theorem Ev.bindc {o:Option β} {f:Nat → β → Option α} {x:β} (ho:o=some x) (h:Ev (fun k=>f k x) r):Ev (fun k=>o.bind (f k)) r:=by
  subst ho;simpa only [Option.bind_some] using h
theorem Ev.const {o:Option α} (h:o=some r):Ev (fun _=>o) r:=⟨0,fun _ _=>h⟩
end
theorem rd_app (pre:List Int) (x:Int) (t:List Int):rd (pre ++ x :: t) (pre.length:Int)=x:=by
  simp [rd,List.getD_eq_getElem?_getD]
theorem rd_nat (l:List Int) (j:Nat) (h:j < l.length):rd l (j:Int)=l[j]:=by
  simp [rd,List.getD_eq_getElem?_getD,List.getElem?_eq_getElem h]
theorem wf_u8 {a:Int} (h:(Lit.int .u8 a).wf=true):0 ≤ a∧a ≤ 255:=by
  simp only [Lit.wf,Bool.and_eq_true,decide_eq_true_eq] at h
  exact h
end Go.Proofs.Ytkonljiembcdlaa.Pure
/- Sums of periods, in plain Lean. -/
set_option linter.unusedVariables false
namespace Go.Proofs.Ytkonljiembcdlaa.Sem
abbrev Vec:=List Int
def addV:Vec → Vec → Vec
  | x :: v,y :: w=>(x + y) :: addV v w
  | _,_=>[]
def subV:Vec → Vec → Vec
  | x :: v,y :: w=>(x - y) :: subV v w
  | _,_=>[]
def zeroN (d:Nat):Vec:=List.replicate d 0
def nnV (v:Vec):Prop:=∀ x,x ∈ v → 0 ≤ x
instance (v:Vec):Decidable (nnV v):=by unfold nnV;infer_instance
theorem addV_comm:∀ v w:Vec,addV v w=addV w v
  | [],[]=>rfl
  | [],y :: w=>rfl
  | x :: v,[]=>rfl
  | x :: v,y :: w=>by rw [addV,addV,addV_comm v w,Int.add_comm]
theorem addV_assoc:∀ v w u:Vec,addV (addV v w) u=addV v (addV w u)
  | [],w,u=>by simp [addV]
  | x :: v,[],u=>by simp [addV]
  | x :: v,y :: w,[]=>by simp [addV]
  | x :: v,y :: w,z :: u=>by rw [addV,addV,addV,addV,addV_assoc v w u,Int.add_assoc]
theorem addV_swap (v w u:Vec):addV (addV v w) u=addV (addV v u) w:=by
  rw [addV_assoc,addV_comm w u,← addV_assoc]
theorem addV_len {d:Nat}:∀ {v w:Vec},v.length=d → w.length=d → (addV v w).length=d:=by
  induction d with
  | zero=>intro v w hv hw;rw [List.length_eq_zero_iff.1 hv,List.length_eq_zero_iff.1 hw];rfl
  | succ d ih =>
    intro v w hv hw
    match v,w,hv,hw with
    | x :: v,y :: w,hv,hw=>simp at hv hw;simp [addV,ih hv hw]
theorem subV_len {d:Nat}:∀ {v w:Vec},v.length=d → w.length=d → (subV v w).length=d:=by
  induction d with
  | zero=>intro v w hv hw;rw [List.length_eq_zero_iff.1 hv,List.length_eq_zero_iff.1 hw];rfl
  | succ d ih =>
    intro v w hv hw
    match v,w,hv,hw with
    | x :: v,y :: w,hv,hw=>simp at hv hw;simp [subV,ih hv hw]
theorem zeroN_len (d:Nat):(zeroN d).length=d:=List.length_replicate
theorem zeroN_mem {d:Nat} {x:Int} (h:x ∈ zeroN d):x=0:=List.eq_of_mem_replicate h
theorem zeroN_succ (d:Nat):zeroN (d + 1)=0 :: zeroN d:=rfl
theorem eq_zeroN:∀ {v:Vec} {d:Nat},v.length=d → (∀ x,x ∈ v → x=0) → v=zeroN d
  | v,d,h,hz=>List.eq_replicate_iff.2 ⟨h,hz⟩
theorem addV_zero:∀ {v:Vec} {d:Nat},v.length=d → addV v (zeroN d)=v
  | [],0,_=>rfl
  | x :: v,d + 1,h=>by
    simp at h
    rw [zeroN_succ,addV,addV_zero h,Int.add_zero]
theorem subV_add:∀ {v w:Vec},v.length=w.length → addV (subV v w) w=v
  | [],[],_=>rfl
  | x :: v,y :: w,h=>by
    simp at h
    rw [subV,addV,subV_add h,Int.sub_add_cancel]
theorem addV_sub:∀ {v w:Vec},v.length=w.length → subV (addV v w) w=v
  | [],[],_=>rfl
  | x :: v,y :: w,h=>by
    simp at h
    rw [addV,subV,addV_sub h,Int.add_sub_cancel]
theorem sum_addV:∀ {v w:Vec},v.length=w.length → (addV v w).sum=v.sum + w.sum
  | [],[],_=>rfl
  | x :: v,y :: w,h=>by
    simp at h
    rw [addV,List.sum_cons,List.sum_cons,List.sum_cons,sum_addV h]
    omega
theorem sum_subV {v w:Vec} (h:v.length=w.length):(subV v w).sum=v.sum - w.sum:=by
  have h1:=sum_addV (v:=subV v w) (w:=w) (by rw [subV_len h rfl])
  rw [subV_add h] at h1
  omega
theorem nn_addV:∀ {v w:Vec},nnV v → nnV w → nnV (addV v w)
  | [],w,_,_=>by intro x hx;simp [addV] at hx
  | x :: v,[],_,_=>by intro x hx;simp [addV] at hx
  | x :: v,y :: w,hv,hw=>by
    intro z hz
    rw [addV] at hz
    rcases List.mem_cons.1 hz with rfl|hz
    · have:=hv x (by simp)
      have:=hw y (by simp)
      omega
    · exact nn_addV (fun a ha=>hv a (by simp [ha])) (fun a ha=>hw a (by simp [ha])) z hz
theorem sum_nn:∀ {v:Vec},nnV v → 0 ≤ v.sum
  | [],_=>by simp
  | x :: v,h=>by
    rw [List.sum_cons]
    have:=h x (by simp)
    have:=sum_nn (v:=v) (fun a ha=>h a (by simp [ha]))
    omega
theorem zero_of_sum:∀ {v:Vec},nnV v → v.sum=0 → ∀ x,x ∈ v → x=0
  | [],_,_=>by simp
  | x :: v,h,hs=>by
    rw [List.sum_cons] at hs
    have h1:=h x (by simp)
    have h2:=sum_nn (v:=v) (fun a ha=>h a (by simp [ha]))
    intro y hy
    rcases List.mem_cons.1 hy with rfl|hy
    · omega
    · exact zero_of_sum (fun a ha=>h a (by simp [ha])) (by omega) y hy
theorem mem_le_sum:∀ {v:Vec},nnV v → ∀ x,x ∈ v → x ≤ v.sum
  | [],_,x,hx=>by simp at hx
  | y :: v,h,x,hx=>by
    rw [List.sum_cons]
    have h1:=h y (by simp)
    have h2:=sum_nn (v:=v) (fun a ha=>h a (by simp [ha]))
    rcases List.mem_cons.1 hx with rfl|hx
    · omega
    · have:=mem_le_sum (v:=v) (fun a ha=>h a (by simp [ha])) x hx
      omega
theorem nn_zeroN (d:Nat):nnV (zeroN d):=fun x hx=>by rw [zeroN_mem hx];decide
inductive Comb (d:Nat) (ps:List Vec):Vec → Prop
  | zero:Comb d ps (zeroN d)
  | add {p w}:p ∈ ps → Comb d ps w → Comb d ps (addV w p)
def okD (d:Nat) (ps:List Vec):Prop:=∀ p,p ∈ ps → p.length=d∧nnV p
section
variable {d:Nat} {ps:List Vec}
theorem Comb.len (hp:okD d ps) {v:Vec} (h:Comb d ps v):v.length=d:=by
  induction h with
  | zero=>exact zeroN_len d
  | add h1 _ ih=>exact addV_len ih (hp _ h1).1
theorem Comb.nn (hp:okD d ps) {v:Vec} (h:Comb d ps v):nnV v:=by
  induction h with
  | zero=>exact nn_zeroN d
  | add h1 _ ih=>exact nn_addV ih (hp _ h1).2
theorem Comb.mono {qs:List Vec} (hs:∀ p,p ∈ ps → p ∈ qs) {v:Vec} (h:Comb d ps v):Comb d qs v:=by
  induction h with
  | zero=>exact .zero
  | add h1 _ ih=>exact .add (hs _ h1) ih
theorem comb_nil {v:Vec}:Comb d [] v ↔ v=zeroN d :=
  ⟨fun h=>by cases h with
    | zero=>rfl
    | add h1 _=>simp at h1,fun h=>h ▸ .zero⟩
theorem comb_cons {p v:Vec}:Comb d (p :: ps) v ↔ Comb d ps v ∨ ∃ w,Comb d (p :: ps) w∧v=addV w p:=by
  constructor
  · intro h
    induction h with
    | zero=>exact .inl .zero
    | @add q w h1 h2 ih =>
      rcases List.mem_cons.1 h1 with rfl|h1
      · exact .inr ⟨w,h2,rfl⟩
      · rcases ih with ih|⟨u,hu,rfl⟩
        · exact .inl (.add h1 ih)
        · exact .inr ⟨addV u q,.add (by simp [h1]) hu,addV_swap _ _ _⟩
  · rintro (h|⟨w,h,rfl⟩)
    · exact h.mono (fun q hq=>by simp [hq])
    · exact .add (by simp) h
theorem comb_sub {p v:Vec} (hp:okD d (p :: ps)) (hv:v.length=d):Comb d (p :: ps) v ↔ Comb d ps v ∨ Comb d (p :: ps) (subV v p):=by
  have hl:v.length=p.length:=hv.trans (hp p (by simp)).1.symm
  rw [comb_cons]
  constructor
  · rintro (h|⟨w,h,rfl⟩)
    · exact .inl h
    · rw [addV_sub ((h.len hp).trans (hp p (by simp)).1.symm)]
      exact .inr h
  · rintro (h|h)
    · exact .inl h
    · exact .inr ⟨_,h,(subV_add hl).symm⟩
theorem comb_filter (hp:okD d ps) (f:Vec → Bool) (hf:∀ p,p ∈ ps → f p=false → p=zeroN d) {v:Vec}:Comb d (ps.filter f) v ↔ Comb d ps v:=by
  constructor
  · exact fun h=>h.mono (fun q hq=>(List.mem_filter.1 hq).1)
  · intro h
    have ho:okD d (ps.filter f):=fun q hq=>hp q (List.mem_filter.1 hq).1
    induction h with
    | zero=>exact .zero
    | @add p w h1 _ ih =>
      cases hb:f p with
      | true=>exact .add (List.mem_filter.2 ⟨h1,hb⟩) ih
      | false=>rw [hf p h1 hb,addV_zero (ih.len ho)];exact ih
end
end Go.Proofs.Ytkonljiembcdlaa.Sem
/- Differences of vectors, and sums of periods, as the program and the reference take them, in plain Lean. -/
set_option linter.unusedVariables false
set_option linter.unusedSimpArgs false
namespace Go.Proofs.Ytkonljiembcdlaa.Pure
open Go.RowKit Go.Proofs.MyWords Go.Proofs.YtkonljiembcdlaaW.PrintWords Go.Proofs.YtkonljiembcdlaaW.PrintLast Go.Proofs.YtkonljiembcdlaaW.PrintMore Go.Proofs.Ytkonljiembcdlaa.PC Go.Proofs.Ytkonljiembcdlaa.Sem
theorem getD_app {α:Type} (pre:List α) (x:α) (t:List α) (d:α):(pre ++ x :: t).getD ((pre.length:Int)).toNat d=x:=by
  simp [List.getD_eq_getElem?_getD]
theorem rdL1_app (pre:List (List Int)) (x:List Int) (t:List (List Int)):rd_L1 (pre ++ x :: t) (pre.length:Int)=x:=getD_app _ _ _ _
theorem rdL4_app (pre:List (List S60)) (x:List S60) (t:List (List S60)):rd_L4 (pre ++ x :: t) (pre.length:Int)=x:=getD_app _ _ _ _
theorem rdT60_app (pre:List S60) (x:S60) (t:List S60):rd_T60 (pre ++ x :: t) (pre.length:Int)=x:=getD_app _ _ _ _
theorem wsucc {n:Nat} (h:n < 4611686018427387904):wrap64 ((n:Int) + 1)=((n + 1:Nat):Int):=by rw [wrap_id (by omega) (by omega)];omega
theorem len_snoc {α:Type} (pre:List α) (x:α):pre.length + 1=(pre ++ [x]).length:=by simp
theorem app_snoc {α:Type} (pre:List α) (x:α) (t:List α):pre ++ x :: t=(pre ++ [x]) ++ t:=by simp
theorem lt_app {α:Type} (pre:List α) (x:α) (t:List α):(pre.length:Int) < ((pre ++ x :: t).length:Int):=by simp;omega
theorem set_app {α:Type} (pre:List α) (x y:α) (t:List α):(pre ++ x :: t).set ((pre.length:Int)).toNat y=pre ++ y :: t:=by simp
def inB (m:Int) (v:List Int):Prop:=∀ x,x ∈ v → 0 ≤ x∧x ≤ m
theorem inB.nn {m:Int} {v:List Int} (h:inB m v):nnV v:=fun x hx=>(h x hx).1
theorem outside_iff (v:List Int) (m:Int):(v.any fun x=>decide (x < 0) || decide (m < x))=true ↔ ¬ inB m v:=by
  rw [List.any_eq_true]
  constructor
  · rintro ⟨x,hx,h⟩ hi
    have:=hi x hx
    simp at h
    omega
  · intro h
    apply Classical.byContradiction
    intro h2
    refine h (fun x hx=>?_)
    apply Classical.byContradiction
    intro h3
    exact h2 ⟨x,hx,by simp;omega⟩
theorem less_go (m:Int):∀ (v2 w2 v1 w1 o1:List Int),v1.length=w1.length → o1.length=v1.length → v2.length=w2.length → inB 1000000 v2 → inB 1000000 w2 → (v1 ++ v2).length < 1000000 →
    Ev (fun k=>count_less.l0 k (v1 ++ v2) (w1 ++ w2) (o1 ++ List.replicate v2.length 0) ((v1 ++ v2).length:Int) (v1.length:Int)) (o1 ++ subV v2 w2,!((o1 ++ subV v2 w2).any fun x=>decide (x < 0) || decide (60 < x)))
  | [],[],v1,w1,o1,h1,h2,h3,b1,b2,hl=>by
    refine Ev.succ ?_
    simp only [count_less.l0]
    refine Ev.neg (by simp) ?_
    refine Ev.bindc (x:=(o1 ++ subV [] []).any fun x=>decide (x < 0) || decide (60 < x)) (by simp [count_outside.f,subV]) ?_
    simp [subV]
    exact Ev.now _
  | x :: v2,y :: w2,v1,w1,o1,h1,h2,h3,b1,b2,hl=>by
    have hlen:(v1 ++ x :: v2).length=v1.length + (v2.length + 1):=by simp
    have ih:=less_go m v2 w2 (v1 ++ [x]) (w1 ++ [y]) (o1 ++ [x - y]) (by simp [h1]) (by simp [h2]) (by simpa using h3) (fun z hz=>b1 z (by simp [hz])) (fun z hz=>b2 z (by simp [hz])) (by simp at hl ⊢;omega)
    have bx:=b1 x (by simp)
    have by':=b2 y (by simp)
    refine Ev.succ ?_
    simp only [count_less.l0]
    refine Ev.pos (by simp;omega) (Ev.pos (by omega) (Ev.pos (by simp;omega) (Ev.pos (by simp;omega) (Ev.pos (by simp;omega) ?_))))
    rw [rd_app v1 x v2,show (v1.length:Int)=(w1.length:Int) by omega,rd_app w1 y w2,← h1,wrap_id (by omega) (by omega),wsucc (by simp at hl;omega)]
    rw [← app_snoc,← app_snoc] at ih
    have e:(o1 ++ List.replicate (x :: v2).length 0).set ((v1.length:Int)).toNat (x - y)=o1 ++ [x - y] ++ List.replicate v2.length 0:=by
      rw [← h2,List.length_cons,List.replicate_succ,set_app];simp
    rw [e,len_snoc v1 x,subV]
    rw [List.append_assoc o1 [x - y] (subV v2 w2)] at ih
    exact ih
theorem less_ev {v w:List Int} (h:v.length=w.length) (hv:inB 1000000 v) (hw:inB 1000000 w) (hl:v.length < 1000000):Ev (fun k=>count_less.f k v w) (subV v w,!((subV v w).any fun x=>decide (x < 0) || decide (60 < x))):=by
  have:=less_go 0 v w [] [] [] rfl rfl h hv hw hl
  simp only [List.nil_append,List.length_nil] at this
  unfold count_less.f
  refine Ev.pos (by omega) (Ev.pos (by omega) ?_)
  rw [Int.toNat_natCast]
  exact this
theorem less_ok {m:Int} {v w:List Int} (h:v.length=w.length) (hv:inB 60 v) (hw:inB 1000000 w) (hl:v.length < 1000000):Ev (fun k=>count_less.f k v w) (subV v w,decide (nnV (subV v w))):=by
  have h1:=less_ev h (fun x hx=>⟨(hv x hx).1,by have:=hv x hx;omega⟩) hw hl
  have le60:∀ (v w:List Int),inB 60 v → nnV w → ∀ x,x ∈ subV v w → x ≤ 60:=fun v=>by
    induction v with
    | nil=>intro w _ _ x hx;simp [subV] at hx
    | cons a v ih =>
      intro w hv hw x hx
      match w,hw,hx with
      | b :: w,hw,hx =>
        rw [subV] at hx
        rcases List.mem_cons.1 hx with rfl|hx
        · have:=hv a (by simp)
          have:=hw b (by simp)
          omega
        · exact ih w (fun z hz=>hv z (by simp [hz])) (fun z hz=>hw z (by simp [hz])) x hx
  have e:(!((subV v w).any fun x=>decide (x < 0) || decide (60 < x)))=decide (nnV (subV v w)):=by
    rw [Bool.eq_iff_iff,decide_eq_true_iff,Bool.not_eq_true',← Bool.not_eq_true,outside_iff]
    constructor
    · intro h x hx
      exact (Classical.byContradiction h x hx).1
    · exact fun h hn=>hn (fun x hx=>⟨h x hx,le60 v w hv hw.nn x hx⟩)
  rw [← e]
  exact h1
theorem refTotal_go:∀ (v2 v1:List Int) (s:Int),inB 1000000 v2 → 0 ≤ s → s ≤ 1000000 * v1.length → (v1 ++ v2).length < 1000000 → Ev (fun k=>bellpullref05_Total.l0 k (v1 ++ v2) s (v1.length:Int)) (s + v2.sum)
  | [],v1,s,_,h0,h1,hl=>by
    refine Ev.succ ?_
    simp only [bellpullref05_Total.l0]
    refine Ev.neg (by simp) ?_
    simp
    exact Ev.now _
  | x :: v2,v1,s,hb,h0,h1,hl=>by
    have bx:=hb x (by simp)
    have ih:=refTotal_go v2 (v1 ++ [x]) (s + x) (fun z hz=>hb z (by simp [hz])) (by omega) (by simp;omega) (by simp at hl ⊢;omega)
    rw [← app_snoc,← len_snoc] at ih
    refine Ev.succ ?_
    simp only [bellpullref05_Total.l0]
    refine Ev.pos (by simp;omega) (Ev.pos (by omega) ?_)
    have hl2:v1.length < 1000000:=by simp at hl;omega
    rw [rd_app,wrap_id (x:=s + x) (by omega) (by omega),wsucc (by omega),List.sum_cons,← Int.add_assoc]
    exact ih
theorem refTotal_ev {v:List Int} (hv:inB 1000000 v) (hl:v.length < 1000000):Ev (fun k=>bellpullref05_Total.f k v) v.sum:=by
  have:=refTotal_go v [] 0 hv (by omega) (by simp) hl
  simp only [List.nil_append,List.length_nil,Int.zero_add] at this
  exact this
end Go.Proofs.Ytkonljiembcdlaa.Pure
/- Has, of the program and of the reference, in plain Lean. -/
set_option linter.unusedVariables false
set_option linter.unusedSimpArgs false
namespace Go.Proofs.Ytkonljiembcdlaa.Pure
open Go.RowKit Go.Proofs.MyWords Go.Proofs.YtkonljiembcdlaaW.PrintWords Go.Proofs.YtkonljiembcdlaaW.PrintLast Go.Proofs.YtkonljiembcdlaaW.PrintMore Go.Proofs.Ytkonljiembcdlaa.PC Go.Proofs.Ytkonljiembcdlaa.Sem
def okV (d:Nat) (m:Int) (v:List Int):Prop:=v.length=d∧inB m v
theorem okV.mono {d:Nat} {m n:Int} {v:List Int} (h:okV d m v) (hm:m ≤ n):okV d n v:=⟨h.1,fun x hx=>⟨(h.2 x hx).1,by have:=h.2 x hx;omega⟩⟩
def okP (d:Nat) (ps:List (List Int)):Prop:=∀ p,p ∈ ps → okV d 1000000 p
theorem okP.okD {d:Nat} {ps:List (List Int)} (h:okP d ps):okD d ps:=fun p hp=>⟨(h p hp).1,(h p hp).2.nn⟩
theorem okP.tail {d:Nat} {p:List Int} {ps:List (List Int)} (h:okP d (p :: ps)):okP d ps:=fun q hq=>h q (by simp [hq])
theorem sub60 {d:Nat} {v w:List Int} (hv:okV d 60 v) (hw:okV d 1000000 w) (h:nnV (subV v w)):okV d 60 (subV v w):=by
  refine ⟨subV_len hv.1 hw.1,fun x hx=>⟨h x hx,?_⟩⟩
  have:∀ (v w:List Int),inB 60 v → nnV w → ∀ x,x ∈ subV v w → x ≤ 60:=fun v=>by
    induction v with
    | nil=>intro w _ _ x hx;simp [subV] at hx
    | cons a v ih =>
      intro w hv hw x hx
      match w,hw,hx with
      | b :: w,hw,hx =>
        rw [subV] at hx
        rcases List.mem_cons.1 hx with rfl|hx
        · have:=hv a (by simp)
          have:=hw b (by simp)
          omega
        · exact ih w (fun z hz=>hv z (by simp [hz])) (fun z hz=>hw z (by simp [hz])) x hx
  exact this v w hv.2 hw.2.nn x hx
theorem zeroV_iff (v:List Int):zeroV v=true ↔ ∀ x,x ∈ v → x=0:=by
  unfold zeroV
  rw [Bool.not_eq_true',← Bool.not_eq_true,List.any_eq_true]
  constructor
  · intro h x hx
    apply Classical.byContradiction
    intro h2
    exact h ⟨x,hx,by simp [h2]⟩
  · rintro h ⟨x,hx,h2⟩
    rw [h x hx] at h2
    simp at h2
theorem zero_f (v:List Int):count_zero.f v=some (zeroV v):=rfl
theorem pos_of_nz {p:List Int} (hn:nnV p) (h:zeroV p=false):0 < p.sum:=by
  have:=sum_nn hn
  rcases Int.lt_or_eq_of_le this with h1|h1
  · exact h1
  · have:=(zeroV_iff p).2 (zero_of_sum hn h1.symm)
    rw [h] at this
    cases this
theorem made_nil (v:List Int):Ev (fun k=>count_made.f k v []) (zeroV v):=by
  refine Ev.succ ?_
  simp only [count_made.f,zero_f,Option.bind_some]
  cases h:zeroV v with
  | true=>exact Ev.pos rfl (Ev.now _)
  | false=>exact Ev.neg (by simp) (Ev.pos (by simp) (Ev.now _))
theorem made_ev (d:Nat) (hd:d < 1000000):∀ (ps:List (List Int)),okP d ps → (∀ p,p ∈ ps → zeroV p=false) → ∀ v,okV d 60 v → ∃ b,Ev (fun k=>count_made.f k v ps) b∧(b=true ↔ Comb d ps v)
  | [],_,_,v,hv=>⟨_,made_nil v,by
      rw [zeroV_iff,comb_nil]
      exact ⟨eq_zeroN hv.1,fun h x hx=>by rw [h] at hx;exact zeroN_mem hx⟩⟩
  | p :: ps,hp,hz,v,hv=>by
    have IH:=made_ev d hd ps hp.tail (fun q hq=>hz q (by simp [hq]))
    have pp:0 < p.sum:=pos_of_nz (hp p (by simp)).2.nn (hz p (by simp))
    have loop:∀ (n:Nat) (v:List Int),v.sum.toNat < n → okV d 60 v → ∃ b,Ev (fun k=>count_made.l0 k v (p :: ps) true) b∧(b=true ↔ Comb d (p :: ps) v):=fun n=>by
      induction n with
      | zero=>intro v h _;omega
      | succ n ih =>
        intro v hn hv
        have hl:v.length=p.length:=hv.1.trans (hp p (by simp)).1.symm
        have hle:=less_ok (m:=0) hl hv.2 (hp p (by simp)).2 (by rw [hv.1];exact hd)
        obtain ⟨b1,e1,i1⟩:=IH v hv
        have hc:=comb_sub hp.okD (v:=v) hv.1
        cases b1 with
        | true =>
          refine ⟨true,?_,⟨fun _=>hc.2 (.inl (i1.1 rfl)),fun _=>rfl⟩⟩
          refine Ev.succ ?_
          simp only [count_made.l0]
          refine Ev.pos trivial (Ev.pos (by simp <;> omega) (Ev.bind e1 (Ev.pos rfl (Ev.now _))))
        | false =>
          have hno:¬ Comb d ps v:=fun h=>by have:=i1.2 h;cases this
          have rd0:rd_L1 (p :: ps) 0=p:=rfl
          have start:∀ b,Ev (fun k=>count_made.l0 k (subV v p) (p :: ps) (decide (nnV (subV v p)))) b → Ev (fun k=>count_made.l0 k v (p :: ps) true) b:=fun b hb=>by
            refine Ev.succ ?_
            simp only [count_made.l0]
            refine Ev.pos trivial (Ev.pos (by simp <;> omega) (Ev.bind e1 (Ev.neg (by simp) (Ev.pos (by simp <;> omega) ?_))))
            rw [rd0]
            exact Ev.bind hle hb
          by_cases hnn:nnV (subV v p)
          · have hs:=sub60 hv (hp p (by simp)) hnn
            have hsum:=sum_subV hl
            have:=sum_nn hs.2.nn
            have:=sum_nn hv.2.nn
            obtain ⟨b,e2,i2⟩:=ih (subV v p) (by omega) hs
            refine ⟨b,start b (by rw [decide_eq_true hnn];exact e2),?_⟩
            rw [i2,hc]
            exact ⟨.inr,fun h=>h.resolve_left hno⟩
          · refine ⟨false,start false (by rw [decide_eq_false hnn];refine Ev.succ ?_;simp only [count_made.l0];exact Ev.neg (by simp) (Ev.now _)),⟨fun h=>(by cases h),fun h=>?_⟩⟩
            rcases hc.1 h with h|h
            · exact absurd h hno
            · exact absurd (h.nn hp.okD) hnn
    cases hzv:zeroV v with
    | true =>
      have:v=zeroN d:=eq_zeroN hv.1 ((zeroV_iff v).1 hzv)
      refine ⟨true,?_,⟨fun _=>this ▸ .zero,fun _=>rfl⟩⟩
      refine Ev.succ ?_
      simp only [count_made.f,zero_f,Option.bind_some,hzv]
      exact Ev.pos trivial (Ev.now _)
    | false =>
      obtain ⟨b,e,i⟩:=loop (v.sum.toNat + 1) v (by omega) hv
      refine ⟨b,?_,i⟩
      refine Ev.succ ?_
      simp only [count_made.f,zero_f,Option.bind_some,hzv]
      exact Ev.neg (by simp) (Ev.neg (by simp <;> omega) e)
def InL (d:Nat) (b:List Int) (ps:List (List Int)) (v:List Int):Prop:=∃ w,Comb d ps w∧v=addV b w
def InS (d:Nat) (set:List S60) (v:List Int):Prop:=∃ l,l ∈ set∧InL d l.f0 l.f1 v
def okL (d:Nat) (l:S60):Prop:=okV d 1000000 l.f0∧okP d l.f1∧l.f1.length ≤ 1000000
theorem inL_sub {d:Nat} {b:List Int} {ps:List (List Int)} (hb:okV d 1000000 b) (hp:okP d ps) {v:List Int} (hv:v.length=d):InL d b ps v ↔ nnV (subV v b)∧Comb d ps (subV v b):=by
  constructor
  · rintro ⟨w,hw,rfl⟩
    have hl:=hw.len hp.okD
    rw [addV_comm,addV_sub (hl.trans hb.1.symm)]
    exact ⟨hw.nn hp.okD,hw⟩
  · rintro ⟨_,h⟩
    exact ⟨_,h,by rw [addV_comm,subV_add (hv.trans hb.1.symm)]⟩
theorem in_ev {d:Nat} (hd:d < 1000000) {l:S60} (hl:okL d l) {v:List Int} (hv:okV d 60 v):∃ b,Ev (fun k=>count_in.f k l.f0 l.f1 v) b∧(b=true ↔ InL d l.f0 l.f1 v):=by
  obtain ⟨hb,hp,hn⟩:=hl
  have hle:=less_ok (m:=0) (hv.1.trans hb.1.symm) hv.2 hb.2 (by rw [hv.1];exact hd)
  have hi:=inL_sub hb hp hv.1
  have start:∀ b,Ev (fun k=>if decide (nnV (subV v l.f0))=true then count_made.f k (subV v l.f0) (l.f1.filter fun x=>!zeroV x) else some false) b → Ev (fun k=>count_in.f k l.f0 l.f1 v) b:=fun b h=>by
    unfold count_in.f
    exact Ev.pos (by omega) (Ev.bind hle h)
  by_cases hnn:nnV (subV v l.f0)
  · have hz:∀ p,p ∈ (l.f1.filter fun x=>!zeroV x) → zeroV p=false:=fun p h=>by simpa using (List.mem_filter.1 h).2
    obtain ⟨b,e,i⟩:=made_ev d hd (l.f1.filter fun x=>!zeroV x) (fun p h=>hp p (List.mem_filter.1 h).1) hz _ (sub60 hv hb hnn)
    refine ⟨b,start b (Ev.pos (decide_eq_true hnn) e),?_⟩
    rw [i,hi,comb_filter hp.okD (fun x=>!zeroV x) (fun p h hf=>eq_zeroN (hp p h).1 ((zeroV_iff p).1 (by simpa using hf)))]
    exact ⟨fun h=>⟨hnn,h⟩,fun h=>h.2⟩
  · exact ⟨false,start false (Ev.neg (by simpa using hnn) (Ev.now _)),⟨fun h=>(by cases h),fun h=>absurd (hi.1 h).1 hnn⟩⟩
theorem has_go {d:Nat} (hd:d < 1000000) {v:List Int} (hv:okV d 60 v):∀ set:List S60,(∀ l,l ∈ set → okL d l) → ∃ b,Ev (fun k=>count_has.g k v set) b∧(b=true ↔ InS d set v)
  | [],_=>⟨false,Ev.now _,⟨fun h=>(by cases h),fun ⟨l,h,_⟩=>by simp at h⟩⟩
  | l :: set,h=>by
    obtain ⟨b,e,i⟩:=in_ev hd (h l (by simp)) hv
    obtain ⟨c,f,j⟩:=has_go hd hv set (fun x hx=>h x (by simp [hx]))
    refine ⟨b || c,Ev.bind e (Ev.bind f (Ev.now _)),?_⟩
    rw [Bool.or_eq_true,i,j]
    constructor
    · rintro (h|⟨x,hx,h⟩)
      · exact ⟨l,by simp,h⟩
      · exact ⟨x,by simp [hx],h⟩
    · rintro ⟨x,hx,h2⟩
      rcases List.mem_cons.1 hx with rfl|hx
      · exact .inl h2
      · exact .inr ⟨x,hx,h2⟩
theorem has_ev {d:Nat} (hd:d < 1000000) {v:List Int} (hv:okV d 60 v) {set:List S60} (h:∀ l,l ∈ set → okL d l):∃ b,Ev (fun k=>count_has.f k set v) b∧(b=true ↔ InS d set v):=has_go hd hv set h
end Go.Proofs.Ytkonljiembcdlaa.Pure
/- Which error semilinear sets have, by the program and by the reference, in plain Lean. -/
set_option linter.unusedVariables false
set_option linter.unusedSimpArgs false
namespace Go.Proofs.Ytkonljiembcdlaa.Pure
open Go.RowKit Go.Proofs.MyWords Go.Proofs.YtkonljiembcdlaaW.PrintWords Go.Proofs.YtkonljiembcdlaaW.PrintLast Go.Proofs.YtkonljiembcdlaaW.PrintMore Go.Proofs.Ytkonljiembcdlaa.PC Go.Proofs.Ytkonljiembcdlaa.Sem
def farV (v:List Int):Bool:=v.any fun x=>decide (x < 0) || decide (20 < x)
def oddV (d:Int) (v:List Int):Bool:=(v.length:Int) != d
def longS (s:List S60):Bool:=s.any (fun l=>decide ((l.f1.length:Int) > 4)) || decide ((s.length:Int) > 8)
def wideS (s:List S60):Bool:=s.any fun l=>farV l.f0 || l.f1.any farV
def oddS (d:Int) (s:List S60):Bool:=s.any fun l=>oddV d l.f0 || l.f1.any (oddV d)
def badD (d:Int):Bool:=decide (d < 1) || decide (d > 3)
def chk (d:Int) (ss:List (List S60)):Int:=if ss.any longS=true then 3 else if (badD d || ss.any wideS)=true then 1 else if ss.any (oddS d)=true then 2 else 0
def short {α:Type} (l:List α):Prop:=l.length < 1000000000
theorem short.tail {α:Type} {x:α} {l:List α} (h:short (x :: l)):short l:=by unfold short at *;simp at h;omega
section
variable (d:Int) (lg:Bool) (ss:List (List S60)) (n2 i2:Int) (set:List S60) (n1 i1:Int)
theorem check_l2:∀ (t pre:List (List Int)) (fr od:Bool) (r:Int),short (pre ++ t) → Ev (fun k=>count_check.l1 k d lg (fr || t.any farV) (od || t.any (oddV d)) ss n2 i2 set n1 (wrap64 (i1 + 1))) r →
    Ev (fun k=>count_check.l2 k d lg fr od ss n2 i2 set n1 i1 (pre ++ t) ((pre ++ t).length:Int) (pre.length:Int)) r
  | [],pre,fr,od,r,hs,h=>by
    refine Ev.succ ?_
    simp only [count_check.l2]
    refine Ev.neg (by simp) ?_
    simpa using h
  | p :: t,pre,fr,od,r,hs,h=>by
    have ws:wrap64 ((pre.length:Int) + 1)=((pre.length + 1:Nat):Int):=wsucc (by unfold short at hs;simp at hs;omega)
    have ih:∀ fr od,Ev (fun k=>count_check.l1 k d lg (fr || t.any farV) (od || t.any (oddV d)) ss n2 i2 set n1 (wrap64 (i1 + 1))) r → Ev (fun k=>count_check.l2 k d lg fr od ss n2 i2 set n1 i1 (pre ++ p :: t) ((pre ++ p :: t).length:Int) ((pre.length + 1:Nat):Int)) r:=fun fr od h2=>by
      have:=check_l2 t (pre ++ [p]) fr od r (by rw [← app_snoc];exact hs) h2
      rw [← app_snoc,← len_snoc] at this
      exact this
    rw [List.any_cons,List.any_cons,← Bool.or_assoc,← Bool.or_assoc] at h
    refine Ev.succ ?_
    simp only [count_check.l2,rdL1_app,ws]
    refine Ev.pos (lt_app _ _ _) (Ev.pos (by omega) (Ev.pos (lt_app _ _ _) ?_))
    have inner:∀ f2,f2=(fr || farV p) → Ev (fun k=>if od=true then count_check.l2 k d lg f2 true ss n2 i2 set n1 i1 (pre ++ p :: t) ((pre ++ p :: t).length:Int) ((pre.length + 1:Nat):Int) else count_check.l2 k d lg f2 ((p.length:Int) != d) ss n2 i2 set n1 i1 (pre ++ p :: t) ((pre ++ p :: t).length:Int) ((pre.length + 1:Nat):Int)) r:=fun f2 e=>by
      subst e
      cases od with
      | true=>exact Ev.pos rfl (ih _ _ h)
      | false=>exact Ev.neg (by simp) (ih _ _ h)
    cases fr with
    | true=>exact Ev.pos rfl (inner _ rfl)
    | false =>
      refine Ev.neg (by simp) ?_
      refine Ev.bindc (x:=farV p) rfl ?_
      exact inner _ rfl
end
theorem check_l1 (d:Int) (ss:List (List S60)) (n2 i2:Int):∀ (t pre:List S60) (lg fr od:Bool) (r:Int),short (pre ++ t) → (∀ l,l ∈ t → short l.f1) →
    Ev (fun k=>count_check.l0 k d (lg || t.any (fun l=>decide ((l.f1.length:Int) > 4))) (fr || wideS t) (od || oddS d t) ss n2 (wrap64 (i2 + 1))) r →
    Ev (fun k=>count_check.l1 k d lg fr od ss n2 i2 (pre ++ t) ((pre ++ t).length:Int) (pre.length:Int)) r
  | [],pre,lg,fr,od,r,hs,hp,h=>by
    refine Ev.succ ?_
    simp only [count_check.l1]
    refine Ev.neg (by simp) ?_
    simpa [wideS,oddS] using h
  | l :: t,pre,lg,fr,od,r,hs,hp,h=>by
    have ws:wrap64 ((pre.length:Int) + 1)=((pre.length + 1:Nat):Int):=wsucc (by unfold short at hs;simp at hs;omega)
    have ih:∀ lg fr od,Ev (fun k=>count_check.l0 k d (lg || t.any (fun l=>decide ((l.f1.length:Int) > 4))) (fr || wideS t) (od || oddS d t) ss n2 (wrap64 (i2 + 1))) r → Ev (fun k=>count_check.l1 k d lg fr od ss n2 i2 (pre ++ l :: t) ((pre ++ l :: t).length:Int) ((pre.length + 1:Nat):Int)) r:=fun lg fr od h2=>by
      have:=check_l1 d ss n2 i2 t (pre ++ [l]) lg fr od r (by rw [← app_snoc];exact hs) (fun x hx=>hp x (by simp [hx])) h2
      rw [← app_snoc,← len_snoc] at this
      exact this
    have e1:wideS (l :: t)=(farV l.f0 || l.f1.any farV || wideS t):=by unfold wideS;rw [List.any_cons]
    have e2:oddS d (l :: t)=(oddV d l.f0 || l.f1.any (oddV d) || oddS d t):=by unfold oddS;rw [List.any_cons]
    rw [List.any_cons,e1,e2,← Bool.or_assoc,← Bool.or_assoc,← Bool.or_assoc,← Bool.or_assoc,← Bool.or_assoc] at h
    have s6:∀ lg fr od,Ev (fun k=>count_check.l0 k d (lg || t.any (fun l=>decide ((l.f1.length:Int) > 4))) (fr || l.f1.any farV || wideS t) (od || l.f1.any (oddV d) || oddS d t) ss n2 (wrap64 (i2 + 1))) r → Ev (fun k=>count_check.j6 k d lg fr od ss n2 i2 (pre ++ l :: t) ((pre ++ l :: t).length:Int) (pre.length:Int) l.f0 l.f1) r:=fun lg fr od h2=>by
      refine Ev.succ ?_
      simp only [count_check.j6]
      refine check_l2 d lg ss n2 i2 _ _ _ l.f1 [] fr od r (hp l (by simp)) ?_
      rw [ws]
      exact ih _ _ _ h2
    have s5:∀ lg fr od,Ev (fun k=>count_check.l0 k d (lg || t.any (fun l=>decide ((l.f1.length:Int) > 4))) (fr || l.f1.any farV || wideS t) (od || oddV d l.f0 || l.f1.any (oddV d) || oddS d t) ss n2 (wrap64 (i2 + 1))) r → Ev (fun k=>count_check.j5 k d lg fr od ss n2 i2 (pre ++ l :: t) ((pre ++ l :: t).length:Int) (pre.length:Int) l.f0 l.f1) r:=fun lg fr od h2=>by
      refine Ev.succ ?_
      simp only [count_check.j5]
      cases od with
      | true=>exact Ev.pos rfl (s6 _ _ _ (by simpa using h2))
      | false=>exact Ev.neg (by simp) (s6 _ _ _ (by simpa [oddV] using h2))
    have s4:∀ lg fr od,Ev (fun k=>count_check.l0 k d (lg || t.any (fun l=>decide ((l.f1.length:Int) > 4))) (fr || farV l.f0 || l.f1.any farV || wideS t) (od || oddV d l.f0 || l.f1.any (oddV d) || oddS d t) ss n2 (wrap64 (i2 + 1))) r → Ev (fun k=>count_check.j4 k d lg fr od ss n2 i2 (pre ++ l :: t) ((pre ++ l :: t).length:Int) (pre.length:Int) l.f0 l.f1) r:=fun lg fr od h2=>by
      refine Ev.succ ?_
      simp only [count_check.j4]
      cases fr with
      | true=>exact Ev.pos rfl (s5 _ _ _ (by simpa using h2))
      | false =>
        refine Ev.neg (by simp) ?_
        refine Ev.bindc (x:=farV l.f0) rfl ?_
        exact s5 _ _ _ (by simpa using h2)
    refine Ev.succ ?_
    simp only [count_check.l1,rdT60_app]
    refine Ev.pos (lt_app _ _ _) (Ev.pos (by omega) (Ev.pos (lt_app _ _ _) ?_))
    cases lg with
    | true=>exact Ev.pos rfl (s4 _ _ _ (by simpa using h))
    | false=>exact Ev.neg (by simp) (s4 _ _ _ (by simpa using h))
def tell (lg fr od:Bool):Int:=if lg=true then 3 else if fr=true then 1 else if od=true then 2 else 0
theorem check_l0 (d:Int):∀ (t pre:List (List S60)) (lg fr od:Bool),short (pre ++ t) → (∀ s,s ∈ t → short s∧∀ l,l ∈ s → short l.f1) →
    Ev (fun k=>count_check.l0 k d lg fr od (pre ++ t) ((pre ++ t).length:Int) (pre.length:Int)) (tell (lg || t.any longS) (fr || t.any wideS) (od || t.any (oddS d)))
  | [],pre,lg,fr,od,hs,hp=>by
    refine Ev.succ ?_
    simp only [count_check.l0]
    refine Ev.neg (by simp) ?_
    unfold tell
    cases lg
    · refine Ev.neg (by simp) ?_
      cases fr
      · refine Ev.neg (by simp) ?_
        cases od
        · exact Ev.neg (by simp) (Ev.now _)
        · exact Ev.pos rfl (Ev.now _)
      · exact Ev.pos rfl (Ev.now _)
    · exact Ev.pos rfl (Ev.now _)
  | s :: t,pre,lg,fr,od,hs,hp=>by
    have ws:wrap64 ((pre.length:Int) + 1)=((pre.length + 1:Nat):Int):=wsucc (by unfold short at hs;simp at hs;omega)
    have ih:∀ lg fr od,Ev (fun k=>count_check.l0 k d lg fr od (pre ++ s :: t) ((pre ++ s :: t).length:Int) ((pre.length + 1:Nat):Int)) (tell (lg || t.any longS) (fr || t.any wideS) (od || t.any (oddS d))):=fun lg fr od=>by
      have:=check_l0 d t (pre ++ [s]) lg fr od (by rw [← app_snoc];exact hs) (fun x hx=>hp x (by simp [hx]))
      rw [← app_snoc,← len_snoc] at this
      exact this
    have j2:∀ lg,Ev (fun k=>count_check.j2 k d lg fr od s (pre ++ s :: t) ((pre ++ s :: t).length:Int) (pre.length:Int)) (tell ((lg || s.any (fun l=>decide ((l.f1.length:Int) > 4))) || t.any longS) (fr || wideS s || t.any wideS) (od || oddS d s || t.any (oddS d))):=fun lg=>by
      refine Ev.succ ?_
      simp only [count_check.j2]
      refine check_l1 d _ _ _ s [] lg fr od _ (hp s (by simp)).1 (hp s (by simp)).2 ?_
      rw [ws]
      exact ih _ _ _
    refine Ev.succ ?_
    simp only [count_check.l0,rdL4_app]
    refine Ev.pos (lt_app _ _ _) (Ev.pos (by omega) (Ev.pos (lt_app _ _ _) ?_))
    rw [List.any_cons,List.any_cons,List.any_cons,← Bool.or_assoc,← Bool.or_assoc,← Bool.or_assoc]
    cases lg with
    | true =>
      refine Ev.pos rfl ?_
      simpa using j2 true
    | false =>
      refine Ev.neg (by simp) ?_
      have:=j2 (decide ((s.length:Int) > 8))
      rw [Bool.or_comm (decide ((s.length:Int) > 8))] at this
      rw [Bool.false_or]
      exact this
theorem check_ev (d:Int) (ss:List (List S60)) (hs:short ss) (hp:∀ s,s ∈ ss → short s∧∀ l,l ∈ s → short l.f1):Ev (fun k=>count_check.f k d ss) (chk d ss):=by
  have go:∀ fr,Ev (fun k=>count_check.j0 k d ss false fr false) (tell (ss.any longS) (fr || ss.any wideS) (ss.any (oddS d))):=fun fr=>by
    refine Ev.succ ?_
    simp only [count_check.j0]
    have:=check_l0 d ss [] false fr false hs hp
    simpa using this
  unfold count_check.f
  by_cases h:d < 1
  · have e:badD d=true:=by unfold badD;simp [h]
    refine Ev.pos h ?_
    have:=go true
    unfold chk
    rw [e]
    exact this
  · have e:badD d=decide (d > 3):=by unfold badD;simp [h]
    refine Ev.neg h ?_
    have:=go (decide (d > 3))
    unfold chk
    rw [e]
    exact this
def shortL (l:S60):Prop:=short l.f0∧short (l.f0 :: l.f1)∧∀ p,p ∈ l.f1 → short p
def shortS (s:List S60):Prop:=short s∧∀ l,l ∈ s → shortL l
def okSet (d:Nat) (s:List S60):Prop:=s.length ≤ 8∧∀ l,l ∈ s → okV d 20 l.f0∧l.f1.length ≤ 4∧∀ p,p ∈ l.f1 → okV d 20 p
theorem farV_iff (v:List Int):farV v=false ↔ inB 20 v:=by
  have:=outside_iff v 20
  unfold farV
  rw [← Bool.not_eq_true,this]
  exact ⟨fun h=>Classical.byContradiction h,fun h h2=>h2 h⟩
theorem oddV_iff (d:Int) (v:List Int):oddV d v=false ↔ (v.length:Int)=d:=by unfold oddV;simp
theorem chk_ok {d:Int} {ss:List (List S60)}:chk d ss=0 ↔ (1 ≤ d∧d ≤ 3)∧∀ s,s ∈ ss → okSet d.toNat s:=by
  have hl:∀ s,longS s=false ↔ s.length ≤ 8∧∀ l,l ∈ s → l.f1.length ≤ 4:=fun s=>by
    unfold longS
    rw [Bool.or_eq_false_iff,← Bool.not_eq_true,List.any_eq_true,decide_eq_false_iff_not]
    constructor
    · rintro ⟨h1,h2⟩
      exact ⟨by omega,fun l hl=>Nat.le_of_not_lt (fun h=>h1 ⟨l,hl,decide_eq_true (by omega)⟩)⟩
    · rintro ⟨h1,h2⟩
      exact ⟨fun ⟨l,hl,h⟩=>by have:=h2 l hl;have:=of_decide_eq_true h;omega,by omega⟩
  have hw:∀ s,wideS s=false ↔ ∀ l,l ∈ s → inB 20 l.f0∧∀ p,p ∈ l.f1 → inB 20 p:=fun s=>by
    unfold wideS
    rw [← Bool.not_eq_true,List.any_eq_true]
    constructor
    · intro h l hl
      have:(farV l.f0 || l.f1.any farV)=false:=by
        rw [← Bool.not_eq_true];exact fun h2=>h ⟨l,hl,h2⟩
      rw [Bool.or_eq_false_iff,← Bool.not_eq_true (l.f1.any farV),List.any_eq_true] at this
      exact ⟨(farV_iff _).1 this.1,fun p hp=>(farV_iff _).1 (by rw [← Bool.not_eq_true];exact fun h2=>this.2 ⟨p,hp,h2⟩)⟩
    · rintro h ⟨l,hl,h2⟩
      rcases (Bool.or_eq_true _ _).mp h2 with h2|h2
      · rw [(farV_iff _).2 (h l hl).1] at h2;cases h2
      · obtain ⟨p,hp,h2⟩:=List.any_eq_true.1 h2
        rw [(farV_iff _).2 ((h l hl).2 p hp)] at h2;cases h2
  have ho:∀ s,oddS d s=false ↔ ∀ l,l ∈ s → (l.f0.length:Int)=d∧∀ p,p ∈ l.f1 → (p.length:Int)=d:=fun s=>by
    unfold oddS
    rw [← Bool.not_eq_true,List.any_eq_true]
    constructor
    · intro h l hl
      have:(oddV d l.f0 || l.f1.any (oddV d))=false:=by
        rw [← Bool.not_eq_true];exact fun h2=>h ⟨l,hl,h2⟩
      rw [Bool.or_eq_false_iff,← Bool.not_eq_true (l.f1.any (oddV d)),List.any_eq_true] at this
      exact ⟨(oddV_iff _ _).1 this.1,fun p hp=>(oddV_iff _ _).1 (by rw [← Bool.not_eq_true];exact fun h2=>this.2 ⟨p,hp,h2⟩)⟩
    · rintro h ⟨l,hl,h2⟩
      rcases (Bool.or_eq_true _ _).mp h2 with h2|h2
      · rw [(oddV_iff _ _).2 (h l hl).1] at h2;cases h2
      · obtain ⟨p,hp,h2⟩:=List.any_eq_true.1 h2
        rw [(oddV_iff _ _).2 ((h l hl).2 p hp)] at h2;cases h2
  have anyF:∀ (f:List S60 → Bool),ss.any f=false ↔ ∀ s,s ∈ ss → f s=false:=fun f=>by
    rw [← Bool.not_eq_true,List.any_eq_true]
    exact ⟨fun h s hs=>by rw [← Bool.not_eq_true];exact fun h2=>h ⟨s,hs,h2⟩,fun h ⟨s,hs,h2⟩=>by rw [h s hs] at h2;cases h2⟩
  have hb:badD d=false ↔ 1 ≤ d∧d ≤ 3:=by unfold badD;rw [Bool.or_eq_false_iff,decide_eq_false_iff_not,decide_eq_false_iff_not];omega
  have h0:chk d ss=0 ↔ ss.any longS=false∧badD d=false∧ss.any wideS=false∧ss.any (oddS d)=false:=by
    unfold chk
    cases ss.any longS <;> cases badD d <;> cases ss.any wideS <;> cases ss.any (oddS d) <;> simp
  rw [h0,anyF,anyF,anyF,hb]
  constructor
  · rintro ⟨h1,h2,h3,h4⟩
    refine ⟨h2,fun s hs=>⟨((hl s).1 (h1 s hs)).1,fun l hls=>?_⟩⟩
    have q3:=(hw s).1 (h3 s hs) l hls
    have q4:=(ho s).1 (h4 s hs) l hls
    exact ⟨⟨by omega,q3.1⟩,((hl s).1 (h1 s hs)).2 l hls,fun p hp=>⟨by have:=q4.2 p hp;omega,q3.2 p hp⟩⟩
  · rintro ⟨h1,h2⟩
    refine ⟨fun s hs=>(hl s).2 ⟨(h2 s hs).1,fun l hls=>((h2 s hs).2 l hls).2.1⟩,h1,fun s hs=>(hw s).2 (fun l hls=>?_),fun s hs=>(ho s).2 (fun l hls=>?_)⟩
    · have:=(h2 s hs).2 l hls
      exact ⟨this.1.2,fun p hp=>(this.2.2 p hp).2⟩
    · have:=(h2 s hs).2 l hls
      exact ⟨by have:=this.1.1;omega,fun p hp=>by have:=(this.2.2 p hp).1;omega⟩
theorem okSet.shorts {d:Nat} (hd:d ≤ 3) {s:List S60} (h:okSet d s):shortS s:=by
  refine ⟨by have:=h.1;unfold short;omega,fun l hl=>?_⟩
  have:=h.2 l hl
  exact ⟨by have:=this.1.1;unfold short;omega,by have:=this.2.1;unfold short;simp;omega,fun p hp=>by have:=(this.2.2 p hp).1;unfold short;omega⟩
theorem okSet.okL {d:Nat} {s:List S60} (h:okSet d s):∀ l,l ∈ s → okL d l:=fun l hl=>by
  have:=h.2 l hl
  exact ⟨this.1.mono (by decide),fun p hp=>(this.2.2 p hp).mono (by decide),by omega⟩
end Go.Proofs.Ytkonljiembcdlaa.Pure
/- The statements' measure of a long search has a value, in plain Lean. -/
set_option linter.unusedVariables false
set_option linter.unusedSimpArgs false
namespace Go.Proofs.Ytkonljiembcdlaa.Pure
open Go.RowKit Go.Proofs.MyWords Go.Proofs.YtkonljiembcdlaaW.PrintWords Go.Proofs.YtkonljiembcdlaaW.PrintLast Go.Proofs.YtkonljiembcdlaaW.PrintMore Go.Proofs.Ytkonljiembcdlaa.PC Go.Proofs.Ytkonljiembcdlaa.Sem
theorem Has_ok {d:Nat} (h1:1 ≤ d) (hd:d ≤ 3) {set:List S60} (h:okSet d set) {v:List Int} (hv:okV d 60 v):∃ b,Ev (fun k=>count_Has.f k (d:Int) set v) (b,0)∧(b=true ↔ InS d set v):=by
  obtain ⟨b,hb,ib⟩:=has_ev (by omega) hv h.okL
  refine ⟨b,?_,ib⟩
  have hs:=h.shorts hd
  have hc:Ev (fun k=>count_check.f k (d:Int) [set]) 0:=by
    have:=check_ev (d:Int) [set] (by unfold short;simp) (fun t ht=>by
      obtain rfl:t=set:=by simpa using ht
      exact ⟨hs.1,fun l hl=>(hs.2 l hl).2.1.tail⟩)
    rw [chk_ok.2 ⟨by omega,fun t ht=>by
      obtain rfl:t=set:=by simpa using ht
      exact h⟩] at this
    exact this
  have ho:count_outside.f v 60=some false:=by
    unfold count_outside.f
    have:¬ (v.any fun x=>decide (x < 0) || decide (60 < x))=true:=by rw [outside_iff];exact fun h2=>h2 hv.2
    rw [Bool.not_eq_true] at this
    rw [this]
  unfold count_Has.f
  refine Ev.bind hc (Ev.neg (by decide) (Ev.neg (by decide) (Ev.bindc ho ?_)))
  refine Ev.succ ?_
  simp only [count_Has.j0]
  refine Ev.neg (by simp) (Ev.pos trivial (Ev.pos (by rw [hv.1]) (Ev.bind hb (Ev.now _))))
end Go.Proofs.Ytkonljiembcdlaa.Pure
/- A vector's total, as the program takes it, in plain Lean. -/
set_option linter.unusedVariables false
set_option linter.unusedSimpArgs false
namespace Go.Proofs.Ytkonljiembcdlaa.Pure
open Go.RowKit Go.Proofs.MyWords Go.Proofs.YtkonljiembcdlaaW.PrintWords Go.Proofs.YtkonljiembcdlaaW.PrintLast Go.Proofs.YtkonljiembcdlaaW.PrintMore Go.Proofs.Ytkonljiembcdlaa.PC Go.Proofs.Ytkonljiembcdlaa.Sem
end Go.Proofs.Ytkonljiembcdlaa.Pure
/- count.Least and count.Count in plain Lean. -/
set_option linter.unusedVariables false
set_option linter.unusedSimpArgs false
namespace Go.Proofs.Ytkonljiembcdlaa.Pure
open Go.RowKit Go.Proofs.MyWords Go.Proofs.YtkonljiembcdlaaW.PrintWords Go.Proofs.YtkonljiembcdlaaW.PrintLast Go.Proofs.YtkonljiembcdlaaW.PrintMore Go.Proofs.Ytkonljiembcdlaa.PC Go.Proofs.Ytkonljiembcdlaa.Sem
section
variable {d:Nat} (h1:1 ≤ d) (hd:d ≤ 3) {x:List S60} (hx:okSet d x)
include h1 hd hx
theorem check_ok:Ev (fun k=>count_check.f k (d:Int) [x]) 0:=by
  have hs:=hx.shorts hd
  have:=check_ev (d:Int) [x] (by unfold short;simp) (fun t ht=>by
    obtain rfl:t=x:=by simpa using ht
    exact ⟨hs.1,fun l hl=>(hs.2 l hl).2.1.tail⟩)
  rw [chk_ok.2 ⟨by omega,fun t ht=>by
    obtain rfl:t=x:=by simpa using ht
    exact hx⟩] at this
  exact this
end
theorem mem_vecs:∀ (d s:Nat) (pre v:List Int),v ∈ vecs d s pre ↔ ∃ u,v=pre ++ u∧u.length=d + 1∧nnV u∧u.sum=(s:Int)
  | 0,s,pre,v=>by
    simp only [vecs,List.mem_singleton]
    constructor
    · rintro rfl
      exact ⟨[(s:Int)],rfl,rfl,fun z hz=>by simp at hz;omega,by simp⟩
    · rintro ⟨u,rfl,h1,h2,h3⟩
      match u,h1 with
      | [z],_=>simp at h3;rw [h3]
  | d + 1,s,pre,v=>by
    simp only [vecs,List.mem_flatMap,List.mem_range]
    constructor
    · rintro ⟨z,hz,hv⟩
      obtain ⟨u,rfl,q1,q2,q3⟩:=(mem_vecs d (s - z) (pre ++ [(z:Int)]) v).1 hv
      refine ⟨(z:Int) :: u,by simp,by simp [q1],fun y hy=>?_,by rw [List.sum_cons,q3];omega⟩
      rcases List.mem_cons.1 hy with rfl|hy
      · omega
      · exact q2 y hy
    · rintro ⟨u,rfl,q1,q2,q3⟩
      match u,q1 with
      | z :: u,q1 =>
        have z0:=q2 z (by simp)
        have u0:=sum_nn (v:=u) (fun y hy=>q2 y (by simp [hy]))
        rw [List.sum_cons] at q3
        refine ⟨z.toNat,by omega,(mem_vecs d (s - z.toNat) _ _).2 ⟨u,?_,by simpa using q1,fun y hy=>q2 y (by simp [hy]),by omega⟩⟩
        rw [Int.toNat_of_nonneg z0,List.append_assoc];rfl
open Classical in
noncomputable def cntV (d:Nat) (set:List S60) (l:List (List Int)):Int:=((l.filter fun v=>decide (InS d set v)).length:Int)
open Classical in
theorem countGo_ev {d:Nat} (hd:d ≤ 3) {set:List S60} (hs:okSet d set):∀ l:List (List Int),(∀ v,v ∈ l → okV d 60 v) → Ev (fun k=>count_Count.go k set l) (cntV d set l)
  | [],_=>Ev.now _
  | v :: r,h=>by
    obtain ⟨b,e,i⟩:=has_ev (by omega) (h v (by simp)) hs.okL
    simp only [count_Count.go]
    refine Ev.bind e (Ev.bind (countGo_ev hd hs r (fun w hw=>h w (by simp [hw]))) ?_)
    have:cntV d set (v :: r)=cntV d set r + if b=true then 1 else 0:=by
      unfold cntV
      by_cases hb:InS d set v
      · rw [i.2 hb,List.filter_cons_of_pos (by simpa using hb)];simp
      · have:b=false:=by cases b;rfl;exact absurd (i.1 rfl) hb
        rw [this,List.filter_cons_of_neg (by simpa using hb)];simp
    rw [this]
    exact Ev.now _
theorem Count_ev {d:Nat} (h1:1 ≤ d) (hd:d ≤ 3) {set:List S60} (hs:okSet d set) {n:Nat} (hn:n ≤ 20):Ev (fun k=>count_Count.f k (d:Int) set (n:Int)) (wrap64 (cntV d set (vecs (d - 1) n [])),0):=by
  have hb:Ev (fun k=>count_bounded.f k (n:Int) (d:Int) [set]) 0:=by
    unfold count_bounded.f
    exact Ev.bind (check_ok h1 hd hs) (Ev.neg (by decide) (Ev.neg (by omega) (Ev.neg (by omega) (Ev.now _))))
  unfold count_Count.f
  rw [show ((d:Int) - 1).toNat=d - 1 by omega,Int.toNat_natCast]
  refine Ev.bind hb (Ev.pos rfl (Ev.pos ⟨by omega,by omega,by omega,by omega⟩ (Ev.bind (countGo_ev hd hs _ fun v hv=>?_) (Ev.now _))))
  obtain ⟨u,rfl,q1,q2,q3⟩:=(mem_vecs _ _ _ _).1 hv
  exact ⟨by omega,fun z hz=>⟨q2 z hz,by have:=mem_le_sum q2 z hz;omega⟩⟩
end Go.Proofs.Ytkonljiembcdlaa.Pure
namespace Go.Proofs.Ytkonljiembcdlaa.PC
open Go.Proofs.MyWords Go.RowKit Go.Proofs.YtkonljiembcdlaaW.PrintWords Go.Proofs.YtkonljiembcdlaaW.PrintLast Go.Proofs.YtkonljiembcdlaaW.PrintMore
attribute [local go_sem] max2_int min2_int max_two min_two max_three min_three max_four min_four   -- for this text's walks alone
set_option linter.unusedVariables false
set_option linter.unusedSimpArgs false
attribute [local go_sem] eqGuard_slices eqlnil23 neqnil23 eqlnil58 neqnil58
end Go.Proofs.Ytkonljiembcdlaa.PC
namespace Go.Proofs.Ytkonljiembcdlaa.PC
open Go.Proofs.MyWords Go.RowKit Go.Proofs.YtkonljiembcdlaaW.PrintWords Go.Proofs.YtkonljiembcdlaaW.PrintLast Go.Proofs.YtkonljiembcdlaaW.PrintMore
attribute [local go_sem] max2_int min2_int max_two min_two max_three min_three max_four min_four   -- for this text's walks alone
set_option linter.unusedVariables false
set_option linter.unusedSimpArgs false
attribute [local go_sem] eqGuard_slices eqlnil23 neqnil23 eqlnil58 neqnil58
end Go.Proofs.Ytkonljiembcdlaa.PC
namespace Go.Proofs.Ytkonljiembcdlaa.PC
open Go.Proofs.MyWords Go.RowKit Go.Proofs.YtkonljiembcdlaaW.PrintWords Go.Proofs.YtkonljiembcdlaaW.PrintLast Go.Proofs.YtkonljiembcdlaaW.PrintMore
attribute [local go_sem] max2_int min2_int max_two min_two max_three min_three max_four min_four   -- for this text's walks alone
set_option linter.unusedVariables false
set_option linter.unusedSimpArgs false
attribute [local go_sem] eqGuard_slices eqlnil23 neqnil23 eqlnil58 neqnil58
end Go.Proofs.Ytkonljiembcdlaa.PC
/- What the statements cut off, in plain Lean. -/
set_option linter.unusedVariables false
set_option linter.unusedSimpArgs false
namespace Go.Proofs.Ytkonljiembcdlaa.Pure
open Go.RowKit Go.Proofs.MyWords Go.Proofs.YtkonljiembcdlaaW.PrintWords Go.Proofs.YtkonljiembcdlaaW.PrintLast Go.Proofs.YtkonljiembcdlaaW.PrintMore Go.Proofs.Ytkonljiembcdlaa.PC Go.Proofs.Ytkonljiembcdlaa.Sem
end Go.Proofs.Ytkonljiembcdlaa.Pure
/- What the statements cut off of semilinear sets, in plain Lean. -/
set_option linter.unusedVariables false
set_option linter.unusedSimpArgs false
namespace Go.Proofs.Ytkonljiembcdlaa.Pure
open Go.RowKit Go.Proofs.MyWords Go.Proofs.YtkonljiembcdlaaW.PrintWords Go.Proofs.YtkonljiembcdlaaW.PrintLast Go.Proofs.YtkonljiembcdlaaW.PrintMore Go.Proofs.Ytkonljiembcdlaa.PC Go.Proofs.Ytkonljiembcdlaa.Sem
end Go.Proofs.Ytkonljiembcdlaa.Pure
/- All vectors of a sum, as the reference lists them, in plain Lean. -/
set_option linter.unusedVariables false
set_option linter.unusedSimpArgs false
namespace Go.Proofs.Ytkonljiembcdlaa.Pure
open Go.RowKit Go.Proofs.MyWords Go.Proofs.YtkonljiembcdlaaW.PrintWords Go.Proofs.YtkonljiembcdlaaW.PrintLast Go.Proofs.YtkonljiembcdlaaW.PrintMore Go.Proofs.Ytkonljiembcdlaa.PC Go.Proofs.Ytkonljiembcdlaa.Sem
def allL:Nat → Nat → List (List Int)
  | 0,n=>[[(n:Int)]]
  | d + 1,n=>(List.range (n + 1)).flatMap fun v=>(allL d (n - v)).map fun r=>(v:Int) :: r
theorem allL_len:∀ (d n:Nat),d ≤ 2 → n ≤ 60 → (allL d n).length ≤ 4000
  | 0,n,_,_=>by simp [allL]
  | 1,n,_,hn=>by
    have:∀ l:List Nat,(l.flatMap fun v=>(allL 0 (n - v)).map fun r=>(v:Int) :: r).length=l.length:=fun l=>by
      induction l with
      | nil=>rfl
      | cons a l ih=>rw [List.flatMap_cons,List.length_append,ih];simp [allL];omega
    rw [allL,this];simp;omega
  | 2,n,_,hn=>by
    have h1:∀ k,k ≤ 60 → (allL 1 k).length ≤ 61:=fun k hk=>by
      have:∀ l:List Nat,(l.flatMap fun v=>(allL 0 (k - v)).map fun r=>(v:Int) :: r).length=l.length:=fun l=>by
        induction l with
        | nil=>rfl
        | cons a l ih=>rw [List.flatMap_cons,List.length_append,ih];simp [allL];omega
      rw [allL,this];simp;omega
    have:∀ l:List Nat,(l.flatMap fun v=>(allL 1 (n - v)).map fun r=>(v:Int) :: r).length ≤ 61 * l.length:=fun l=>by
      induction l with
      | nil=>simp
      | cons a l ih =>
        have:=h1 (n - a) (by omega)
        rw [List.flatMap_cons,List.length_append,List.length_map,List.length_cons]
        omega
    rw [allL]
    have:=this (List.range (n + 1))
    rw [List.length_range] at this
    omega
theorem mem_allL:∀ {d n:Nat} {v:List Int},v ∈ allL d n ↔ v.length=d + 1∧nnV v∧v.sum=(n:Int)
  | 0,n,v=>by
    rw [allL,List.mem_singleton]
    constructor
    · rintro rfl
      exact ⟨rfl,fun x hx=>by obtain rfl:x=(n:Int):=(by simpa using hx);omega,by simp⟩
    · rintro ⟨h1,h2,h3⟩
      match v,h1 with
      | [x],_=>simp at h3;rw [h3]
  | d + 1,n,v=>by
    rw [allL,List.mem_flatMap]
    constructor
    · rintro ⟨a,ha,hv⟩
      obtain ⟨r,hr,rfl⟩:=List.mem_map.1 hv
      obtain ⟨h1,h2,h3⟩:=mem_allL.1 hr
      have ha:=List.mem_range.1 ha
      refine ⟨by simp [h1],fun x hx=>?_,by rw [List.sum_cons,h3];omega⟩
      rcases List.mem_cons.1 hx with rfl|hx
      · omega
      · exact h2 x hx
    · rintro ⟨h1,h2,h3⟩
      match v,h1 with
      | x :: r,h1 =>
        have hx:=h2 x (by simp)
        have hr:nnV r:=fun z hz=>h2 z (by simp [hz])
        have hs:=sum_nn hr
        rw [List.sum_cons] at h3
        refine ⟨x.toNat,List.mem_range.2 (by omega),List.mem_map.2 ⟨r,mem_allL.2 ⟨by simpa using h1,hr,by omega⟩,?_⟩⟩
        rw [Int.toNat_of_nonneg hx]
theorem all_l1 (d n:Int) (a:Int) (m:List (List Int)):∀ (t pre o:List (List Int)) (r:List (List Int)),m=pre ++ t → m.length < 1000000 → o.length + t.length < 1000000000 → (∀ p,p ∈ t → p.length < 1000) →
    Ev (fun k=>bellpullref05_All.l0 k d n (o ++ t.map (a :: ·)) (wrap64 (a + 1))) r → Ev (fun k=>bellpullref05_All.l1 k d n o a m (pre.length:Int)) r
  | [],pre,o,r,e,hl,ho,hp,h=>by
    have:m.length=pre.length:=by rw [e];simp
    refine Ev.succ ?_
    simp only [bellpullref05_All.l1]
    refine Ev.neg (by omega) ?_
    rw [List.map_nil,List.append_nil] at h
    exact h
  | p :: t,pre,o,r,e,hl,ho,hp,h=>by
    have hml:m.length=pre.length + (t.length + 1):=by rw [e];simp
    have hrd:rd_L1 m (pre.length:Int)=p:=by rw [e];exact rdL1_app _ _ _
    have pl:=hp p (by simp)
    have ih:=all_l1 d n a m t (pre ++ [p]) (o ++ [a :: p]) r (by rw [e];simp) hl (by simp at ho ⊢;omega) (fun q hq=>hp q (by simp [hq])) (by
      rw [List.append_assoc];exact h)
    rw [← len_snoc] at ih
    refine Ev.succ ?_
    simp only [bellpullref05_All.l1,hrd,wsucc (show pre.length < 4611686018427387904 by omega)]
    simp at ho
    exact Ev.pos (by omega) (Ev.bindc rfl (Ev.pos (by omega) (Ev.pos (by simp;omega) (Ev.pos (by omega) ih))))
theorem all_ev:∀ (d n:Nat),d ≤ 2 → n ≤ 60 → Ev (fun k=>bellpullref05_All.f k ((d + 1:Nat):Int) (n:Int)) (allL d n)
  | 0,n,_,_=>by
    refine Ev.succ ?_
    simp only [bellpullref05_All.f]
    exact Ev.pos (by simp) (Ev.now _)
  | d + 1,n,hd,hn=>by
    have IH:=fun m=>all_ev d m (by omega)
    have loop:∀ (j v:Nat) (o:List (List Int)),n + 1 - v=j → v ≤ n + 1 → o.length ≤ 4000 * v → Ev (fun k=>bellpullref05_All.l0 k ((d + 1 + 1:Nat):Int) (n:Int) o (v:Int)) (o ++ (List.range' v j).flatMap fun v=>(allL d (n - v)).map fun r=>(v:Int) :: r):=fun j=>by
      induction j with
      | zero =>
        intro v o hj hv ho
        refine Ev.succ ?_
        simp only [bellpullref05_All.l0]
        refine Ev.neg (by omega) ?_
        simp
        exact Ev.now _
      | succ j ih =>
        intro v o hj hv ho
        have hl:=allL_len d (n - v) (by omega) (by omega)
        have ih:=ih (v + 1) (o ++ (allL d (n - v)).map ((v:Int) :: ·)) (by omega) (by omega) (by rw [List.length_append,List.length_map];omega)
        have w1:wrap64 (((d + 1 + 1:Nat):Int) - 1)=((d + 1:Nat):Int):=by rw [wrap_id (by omega) (by omega)];omega
        have w2:wrap64 ((n:Int) - (v:Int))=((n - v:Nat):Int):=by rw [wrap_id (by omega) (by omega)];omega
        refine Ev.succ ?_
        simp only [bellpullref05_All.l0,w1,w2]
        refine Ev.pos (by omega) (Ev.bind (IH (n - v) (by omega)) ?_)
        refine all_l1 _ _ (v:Int) (allL d (n - v)) (allL d (n - v)) [] o _ rfl (by omega) (by omega) (fun p hp=>by have:=(mem_allL.1 hp).1;omega) ?_
        rw [wsucc (by omega),List.range'_succ,List.flatMap_cons,← List.append_assoc]
        exact ih
    refine Ev.succ ?_
    simp only [bellpullref05_All.f]
    refine Ev.neg (by omega) ?_
    have:=loop (n + 1) 0 [] (by omega) (by omega) (by simp)
    rw [List.nil_append,← List.range_eq_range'] at this
    exact this
end Go.Proofs.Ytkonljiembcdlaa.Pure
/- The document's examples. -/
set_option linter.unusedVariables false
namespace Go.Proofs.Ytkonljiembcdlaa.Pure
open Go.RowKit Go.Proofs.YtkonljiembcdlaaW.PrintWords Go.Proofs.Ytkonljiembcdlaa.PC
theorem lives_ev:Ev (fun k=>bellpulllaw05_lives.f k) true :=
  Ev.of (fun k=>bellpulllaw05_lives.mono k) (k:=60) (by kernel_rfl)
end Go.Proofs.Ytkonljiembcdlaa.Pure
/- count.Differ in plain Lean. -/
set_option linter.unusedVariables false
set_option linter.unusedSimpArgs false
namespace Go.Proofs.Ytkonljiembcdlaa.Pure
open Go.RowKit Go.Proofs.MyWords Go.Proofs.YtkonljiembcdlaaW.PrintWords Go.Proofs.YtkonljiembcdlaaW.PrintLast Go.Proofs.YtkonljiembcdlaaW.PrintMore Go.Proofs.Ytkonljiembcdlaa.PC Go.Proofs.Ytkonljiembcdlaa.Sem
theorem vecs_all:∀ (d s:Nat) (pre:List Int),vecs d s pre=(allL d s).map (pre ++ ·)
  | 0,s,pre=>rfl
  | d + 1,s,pre=>by
    rw [vecs,allL,List.map_flatMap]
    congr 1
    funext z
    rw [vecs_all d (s - z) (pre ++ [(z:Int)]),List.map_map]
    congr 1
    funext r
    simp
section
variable {d:Nat} {x y:List S60}
open Classical in
noncomputable def apartV (d:Nat) (x y:List S60) (v:List Int):Bool:=decide (¬ (InS d x v ↔ InS d y v))
open Classical in
theorem apartV_iff {v:List Int}:apartV d x y v=true ↔ ¬ (InS d x v ↔ InS d y v):=by unfold apartV;rw [decide_eq_true_eq]
theorem apartV_no {v:List Int}:apartV d x y v=false ↔ (InS d x v ↔ InS d y v):=by
  rw [← Bool.not_eq_true,apartV_iff,Classical.not_not]
theorem apart_bits {v:List Int} {a b:Bool} (ha:a=true ↔ InS d x v) (hb:b=true ↔ InS d y v):(apartV d x y v=true ↔ a ≠ b):=by
  rw [apartV_iff,← ha,← hb]
  cases a <;> cases b <;> simp
theorem differL_ev (hd:d ≤ 3) (hx:okSet d x) (hy:okSet d y):∀ l:List (List Int),(∀ v,v ∈ l → okV d 60 v) → Ev (fun k=>differL k x y l) (l.filter (apartV d x y))
  | [],_=>Ev.now _
  | v :: r,h=>by
    obtain ⟨a,e1,i1⟩:=has_ev (by omega) (h v (by simp)) hx.okL
    obtain ⟨b,e2,i2⟩:=has_ev (by omega) (h v (by simp)) hy.okL
    have ih:=differL_ev hd hx hy r (fun w hw=>h w (by simp [hw]))
    have hab:=apart_bits i1 i2
    simp only [differL]
    refine Ev.bind e1 (Ev.bind e2 (Ev.bind ih ?_))
    by_cases h:a=b
    · rw [if_pos h,List.filter_cons_of_neg (by rw [hab];simpa using h)]
      exact Ev.now _
    · rw [if_neg h,List.filter_cons_of_pos (hab.2 h)]
      exact Ev.now _
noncomputable def firstA (d:Nat) (x y:List S60):List Nat → Option (List Int)
  | []=>none
  | s :: r=>match (allL (d - 1) s).filter (apartV d x y) with|[]=>firstA d x y r|v :: _=>some v
theorem all60 (h1:1 ≤ d) {n:Nat} (hn:n ≤ 60) {v:List Int} (h:v ∈ allL (d - 1) n):okV d 60 v:=by
  obtain ⟨q1,q2,q3⟩:=mem_allL.1 h
  exact ⟨by omega,fun z hz=>⟨q2 z hz,by have:=mem_le_sum q2 z hz;omega⟩⟩
theorem vecs_nil (d s:Nat):vecs d s []=allL d s:=by
  rw [vecs_all]
  exact List.map_id' _
theorem differGo_ev (h1:1 ≤ d) (hd:d ≤ 3) (hx:okSet d x) (hy:okSet d y):∀ ss:List Nat,(∀ s,s ∈ ss → s ≤ 20) → Ev (fun k=>differGo k (d - 1) x y ss) (firstA d x y ss)
  | [],_=>Ev.now _
  | s :: r,h=>by
    have ih:=differGo_ev h1 hd hx hy r (fun t ht=>h t (by simp [ht]))
    have hl:=differL_ev hd hx hy (allL (d - 1) s) (fun v hv=>all60 h1 (by have:=h s (by simp);omega) hv)
    rw [← vecs_nil] at hl
    simp only [differGo,firstA]
    refine Ev.bind hl ?_
    rw [vecs_nil]
    cases (allL (d - 1) s).filter (apartV d x y) with
    | nil=>exact ih
    | cons v t=>exact Ev.now _
def asR:Option (List Int) → List Int × Int
  | none=>([],5)
  | some v=>(v,0)
theorem check2_ev (h1:1 ≤ d) (hd:d ≤ 3) (hx:okSet d x) (hy:okSet d y):Ev (fun k=>count_check.f k (d:Int) [x,y]) 0:=by
  have sx:=hx.shorts hd
  have sy:=hy.shorts hd
  have:=check_ev (d:Int) [x,y] (by unfold short;simp) (fun t ht=>by
    rcases List.mem_cons.1 ht with rfl|ht
    · exact ⟨sx.1,fun l hl=>(sx.2 l hl).2.1.tail⟩
    · obtain rfl:t=y:=by simpa using ht
      exact ⟨sy.1,fun l hl=>(sy.2 l hl).2.1.tail⟩)
  rw [chk_ok.2 ⟨by omega,fun t ht=>by
    rw [Int.toNat_natCast]
    rcases List.mem_cons.1 ht with rfl|ht
    · exact hx
    · obtain rfl:t=y:=by simpa using ht
      exact hy⟩] at this
  exact this
theorem Differ_ev (h1:1 ≤ d) (hd:d ≤ 3) (hx:okSet d x) (hy:okSet d y) {n:Nat} (hn:n ≤ 20):Ev (fun k=>count_Differ.f k (d:Int) x y (n:Int)) (asR (firstA d x y (List.range (n + 1)))):=by
  have hb:Ev (fun k=>count_bounded.f k (n:Int) (d:Int) [x,y]) 0:=by
    unfold count_bounded.f
    exact Ev.bind (check2_ev h1 hd hx hy) (Ev.neg (by decide) (Ev.neg (by omega) (Ev.neg (by omega) (Ev.now _))))
  have hg:=differGo_ev h1 hd hx hy (List.range (n + 1)) (fun s hs=>by have:=List.mem_range.1 hs;omega)
  unfold count_Differ.f
  rw [show ((d:Int) - 1).toNat=d - 1 by omega,Int.toNat_natCast]
  refine Ev.bind hb (Ev.pos rfl (Ev.pos ⟨by omega,by omega,by omega,by omega⟩ (Ev.bind hg ?_)))
  cases firstA d x y (List.range (n + 1)) with
  | none=>exact Ev.now _
  | some v=>exact Ev.now _
theorem firstA_none:∀ ss:List Nat,firstA d x y ss=none → ∀ s,s ∈ ss → (allL (d - 1) s).filter (apartV d x y)=[]
  | [],_,s,hs=>by simp at hs
  | t :: r,h,s,hs=>by
    simp only [firstA] at h
    cases hf:(allL (d - 1) t).filter (apartV d x y) with
    | nil =>
      rw [hf] at h
      rcases List.mem_cons.1 hs with rfl|hs
      · exact hf
      · exact firstA_none r h s hs
    | cons v q=>rw [hf] at h;cases h
theorem firstA_some:∀ (ss:List Nat) (v:List Int),firstA d x y ss=some v → ∃ s,s ∈ ss∧v ∈ allL (d - 1) s∧apartV d x y v=true
  | [],v,h=>by cases h
  | t :: r,v,h=>by
    simp only [firstA] at h
    cases hf:(allL (d - 1) t).filter (apartV d x y) with
    | nil =>
      rw [hf] at h
      obtain ⟨s,h1,h2⟩:=firstA_some r v h
      exact ⟨s,by simp [h1],h2⟩
    | cons u q =>
      rw [hf] at h
      obtain rfl:u=v:=Option.some.inj h
      have:u ∈ (allL (d - 1) t).filter (apartV d x y):=by rw [hf];simp
      exact ⟨t,by simp,List.mem_filter.1 this⟩
end
end Go.Proofs.Ytkonljiembcdlaa.Pure
/- What a plan's sets are, in plain Lean. -/
set_option linter.unusedVariables false
set_option linter.unusedSimpArgs false
namespace Go.Proofs.Ytkonljiembcdlaa.Pure
open Go.RowKit Go.Proofs.MyWords Go.Proofs.YtkonljiembcdlaaW.PrintWords Go.Proofs.YtkonljiembcdlaaW.PrintLast Go.Proofs.YtkonljiembcdlaaW.PrintMore Go.Proofs.Ytkonljiembcdlaa.PC Go.Proofs.Ytkonljiembcdlaa.Sem
def tinyL (d:Nat) (l:S60):Prop:=okV d 4 l.f0∧l.f1.length ≤ 2∧∀ p,p ∈ l.f1 → okV d 4 p
theorem nextV_ok {x:List Int} (hx:∀ z,z ∈ x → 0 ≤ z∧z ≤ 255) (d p:Nat):okV d 4 (nextV d x p):=by
  unfold nextV
  refine ⟨by simp,fun z hz=>?_⟩
  obtain ⟨k,_,rfl⟩:=List.mem_map.1 hz
  by_cases h:p + k < x.length
  · rw [if_pos h,rd_nat x (p + k) h]
    have h1:=hx _ (List.getElem_mem h)
    rw [wrap_id (by omega) (by omega),Int.tmod_eq_emod_of_nonneg h1.1]
    omega
  · rw [if_neg h];decide
theorem manyV_two {x:List Int} (hx:∀ z,z ∈ x → 0 ≤ z∧z ≤ 255) {p:Nat} (hp:p < x.length):manyV x p ≤ 2:=by
  unfold manyV
  rw [rd_nat x p hp]
  have h1:=hx _ (List.getElem_mem hp)
  rw [wrap_id (by omega) (by omega),Int.tmod_eq_emod_of_nonneg h1.1]
  omega
theorem madeG_ok {x:List Int} (hx:∀ z,z ∈ x → 0 ≤ z∧z ≤ 255) (d:Nat):∀ m p,(madeG d x m p).length ≤ m∧∀ l,l ∈ madeG d x m p → tinyL d l
  | 0,p=>⟨by simp [madeG],fun l hl=>by simp [madeG] at hl⟩
  | m + 1,p=>by
    rw [madeG]
    split
    · rename_i hp
      obtain ⟨h1,h2⟩:=madeG_ok hx d m (p + 1 + d + d * manyV x p)
      refine ⟨by simp;exact h1,fun l hl=>?_⟩
      rcases List.mem_cons.1 hl with rfl|hl
      · refine ⟨nextV_ok hx _ _,?_,fun q hq=>?_⟩
        · show (perV d x (p + 1 + d) (manyV x p)).length ≤ 2
          unfold perV
          rw [List.length_map,List.length_range]
          exact manyV_two hx hp
        · obtain ⟨k,_,rfl⟩:=List.mem_map.1 (show q ∈ perV d x (p + 1 + d) (manyV x p) from hq)
          exact nextV_ok hx _ _
      · exact h2 l hl
    · exact ⟨by simp,fun l hl=>by simp at hl⟩
theorem madeG_set {x:List Int} (hx:∀ z,z ∈ x → 0 ≤ z∧z ≤ 255) (d m:Nat) (hm:m ≤ 8):okSet d (madeG d x m 0):=by
  obtain ⟨h1,h2⟩:=madeG_ok hx d m 0
  exact ⟨by omega,fun l hl=>⟨(h2 l hl).1.mono (by decide),by have:=(h2 l hl).2.1;omega,fun p hp=>((h2 l hl).2.2 p hp).mono (by decide)⟩⟩
def dimD (D:Int):Nat:=(D % 3).toNat + 1
theorem dimD_range (D:Int):1 ≤ dimD D∧dimD D ≤ 3:=by unfold dimD;omega
theorem bytes_of {l:List Int} (h:∀ x ∈ l,(Lit.int .u8 x).wf=true):∀ z,z ∈ l → 0 ≤ z∧z ≤ 255:=fun z hz=>wf_u8 (h z hz)
theorem sets_f {D:Int} {X Y:List Int} (hD:(Lit.int .u8 D).wf=true) (hX:∀ x ∈ X,(Lit.int .u8 x).wf=true) (hY:∀ x ∈ Y,(Lit.int .u8 x).wf=true) (lX:X.length ≤ 140737488351232) (lY:Y.length ≤ 140737488351232) (most:Nat) (hm:most ≤ 1000) :
    bellpulllaw05_Plan_sets.f D X Y (most:Int)=some ((dimD D:Int),madeG (dimD D) X most 0,madeG (dimD D) Y most 0):=by
  have h8:=wf_u8 hD
  have e:wrap64 ((Int.tmod (wrap64 D) 3) + 1)=((dimD D:Nat):Int):=by
    rw [wrap_id (x:=D) (by omega) (by omega),Int.tmod_eq_emod_of_nonneg h8.1,wrap_id (by omega) (by omega)]
    unfold dimD;omega
  have hd:=dimD_range D
  have mk:∀ (Z:List Int),(∀ x ∈ Z,(Lit.int .u8 x).wf=true) → Z.length ≤ 140737488351232 → bellpulllaw05_made.f ((dimD D:Nat):Int) Z (most:Int)=some (madeG (dimD D) Z most 0):=fun Z hZ lZ=>by
    unfold bellpulllaw05_made.f
    rw [if_pos,Int.toNat_natCast,Int.toNat_natCast]
    refine ⟨by omega,by omega,by omega,by omega,by omega,List.all_eq_true.2 (fun z hz=>?_)⟩
    have:=wf_u8 (hZ z hz)
    simp;omega
  unfold bellpulllaw05_Plan_sets.f
  rw [e,mk X hX lX,Option.bind_some,mk Y hY lY,Option.bind_some]
end Go.Proofs.Ytkonljiembcdlaa.Pure
/- CountNumbers: for every input the law returns true. -/
set_option linter.unusedVariables false
set_option linter.unusedSimpArgs false
namespace Go.Proofs.Ytkonljiembcdlaa.Pure
open Go.RowKit Go.Proofs.MyWords Go.Proofs.YtkonljiembcdlaaW.PrintWords Go.Proofs.YtkonljiembcdlaaW.PrintLast Go.Proofs.YtkonljiembcdlaaW.PrintMore Go.Proofs.Ytkonljiembcdlaa.PC Go.Proofs.Ytkonljiembcdlaa.Sem
theorem cntV_cons {d:Nat} {set:List S60} {v:List Int} {r:List (List Int)}:(InS d set v → cntV d set (v :: r)=cntV d set r + 1)∧(¬ InS d set v → cntV d set (v :: r)=cntV d set r):=by
  unfold cntV
  refine ⟨fun h=>?_,fun h=>?_⟩
  · rw [List.filter_cons_of_pos (by simpa using h)];simp
  · rw [List.filter_cons_of_neg (by simpa using h)]
theorem cntV_le {d:Nat} {set:List S60} {r:List (List Int)}:0 ≤ cntV d set r∧cntV d set r ≤ r.length:=by
  unfold cntV
  have:=List.length_filter_le (fun v=>@decide (InS d set v) (Classical.propDecidable _)) r
  omega
theorem cntV_same {d:Nat} {x y:List S60}:∀ {l:List (List Int)},l.filter (apartV d x y)=[] → cntV d y l=cntV d x l
  | [],_=>rfl
  | v :: r,h=>by
    have hv:¬ apartV d x y v=true:=fun hv=>by rw [List.filter_cons_of_pos hv] at h;cases h
    rw [List.filter_cons_of_neg hv] at h
    have ih:=cntV_same h
    rw [Bool.not_eq_true,apartV_no] at hv
    by_cases hi:InS d x v
    · rw [cntV_cons.1 hi,cntV_cons.1 (hv.1 hi),ih]
    · rw [cntV_cons.2 hi,cntV_cons.2 (fun h=>hi (hv.2 h)),ih]
theorem firstA_self {d:Nat} {x:List S60}:∀ ss:List Nat,firstA d x x ss=none
  | []=>rfl
  | s :: r=>by
    have:(allL (d - 1) s).filter (apartV d x x)=[]:=List.filter_eq_nil_iff.2 (fun v _=>by rw [apartV_iff];simp)
    simp only [firstA,this]
    exact firstA_self r
theorem Count_all {d:Nat} (h1:1 ≤ d) (hd:d ≤ 3) {set:List S60} (hs:okSet d set) {n:Nat} (hn:n ≤ 20):Ev (fun k=>count_Count.f k (d:Int) set (n:Int)) (cntV d set (allL (d - 1) n),0):=by
  have hC:=Count_ev h1 hd hs hn
  have hlen:=allL_len (d - 1) n (by omega) (by omega)
  have hcl:=@cntV_le d set (allL (d - 1) n)
  rw [vecs_nil,wrap_id (by omega) (by omega)] at hC
  exact hC
section
variable {d:Nat} (h1:1 ≤ d) (hd:d ≤ 3) {x y:List S60} (hx:okSet d x) (hy:okSet d y) {m:Nat} (hm:m ≤ 20)
include h1 hd hx hy hm
theorem numbers_l0:∀ (t pre:List (List Int)) (q:Nat),allL (d - 1) m=pre ++ t → q ≤ pre.length → cntV d x (allL (d - 1) m)=(q:Int) + cntV d x t → Ev (fun k=>bellpulllaw05_CountNumbers.l0 k (d:Int) x y (m:Int) (cntV d x (allL (d - 1) m)) 0 (allL (d - 1) m) (q:Int) (pre.length:Int)) true
  | [],pre,q,e,hq,hc=>by
    have hl:(allL (d - 1) m).length=pre.length:=by rw [e];simp
    have z:cntV d x []=0:=rfl
    have dxx:=Differ_ev h1 hd hx hx hm
    rw [firstA_self] at dxx
    have dxy:=Differ_ev h1 hd hx hy hm
    refine Ev.succ ?_
    simp only [bellpulllaw05_CountNumbers.l0]
    refine Ev.neg (by omega) (Ev.bind dxx (Ev.bind dxy (Ev.pos trivial (Ev.pos (by omega) (Ev.pos rfl (Ev.bind lives_ev (Ev.succ ?_)))))))
    simp only [bellpulllaw05_CountNumbers.j1]
    refine Ev.neg (by simp) ?_
    cases hf:firstA d x y (List.range (m + 1)) with
    | none =>
      have hs:=cntV_same (firstA_none _ hf m (List.mem_range.2 (by omega)))
      have hC:=Count_all h1 hd hy hm
      refine Ev.neg (by simp [asR]) (Ev.bind hC (Ev.pos rfl (Ev.pos rfl (Ev.const ?_))))
      rw [hs];simp
    | some v =>
      obtain ⟨s,hs,hv,hap⟩:=firstA_some _ v hf
      have hsm:=List.mem_range.1 hs
      have ov:okV d 60 v:=all60 h1 (n:=s) (by omega) hv
      obtain ⟨a,e1,i1⟩:=Has_ok h1 hd hx ov
      obtain ⟨b,e2,i2⟩:=Has_ok h1 hd hy ov
      have hab:=(apart_bits i1 i2).1 hap
      have tv:=refTotal_ev (ov.mono (n:=1000000) (by decide)).2 (by have:=ov.1;omega)
      have hle:decide (v.sum ≤ (m:Int))=true:=decide_eq_true (by rw [(mem_allL.1 hv).2.2];omega)
      have fin:Ev (fun k=>(bellpullref05_Total.f k v).bind fun t=>some (decide (t ≤ (m:Int)))) true:=Ev.bind tv (by rw [hle];exact Ev.now _)
      refine Ev.pos rfl (Ev.bind e1 (Ev.bind e2 (Ev.pos rfl (Ev.pos rfl ?_))))
      cases a
      · cases b
        · exact absurd rfl hab
        · exact Ev.neg (by simp) (Ev.pos rfl fin)
      · cases b
        · exact Ev.pos rfl (Ev.neg (by simp) fin)
        · exact absurd rfl hab
  | v :: t,pre,q,e,hq,hc=>by
    have hl:(allL (d - 1) m).length=pre.length + (t.length + 1):=by rw [e];simp
    have hl4:=allL_len (d - 1) m (by omega) (by omega)
    have hrd:rd_L1 (allL (d - 1) m) (pre.length:Int)=v:=by rw [e];exact rdL1_app _ _ _
    have ih:=fun q=>numbers_l0 t (pre ++ [v]) q (by rw [e];simp)
    rw [← len_snoc] at ih
    obtain ⟨b,e1,i1⟩:=Has_ok h1 hd hx (all60 h1 (n:=m) (by omega) (v:=v) (by rw [e];simp))
    refine Ev.succ ?_
    simp only [bellpulllaw05_CountNumbers.l0,hrd,wsucc (show pre.length < 4611686018427387904 by omega),wsucc (show q < 4611686018427387904 by omega)]
    refine Ev.pos (by omega) (Ev.pos (by omega) (Ev.bind e1 (Ev.pos rfl ?_)))
    cases b
    · refine Ev.neg (by simp) (ih q (by omega) ?_)
      rw [hc,cntV_cons.2 (fun h=>by cases i1.2 h)]
    · refine Ev.pos rfl (ih (q + 1) (by omega) ?_)
      rw [hc,cntV_cons.1 (i1.1 rfl)]
      omega
end
theorem CountNumbers:∀ (a0_0:Int) (l0_1 l0_2:List Int) (a1:Int),(Lit.int .u8 a0_0).wf=true → (∀ x ∈ l0_1,(Lit.int .u8 x).wf=true) → (∀ x ∈ l0_2,(Lit.int .u8 x).wf=true) → l0_1.length ≤ 140737488351232 → l0_2.length ≤ 140737488351232 → (Lit.int .u8 a1).wf=true → ∃ k,bellpulllaw05_CountNumbers.f k a0_0 l0_1 l0_2 a1=some true:=by
  intro D X Y n hD hX hY lX lY hn
  refine Ev.rounds (g:=fun k=>bellpulllaw05_CountNumbers.f k D X Y n) ?_
  obtain ⟨d,hdd⟩:∃ d,d=dimD D:=⟨_,rfl⟩
  have hr:=dimD_range D
  rw [← hdd] at hr
  have hset:=sets_f hD hX hY lX lY 3 (by omega)
  rw [← hdd] at hset
  have ox:okSet d (madeG d X 3 0):=madeG_set (bytes_of hX) d 3 (by omega)
  have oy:okSet d (madeG d Y 3 0):=madeG_set (bytes_of hY) d 3 (by omega)
  have n8:=wf_u8 hn
  obtain ⟨m,hm⟩:∃ m:Nat,m=(n % 9).toNat:=⟨_,rfl⟩
  have em:Int.tmod (wrap64 n) 9=(m:Int):=by
    rw [wrap_id (by omega) (by omega),Int.tmod_eq_emod_of_nonneg n8.1];omega
  have hC:=Count_all hr.1 hr.2 ox (show m ≤ 20 by omega)
  have ha:=all_ev (d - 1) m (by omega) (by omega)
  rw [show d - 1 + 1=d by omega] at ha
  unfold bellpulllaw05_CountNumbers.f
  refine Ev.bindc hset ?_
  rw [em]
  refine Ev.bind hC (Ev.bind ha ?_)
  exact numbers_l0 hr.1 hr.2 ox oy (by omega) _ [] 0 rfl (by simp) (by omega)
end Go.Proofs.Ytkonljiembcdlaa.Pure
/- An array of three bytes, and a slice of bytes, as arguments: opened, and shut. -/
set_option linter.unusedVariables false
set_option linter.constructorNameAsVariable false
namespace Go.Proofs.Ytkonljiembcdlaa.RowT
open Go.ChangeShapes Go.WideShapes Go.ChangeAt Go.RowKit Go.Joins
section
variable {H:Type} {enc:TypeId × Value → H} {w:World} {base:Nat} {spare:Nat → Bool} {held:Bool}
end
end Go.Proofs.Ytkonljiembcdlaa.RowT
/- A query, and a plan, as arguments: opened. -/
set_option linter.unusedVariables false
set_option linter.constructorNameAsVariable false
namespace Go.Proofs.Ytkonljiembcdlaa.RowT
open Go.ChangeShapes Go.WideShapes Go.ChangeAt Go.RowKit Go.Joins Go.Proofs.YtkonljiembcdlaaW.PrintWords Go.Proofs.Ytkonljiembcdlaa.PC
theorem list_of {α:Type} {p:Nat → α → Prop}:∀ n:Nat,(∀ i,i < n → ∃ y,p i y) → ∃ xs:List α,xs.length=n∧∀ i y,xs[i]?=some y → p i y
  | 0,_=>⟨[],rfl,fun i y h=>by simp at h⟩
  | n + 1,h=>by
    obtain ⟨xs,h1,h2⟩:=list_of n (fun i hi=>h i (by omega))
    obtain ⟨y,hy⟩:=h n (by omega)
    refine ⟨xs ++ [y],by simp [h1],fun i z hz=>?_⟩
    by_cases hi:i < n
    · rw [List.getElem?_append_left (by omega)] at hz
      exact h2 i z hz
    · have:i < (xs ++ [y]).length:=by
        apply Classical.byContradiction
        intro hn
        rw [List.getElem?_eq_none (by omega)] at hz
        cases hz
      obtain rfl:i=n:=by simp [h1] at this;omega
      rw [List.getElem?_append_right (by omega),h1,Nat.sub_self] at hz
      obtain rfl:=Option.some.inj hz
      exact hy
section
variable {H:Type} {enc:TypeId × Value → H} {w:World} {base:Nat} {held:Bool}
def kwf:Kd {n:Int // (Lit.int .u8 n).wf=true}:=Kd.iso (Kd.int .u8) (fun x=>x.1)
theorem addr_add (a:Addr) (m k:Nat):(a.add m).add k=a.add (m + k):=by
  by_cases h1:k=0
  · subst h1;simp [Addr.add]
  · by_cases h2:m=0
    · subst h2;simp [Addr.add,h1]
    · simp [Addr.add,h1,h2,Nat.add_assoc]
theorem C_of_trod {α:Type} (d:Kd α) {t e:TypeId} (ht:Try.prog.underlying t=some (.slice e)) (hc:Try.prog.cellsOf e=d.sz)
    (hx:∀ fuel cs x,DataW.trod enc Try.prog w base (fun _=>true) held fuel e cs=some x → ∃ y,d.K w y cs) {fuel:Nat} {cs:List Value} {x:DataW H × List MemPlace} (h:DataW.trod enc Try.prog w base (fun _=>true) held fuel t cs=some x) :
    ∃ (A:Option Addr) (c:Nat) (xs:List α),cs=[.slice A xs.length c]∧xs.length ≤ c∧d.C w A xs.length xs:=by
  rcases Go.Deep.open_slice ht h with ⟨rfl,_⟩|⟨a,len,cap,m,n,D,Pl,rfl,_,hl,hm,hmm,_,hel⟩
  · exact ⟨none,0,[],rfl,Nat.le_refl _,rfl,Nat.zero_le _,fun h=>by simp at h⟩
  · have hlm:len ≤ m:=by rw [hmm];simp;exact hl
    have hcap:cap ≤ 9223372036854775807:=hm
    obtain ⟨xs,h1,h2⟩:=list_of (p:=fun i y=>∃ c:List Value,c.length=d.sz∧d.K w y c∧∀ k u,c[k]?=some u → w.cell? (a.add (i * d.sz + k))=some u) len (fun i hi=>by
      obtain ⟨cs',hcs,hr⟩:=hel i (by omega)
      obtain ⟨_,hlen,hcell⟩:=World.cells?_some hcs
      obtain ⟨y,hy⟩:=hx n cs' _ hr
      refine ⟨y,cs',hlen.trans hc,hy,fun k u hu=>?_⟩
      have hk:k < cs'.length:=by
        apply Classical.byContradiction
        intro hn
        rw [List.getElem?_eq_none (by omega)] at hu
        cases hu
      have:=hcell k (by omega)
      rw [hu,hc] at this
      have e:(a.add (i * d.sz)).add k=a.add (i * d.sz + k):=addr_add a _ k
      rw [e] at this
      exact this)
    refine ⟨some a,cap,xs,by rw [h1],by omega,rfl,by omega,fun _=>⟨a,rfl,h2⟩⟩
theorem u8_of_trod:∀ (fuel:Nat) (cs:List Value) (x:DataW H × List MemPlace),DataW.trod enc Try.prog w base (fun _=>true) held fuel 5 cs=some x → ∃ y:{n:Int // (Lit.int .u8 n).wf=true},(kwf).K w y cs:=fun fuel cs x h=>by
  obtain ⟨n,rfl,_,hw⟩:=DataW.trod_int Try.underlying5 h
  exact ⟨⟨n,hw⟩,rfl⟩
theorem u8s_of_trod {fuel:Nat} {cs:List Value} {x:DataW H × List MemPlace} (h:DataW.trod enc Try.prog w base (fun _=>true) held fuel 50 cs=some x):∃ (A:Option Addr) (c:Nat) (xs:List Int),cs=[.slice A xs.length c]∧xs.length ≤ c∧(Kd.int .u8).C w A xs.length xs∧∀ z ∈ xs,(Lit.int .u8 z).wf=true:=by
  obtain ⟨A,c,xs,rfl,hl,hC⟩:=C_of_trod kwf Try.underlying50 (by kernel_rfl) u8_of_trod h
  refine ⟨A,c,xs.map (·.1),by rw [List.length_map],by rw [List.length_map];exact hl,?_,fun z hz=>?_⟩
  · obtain ⟨h1,h2,h3⟩:=hC
    refine ⟨rfl,by rw [List.length_map];exact h2,fun h0=>?_⟩
    rw [List.length_map] at h0
    obtain ⟨ad,rfl,h4⟩:=h3 h0
    refine ⟨ad,rfl,fun j y hy=>?_⟩
    rw [List.getElem?_map,Option.map_eq_some_iff] at hy
    obtain ⟨z,hz,rfl⟩:=hy
    obtain ⟨c,e1,e2,e3⟩:=h4 j z hz
    exact ⟨c,e1,e2,e3⟩
  · obtain ⟨y,_,rfl⟩:=List.mem_map.1 hz
    exact y.2
theorem slice_weight {fuel:Nat} {A:Option Addr} {len cap:Nat} {x:DataW H × List MemPlace} (h:DataW.trod enc Try.prog w base (fun _=>true) held fuel 50 [.slice A len cap]=some x):len=0 ∨ ∃ n r,n ∈ DataW.weights Try.prog 50 x.1∧len ≤ n∧r=n:=by
  rcases Go.Deep.open_slice Try.underlying50 h with ⟨h1,_⟩|⟨a,l,c,m,n,D,Pl,h1,_,_,_,_,rfl,_⟩
  · left
    simp at h1
    exact h1.2.1
  · right
    have hl:len=l:=by simp at h1;exact h1.2.1
    have hb:Try.prog.bytesOf 5=1:=by kernel_rfl
    refine ⟨_,_,by rw [DataW.weights,Try.underlying50];exact List.mem_cons_self,?_,rfl⟩
    rw [hb,Nat.mul_one,List.length_map,List.length_range]
    omega
theorem plan_sized {ts:List TypeId} {ds:List (DataW H)} {y0 y1 y2:DataW H × List MemPlace} (hsz:(DataW.weightsEach Try.prog (55 :: ts) (.agg [y0.1,y1.1,y2.1] :: ds)).all (· ≤ reachBytes)=true) :
    (∀ n,n ∈ DataW.weights Try.prog 50 y1.1 → n ≤ 140737488351232)∧(∀ n,n ∈ DataW.weights Try.prog 50 y2.1 → n ≤ 140737488351232):=by
  rw [List.all_eq_true] at hsz
  have key:∀ n,n ∈ DataW.weights Try.prog 50 y1.1 ∨ n ∈ DataW.weights Try.prog 50 y2.1 → n ≤ 140737488351232:=fun n hn=>by
    have hm:n ∈ DataW.weightsEach Try.prog (55 :: ts) (.agg [y0.1,y1.1,y2.1] :: ds):=by
      rw [DataW.weightsEach]
      refine List.mem_append_left _ ?_
      rw [DataW.weights,Try.underlying55]
      show n ∈ DataW.weightsEach Try.prog [5,50,50] [y0.1,y1.1,y2.1]
      rw [DataW.weightsEach,DataW.weightsEach,DataW.weightsEach]
      rcases hn with hn|hn
      · exact List.mem_append_right _ (List.mem_append_left _ hn)
      · exact List.mem_append_right _ (List.mem_append_right _ (List.mem_append_left _ hn))
    exact of_decide_eq_true (hsz n hm)
  exact ⟨fun n h=>key n (.inl h),fun n h=>key n (.inr h)⟩
set_option maxRecDepth 100000 in
theorem open_plan {r:Reach} {b0:Nat} {v:Value} {d:DataW H} {p:List MemPlace} {ts:List TypeId} {ds:List (DataW H)} (hv:Value.okWide Try.prog w r b0 55 v) (h:DataW.Trod enc Try.prog w base (fun _=>true) held 55 v d p) (hsz:(DataW.weightsEach Try.prog (55 :: ts) (d :: ds)).all (· ≤ reachBytes)=true) :
    ∃ (D:Int) (A1:Option Addr) (c1:Nat) (X:List Int) (A2:Option Addr) (c2:Nat) (Y:List Int),v=.agg #[.int .u8 D,.slice A1 X.length c1,.slice A2 Y.length c2]∧(Lit.int .u8 D).wf=true ∧
      (Kd.int .u8).C w A1 X.length X∧X.length ≤ c1∧(Kd.int .u8).C w A2 Y.length Y∧Y.length ≤ c2∧(∀ z ∈ X,(Lit.int .u8 z).wf=true)∧(∀ z ∈ Y,(Lit.int .u8 z).wf=true)∧X.length ≤ 140737488351232∧Y.length ≤ 140737488351232:=by
  obtain ⟨v0,v1,v2,y0,y1,y2,n,rfl,rfl,_,h0,h1,h2⟩:=open_agg3 Try.underlying55 (by kernel_rfl) (by kernel_rfl) hv h
  dsimp only at h0 h1 h2
  obtain ⟨D,eD,_,wD⟩:=DataW.trod_int Try.underlying5 h0
  obtain ⟨A1,c1,X,eX,l1,g1,m1⟩:=u8s_of_trod h1
  obtain ⟨A2,c2,Y,eY,l2,g2,m2⟩:=u8s_of_trod h2
  obtain rfl:v0=_:=by simpa using eD
  obtain rfl:v1=_:=by simpa using eX
  obtain rfl:v2=_:=by simpa using eY
  obtain ⟨s1,s2⟩:=plan_sized hsz
  refine ⟨D,A1,c1,X,A2,c2,Y,rfl,wD,g1,l1,g2,l2,m1,m2,?_,?_⟩
  · rcases slice_weight h1 with h|⟨n,_,hn,hl,_⟩
    · omega
    · exact Nat.le_trans hl (s1 n hn)
  · rcases slice_weight h2 with h|⟨n,_,hn,hl,_⟩
    · omega
    · exact Nat.le_trans hl (s2 n hn)
end
end Go.Proofs.Ytkonljiembcdlaa.RowT
