import Derived.Test.YtkonljiembcdlaaPCx0
import Derived.Test.YtkonljiembcdlaaMyTiny
import Derived.Test.YtkonljiembcdlaaPCx3
import Derived.Test.YtkonljiembcdlaaPCx4
import Derived.Test.YtkonljiembcdlaaPCx5
import Derived.Test.YtkonljiembcdlaaPCx1
import Derived.Test.YtkonljiembcdlaaWMore
import Derived.Test.YtkonljiembcdlaaProg
import Derived.WalkKit
import Derived.ProofKit
import Derived.OpenShut
import Derived.Lib.SmallJoins
import Derived.SizedLaws
import Derived.Deep.Slices
namespace Go.Proofs.Ytkonljiembcdlaa.PC
open Go.Proofs.MyWords Go.RowKit Go.Proofs.YtkonljiembcdlaaW.PrintWords Go.Proofs.YtkonljiembcdlaaW.PrintLast Go.Proofs.YtkonljiembcdlaaW.PrintMore
attribute [local go_sem] max2_int min2_int max_two min_two max_three min_three max_four min_four   -- for this text's walks alone
set_option linter.unusedVariables false
set_option linter.unusedSimpArgs false
attribute [local go_sem] eqGuard_slices eqlnil23 neqnil23 eqlnil58 neqnil58
end Go.Proofs.Ytkonljiembcdlaa.PC
namespace Go.Proofs.Ytkonljiembcdlaa.PC
open Go.Proofs.MyWords Go.RowKit Go.Proofs.YtkonljiembcdlaaW.PrintWords Go.Proofs.YtkonljiembcdlaaW.PrintLast Go.Proofs.YtkonljiembcdlaaW.PrintMore
set_option linter.unusedVariables false
set_option linter.unusedSimpArgs false
namespace pr
section
variable (el:S60 → S60 → Option S60)
def row (a:S60):List S60 → Option (List S60)
  | []=>some []
  | b :: r=>(el a b).bind fun e=>(row a r).bind fun s=>some (e :: s)
def g (y:List S60):List S60 → Option (List S60)
  | []=>some []
  | a :: r=>(row el a y).bind fun s=>(g y r).bind fun t=>some (s ++ t)
def v (a b:S60):S60:=(el a b).getD z60
end
end pr
theorem N_empty {α:Type} (d:Kd α) {e base g:Nat} {ok:Nat → Prop} {W:World} (h:W.heap[g]?=some (.cells #[] e (0,0))) (hb:base ≤ g) (ho:ok g):Kd.N d e W base ok (.slice (some ⟨g,0,none⟩) 0 0) []:=by
  refine Kd.R_N ⟨fun k hk=>?_,[],⟨by simp,.inr ⟨g,0,#[],rfl,hb,h,?_⟩⟩,Reps.none _ _⟩
  · have:g=k:=by simpa [Value.ownBlock] using hk
    rw [← this];exact ho
  · simp
section
variable {ops:Array Oper} {o:Oper} {a:Act} {w W0 W:World} {Q:Exit → Act → World → Prop} {Kc:Act → World → Prop} {J:Nat → Prop} {s z:Operand}
end
end Go.Proofs.Ytkonljiembcdlaa.PC
namespace Go.Proofs.Ytkonljiembcdlaa.PC
open Go.Proofs.MyWords Go.RowKit Go.Proofs.YtkonljiembcdlaaW.PrintWords Go.Proofs.YtkonljiembcdlaaW.PrintLast Go.Proofs.YtkonljiembcdlaaW.PrintMore
attribute [local go_sem] min_two
set_option linter.unusedVariables false
set_option linter.unusedSimpArgs false
def refStar.ld0:Op:=.load 23 (.tmp 35)
def refStar.ld1:Op:=.load 58 (.tmp 45)
attribute [local go_sem] refStar.ld0 refStar.ld1
theorem made_int (n:Nat):(madeCells #[.int .i64 0] n).toList=(List.replicate n (0:Int)).map (Value.int .i64):=by
  apply List.ext_getElem
  · simp [size_madeCells]
  · intro i h1 h2
    simp [madeCells,Nat.mod_one]
theorem F_zeros {W:World} {g n:Nat} (h:W.heap[g]?=some (.cells (madeCells #[.int .i64 0] n) 3 (0,0))) (hn:n ≤ 100):Kd.F (Kd.int .i64) W (fun k_=>k_=g) (some ⟨g,0,none⟩) (List.replicate n (0:Int)).length (List.replicate n 0):=fun W' hW=>C_box ((hW g rfl (blk_lt h)).trans h) (made_int n) (by simpa using hn)
section
variable {ops:Array Oper} {o:Oper} {a:Act} {W0 W:World} {Q:Exit → Act → World → Prop} {Kc:Act → World → Prop} {ok okp:Nat → Prop} {s z:Operand}
theorem rows_stepG {v:Value} {l m L:List (List Int)} {Ab:Option Addr} {cb:Nat}
    (ho:o.op=.call { callee:=.builtin .append,args:=#[s,z],argTypes:=#[58,58] }) (hw:Region.wanted o (yielded ops a.tmps)=true) (hs:a.eval s=v) (hx:a.eval z=.slice Ab m.length cb)
    (HO:Kd.N (Kd.slice 3 (Kd.int .i64)) 23 W W0.heap.size ok v l) (hF:Kd.F (Kd.slice 3 (Kd.int .i64)) W okp Ab m.length m) (hok:∀ k_,okp k_ → ok k_∧some k_ ≠ v.ownBlock) (hfr:∀ k_,W0.heap.size ≤ k_ → ok k_)
    (hbw:Below W0.heap.size W0 W) (hl:l.length ≤ 1000000) (hm:m.length ≤ 1000000) (hL:L=l ++ m)
    (h:∀ A1 c1 w1,Kd.N (Kd.slice 3 (Kd.int .i64)) 23 w1 W0.heap.size ok (.slice A1 L.length c1) L → Below W0.heap.size W0 w1 → W.grownBy w1 v.ownBlock → ((Value.slice A1 L.length c1).ownBlock=v.ownBlock ∨ ∃ b,(Value.slice A1 L.length c1).ownBlock=some b∧W.heap.size ≤ b) → Kc (a.put o.dst (.slice A1 L.length c1)) w1) :
    if Region.wanted o (yielded ops a.tmps)=true then Oper.wp Try.prog o a W Kc Q else Kc (a.put o.dst undef) W:=by
  have h2:=hbw.size
  refine Kd.N_append_rows_step (Kd.slice 3 (Kd.int .i64)) (w0:=W0) W0.heap.size hw s z 58 23 (.slice none 0 0) 24 ho Try.underlying58 info23 rfl (by decide) (by omega) v l m Ab m.length cb ok okp hs hx HO hF hok (fun k_ hk=>hfr k_ (by omega)) hbw h2 (by omega) ?_
  intro v1 w1 hN1 hb1 hg1 hat
  rw [← hL] at hN1
  obtain ⟨A1,c1,rfl⟩:=Kd.N_slice hN1
  exact h A1 c1 w1 hN1 hb1 hg1 hat
theorem rows_stepE {m:List (List Int)} {Ab:Option Addr} {cb g:Nat}
    (ho:o.op=.call { callee:=.builtin .append,args:=#[s,z],argTypes:=#[58,58] }) (hw:Region.wanted o (yielded ops a.tmps)=true) (hs:a.eval s=.slice (some ⟨g,0,none⟩) 0 0) (hx:a.eval z=.slice Ab m.length cb)
    (hg:W.heap[g]?=some (.cells #[] 23 (0,0))) (hle:W0.heap.size ≤ g) (hF:Kd.F (Kd.slice 3 (Kd.int .i64)) W0 okp Ab m.length m) (hok:∀ k_,okp k_ → ok k_∧k_ < W0.heap.size) (hfr:∀ k_,W0.heap.size ≤ k_ → ok k_)
    (hbw:Below W0.heap.size W0 W) (hm:m.length ≤ 1000000)
    (h:∀ A1 c1 w1,Kd.N (Kd.slice 3 (Kd.int .i64)) 23 w1 W0.heap.size ok (.slice A1 m.length c1) m → Below W0.heap.size W0 w1 → W.grownBy w1 (some g) → ((Value.slice A1 m.length c1).ownBlock=some g ∨ ∃ b,(Value.slice A1 m.length c1).ownBlock=some b∧W.heap.size ≤ b) → Kc (a.put o.dst (.slice A1 m.length c1)) w1) :
    if Region.wanted o (yielded ops a.tmps)=true then Oper.wp Try.prog o a W Kc Q else Kc (a.put o.dst undef) W :=
  rows_stepG (l:=[]) ho hw hs hx (N_empty _ hg hle (hfr g hle)) (Kd.F_below hF hbw) (fun k_ hk=>⟨(hok k_ hk).1,fun he=>by have h:=Option.some.inj (show some k_=some g from he);have:=(hok k_ hk).2;omega⟩) hfr hbw (Nat.zero_le _) hm rfl h
end
theorem blk_al {w:World} {g:Nat} {o:Obj} (h:w.heap[g]?=some o) (o2:Obj):(w.alloc o2).heap[g]?=some o:=blk_below h (below_alloc (Below.refl _ _) o2)
theorem new2 (w:World) (E o:Obj):((w.alloc E).alloc o).heap[w.heap.size + 1]?=some o:=by simpa using blk_new (w.alloc E) o
theorem ne1 (n:Nat):some (n + 1) ≠ some n:=by simp
theorem ne2 (n:Nat):some n ≠ some (n + 1):=by simp
theorem F_lit1 {W:World} {g:Nat} {ok:Nat → Prop} {A:Option Addr} {c:Nat} {p:List Int} (h:W.heap[g]?=some (.cells #[.slice A p.length c] 23 (0,0))) (hA:Kd.F (Kd.int .i64) W ok A p.length p) (hc:p.length ≤ c):Kd.F (Kd.slice 3 (Kd.int .i64)) W (fun k_=>k_=g ∨ ok k_) (some ⟨g,0,none⟩) [p].length [p]:=fun W' hW=>by
  have h2:W'.heap[g]?=some (.cells #[.slice A p.length c] 23 (0,0)):=(hW g (.inl rfl) (blk_lt h)).trans h
  have hC:=hA W' (fun k hk hlt=>hW k (.inr hk) hlt)
  refine ⟨rfl,by simp,fun _=>⟨⟨g,0,none⟩,rfl,fun q u hq=>?_⟩⟩
  match q,hq with
  | 0,hq =>
    obtain rfl:u=p:=by simpa using hq.symm
    refine ⟨[.slice A u.length c],rfl,⟨A,c,rfl,hc,hC⟩,fun a b hab=>?_⟩
    match a,hab with
    | 0,hab=>exact ((by rw [show (0 * (Kd.slice 3 (Kd.int .i64)).sz + 0)=0 by simp,add_plain,blk_cell h2];rfl:W'.cell? ((⟨g,0,none⟩:Addr).add (0 * (Kd.slice 3 (Kd.int .i64)).sz + 0))=some (.slice A u.length c))).trans hab
theorem lit_kept {W w7:World} {g e:Nat} {v v7:Option Nat} {cells:Array Value} (hK:W.heap[g]?=some (.cells cells e (0,0))) (hg:W.grownBy w7 v) (hne:some g ≠ v) (hat:v7=v ∨ ∃ b,v7=some b∧W.heap.size ≤ b):w7.heap[g]?=some (.cells cells e (0,0))∧some g ≠ v7 :=
  ⟨blk_grown hK hg hne,by
    rcases hat with rfl|⟨b,rfl,hb⟩
    · exact hne
    · intro he
      have:=blk_lt hK
      injection he with he
      omega⟩
end Go.Proofs.Ytkonljiembcdlaa.PC
namespace Go.Proofs.Ytkonljiembcdlaa.PC
open Go.Proofs.MyWords Go.RowKit Go.Proofs.YtkonljiembcdlaaW.PrintWords Go.Proofs.YtkonljiembcdlaaW.PrintLast Go.Proofs.YtkonljiembcdlaaW.PrintMore
attribute [local go_sem] max2_int min2_int max_two min_two max_three min_three max_four min_four   -- for this text's walks alone
set_option linter.unusedVariables false
set_option linter.unusedSimpArgs false
attribute [local go_sem] eqGuard_slices eqlnil23 neqnil23 eqlnil58 neqnil58
end Go.Proofs.Ytkonljiembcdlaa.PC
namespace Go.Proofs.Ytkonljiembcdlaa.PC
open Go.Proofs.MyWords Go.RowKit Go.Proofs.YtkonljiembcdlaaW.PrintWords Go.Proofs.YtkonljiembcdlaaW.PrintLast Go.Proofs.YtkonljiembcdlaaW.PrintMore
attribute [local go_sem] max2_int min2_int max_two min_two max_three min_three max_four min_four   -- for this text's walks alone
set_option linter.unusedVariables false
set_option linter.unusedSimpArgs false
attribute [local go_sem] eqGuard_slices eqlnil23 neqnil23 eqlnil58 neqnil58
end Go.Proofs.Ytkonljiembcdlaa.PC
namespace Go.Proofs.Ytkonljiembcdlaa.PC
open Go.Proofs.MyWords Go.RowKit Go.Proofs.YtkonljiembcdlaaW.PrintWords Go.Proofs.YtkonljiembcdlaaW.PrintLast Go.Proofs.YtkonljiembcdlaaW.PrintMore
attribute [local go_sem] max2_int min2_int max_two min_two max_three min_three max_four min_four   -- for this text's walks alone
set_option linter.unusedVariables false
set_option linter.unusedSimpArgs false
attribute [local go_sem] eqGuard_slices eqlnil23 neqnil23 eqlnil58 neqnil58
end Go.Proofs.Ytkonljiembcdlaa.PC
namespace Go.Proofs.Ytkonljiembcdlaa.PC
open Go.Proofs.MyWords Go.RowKit Go.Proofs.YtkonljiembcdlaaW.PrintWords Go.Proofs.YtkonljiembcdlaaW.PrintLast Go.Proofs.YtkonljiembcdlaaW.PrintMore
attribute [local go_sem] max2_int min2_int max_two min_two max_three min_three max_four min_four   -- for this text's walks alone
set_option linter.unusedVariables false
set_option linter.unusedSimpArgs false
attribute [local go_sem] eqGuard_slices eqlnil23 neqnil23 eqlnil58 neqnil58
end Go.Proofs.Ytkonljiembcdlaa.PC
namespace Go.Proofs.Ytkonljiembcdlaa.PC
open Go.Proofs.MyWords Go.RowKit Go.Proofs.YtkonljiembcdlaaW.PrintWords Go.Proofs.YtkonljiembcdlaaW.PrintLast Go.Proofs.YtkonljiembcdlaaW.PrintMore
attribute [local go_sem] max2_int min2_int max_two min_two max_three min_three max_four min_four   -- for this text's walks alone
set_option linter.unusedVariables false
set_option linter.unusedSimpArgs false
attribute [local go_sem] eqGuard_slices eqlnil23 neqnil23 eqlnil58 neqnil58
end Go.Proofs.Ytkonljiembcdlaa.PC
namespace Go.Proofs.Ytkonljiembcdlaa.PC
open Go.Proofs.MyWords Go.RowKit Go.Proofs.YtkonljiembcdlaaW.PrintWords Go.Proofs.YtkonljiembcdlaaW.PrintLast Go.Proofs.YtkonljiembcdlaaW.PrintMore
attribute [local go_sem] max2_int min2_int max_two min_two max_three min_three max_four min_four   -- for this text's walks alone
set_option linter.unusedVariables false
set_option linter.unusedSimpArgs false
attribute [local go_sem] eqGuard_slices eqlnil23 neqnil23 eqlnil58 neqnil58
end Go.Proofs.Ytkonljiembcdlaa.PC
namespace Go.Proofs.Ytkonljiembcdlaa.PC
open Go.Proofs.MyWords Go.RowKit Go.Proofs.YtkonljiembcdlaaW.PrintWords Go.Proofs.YtkonljiembcdlaaW.PrintLast Go.Proofs.YtkonljiembcdlaaW.PrintMore
attribute [local go_sem] max2_int min2_int max_two min_two max_three min_three max_four min_four   -- for this text's walks alone
set_option linter.unusedVariables false
set_option linter.unusedSimpArgs false
attribute [local go_sem] eqGuard_slices eqlnil23 neqnil23 eqlnil58 neqnil58
end Go.Proofs.Ytkonljiembcdlaa.PC
namespace Go.Proofs.Ytkonljiembcdlaa.PC
open Go.Proofs.MyWords Go.RowKit Go.Proofs.YtkonljiembcdlaaW.PrintWords Go.Proofs.YtkonljiembcdlaaW.PrintLast Go.Proofs.YtkonljiembcdlaaW.PrintMore
attribute [local go_sem] max2_int min2_int max_two min_two max_three min_three max_four min_four   -- for this text's walks alone
set_option linter.unusedVariables false
set_option linter.unusedSimpArgs false
attribute [local go_sem] eqGuard_slices eqlnil23 neqnil23 eqlnil58 neqnil58
end Go.Proofs.Ytkonljiembcdlaa.PC
namespace Go.Proofs.Ytkonljiembcdlaa.PC
open Go.Proofs.MyWords Go.RowKit Go.Proofs.YtkonljiembcdlaaW.PrintWords Go.Proofs.YtkonljiembcdlaaW.PrintLast Go.Proofs.YtkonljiembcdlaaW.PrintMore
set_option linter.unusedVariables false
set_option linter.unusedSimpArgs false
section
variable {ops:Array Oper} {o:Oper} {a:Act} {W0 W:World} {Q:Exit → Act → World → Prop} {Kc:Act → World → Prop} {ok okp:Nat → Prop} {s z:Operand}
end
theorem add_z (a:Addr):a.add 0=a:=by simp [Addr.add]
end Go.Proofs.Ytkonljiembcdlaa.PC
namespace Go.Proofs.Ytkonljiembcdlaa.PC
open Go.Proofs.MyWords Go.RowKit Go.Proofs.YtkonljiembcdlaaW.PrintWords Go.Proofs.YtkonljiembcdlaaW.PrintLast Go.Proofs.YtkonljiembcdlaaW.PrintMore
attribute [local go_sem] max2_int min2_int max_two min_two max_three min_three max_four min_four   -- for this text's walks alone
set_option linter.unusedVariables false
set_option linter.unusedSimpArgs false
attribute [local go_sem] eqGuard_slices eqlnil23 neqnil23 eqlnil58 neqnil58
def nextV (d:Nat) (x:List Int) (p:Nat):List Int:=(List.range d).map fun k=>if p + k < x.length then Int.tmod (wrap64 (rd x ((p + k:Nat):Int))) 5 else 0
theorem nextV_succ (d:Nat) (x:List Int) (p:Nat):nextV (d + 1) x p=nextV d x p ++ [if p + d < x.length then Int.tmod (wrap64 (rd x ((p + d:Nat):Int))) 5 else 0]:=by unfold nextV;rw [List.range_succ,List.map_append];rfl
theorem mg_join {a b c:World} {g:Nat} (h:a.grownBy b (some g)) (k:b.grownBy c (some g)):a.grownBy c (some g) :=
  ⟨k.os.trans h.os,k.tape.trans h.tape,k.output.trans h.output,Nat.le_trans h.size k.size,fun i hi hn=>(k.block i (Nat.lt_of_lt_of_le hi h.size) hn).trans (h.block i hi hn)⟩
theorem mg_ofb {a b:World} (g:Nat) {B:Nat} (h:Below B a b) (hB:a.heap.size ≤ B):a.grownBy b (some g):=⟨h.os,h.tape,h.output,h.size,fun i hi _=>h.block i (by omega)⟩
theorem mg_snoc {a b c:World} {g:Nat} (h:a.grownBy b (some g)) (k:Below a.heap.size b c):a.grownBy c (some g) :=
  ⟨k.os.trans h.os,k.tape.trans h.tape,k.output.trans h.output,Nat.le_trans h.size k.size,fun i hi hn=>(k.block i hi).trans (h.block i hi hn)⟩
theorem mg_set {W w:World} {g:Nat} (h:W.grownBy w (some g)) (u:Value):W.grownBy (w.setCell ⟨g,0,none⟩ u) (some g) :=
  mg_join h ⟨rfl,rfl,rfl,by simp [World.setCell],fun i _ hi=>Below.heap_setCell _ _ _ _ (fun e=>hi (by rw [e]))⟩
theorem mg_below {W w:World} {g B:Nat} (h:W.grownBy w (some g)) (hg:B ≤ g) (hB:B ≤ W.heap.size):Below B W w :=
  ⟨h.os,h.tape,h.output,h.size,fun k hk=>h.block k (by omega) (fun e=>by injection e with e;omega)⟩
set_option maxHeartbeats 2000000 in
set_option maxRecDepth 100000 in
theorem made_next.calls (d p gd gat gx:Nat) (A:Option Addr) (c:Nat) (x:List Int) (w0 W:World) (hd:d ≤ 100) (hp:p ≤ 4611686018427387904) (hn1:gd ≠ gat) (hn2:gx ≠ gat) (hg0:w0.heap.size ≤ gat)
    (hbd:W.heap[gd]?=some (.cells #[.int .i64 (d:Int)] 3 (0,0))) (hba:W.heap[gat]?=some (.cells #[.int .i64 (p:Int)] 3 (0,0))) (hbx:W.heap[gx]?=some (.cells #[.slice A x.length c] 50 (0,0)))
    (hC:Kd.C (Kd.int .u8) w0 A x.length x) (hB:Below w0.heap.size w0 W) :
    Calls Try.prog 96 #[.pointer (some ⟨gd,0,none⟩),.pointer (some ⟨gat,0,none⟩),.pointer (some ⟨gx,0,none⟩)] W fun e w'=>∃ v,e=.returned v∧Kd.R (Kd.int .i64) 3 w' W.heap.size (fun _=>True) v (nextV d x p) ∧
      w'.heap[gat]?=some (.cells #[.int .i64 ((p + d:Nat):Int)] 3 (0,0))∧W.grownBy w' (some gat):=by
  have HD:=mk0 hd;have HP:=mk0 hp;have HN1:=mk0 hn1;have HN2:=mk0 hn2;have HG0:=mk0 hg0;have HBD:=mk0 hbd;have HBA:=mk0 hba;have HBX:=mk0 hbx;have HC:=mk0 hC;have HB0:=mk0 hB;have HL:=mk0 (show gat < W.heap.size from (Array.getElem?_eq_some_iff.1 hba).1);clear hd hp hn1 hn2 hg0 hbd hba hbx hC hB;go_enter Try.func96,Try.ntmps96
  go_wp2_with (first
    | ((with_reducible refine gate_dst (N:=7) rfl ?_);refine Kd.R_lit (Kd.int .i64) _ 3 ?hg (N:=7) ?hd (xs:=([]:List Int)) (inner:=[]) (ok:=fun _=>True) (okp:=fun _=>True) ?hr ?hp (fun _ hk=>hk) trivial (Below.refl _ _) (Nat.le_refl _) (by simp) ?_;(case hd=>rfl);(case hg=>rfl);(case hr=>first|(go_simp;done)|(go_simp;rfl));(case hp=>exact (Reps.none _ _));intro v7 w2 ho3 hb hg_ hnew_;clear hg_ hnew_;have HO:=mk0 ho3;have HB1:=mk0 hb;clear hb ho3))
  go_loopw [4,5] (fun v4 v5 wr=>∃ (k:Nat),v5=.int .i64 (k:Int)∧Aside0 (k ≤ d)∧Aside0 (Kd.R (Kd.int .i64) 3 wr W.heap.size (fun _=>True) v4 (nextV k x p))∧Aside0 (wr.heap[gat]?=some (.cells #[.int .i64 ((p + k:Nat):Int)] 3 (0,0)))∧Aside0 (W.grownBy wr (some gat))) (fun _ v5 _=>d - (intOf v5).toNat);case atStart=>exact ⟨0,rfl,⟨Nat.zero_le _⟩,HO,⟨(HB1.out.block gat HL.out).trans HBA.out⟩,⟨mg_ofb gat HB1.out (Nat.le_refl _)⟩⟩
  case round =>
    obtain ⟨k,rfl,HK,HR,HA,HGR⟩:=hrel;have HWD:=mk0 ((HGR.out.block gd (Array.getElem?_eq_some_iff.1 HBD.out).1 (fun e=>HN1.out (by injection e))).trans HBD.out);have HWX:=mk0 ((HGR.out.block gx (Array.getElem?_eq_some_iff.1 HBX.out).1 (fun e=>HN2.out (by injection e))).trans HBX.out);have HBW:=mk0 (HB0.out.trans (mg_below HGR.out HG0.out HB0.out.size));have hc0:wr.cell? ⟨gd,0,none⟩=some (.int .i64 (d:Int)):=(blk_cell HWD.out 0).trans rfl;have hc1:wr.cell? ⟨gat,0,none⟩=some (.int .i64 ((p + k:Nat):Int)):=(blk_cell HA.out 0).trans rfl;have hc2:wr.cell? ⟨gx,0,none⟩=some (.slice A x.length c):=(blk_cell HWX.out 0).trans rfl;by_cases hlt:k < d
    · have hd1:decide ((k:Int) < (d:Int))=true:=decide_eq_true (by omega)
      have hd2:decide (k < d)=true:=decide_eq_true hlt
      have hwk:wrap64 ((k:Int) + 1)=((k + 1:Nat):Int):=by have:=HD.out;unfold wrap64;omega
      have hwp:wrap64 (((p + k:Nat):Int) + 1)=((p + (k + 1):Nat):Int):=by have:=HD.out;have:=HP.out;unfold wrap64;omega
      have hlk:(nextV k x p).length=k:=by unfold nextV;simp
      obtain ⟨y,hy⟩:∃ y:Int,y=(if p + k < x.length then Int.tmod (wrap64 (rd x ((p + k:Nat):Int))) 5 else 0):=⟨_,rfl⟩
      have HWK:=mk0 hwk
      have HWP:=mk0 hwp
      have HLK:=mk0 hlk
      have HY:=mk0 hy
      have HKD:=mk0 hlt
      clear hwk hwp hlk hlt
      obtain ⟨q,hq⟩:∃ q:Int,q=((p + k:Nat):Int):=⟨_,rfl⟩
      rw [← hq] at hc1
      have hf1:=blk_frozen HA.out 0
      by_cases hin:p + k < x.length
      · have q0:(0:Int) ≤ q:=by omega
        have q1:q < (x.length:Int):=by omega
        obtain ⟨ad,e,hx0⟩:=Kd.at_int HC.out q q0 q1
        cases e
        have hx1:=(HBW.out.cell (World.block_lt_of_cell? w0 _ hx0)).trans hx0
        have hd3:decide (q < (x.length:Int))=true:=decide_eq_true q1
        have p0:((0:Int) ≤ q)=True:=eq_true q0
        have p1:(q < (x.length:Int))=True:=eq_true q1
        have hyv:Int.tmod (wrap64 (rd x q)) 5=y:=by rw [hy,if_pos hin,hq]
        have HQ:=mk0 hq
        have HIN:=mk0 hin
        clear hx0 q0 q1 hy hq hin
        go_wp2_with (first
          | ((with_reducible refine gate_builtin (b:=.append) (xs:=#[.tmp 23,.tmp 25]) rfl ?_);at_builtin;refine Kd.R_append (Kd.int .i64) (w0:=wr) W.heap.size rfl (.tmp 23) (.tmp 25) 23 3 (.int .i64 0) 8 rfl Try.underlying23 info3 rfl (by decide) (by omega) u4 (nextV k x p) y [.int .i64 y] (fun _=>True) (fun _=>False) rfl (by first|rfl|(rw [← hyv];rfl)) ?aP (fun _ hk=>hk.elim) ?aF ?aO ?aB ?aS ?aL ?_;(case aP=>exact rfl);(case aB=>exact Below.refl _ _);(case aF=>exact (fun _ _=>trivial));(case aO=>exact HR.out);(case aS=>exact HGR.out.size);(case aL=>rw [HLK.out];have:=HD.out;have:=HKD.out;omega);intro v1 w1 ho hb hg hat;have HR1:=mk0 ho;have HA1:=mk0 ((hg.block gat (Array.getElem?_eq_some_iff.1 HA.out).1 (fun e=>by have:=Kd.R_base HR.out gat e.symm;have:=HL.out;omega)).trans HA.out);have HGR1:=mk0 (mg_snoc HGR.out hb);clear ho hb hg hat;have hc3:w1.cell? ⟨gat,0,none⟩=some (.int .i64 q):=(blk_cell HA1.out 0).trans (by rw [HQ.out];rfl);have hf3:=blk_frozen HA1.out 0))
        go_roundw
        case measure=>rw [HWK.out];simp only [intOf];have:=HKD.out;omega
        case rel =>
          rw [HWK.out];refine ⟨k + 1,rfl,⟨by have:=HKD.out;omega⟩,⟨?_⟩,⟨?_⟩,⟨mg_set HGR1.out _⟩⟩
          · rw [nextV_succ,← HY.out]
            exact Kd.R_mono (Kd.R_far (p:=⟨gat,0,none⟩) (Kd.R_bound HR1.out) (fun kk hk=>by have h1:=hk.2.1;have h2:=HL.out;show kk ≠ gat;omega) _) (fun _ _=>trivial)
          · rw [HQ.out,HWP.out];exact blk_put HA1.out 0 _ rfl
      · have hd3:decide (q < (x.length:Int))=false:=decide_eq_false (by omega)
        have hy0:y=0:=by rw [hy,if_neg hin]
        have HQ:=mk0 hq
        have HIN:=mk0 hin
        have HY0:=mk0 hy0
        clear hq hin hy hy0
        go_wp2_with (first
          | ((with_reducible refine gate_builtin (b:=.append) (xs:=#[.tmp 23,.tmp 25]) rfl ?_);at_builtin;refine Kd.R_append (Kd.int .i64) (w0:=wr) W.heap.size rfl (.tmp 23) (.tmp 25) 23 3 (.int .i64 0) 8 rfl Try.underlying23 info3 rfl (by decide) (by omega) u4 (nextV k x p) y [.int .i64 0] (fun _=>True) (fun _=>False) rfl rfl ?aP (fun _ hk=>hk.elim) ?aF ?aO ?aB ?aS ?aL ?_;(case aP=>rw [HY0.out];exact rfl);(case aB=>exact Below.refl _ _);(case aF=>exact (fun _ _=>trivial));(case aO=>exact HR.out);(case aS=>exact HGR.out.size);(case aL=>rw [HLK.out];have:=HD.out;have:=HKD.out;omega);intro v1 w1 ho hb hg hat;have HR1:=mk0 ho;have HA1:=mk0 ((hg.block gat (Array.getElem?_eq_some_iff.1 HA.out).1 (fun e=>by have:=Kd.R_base HR.out gat e.symm;have:=HL.out;omega)).trans HA.out);have HGR1:=mk0 (mg_snoc HGR.out hb);clear ho hb hg hat;have hc3:w1.cell? ⟨gat,0,none⟩=some (.int .i64 q):=(blk_cell HA1.out 0).trans (by rw [HQ.out];rfl);have hf3:=blk_frozen HA1.out 0))
        go_roundw
        case measure=>rw [HWK.out];simp only [intOf];have:=HKD.out;omega
        case rel =>
          rw [HWK.out];refine ⟨k + 1,rfl,⟨by have:=HKD.out;omega⟩,⟨?_⟩,⟨?_⟩,⟨mg_set HGR1.out _⟩⟩
          · rw [nextV_succ,← HY.out]
            exact Kd.R_mono (Kd.R_far (p:=⟨gat,0,none⟩) (Kd.R_bound HR1.out) (fun kk hk=>by have h1:=hk.2.1;have h2:=HL.out;show kk ≠ gat;omega) _) (fun _ _=>trivial)
          · rw [HQ.out,HWP.out];exact blk_put HA1.out 0 _ rfl
    · have hd1:decide ((k:Int) < (d:Int))=false:=decide_eq_false (by omega)
      have hd2:decide (k < d)=false:=decide_eq_false hlt
      have hkd:k=d:=by have:=HK.out;omega
      subst hkd
      go_wp2
      go_ret
      exact ⟨_,rfl,HR.out,HA.out,HGR.out⟩
def manyV (x:List Int) (p:Nat):Nat:=(Int.tmod (wrap64 (rd x (p:Int))) 3).toNat
def perV (d:Nat) (x:List Int) (q n:Nat):List (List Int):=(List.range n).map fun k=>nextV d x (q + d * k)
theorem perV_succ (d:Nat) (x:List Int) (q n:Nat):perV d x q (n + 1)=perV d x q n ++ [nextV d x (q + d * n)]:=by unfold perV;rw [List.range_succ,List.map_append];rfl
def madeG (d:Nat) (x:List Int):Nat → Nat → List S60
  | 0,_=>[]
  | m + 1,p=>if p < x.length then ⟨nextV d x (p + 1),perV d x (p + 1 + d) (manyV x p)⟩ :: madeG d x m (p + 1 + d + d * manyV x p) else []
def bellpulllaw05_made.f (a0:Int) (l1:List Int) (a2:Int):Option (List S60) :=
  if 0 ≤ a0∧a0 ≤ 3∧0 ≤ a2∧a2 ≤ 1000∧l1.length ≤ 4611686018427386000∧(l1.all fun z=>decide (0 ≤ z) && decide (z ≤ 255))=true then some (madeG a0.toNat l1 a2.toNat 0) else none
theorem manyV_le {x:List Int} (hx:∀ z,z ∈ x → 0 ≤ z∧z ≤ 255) {p:Nat} (hp:p < x.length):Int.tmod (wrap64 (rd x (p:Int))) 3=((manyV x p:Nat):Int)∧manyV x p ≤ 2:=by (have hr:rd x (p:Int)=x[p]'hp:=by simp [rd,List.getD_eq_getElem?_getD,List.getElem?_eq_getElem hp]);have h1:=hx _ (List.getElem_mem hp);(have hw:wrap64 (rd x (p:Int))=rd x (p:Int):=by rw [hr];unfold wrap64;omega);have ht:Int.tmod (rd x (p:Int)) 3=rd x (p:Int) % 3:=Int.tmod_eq_emod_of_nonneg (by rw [hr];exact h1.1);unfold manyV;rw [hw,ht];omega
def mg_len:Value → Nat
  | .slice _ n _=>n
  | _=>0
theorem mg_ne {W:World} {g t e:Nat} {cs:Array Value} {v:Value} (hb:W.heap[g]?=some (.cells cs t (0,0))) (hty:∀ k,v.ownBlock=some k → ∃ cells,W.heap[k]?=some (.cells cells e (0,0))) (hte:t ≠ e):some g ≠ v.ownBlock:=fun h=>by obtain ⟨cells,hc⟩:=hty g h.symm;rw [hc] at hb;injection hb with hb;injection hb with _ hb;exact hte hb.symm
theorem mg_R {α:Type} {d:Kd α} {e:Nat} {w w1:World} {base:Nat} {ok:Nat → Prop} {v:Value} {xs:List α} {g:Nat} (h:d.R e w base ok v xs) (hg:w.grownBy w1 (some g)) (hok:∀ k,ok k → k ≠ g):d.R e w1 base ok v xs :=
  Kd.R_mono (Kd.R_move (Kd.R_bound h) (fun k hk=>hg.block k hk.2.2.1 (fun e=>hok k hk.1 (by injection e)))) (fun _ hk=>hk.1)
set_option maxHeartbeats 4000000 in
set_option maxRecDepth 100000 in
theorem bellpulllaw05_made.calls (a0:Int) (A1:Option Addr) (c1:Nat) (l1:List Int) (a2:Int) (r:List S60) (w:World) (hr1:Kd.C (Kd.int .u8) w A1 l1.length l1) (hc1:l1.length ≤ c1) (h:bellpulllaw05_made.f a0 l1 a2=some r) :
    Calls Try.prog 76 #[.int .i64 a0,.slice A1 l1.length c1,.int .i64 a2] w fun e w'=>∃ v0_:Value,e=.returned v0_∧Kd.R k60 60 w' w.heap.size (fun _=>True) v0_ r∧Below w.heap.size w w':=by
  unfold bellpulllaw05_made.f at h;split at h;(case isFalse=>cases h);rename_i hall;obtain ⟨h0,h3,hm0,hm1,hlen,hx0⟩:=hall;obtain rfl:=Option.some.inj h;(have hx:∀ z,z ∈ l1 → 0 ≤ z∧z ≤ 255:=fun z hz=>by have:=List.all_eq_true.1 hx0 z hz;simp only [Bool.and_eq_true,decide_eq_true_eq] at this;exact this);obtain ⟨d,rfl⟩:∃ d:Nat,a0=(d:Int):=⟨a0.toNat,by omega⟩;obtain ⟨most,rfl⟩:∃ m:Nat,a2=(m:Int):=⟨a2.toNat,by omega⟩;rw [Int.toNat_natCast,Int.toNat_natCast];have HD:=mk0 (show d ≤ 3 by omega);have HM:=mk0 (show most ≤ 1000 by omega);have HLEN:=mk0 hlen;have HX:=mk0 hx;have HC:=mk0 hr1;have HB:=mk0 (Below.refl w.heap.size w);have eg:∀ args w,(callFunc 96 args).run Try.prog w=.ok (.enter 96 args) w:=enters_of Try.func96 (by kernel_rfl) rfl;clear h h0 h3 hm0 hm1 hlen hx0 hx hr1;go_enter Try.func76,Try.ntmps76
  go_wp2_with (first
    | ((with_reducible refine gate_dst (N:=3) rfl ?_);refine box_event ?hg (N:=3) ?hd (cs:=#[.int .i64 (d:Int)]) (t:=3) ?hr ?_;(case hd=>rfl);(case hg=>rfl);(case hr=>first|(go_simp;done)|(go_simp;rfl));intro gd hg w1 hbox hb;have HBD:=mk0 hbox;have HGD:=mk0 hg;replace HB:=mk0 (HB.out.trans (hb.mono (Nat.le_refl _)));clear hb hbox hg)
    | ((with_reducible refine gate_dst (N:=4) rfl ?_);refine box_event ?hg (N:=4) ?hd (cs:=#[.slice A1 l1.length c1]) (t:=50) ?hr ?_;(case hd=>rfl);(case hg=>rfl);(case hr=>first|(go_simp;done)|(go_simp;rfl));intro gx hg w2 hbox hb;have HBX:=mk0 hbox;have HGX:=mk0 hg;replace HBD:=mk0 (blk_below HBD.out hb);replace HB:=mk0 (HB.out.trans (hb.mono HB.out.size));clear hb hbox hg)
    | ((with_reducible refine gate_dst (N:=14) rfl ?_);refine Kd.R_lit k60 _ 60 ?hg (N:=14) ?hd (xs:=([]:List S60)) (inner:=[]) (ok:=fun _=>True) (okp:=fun _=>True) ?hr ?hp (fun _ hk=>hk) trivial (Below.refl _ _) (Nat.le_refl _) (by simp) ?_;(case hd=>rfl);(case hg=>rfl);(case hr=>first|(go_simp;done)|(go_simp;rfl));(case hp=>exact (Reps.none _ _));intro v7 w3 ho3 hb hg_ hnew_;have HO:=mk0 (Kd.R_lower ho3 HB.out.size);replace HBD:=mk0 (blk_below HBD.out hb);replace HBX:=mk0 (blk_below HBX.out hb);replace HB:=mk0 (HB.out.trans (hb.mono HB.out.size));clear hb ho3 hg_ hnew_)
    | ((with_reducible refine gate_dst (N:=8) rfl ?_);refine box_event ?hg (N:=8) ?hd (cs:=#[.int .i64 0]) (t:=3) ?hr ?_;(case hd=>rfl);(case hg=>rfl);(case hr=>first|(go_simp;done)|(go_simp;rfl));intro gat hg w4 hbox hb;have HBA:=mk0 hbox;have HGA:=mk0 hg;have HNE:=mk0 (show gd ≠ gat∧gx ≠ gat from ⟨by have:=(Array.getElem?_eq_some_iff.1 HBD.out).1;omega,by have:=(Array.getElem?_eq_some_iff.1 HBX.out).1;omega⟩);have HGW:=mk0 (show w.heap.size ≤ gat from by have:=HB.out.size;omega);replace HO:=mk0 (Kd.R_below (Kd.R_mono (Kd.R_bound HO.out) (ok':=fun k=>k ≠ gat) (fun k hk=>by have:=hk.2.2.1;omega)) hb);replace HBD:=mk0 (blk_below HBD.out hb);replace HBX:=mk0 (blk_below HBX.out hb);replace HB:=mk0 (HB.out.trans (hb.mono HB.out.size));clear hb hbox hg;have hc8:w4.cell? ⟨gat,0,none⟩=some (.int .i64 0):=(blk_cell HBA.out 0).trans rfl;have hf8:=blk_frozen HBA.out 0))
  go_loopw [7] (fun v7 wr=>∃ (o:List S60) (p:Nat) (A:Option Addr) (c:Nat),v7=.slice A o.length c∧Aside0 (o ++ madeG d l1 (most - o.length) p=madeG d l1 most 0)∧Aside0 (o.length ≤ most)∧Aside0 (p ≤ l1.length + 9)∧Aside0 (Kd.R k60 60 wr w.heap.size (fun k=>k ≠ gat) (.slice A o.length c) o) ∧
      Aside0 (wr.heap[gd]?=some (.cells #[.int .i64 (d:Int)] 3 (0,0)))∧Aside0 (wr.heap[gx]?=some (.cells #[.slice A1 l1.length c1] 50 (0,0)))∧Aside0 (wr.heap[gat]?=some (.cells #[.int .i64 (p:Int)] 3 (0,0)))∧Aside0 (Below w.heap.size w wr)) (fun v7 _=>most - mg_len v7)
  case atStart =>obtain ⟨A,c,rfl⟩:=Kd.R_slice HO.out;refine ⟨[],0,A,c,rfl,⟨by simp⟩,⟨Nat.zero_le _⟩,⟨Nat.zero_le _⟩,⟨Kd.R_far (p:=⟨gat,0,none⟩) HO.out (fun _ hk=>hk) _⟩,⟨blk_far HBD.out HNE.out.1 _⟩,⟨blk_far HBX.out HNE.out.2 _⟩,⟨blk_put HBA.out 0 _ rfl⟩,⟨below_set HB.out HGW.out⟩⟩
  case round =>
    clear HO HBD HBX HBA HB hc8 hf8 HGD HGX HGA;obtain ⟨o,p,A,c,rfl,HREL,HOL,HP,HO,HBD,HBX,HBA,HB⟩:=hrel;have hcx:wr.cell? ⟨gx,0,none⟩=some (.slice A1 l1.length c1):=(blk_cell HBX.out 0).trans rfl;by_cases hl:o.length < most
    · have hd1:decide ((o.length:Int) < (most:Int))=true:=decide_eq_true (by omega)
      have hd2:decide (o.length < most)=true:=decide_eq_true hl
      by_cases hp:p < l1.length
      · obtain ⟨q,hq⟩:∃ q:Int,q=(p:Int):=⟨_,rfl⟩
        have hca:wr.cell? ⟨gat,0,none⟩=some (.int .i64 q):=(blk_cell HBA.out 0).trans (by rw [hq];rfl)
        have hfa:=blk_frozen HBA.out 0
        have hd3:decide (q < (l1.length:Int))=true:=decide_eq_true (by omega)
        have q0:(0:Int) ≤ q:=by omega
        have q1:q < (l1.length:Int):=by omega
        obtain ⟨ad,e,hx0⟩:=Kd.at_int HC.out q q0 q1
        cases e
        have hx1:=(HB.out.cell (World.block_lt_of_cell? w _ hx0)).trans hx0
        have p0:((0:Int) ≤ q)=True:=eq_true q0
        have p1:(q < (l1.length:Int))=True:=eq_true q1
        obtain ⟨hmv,hm2⟩:=manyV_le HX.out hp
        rw [← hq] at hmv
        obtain ⟨n,hn⟩:∃ n:Nat,n=manyV l1 p:=⟨_,rfl⟩
        rw [← hn] at hmv hm2
        have hwq:wrap64 (q + 1)=((p + 1:Nat):Int):=by have:=HLEN.out;unfold wrap64;omega
        have HN:=mk0 hn
        have HQ:=mk0 hq
        have HPL:=mk0 hp
        have HLM:=mk0 hl
        have HN2:=mk0 hm2
        have HWQ:=mk0 hwq
        have hga:=(Array.getElem?_eq_some_iff.1 HBA.out).1
        have HGLT:=mk0 hga
        clear hx0 q0 q1 hq hp hl hn hm2 hwq hga
        have HO1:=mk0 (Kd.R_far (p:=⟨gat,0,none⟩) HO.out (fun _ hk=>hk) (.int .i64 (wrap64 (q + 1))))
        have HBD1:=mk0 (blk_far HBD.out HNE.out.1 (p:=⟨gat,0,none⟩) (.int .i64 (wrap64 (q + 1))))
        have HBX1:=mk0 (blk_far HBX.out HNE.out.2 (p:=⟨gat,0,none⟩) (.int .i64 (wrap64 (q + 1))))
        have HBA1:Aside0 ((wr.setCell ⟨gat,0,none⟩ (.int .i64 (wrap64 (q + 1)))).heap[gat]?=some (.cells #[.int .i64 ((p + 1:Nat):Int)] 3 (0,0))):=⟨by rw [HWQ.out];exact blk_put HBA.out 0 _ rfl⟩
        have HB1:Aside0 (Below w.heap.size w (wr.setCell ⟨gat,0,none⟩ (.int .i64 (wrap64 (q + 1))))):=⟨below_set HB.out HGW.out⟩
        clear HO HBD HBX HBA HB
        go_wp2_with (fail)
        generalize (wr.setCell ⟨gat,0,none⟩ (.int .i64 (wrap64 (q + 1))))=W1 at HO1 HBD1 HBX1 HBA1 HB1 ⊢;(with_reducible refine (made_next.calls d (p + 1) gd gat gx _ c1 l1 w W1 ?s1 ?s2 HNE.out.1 HNE.out.2 HGW.out HBD1.out HBA1.out HBX1.out HC.out HB1.out).mono ?_);(case s1=>have:=HD.out;omega);(case s2=>have:=HLEN.out;have:=HPL.out;omega);rintro e W2 ⟨vf,rfl,hR,hA,hG⟩;have HF:=mk0 (Kd.R_mono (Kd.R_bound hR) (ok':=fun k=>k ≠ gat) (fun k hk=>by have:=hk.2.1;have:=(Array.getElem?_eq_some_iff.1 HBA1.out).1;omega));have HO:=mk0 (mg_R HO1.out hG (fun _ hk=>hk));have HBD:=mk0 ((hG.block gd (Array.getElem?_eq_some_iff.1 HBD1.out).1 (fun e=>HNE.out.1 (by injection e))).trans HBD1.out);have HBX:=mk0 ((hG.block gx (Array.getElem?_eq_some_iff.1 HBX1.out).1 (fun e=>HNE.out.2 (by injection e))).trans HBX1.out);have HBA:=mk0 hA;have HB:=mk0 (HB1.out.trans (mg_below hG HGW.out HB1.out.size));replace HF:=mk0 (Kd.R_lower HF.out HB1.out.size);clear hR hA hG HO1 HBD1 HBX1 HBA1 HB1;obtain ⟨Af,cf,ef⟩:=Kd.R_slice HF.out;subst ef
        go_wp2_with (first
          | ((with_reducible refine gate_dst (N:=11) rfl ?_);refine box_event ?hg (N:=11) ?hd (cs:=#[.slice none 0 0,.slice none 0 0]) (t:=60) ?hr ?_;(case hd=>rfl);(case hg=>rfl);(case hr=>first|(go_simp;done)|(go_simp;rfl));intro gl hg w6 hbox hb;have HBL:=mk0 hbox;have HNL:=mk0 (show gd ≠ gl∧gx ≠ gl∧gat ≠ gl from ⟨by have:=(Array.getElem?_eq_some_iff.1 HBD.out).1;omega,by have:=(Array.getElem?_eq_some_iff.1 HBX.out).1;omega,by have:=(Array.getElem?_eq_some_iff.1 HBA.out).1;omega⟩);have HGL:=mk0 (show w.heap.size ≤ gl from by have:=HB.out.size;omega);replace HO:=mk0 (Kd.R_below (Kd.R_elderB HO.out gl (Nat.le_of_eq hg.symm)) hb);replace HF:=mk0 (Kd.R_below HF.out hb);replace HBD:=mk0 (blk_below HBD.out hb);replace HBX:=mk0 (blk_below HBX.out hb);replace HBA:=mk0 (blk_below HBA.out hb);replace HB:=mk0 (HB.out.trans (hb.mono HB.out.size));clear hb hbox hg;have hcl0:w6.cell? ⟨gl,0,none⟩=some (.slice none 0 0):=(blk_cell HBL.out 0).trans rfl;have hcl1:w6.cell? ⟨gl,1,none⟩=some (.slice none 0 0):=(blk_cell HBL.out 1).trans rfl;have hfl0:=blk_frozen HBL.out 0;have hfl1:=blk_frozen HBL.out 1))
        obtain ⟨F,hF⟩:∃ F:List Int,F=nextV d l1 (p + 1):=⟨_,rfl⟩
        rw [← hF] at HF
        have HFF:=mk0 hF
        rw [← hF]
        clear hF
        go_loopw [12] (fun v12 wi=>∃ (k:Nat) (u:Value),v12=.int .i64 (k:Int)∧Aside0 (k ≤ n)∧Aside0 (Kd.R k60 60 wi w.heap.size (fun z=>(z ≠ gat∧z ≠ gl)∧some z ≠ u.ownBlock) (.slice A o.length c) o)∧Aside0 (Kd.R (Kd.int .i64) 3 wi w.heap.size (fun z=>z ≠ gat) (.slice Af F.length cf) F) ∧
            Aside0 (Kd.R (Kd.slice 3 (Kd.int .i64)) 23 wi w.heap.size (fun z=>z ≠ gat) u (perV d l1 (p + 1 + d) k))∧Aside0 (wi.heap[gl]?=some (.cells #[.slice Af F.length cf,u] 60 (0,0))) ∧
            Aside0 (wi.heap[gd]?=some (.cells #[.int .i64 (d:Int)] 3 (0,0)))∧Aside0 (wi.heap[gx]?=some (.cells #[.slice (some ad) l1.length c1] 50 (0,0)))∧Aside0 (wi.heap[gat]?=some (.cells #[.int .i64 ((p + 1 + d + d * k:Nat):Int)] 3 (0,0)))∧Aside0 (Below w.heap.size w wi)) (fun v12 _=>n - (intOf v12).toNat)
        case atStart =>
          exact ⟨0,.slice none 0 0,rfl,⟨Nat.zero_le _⟩,⟨Kd.R_mono (Kd.R_far (p:=⟨gl,1,none⟩) (Kd.R_far (p:=⟨gl,0,none⟩) HO.out (fun _ hk=>hk.2) _) (fun _ hk=>hk.2) _) (fun _ hk=>⟨hk,by simp [Value.ownBlock]⟩)⟩,
            ⟨Kd.R_mono (Kd.R_far (p:=⟨gl,1,none⟩) (Kd.R_far (p:=⟨gl,0,none⟩) (Kd.R_types HF.out HBL.out (by decide)) (fun _ hk=>hk.2) _) (fun _ hk=>hk.2) _) (fun _ hk=>hk.1)⟩,⟨Kd.R_nil _ _ _ _ _⟩,
            ⟨by refine blk_put (cs:=#[.slice Af F.length cf,.slice none 0 0]) ?_ 1 _ rfl;exact blk_put HBL.out 0 _ rfl⟩,⟨blk_far (blk_far HBD.out HNL.out.1 _) HNL.out.1 _⟩,⟨blk_far (blk_far HBX.out HNL.out.2.1 _) HNL.out.2.1 _⟩,⟨blk_far (blk_far HBA.out HNL.out.2.2 _) HNL.out.2.2 _⟩,⟨below_set (below_set HB.out HGL.out) HGL.out⟩⟩
        case round =>
          clear HO HF HBL HBD HBX HBA HB hcl0 hcl1 hfl0 hfl1;obtain ⟨k,u,rfl,HK,HO,HF,HS,HBL,HBD,HBX,HBA,HB⟩:=hrel;have hcl0:wr.cell? ⟨gl,0,none⟩=some (.slice Af F.length cf):=(blk_cell HBL.out 0).trans rfl;have hcl1:wr.cell? ⟨gl,1,none⟩=some u:=(blk_cell HBL.out 1).trans rfl;by_cases hkn:k < n
          · have hd5:decide ((k:Int) < (n:Int))=true:=decide_eq_true (by omega)
            have hd6:decide (k < n)=true:=decide_eq_true hkn
            have hwk:wrap64 ((k:Int) + 1)=((k + 1:Nat):Int):=by have:=HN2.out;unfold wrap64;omega
            have HWK:=mk0 hwk
            have HKN:=mk0 hkn
            have hmul:d * k ≤ 6:=Nat.le_trans (Nat.mul_le_mul HD.out (show k ≤ 2 by have:=HN2.out;omega)) (by decide)
            have HMU:=mk0 hmul
            obtain ⟨p2,hp2⟩:∃ p2:Nat,p2=p + 1 + d + d * k:=⟨_,rfl⟩
            rw [← hp2] at HBA
            have HP2:=mk0 hp2
            have hpl:(perV d l1 (p + 1 + d) k).length=k:=by unfold perV;simp
            have HPV:=mk0 hpl
            clear hwk hkn hmul hp2 hpl
            go_wp2_with (fail)
            (with_reducible refine (made_next.calls d p2 gd gat gx _ c1 l1 w wr ?s1 ?s2 HNE.out.1 HNE.out.2 HGW.out HBD.out HBA.out HBX.out HC.out HB.out).mono ?_)
            case s1=>have:=HD.out;omega
            case s2=>rw [HP2.out];have:=HLEN.out;have:=HPL.out;have:=HMU.out;have:=HD.out;omega
            rintro e W2 ⟨vn,rfl,hR,hA,hG⟩
            have HV:=mk0 (Kd.R_lower (Kd.R_mono (Kd.R_bound hR) (ok':=fun k=>k ≠ gat) (fun z hk=>by have:=hk.2.1;have:=(Array.getElem?_eq_some_iff.1 HBA.out).1;omega)) HB.out.size)
            replace HO:=mk0 (mg_R HO.out hG (fun _ hk=>hk.1.1))
            replace HF:=mk0 (mg_R HF.out hG (fun _ hk=>hk))
            replace HS:=mk0 (mg_R HS.out hG (fun _ hk=>hk))
            replace HBL:=mk0 ((hG.block gl (Array.getElem?_eq_some_iff.1 HBL.out).1 (fun e=>HNL.out.2.2 (by injection e with e;exact e.symm))).trans HBL.out)
            replace HBD:=mk0 ((hG.block gd (Array.getElem?_eq_some_iff.1 HBD.out).1 (fun e=>HNE.out.1 (by injection e))).trans HBD.out)
            replace HBX:=mk0 ((hG.block gx (Array.getElem?_eq_some_iff.1 HBX.out).1 (fun e=>HNE.out.2 (by injection e))).trans HBX.out)
            replace HB:=mk0 (HB.out.trans (mg_below hG HGW.out HB.out.size))
            replace HBA:=mk0 hA
            clear hR hA hG hcl0 hcl1
            obtain ⟨V,hV⟩:∃ V:List Int,V=nextV d l1 p2:=⟨_,rfl⟩
            rw [← hV] at HV
            have HVV:=mk0 hV
            clear hV
            obtain ⟨An,cn,en⟩:=Kd.R_slice HV.out
            subst en
            go_wp2_with (first
              | ((with_reducible refine gate_builtin (b:=.append) (xs:=#[.tmp 44,.tmp 47]) rfl ?_);at_builtin;refine Kd.R_append (Kd.slice 3 (Kd.int .i64)) (w0:=w) w.heap.size rfl (.tmp 44) (.tmp 47) 58 23 (.slice none 0 0) 24 rfl Try.underlying58 info23 rfl (by decide) (by omega) u (perV d l1 (p + 1 + d) k) V [.slice An V.length cn] (fun z=>z ≠ gat) (fun z=>z ≠ gat∧some z ≠ u.ownBlock) rfl rfl ?aP (fun _ hk=>hk) ?aF ?aO ?aB ?aS ?aL ?_;(case aP=>exact Kd.M_row (Kd.R_apart' HV.out (Kd.R_typed HS.out) (by decide)));(case aF=>exact fun z hk=>Kd.freshB HBA.out z hk);(case aO=>exact HS.out);(case aB=>exact HB.out);(case aS=>exact below_size HB.out);(case aL=>rw [HPV.out];have:=HKN.out;have:=HN2.out;omega);intro u1 w9 ho hb hg hat;replace HO:=mk0 (Kd.R_after (ok:=fun z=>z ≠ gat∧z ≠ gl) HO.out hg hat);replace HF:=mk0 (Kd.R_over' HF.out (Kd.R_typed HS.out) (by decide) hg);replace HBL:=mk0 (blk_grown HBL.out hg (mg_ne HBL.out (Kd.R_typed HS.out) (by decide)));replace HBD:=mk0 (blk_grown HBD.out hg (mg_ne HBD.out (Kd.R_typed HS.out) (by decide)));replace HBX:=mk0 (blk_grown HBX.out hg (mg_ne HBX.out (Kd.R_typed HS.out) (by decide)));replace HBA:=mk0 (blk_grown HBA.out hg (mg_ne HBA.out (Kd.R_typed HS.out) (by decide)));obtain ⟨P2,hP2⟩:∃ P2:List (List Int),P2=perV d l1 (p + 1 + d) k ++ [V]:=⟨_,rfl⟩;rw [← hP2] at ho;have HP3:=mk0 hP2;replace HS:=mk0 ho;replace HB:=mk0 hb;clear ho hb hg hat hP2;obtain ⟨A8,c8,e8⟩:=Kd.R_slice HS.out;subst e8;have hcl0:w9.cell? ⟨gl,0,none⟩=some (.slice Af F.length cf):=(blk_cell HBL.out 0).trans rfl;have hcl1:w9.cell? ⟨gl,1,none⟩=some u:=(blk_cell HBL.out 1).trans rfl;have hfl0:=blk_frozen HBL.out 0;have hfl1:=blk_frozen HBL.out 1))
            go_roundw
            case measure=>rw [HWK.out];simp only [intOf];have:=HKN.out;omega
            case rel =>
              rw [HWK.out];refine ⟨k + 1,.slice A8 P2.length c8,rfl,⟨by have:=HKN.out;omega⟩,⟨Kd.R_far (p:=⟨gl,1,none⟩) HO.out (fun _ hk=>hk.1.2) _⟩,⟨Kd.R_mono (Kd.R_far (p:=⟨gl,1,none⟩) (Kd.R_types HF.out HBL.out (by decide)) (fun _ hk=>hk.2) _) (fun _ hk=>hk.1)⟩,⟨?_⟩,⟨blk_put HBL.out 1 _ rfl⟩,⟨blk_far HBD.out HNL.out.1 _⟩,⟨blk_far HBX.out HNL.out.2.1 _⟩,⟨?_⟩,⟨below_set HB.out HGL.out⟩⟩
              · rw [perV_succ,← HP2.out,← HVV.out,← HP3.out]
                exact Kd.R_mono (Kd.R_far (p:=⟨gl,1,none⟩) (Kd.R_types HS.out HBL.out (by decide)) (fun _ hk=>hk.2) _) (fun _ hk=>hk.1)
              · rw [show p + 1 + d + d * (k + 1)=p2 + d from by rw [HP2.out,Nat.mul_succ];omega]
                exact blk_far HBA.out HNL.out.2.2 _
          · have hd5:decide ((k:Int) < (n:Int))=false:=decide_eq_false (by omega)
            have hd6:decide (k < n)=false:=decide_eq_false hkn
            obtain rfl:k=n:=by have:=HK.out;omega
            obtain ⟨Au,cu,rfl⟩:=Kd.R_slice HS.out
            obtain ⟨P,hP⟩:∃ P:List (List Int),P=perV d l1 (p + 1 + d) k:=⟨_,rfl⟩
            rw [← hP] at HS hcl1 HBL HO
            have HPP:=mk0 hP
            clear hP hkn
            go_wp2_with (first
              | ((with_reducible refine gate_builtin (b:=.append) (xs:=#[.tmp 50,.tmp 52]) rfl ?_);at_builtin;refine Kd.R_append k60 (w0:=w) w.heap.size rfl (.tmp 50) (.tmp 52) 22 60 (.agg #[(.slice none 0 0),(.slice none 0 0)]) 48 rfl Try.underlying22 info60 rfl (by decide) (by omega) (.slice A o.length c) o (⟨F,P⟩:S60) [.slice Af F.length cf,.slice Au P.length cu] (fun z=>z ≠ gat) (fun z=>z ≠ gat∧some z ≠ (.slice A o.length c:Value).ownBlock) rfl rfl ?aP (fun _ hk=>hk) ?aF ?aO ?aB ?aS ?aL ?_;(case aP=>exact k60_mkM _ _ _ (⟨F,P⟩:S60) (Kd.R_apart' HF.out (Kd.R_typed HO.out) (by decide)) (Kd.R_apart' HS.out (Kd.R_typed HO.out) (by decide)));(case aF=>exact fun z hk=>Kd.freshB HBA.out z hk);(case aO=>exact Kd.R_mono HO.out (fun _ h=>h.1.1));(case aB=>exact HB.out);(case aS=>exact below_size HB.out);(case aL=>have:=HLM.out;have:=HM.out;omega);intro u2 w10 ho hb hg hat;replace HBD:=mk0 (blk_grown HBD.out hg (mg_ne HBD.out (Kd.R_typed HO.out) (by decide)));replace HBX:=mk0 (blk_grown HBX.out hg (mg_ne HBX.out (Kd.R_typed HO.out) (by decide)));replace HBA:=mk0 (blk_grown HBA.out hg (mg_ne HBA.out (Kd.R_typed HO.out) (by decide)));replace HO:=mk0 ho;replace HB:=mk0 hb;clear ho hb hg hat;obtain ⟨A9,c9,e9⟩:=Kd.R_slice HO.out;subst e9))
            go_roundw
            case measure=>simp only [mg_len];have:=HLM.out;omega
            case rel =>
              refine ⟨o ++ [⟨F,P⟩],p + 1 + d + d * k,A9,c9,by simp,⟨?_⟩,⟨by rw [List.length_append,List.length_singleton];have:=HLM.out;omega⟩,⟨?_⟩,HO,HBD,HBX,HBA,HB⟩
              · have h1:=HREL.out
                obtain ⟨m,hm⟩:∃ m,most - o.length=m + 1:=⟨most - o.length - 1,by have:=HLM.out;omega⟩
                rw [hm,madeG,if_pos HPL.out,← HN.out,← HFF.out,← HPP.out] at h1
                rw [List.length_append,List.length_singleton,show most - (o.length + 1)=m by omega,List.append_assoc]
                exact h1
              · have hmul:d * k ≤ 6:=Nat.le_trans (Nat.mul_le_mul HD.out (show k ≤ 2 from HN2.out)) (by decide)
                have:=HD.out;have:=HPL.out;omega
      · obtain ⟨q,hq⟩:∃ q:Int,q=(p:Int):=⟨_,rfl⟩
        have hca:wr.cell? ⟨gat,0,none⟩=some (.int .i64 q):=(blk_cell HBA.out 0).trans (by rw [hq];rfl)
        have hd3:decide (q < (l1.length:Int))=false:=decide_eq_false (by omega)
        have e1:madeG d l1 (most - o.length) p=[]:=by obtain ⟨m,hm⟩:∃ m,most - o.length=m + 1:=⟨most - o.length - 1,by omega⟩;rw [hm,madeG,if_neg hp]
        have HE:=mk0 e1
        clear hq hp hl e1
        go_wp2
        go_ret
        refine ⟨_,rfl,?_,HB.out⟩
        rw [← HREL.out,HE.out,List.append_nil]
        exact Kd.R_mono HO.out (fun _ _=>trivial)
    · have hd1:decide ((o.length:Int) < (most:Int))=false:=decide_eq_false (by omega)
      have hd2:decide (o.length < most)=false:=decide_eq_false hl
      have e1:madeG d l1 (most - o.length) p=[]:=by rw [show most - o.length=0 by omega,madeG]
      have HE:=mk0 e1
      clear hl e1
      go_wp2
      go_ret
      refine ⟨_,rfl,?_,HB.out⟩
      rw [← HREL.out,HE.out,List.append_nil]
      exact Kd.R_mono HO.out (fun _ _=>trivial)
end Go.Proofs.Ytkonljiembcdlaa.PC
namespace Go.Proofs.Ytkonljiembcdlaa.PC
open Go.Proofs.MyWords Go.RowKit Go.Proofs.YtkonljiembcdlaaW.PrintWords Go.Proofs.YtkonljiembcdlaaW.PrintLast Go.Proofs.YtkonljiembcdlaaW.PrintMore
attribute [local go_sem] max2_int min2_int max_two min_two max_three min_three max_four min_four   -- for this text's walks alone
set_option linter.unusedVariables false
set_option linter.unusedSimpArgs false
attribute [local go_sem] eqGuard_slices eqlnil23 neqnil23 eqlnil58 neqnil58
def bellpulllaw05_Plan_sets.f (a0_0:Int) (l0_1:List Int) (l0_2:List Int) (a1:Int):Option (Int × (List (S60)) × (List (S60))):=(bellpulllaw05_made.f (wrap64 ((Int.tmod (wrap64 (a0_0)) 3) + 1)) l0_1 a1).bind fun t778=>((bellpulllaw05_made.f (wrap64 ((Int.tmod (wrap64 (a0_0)) 3) + 1)) l0_2 a1).bind fun t781=>(some (wrap64 ((Int.tmod (wrap64 (a0_0)) 3) + 1),t778,t781)))
def bellpulllaw05_Plan_sets.T2:Bool × List (List Nat × List Nat):=(true,[([],[]),([],[]),([],[]),([2],[2]),([],[]),([1,3,4],[1,3,4]),([],[]),([],[]),([7],[7]),([],[]),([6,8,9,5],[6,8,9]),([0,10,0],[0]),([5,11,0,1,2,3,4,5,11],[5]),([10,12,0,1,2,3,4,5,6,7,8,9,10,11,12],[10])])
def bellpulllaw05_Plan_sets.B2:List Nat:=[0,0,0,4,0,30,0,0,128,0,1022,2047,4095,8191]
theorem bellpulllaw05_Plan_sets.tab2:rtab .any (opsOf Try.f33 2)=bellpulllaw05_Plan_sets.T2:=by kernel_rfl
theorem bellpulllaw05_Plan_sets.bits2:waitsOk bellpulllaw05_Plan_sets.T2.2 bellpulllaw05_Plan_sets.B2=true:=by kernel_rfl
set_option maxHeartbeats 8000000 in
set_option maxRecDepth 100000 in
theorem bellpulllaw05_Plan_sets.calls (D:Int) (M:Option Addr) (O:Nat) (F:List Int) (Q:Option Addr) (T:Nat) (G:List Int) (X:Int) (r1:Int) (r2:List (S60)) (r3:List (S60)) (w:World) (a0:Kd.C (Kd.int .u8) w M F.length F) (a2:F.length ≤ O) (a3:Kd.C (Kd.int .u8) w Q G.length G) (a4:G.length ≤ T) (h:bellpulllaw05_Plan_sets.f D F G X=some (r1,r2,r3)) :
    Calls Try.prog 33 #[.agg #[.int .u8 D,.slice M F.length O,.slice Q G.length T],.int .i64 X] w fun e w'=>∃ a5 a6:Value,e=.returned (.tuple #[.int .i64 r1,a5,a6])∧Kd.R k60 60 w' w.heap.size (fun k_=>some k_ ≠ (a6:Value).ownBlock) a5 r2∧Kd.R k60 60 w' w.heap.size (fun k_=>some k_ ≠ (a5:Value).ownBlock) a6 r3∧Below w.heap.size w w':=by
 (have c8:=Try.underlying55;have a9:=mk0 a0;have b0:=mk0 a2;clear a0 a2;have b1:=mk0 a3;have b2:=mk0 a4;clear a3 a4;have I:=mk0 (Below.refl w.heap.size w);have H:((bellpulllaw05_made.f (wrap64 ((Int.tmod (wrap64 (D)) 3) + 1)) F X).bind fun Y=>((bellpulllaw05_made.f (wrap64 ((Int.tmod (wrap64 (D)) 3) + 1)) G X).bind fun Z=>(some (wrap64 ((Int.tmod (wrap64 (D)) 3) + 1),Y,Z))))=some (r1,r2,r3):=h;clear h;replace H:=Option.bind_eq_some_iff.mp H;obtain ⟨Y,b6,H⟩:=H;(try dsimp only at H);have A3:=mk0 b6;clear b6;replace H:=Option.bind_eq_some_iff.mp H;obtain ⟨Z,b7,H⟩:=H;(try dsimp only at H);have A4:=mk0 b7;clear b7;simp only [Option.some.injEq,Prod.mk.injEq] at H;obtain ⟨rfl,rfl,rfl⟩:=H;go_enter Try.func33,Try.ntmps33;try go_wp2_with (first|((with_reducible refine gate_dst (N:=2) rfl ?_);refine box_event ?hg (N:=2) ?hd (cs:=#[.int .u8 D,.slice M F.length O,.slice Q G.length T]) (t:=55) ?hr ?_;(case hd=>rfl);(case hg=>rfl);(case hr=>first|(go_simp;done)|(go_simp;rfl));intro V hg w5 a7 hb;have B:=mk0 (a7);have b3:=szw hg I;have b4:=b3;replace I:=bst I hb;clear hb a7 hg;have c2:=q0_ B;have c3:=q1_ B;have c4:=q2_ B;have c5:=blk_frozen B.1 0;have c6:=blk_frozen B.1 1;have c7:=blk_frozen B.1 2)));replace B:=bdr B;replace I:=hdr I;refine start_ (n:=14) (S:=fun w'=>w'.cell? ⟨V,0,none⟩=some (.int .u8 D)∧w'.cell? ⟨V,1,none⟩=some (.slice M F.length O)∧w'.cell? ⟨V,2,none⟩=some (.slice Q G.length T)) (ds:=[]) #[n_,n_,n_,n_,n_,n_,n_,n_,n_,n_,n_,n_,n_,n_] (by kernel_rfl) rfl rfl ⟨q0_ B,q1_ B,q2_ B⟩ (fun J=>?_);refine with_tabW bellpulllaw05_Plan_sets.tab2 bellpulllaw05_Plan_sets.bits2 (fun E b8=>?_);generalize w5.drew=w7 at B I J ⊢;refine pure_ (i:=0) (N:=some 13) (v:=?_) (a':=?_) #[y_,n_,n_,n_,n_,n_,n_,n_,n_,n_,n_,n_,n_,n_] rfl rfl (any_of E.1 (by kernel_rfl)) (fun _ _ _ h=>h) (Or.inl ⟨by rfl,?_⟩) ?_ ?_;rotate_left;(· intro w';go_simp;with_reducible rfl);rotate_left;(· simp only [Act.put,s0_,s1_,s2_,i64_w,i32_w];rfl);refine pure_ (i:=1) (N:=some 14) (v:=?_) (a':=?_) #[y_,y_,n_,n_,n_,n_,n_,n_,n_,n_,n_,n_,n_,n_] rfl rfl (any_of E.1 (by kernel_rfl)) (fun _ _ _ h=>h) (Or.inl ⟨by rfl,?_⟩) ?_ ?_;rotate_left;(· intro w';go_simp;with_reducible rfl);rotate_left;(· simp only [Act.put,s0_,s1_,s2_,i64_w,i32_w];rfl);refine pure_ (i:=2) (N:=some 15) (v:=?_) (a':=?_) #[y_,y_,y_,n_,n_,n_,n_,n_,n_,n_,n_,n_,n_,n_] rfl rfl (any_of E.1 (by kernel_rfl)) (fun _ _ _ h=>h) (Or.inl ⟨by rfl,?_⟩) ?_ ?_;rotate_left;(· intro w';go_simp;with_reducible rfl);rotate_left;(· simp only [Act.put,s0_,s1_,s2_,i64_w,i32_w];rfl);refine pure_ (i:=4) (N:=some 17) (v:=?_) (a':=?_) #[y_,y_,y_,n_,y_,n_,n_,n_,n_,n_,n_,n_,n_,n_] rfl rfl (any_of E.1 (by kernel_rfl)) (fun _ _ _ h=>h) (Or.inl ⟨by rfl,?_⟩) ?_ ?_;rotate_left;(· intro w';go_simp;with_reducible rfl);rotate_left;(· simp only [Act.put,s0_,s1_,s2_,i64_w,i32_w];rfl);refine pure_ (i:=6) (N:=some 19) (v:=?_) (a':=?_) #[y_,y_,y_,n_,y_,n_,y_,n_,n_,n_,n_,n_,n_,n_] rfl rfl (any_of E.1 (by kernel_rfl)) (fun _ _ _ h=>h) (Or.inl ⟨by rfl,?_⟩) ?_ ?_;rotate_left;(· intro w';go_simp;with_reducible rfl);rotate_left;(· simp only [Act.put,s0_,s1_,s2_,i64_w,i32_w];rfl);refine pure_ (i:=7) (N:=some 20) (v:=?_) (a':=?_) #[y_,y_,y_,n_,y_,n_,y_,y_,n_,n_,n_,n_,n_,n_] rfl rfl (any_of E.1 (by kernel_rfl)) (fun _ _ _ h=>h) (Or.inl ⟨by rfl,?_⟩) ?_ ?_;rotate_left;(· intro w';go_simp;with_reducible rfl);rotate_left;(· simp only [Act.put,s0_,s1_,s2_,i64_w,i32_w];rfl);refine pure_ (i:=9) (N:=some 22) (v:=?_) (a':=?_) #[y_,y_,y_,n_,y_,n_,y_,y_,n_,y_,n_,n_,n_,n_] rfl rfl (any_of E.1 (by kernel_rfl)) (fun _ _ _ h=>h) (Or.inl ⟨by rfl,?_⟩) ?_ ?_;rotate_left;(· intro w';go_simp;with_reducible rfl);rotate_left;(· simp only [Act.put,s0_,s1_,s2_,i64_w,i32_w];rfl);refine take_ (i:=3) (N:=some 16) (v:=?_) (a':=?_) #[y_,y_,y_,y_,y_,n_,y_,y_,n_,y_,n_,n_,n_,n_] rfl rfl (take_ofW E.1 b8.1 (by kernel_rfl)) (fun _ _ _ h=>h) (Or.inl ⟨by rfl,?_⟩) J ?_ ?_;rotate_left;(· rintro w' ⟨s0,s1,s2⟩;go_simp;with_reducible rfl);rotate_left;(· simp only [Act.put,s0_,s1_,s2_,i64_w,i32_w];rfl);refine take_ (i:=8) (N:=some 21) (v:=?_) (a':=?_) #[y_,y_,y_,y_,y_,n_,y_,y_,y_,y_,n_,n_,n_,n_] rfl rfl (take_ofW E.1 b8.1 (by kernel_rfl)) (fun _ _ _ h=>h) (Or.inl ⟨by rfl,?_⟩) J ?_ ?_;rotate_left;(· rintro w' ⟨s0,s1,s2⟩;go_simp;with_reducible rfl);rotate_left;(· simp only [Act.put,s0_,s1_,s2_,i64_w,i32_w];rfl);(refine one_ (i:=5) (N:=some 18) #[y_,y_,y_,y_,y_,y_,y_,y_,y_,y_,n_,n_,n_,n_] rfl rfl (one_of E.1 (by kernel_rfl)) (by decide) (fun K hK=>?_);refine goes_ Try.func76 (by kernel_rfl) rfl #[.int .i64 (wrap64 ((Int.tmod (wrap64 (D)) 3) + 1)),.slice M F.length O,.int .i64 X] (by rfl) rfl rfl (by (try simp only [m0_,m1_,m2_]);first|done|rfl|(simp only [l0_,l1_];rfl)) ?_;with_reducible refine (bellpulllaw05_made.calls (wrap64 ((Int.tmod (wrap64 (D)) 3) + 1)) _ _ F X Y _ ?side1 ?side2 A3.1).mono ?_);(case side1=>repeat (first|exact (Kd.C_below a9.1 I.1)|(with_reducible refine Kd.C_alloc ?_ _)|(with_reducible refine Kd.C_drewN ?_ _)|(with_reducible refine Kd.C_drew ?_)));(case side2=>exact b0.1);rintro e w8 ⟨d5,rfl,U,hb⟩;refine ⟨_,rfl,?_⟩;have L:=mk0 (Kd.R_lower U (below_size I.1));replace B:=bkb B hb;replace I:=bst I hb;(try clear hb);(try clear U);refine hK.out _ _ ⟨q0_ B,q1_ B,q2_ B⟩ (fun J=>?_);clear hK K;refine norm_ (a':=?_) ?_ ?_;rotate_left;(· show Act.put _ (some 18) _=_;simp only [Act.put,s0_,s1_,s2_,i64_w,i32_w];rfl);(refine one_ (i:=10) (N:=some 23) #[y_,y_,y_,y_,y_,y_,y_,y_,y_,y_,y_,n_,n_,n_] rfl rfl (one_of E.1 (by kernel_rfl)) (by decide) (fun K hK=>?_);refine goes_ Try.func76 (by kernel_rfl) rfl #[.int .i64 (wrap64 ((Int.tmod (wrap64 (D)) 3) + 1)),.slice Q G.length T,.int .i64 X] (by rfl) rfl rfl (by (try simp only [m0_,m1_,m2_]);first|done|rfl|(simp only [l0_,l1_];rfl)) ?_;with_reducible refine (bellpulllaw05_made.calls (wrap64 ((Int.tmod (wrap64 (D)) 3) + 1)) _ _ G X Z _ ?side1 ?side2 A4.1).mono ?_);(case side1=>repeat (first|exact (Kd.C_below b1.1 I.1)|(with_reducible refine Kd.C_alloc ?_ _)|(with_reducible refine Kd.C_drewN ?_ _)|(with_reducible refine Kd.C_drew ?_)));(case side2=>exact b2.1);rintro e w9 ⟨d6,rfl,U,hb⟩;refine ⟨_,rfl,?_⟩;have b5:=mk0 (Kd.R_lower (Kd.R_new' U (Kd.R_lt L.1)) (below_size I.1));replace L:=mk0 (Kd.R_elder' L.1 (Kd.R_base U) hb);replace B:=bkb B hb;replace I:=bst I hb;(try clear hb);(try clear U);refine hK.out _ _ ⟨q0_ B,q1_ B,q2_ B⟩ (fun J=>?_);clear hK K;refine norm_ (a':=?_) ?_ ?_;rotate_left;(· show Act.put _ (some 23) _=_;simp only [Act.put,s0_,s1_,s2_,i64_w,i32_w];rfl);refine pure_ (i:=11) (N:=some 4) (v:=?_) (a':=?_) #[y_,y_,y_,y_,y_,y_,y_,y_,y_,y_,y_,y_,n_,n_] rfl rfl (any_of E.1 (by kernel_rfl)) (fun _ _ _ h=>h) (Or.inl ⟨by rfl,?_⟩) ?_ ?_;rotate_left;(· intro w';go_simp;with_reducible rfl);rotate_left;(· simp only [Act.put,s0_,s1_,s2_,i64_w,i32_w];rfl);refine pure_ (i:=12) (N:=some 5) (v:=?_) (a':=?_) #[y_,y_,y_,y_,y_,y_,y_,y_,y_,y_,y_,y_,y_,n_] rfl rfl (any_of E.1 (by kernel_rfl)) (fun _ _ _ h=>h) (Or.inl ⟨by rfl,?_⟩) ?_ ?_;rotate_left;(· intro w';go_simp;with_reducible rfl);rotate_left;(· simp only [Act.put,s0_,s1_,s2_,i64_w,i32_w];rfl);refine pure_ (i:=13) (N:=some 6) (v:=?_) (a':=?_) #[y_,y_,y_,y_,y_,y_,y_,y_,y_,y_,y_,y_,y_,y_] rfl rfl (any_of E.1 (by kernel_rfl)) (fun _ _ _ h=>h) (Or.inl ⟨by rfl,?_⟩) ?_ ?_;rotate_left;(· intro w';go_simp;with_reducible rfl);rotate_left;(· simp only [Act.put,s0_,s1_,s2_,i64_w,i32_w];rfl);(refine done_ (done_of E.1 (by kernel_rfl)) ?_;try go_wp2);go_ret3;exact ⟨_,_,by first|rfl|(simp [errW_none,errW_some] <;> rfl)|(simp [*,errW_none,errW_some] <;> rfl),by (with_reducible repeat (first|apply Kd.R_alloc|apply Kd.R_drewN|apply Kd.R_drew));exact Kd.R_mono L.1 (fun _ hk=>hk.2),by (with_reducible repeat (first|apply Kd.R_alloc|apply Kd.R_drewN|apply Kd.R_drew));exact Kd.R_mono b5.1 (fun _ hk=>hk.2),by repeat (first|(with_reducible first|exact I.1|apply below_alloc|apply pw_below_drewN|apply below_drew1|refine below_set ?_ b4.1)|exact I.1)⟩
end Go.Proofs.Ytkonljiembcdlaa.PC
namespace Go.Proofs.Ytkonljiembcdlaa.PC
open Go.Proofs.MyWords Go.RowKit Go.Proofs.YtkonljiembcdlaaW.PrintWords Go.Proofs.YtkonljiembcdlaaW.PrintLast Go.Proofs.YtkonljiembcdlaaW.PrintMore
set_option linter.unusedVariables false
set_option linter.unusedSimpArgs false
theorem C_V60 {w:World} {A:Option Addr} {c:Nat} {l:List S60} (h:Kd.C k60 w A l.length l) (hc:l.length ≤ c):Kd.V k60 60 w w.heap.size (fun k_=>k_ < w.heap.size) (.slice A l.length c) l:=Kd.V_mk hc (Kd.C_F k60_heap h)
end Go.Proofs.Ytkonljiembcdlaa.PC
namespace Go.Proofs.Ytkonljiembcdlaa.PC
open Go.Proofs.MyWords Go.RowKit Go.Proofs.YtkonljiembcdlaaW.PrintWords Go.Proofs.YtkonljiembcdlaaW.PrintLast Go.Proofs.YtkonljiembcdlaaW.PrintMore
set_option linter.unusedVariables false
set_option linter.unusedSimpArgs false
def order_one (d:Nat) (l:S60):S60:=⟨l.f0,if 0 < l.f1.length∧l.f1.length < 3 then (l.f1.reverse ++ [List.replicate d 0]) ++ [rd_L1 l.f1.reverse 0] else l.f1.reverse ++ [List.replicate d 0]⟩
def order_vec (d:Nat) (y:List Int):List Int:=(List.range d).map fun (i:Nat)=>Int.tmod (wrap64 (rd y (i:Int))) 12
def order_tail (k:Nat) (d:Int) (D E:List S60) (v:List Int) (m:Int):Option Bool :=
  (count_Has.f k d D v).bind fun a=>(count_Has.f k d E v).bind fun c=>(count_Count.f k d D m).bind fun g=>(count_Count.f k d E m).bind fun i =>
    if a.2=0∧c.2=0∧g.2=0∧i.2=0∧a.1=c.1∧g.1=i.1 then bellpulllaw05_lives.f k else none
def bellpulllaw05_CountOrder.f (k:Nat) (a:Int) (x y:List Int) (n y0 y1 y2:Int):Option Bool :=
  (bellpulllaw05_Plan_sets.f a x y 4).bind fun t=>if 0 ≤ t.1∧t.1 ≤ 3∧t.2.1.length ≤ 1000∧(∀ l ∈ t.2.1,l.f1.length ≤ 1000) then
    order_tail k t.1 t.2.1 (t.2.1.reverse.map (order_one t.1.toNat)) (order_vec t.1.toNat [y0,y1,y2]) (Int.tmod (wrap64 n) 12) else none
theorem at_F1 {w:World} {ok:Nat → Prop} {A:Option Addr} {n:Nat} {xs:List (List Int)} (h:Kd.F (Kd.slice 3 (Kd.int .i64)) w ok A n xs) (i:Int) (h0:0 ≤ i) (h1:i < n):∃ ad A0 c0,A=some ad∧w.cell? (ad.add i.toNat)=some (.slice A0 (rd_L1 xs i).length c0)∧(rd_L1 xs i).length ≤ c0∧Kd.F (Kd.int .i64) w ok A0 (rd_L1 xs i).length (rd_L1 xs i):=by
  obtain ⟨ad,c,e,_,hK,hc0,_⟩:=Kd.F_get h ([]:List Int) i h0 h1
  have hc:∀ j u,c[j]?=some u → w.cell? (ad.add (i.toNat * 1 + j))=some u:=hc0
  obtain ⟨A0,c0,rfl,l0,g0⟩:=Kd.FK_slice_open hK
  have h2:=hc 0 _ rfl
  rw [Nat.mul_one,Nat.add_zero] at h2
  exact ⟨ad,A0,c0,e,h2,l0,g0⟩
theorem FK_list {w:World} {ok:Nat → Prop} {A:Option Addr} {c:Nat} {xs:List Int} (hF:Kd.F (Kd.int .i64) w ok A xs.length xs) (hc:xs.length ≤ c):Kd.FK (Kd.slice 3 (Kd.int .i64)) w ok xs [.slice A xs.length c]:=fun W hW=>⟨A,c,rfl,hc,hF W hW⟩
theorem F_litz {W:World} {g z n:Nat} (h:W.heap[g]?=some (.cells #[.slice (some ⟨z,0,none⟩) n n] 23 (0,0))) (hz:W.heap[z]?=some (.cells (madeCells #[.int .i64 0] n) 3 (0,0))) (hn:n ≤ 100):Kd.F (Kd.slice 3 (Kd.int .i64)) W (fun k_=>k_=g ∨ k_=z) (some ⟨g,0,none⟩) [List.replicate n (0:Int)].length [List.replicate n 0] :=
  F_lit1 (p:=List.replicate n 0) (by rw [List.length_replicate];exact h) (F_zeros hz hn) (by rw [List.length_replicate];exact Nat.le_refl _)
theorem new3 (w:World) (E F o:Obj):(((w.alloc E).alloc F).alloc o).heap[w.heap.size + 2]?=some o:=by simpa using blk_new ((w.alloc E).alloc F) o
theorem ne3 (n:Nat):some (n + 2) ≠ some n:=fun h=>by have:=Option.some.inj h;omega
theorem ne4 (n:Nat):some n ≠ some (n + 2):=fun h=>by have:=Option.some.inj h;omega
set_option maxHeartbeats 4000000 in
set_option maxRecDepth 100000 in
theorem bellpulllaw05_CountOrder.calls (k:Nat) (Z:Int) (a5:Option Addr) (a6:Nat) (V:List Int) (a7:Option Addr) (a8:Nat) (X:List Int) (n y0 y1 y2:Int) (r:Bool) (w:World) (j7:Kd.C (Kd.int .u8) w a5 V.length V) (j8:V.length ≤ a6) (j9:Kd.C (Kd.int .u8) w a7 X.length X) (l2:X.length ≤ a8) (h:bellpulllaw05_CountOrder.f k Z V X n y0 y1 y2=some r) :
    Calls Try.prog 8 #[.agg #[.int .u8 Z,.slice a5 V.length a6,.slice a7 X.length a8],.int .u8 n,.agg #[.int .u8 y0,.int .u8 y1,.int .u8 y2]] w fun e w'=>e=.returned (.bool r)∧Below w.heap.size w w':=by
  unfold bellpulllaw05_CountOrder.f at h
  obtain ⟨⟨d,D,D2⟩,hs,h⟩:=Option.bind_eq_some_iff.mp h
  have p9:=Try.underlying55
  have p8:=Try.underlying51
  dsimp only at h
  split at h
  case isFalse=>cases h
  rename_i hok
  obtain ⟨nd,rfl⟩:∃ nd:Nat,d=nd:=⟨d.toNat,by omega⟩
  rw [Int.toNat_natCast] at h
  have HOK:Aside0 (nd ≤ 3∧D.length ≤ 1000∧(∀ l ∈ D,l.f1.length ≤ 1000)):=⟨⟨by omega,hok.2.2.1,hok.2.2.2⟩⟩
  have HH:=mk0 h
  clear h hok
  have HSETS:Aside0 (∀ W:World,Below w.heap.size w W → Calls Try.prog 33 #[.agg #[.int .u8 Z,.slice a5 V.length a6,.slice a7 X.length a8],.int .i64 4] W fun e w'=>∃ (A:Option Addr) (c:Nat) (v:Value),e=.returned (.tuple #[.int .i64 nd,.slice A D.length c,v])∧D.length ≤ c∧Kd.C k60 w' A D.length D∧Below W.heap.size W w'):=⟨fun W hW=>by
    refine (bellpulllaw05_Plan_sets.calls Z _ _ V _ _ X 4 nd D D2 W (Kd.C_below j7 hW) j8 (Kd.C_below j9 hW) l2 hs).mono ?_
    rintro e w' ⟨v1,v2,rfl,h1,_,hb⟩
    obtain ⟨A,c,rfl⟩:=Kd.R_slice h1
    exact ⟨A,c,v2,rfl,(Kd.R_reads' h1).2.1,(Kd.R_reads' h1).2.2,hb⟩⟩
  clear hs j7 j8 j9 l2
  have HB:=mk0 (Below.refl w.heap.size w)
  go_enter Try.func8,Try.ntmps8
  go_upto_region 2 with (first
    | ((with_reducible refine gate_dst (N:=3) rfl ?_);(try (refine gate_guard (by rfl) ?_;dsimp only));refine box_event ?hg (N:=3) ?hd (cs:=#[.int .u8 Z,.slice a5 V.length a6,.slice a7 X.length a8]) (t:=55) ?hr ?_;(case hd=>rfl);(case hg=>rfl);(case hr=>first|(go_simp;done)|(go_simp;rfl));intro gp hg w8 h2 hb;have BU:=mk0 h2;replace HB:=mk0 (below_step HB.out hb);clear hb h2 hg;have e8:=q0_ BU;have e9:=q1_ BU;have f2:=q2_ BU)
    | ((with_reducible refine gate_dst (N:=5) rfl ?_);(try (refine gate_guard (by rfl) ?_;dsimp only));refine box_event ?hg (N:=5) ?hd (cs:=#[.int .u8 y0,.int .u8 y1,.int .u8 y2]) (t:=51) ?hr ?_;(case hd=>rfl);(case hg=>rfl);(case hr=>first|(go_simp;done)|(go_simp;rfl));intro gy hg w9 h2 hb;have HYB:=mk0 h2;replace HB:=mk0 (below_step HB.out hb);replace BU:=mk0 (blk_below BU.1 hb);clear e8 e9 f2 hb h2 hg;have e8:=q0_ BU;have e9:=q1_ BU;have f2:=q2_ BU)
    | ((with_reducible refine gate_callee (f:=33) rfl ?_);refine goesL_ (some 29) rfl rfl Try.func33 (by kernel_rfl) rfl #[.agg #[.int .u8 Z,.slice a5 V.length a6,.slice a7 X.length a8],.int .i64 4] rfl (by (try simp only [m0_,m1_,m2_]);first|done|rfl|(simp only [l0_,l1_];rfl)) ?_;(with_reducible refine (HSETS.out _ HB.out).mono ?_);rintro e w1 ⟨A,c,v,rfl,hc,hC,hb⟩;refine ⟨_,rfl,?_⟩;replace HB:=mk0 (below_step HB.out hb);replace HYB:=mk0 (blk_below HYB.1 hb);have HD:=mk0 hC;have HDC:=mk0 hc;clear hb hC hc))
  have HW:=mk0 HB.1
  have HO:=mk0 (N_empty k60 (e:=60) (base:=w1.heap.size) (ok:=fun _=>True) (blk_new w1 (.cells #[] 60)) (Nat.le_refl _) trivial)
  have HL:=mk0 (below_alloc (Below.refl w1.heap.size w1) (.cells #[] 60))
  have hwl:wrap64 ((D.length:Int) - 1)=(D.length:Int) - 1:=by have:=HOK.1.2.1;unfold wrap64;omega
  clear HB e8 e9 f2 BU HSETS
  go_wp2
  go_loopw [10,11] (fun v10 v11 wq=>∃ (j:Nat) (z:Int) (L:List S60),v11=.int .i64 z∧Aside0 (z=(j:Int) - 1∧j ≤ D.length∧L=(D.drop j).reverse.map (order_one nd))∧Aside0 (Kd.N k60 60 wq w1.heap.size (fun _=>True) v10 L)∧Aside0 (Below w1.heap.size w1 wq)) (fun _ v11 _=>(intOf v11 + 1).toNat)
  case atStart=>exact ⟨D.length,(D.length:Int) - 1,[],congrArg _ hwl,⟨rfl,Nat.le_refl _,by rw [List.drop_length];rfl⟩,HO,HL⟩
  case round =>
    clear HO HL hwl
    obtain ⟨j,z,L,rfl,HJ,HO,HL⟩:=hrel
    cases j with
    | succ i =>
      have hz:z=(i:Int):=by have:=HJ.1;omega
      subst hz
      have hi:i < D.length:=by have:=HJ.1.2.1;omega
      obtain ⟨x,hx⟩:∃ x,x=rd_T60 D (i:Int):=⟨_,rfl⟩
      have hdrop:D.drop i=x :: D.drop (i + 1):=by
        rw [List.drop_eq_getElem_cons hi,hx]
        congr 1
        simp [rd_T60,List.getD_eq_getElem?_getD,List.getElem?_eq_getElem hi]
      have hmem:x ∈ D:=List.mem_of_mem_drop (hdrop ▸ List.mem_cons_self)
      obtain ⟨ad,A0,b0,A1,b1,e,hx0,hx1,hlc0,hC0,hlc1,hC1⟩:=at_T60 HD.1 (i:Int) (by omega) (by omega)
      cases e
      rw [← hx] at hx0 hx1 hlc0 hC0 hlc1 hC1
      simp only [Int.toNat_natCast] at hx0 hx1
      have HX1:Aside0 (∀ W,Below w1.heap.size w1 W → W.cell? ⟨(ad.add (i * 2)).block,(ad.add (i * 2)).off + 1,none⟩=some (.slice A1 x.f1.length b1)):=⟨fun W hW=>pw_cell_below hW hx1⟩
      replace hx0:=pw_cell_below HL.1 hx0
      have HC0:=mk0 (Kd.C_F (Kd.heap_int .i64) hC0)
      have HC1:=mk0 hC1
      have HC1F:=mk0 (Kd.C_F (Kd.heap_slice 3 (Kd.heap_int .i64)) hC1)
      have HLC0:=mk0 hlc0
      have HLC1:=mk0 hlc1
      have HXL:Aside0 (x.f1.length ≤ 1000):=⟨HOK.1.2.2 x hmem⟩
      have hwl2:wrap64 ((x.f1.length:Int) - 1)=(x.f1.length:Int) - 1:=by have:=HXL.1;unfold wrap64;omega
      have HL2:Aside0 (L ++ [order_one nd x]=(D.drop i).reverse.map (order_one nd)):=⟨by rw [hdrop,List.reverse_cons,List.map_append,HJ.1.2.2];rfl⟩
      have HLL:Aside0 (L.length ≤ 1000):=⟨by have:=HOK.1.2.1;rw [HJ.1.2.2,List.length_map,List.length_reverse,List.length_drop];omega⟩
      have HI:Aside0 (i < D.length):=⟨hi⟩
      have q0:((0:Int) ≤ (i:Int))=True:=eq_true (by omega)
      have q1:((i:Int) < (D.length:Int))=True:=eq_true (by omega)
      have q1n:(i < D.length)=True:=eq_true hi
      have HWS:=mk0 HL.1.size
      clear hx hdrop hmem hi hx1 hlc0 hC0 hlc1 hC1 HJ
      have HX:=mk0 (Below.refl wr.heap.size wr)
      go_upto_region 7 with (first
        | ((with_reducible refine gate_dst (N:=12) rfl ?_);refine box_event ?hg (N:=12) ?hd (cs:=#[.slice none 0 0,.slice none 0 0]) (t:=60) ?hr ?_;(case hd=>rfl);(case hg=>rfl);(case hr=>first|(go_simp;done)|(go_simp;rfl));intro g hg w6 hbox hb;have HBK:=mk0 hbox;have HG:=mk0 (show wr.heap.size ≤ g from by rw [hg];exact Nat.le_refl _);replace HX:=mk0 (below_step HX.1 hb);clear hb hbox hg;have hcl0:w6.cell? ⟨g,0,none⟩=some (.slice none 0 0):=(blk_cell HBK.1 0).trans rfl;have hcl1:w6.cell? ⟨g,1,none⟩=some (.slice none 0 0):=(blk_cell HBK.1 1).trans rfl;have hfl0:=blk_frozen HBK.1 0;have hfl1:=blk_frozen HBK.1 1))
      clear hcl0 hcl1 hfl0 hfl1
      replace HX:Aside0 (Below wr.heap.size wr ((w6.setCell ⟨g,0,none⟩ (.slice A0 x.f0.length b0)).setCell ⟨g,1,none⟩ (.slice none 0 0))):=⟨below_set (below_set HX.1 HG.1) HG.1⟩
      replace HBK:Aside0 (((w6.setCell ⟨g,0,none⟩ (.slice A0 x.f0.length b0)).setCell ⟨g,1,none⟩ (.slice none 0 0)).heap[g]?=some (.cells #[.slice A0 x.f0.length b0,.slice none 0 0] 60 (0,0))):=⟨by refine blk_put (cs:=#[.slice A0 x.f0.length b0,.slice none 0 0]) ?_ 1 _ rfl;exact blk_put HBK.1 0 _ rfl⟩
      generalize ((w6.setCell ⟨g,0,none⟩ (.slice A0 x.f0.length b0)).setCell ⟨g,1,none⟩ (.slice none 0 0))=w7 at HX HBK ⊢
      have hx1:=HX1.1 _ (below_step HL.1 HX.1)
      clear hx0
      go_wp2
      go_loopw [13] (fun v13 wz=>∃ (m:Nat) (z:Int) (P:List (List Int)) (vA:Option Addr) (vc:Nat),v13=.int .i64 z∧Aside0 (z=(m:Int) - 1∧m ≤ x.f1.length∧P=(x.f1.drop m).reverse)∧Aside0 (wz.heap[g]?=some (.cells #[.slice A0 x.f0.length b0,.slice vA P.length vc] 60 (0,0)))∧Aside0 (Kd.N (Kd.slice 3 (Kd.int .i64)) 23 wz wr.heap.size (fun k_=>k_ < w1.heap.size ∨ (wr.heap.size ≤ k_∧k_ ≠ g)) (.slice vA P.length vc) P)∧Aside0 (Below wr.heap.size wr wz)) (fun v13 _=>(intOf v13 + 1).toNat)
      case atStart=>exact ⟨x.f1.length,(x.f1.length:Int) - 1,[],none,0,congrArg _ hwl2,⟨rfl,Nat.le_refl _,by rw [List.drop_length];rfl⟩,HBK,⟨Kd.N_nil _ _ _ _ _⟩,HX⟩
      case round =>
        clear HX HBK hwl2 hx1
        rename World=>wz
        obtain ⟨m,z,P,vA,vc,rfl,HM,HBK,HP,HX⟩:=hrel
        have hcl1:wz.cell? ⟨g,1,none⟩=some (.slice vA P.length vc):=(blk_cell HBK.1 1).trans rfl
        have HGZ:=mk0 (blk_lt HBK.1)
        have HWX:=mk0 (below_step HL.1 HX.1)
        have HXS:=mk0 HX.1.size
        cases m with
        | succ t =>
          have hz:z=(t:Int):=by have:=HM.1;omega
          subst hz
          have ht:t < x.f1.length:=by have:=HM.1.2.1;omega
          obtain ⟨p,hp⟩:∃ p,p=rd_L1 x.f1 (t:Int):=⟨_,rfl⟩
          have hdrop:x.f1.drop t=p :: x.f1.drop (t + 1):=by
            rw [List.drop_eq_getElem_cons ht,hp]
            congr 1
            simp [rd_L1,List.getD_eq_getElem?_getD,List.getElem?_eq_getElem ht]
          have HP2:Aside0 (P ++ [p]=(x.f1.drop t).reverse):=⟨by rw [hdrop,List.reverse_cons,HM.1.2.2]⟩
          have HPL:Aside0 (P.length ≤ 1000):=⟨by have:=HXL.1;rw [HM.1.2.2,List.length_reverse,List.length_drop];omega⟩
          obtain ⟨ap,Ap,cp,e1,hpx,hlp,hFp⟩:=at_F1 HC1F.1 (t:Int) (by omega) (by omega)
          cases e1
          rw [← hp] at hpx hlp hFp
          simp only [Int.toNat_natCast] at hpx
          replace hpx:=pw_cell_below HWX.1 hpx
          have hx1:=HX1.1 _ HWX.1
          have HFP:=mk0 (Kd.F_below hFp HWX.1)
          have HLP:=mk0 hlp
          have HT:=mk0 ht
          have HWT:Aside0 (wrap64 ((t:Int) - 1)=(t:Int) - 1):=⟨by have:=HXL.1;unfold wrap64;omega⟩
          have q2:((0:Int) ≤ (t:Int))=True:=eq_true (by omega)
          have q3:((t:Int) < (x.f1.length:Int))=True:=eq_true (by omega)
          have q3n:(t < x.f1.length)=True:=eq_true ht
          clear hp hdrop hlp hFp ht HM
          go_wp2_with (first
            | ((with_reducible refine gate_dst (N:=70) rfl ?_);refine stop_ ?_))
          delta Stop
          refine Kd.N_append (Kd.slice 3 (Kd.int .i64)) (w0:=wr) wr.heap.size rfl (.tmp 60) (.tmp 69) 58 23 (.slice none 0 0) 24 (by rfl) Try.underlying58 info23 rfl (by decide) (by omega) (.slice vA P.length vc) P p [.slice Ap p.length cp] (fun k_=>k_ < w1.heap.size ∨ (wr.heap.size ≤ k_∧k_ ≠ g)) (fun k_=>k_ < w1.heap.size) (by rfl) (by rfl) (FK_list HFP.1 HLP.1) (fun k_ hk=>⟨.inl hk,fun he=>by have:=Kd.N_base HP.1 k_ he.symm;have:=HWS.1;omega⟩) (fun k_ hk=>.inr ⟨Nat.le_trans HXS.1 hk,by have:=HGZ.1;omega⟩) HP.1 HX.1 HXS.1 (by have:=HPL.1;omega) ?_
          intro v9 w9 hN9 hb9 hg9 _
          obtain ⟨A9,c9,rfl⟩:=Kd.N_slice hN9
          have HN9:=mk0 hN9
          have HX9:=mk0 hb9
          have HK9:=mk0 (blk_grown HBK.1 hg9 (fun e=>(HP.1.1 g e.symm).elim (fun h_=>by have:=HWS.1;have:=HG.1;omega) (fun h_=>h_.2 rfl)))
          clear hN9 hb9 hg9 hcl1 hpx hx1
          have hz1:w9.cell? ⟨g,1,none⟩=some (.slice vA P.length vc):=(blk_cell HK9.1 1).trans rfl
          have hf1:=blk_frozen HK9.1 1
          go_wp2
          refine ⟨⟨t,(t:Int) - 1,P ++ [p],A9,c9,congrArg _ HWT.1,⟨rfl,Nat.le_of_lt HT.1,HP2.1⟩,⟨by rw [List.length_append];exact blk_put HK9.1 1 _ rfl⟩,⟨by rw [List.length_append] at HN9 ⊢;exact Kd.N_far (p:=⟨g,1,none⟩) HN9.1 (fun k_ hk=>by have:=HG.1;have:=HWS.1;show k_ ≠ g;rcases hk with h_|h_ <;> omega) _⟩,⟨below_set HX9.1 HG.1⟩⟩,?_⟩
          rw [HWT.1];simp only [intOf];omega
        | zero =>
          have hz:z=-1:=by have:=HM.1.1;omega
          subst hz
          have hPr:P=x.f1.reverse:=by rw [HM.1.2.2,List.drop_zero]
          have hPlen:P.length=x.f1.length:=by rw [hPr,List.length_reverse]
          have HPR:=mk0 hPr
          have HPL:Aside0 (P.length ≤ 1000):=⟨by have:=HXL.1;omega⟩
          have HN1:Aside0 (nd ≤ 100):=⟨by have:=HOK.1.1;omega⟩
          have hn100:=HN1.1
          have hn0:=eq_true (show (0:Int) ≤ (nd:Int) by omega)
          have hmk:∀ W:World,(Instr.makeSlice 23 (.int .i64 (nd:Int)) (.int .i64 (nd:Int))).run Try.prog W=.ok (.slice (some ⟨W.heap.size,0,none⟩) nd nd) (W.alloc (.cells (madeCells #[.int .i64 0] nd) 3)):=fun W=>run_make_row' 23 3 (.int .i64 0) 8 Try.underlying23 info3 rfl .i64 .i64 nd (by omega) (by omega) W
          obtain ⟨L1,hL1⟩:∃ L1,L1=P ++ [List.replicate nd (0:Int)]:=⟨_,rfl⟩
          have HL1:=mk0 hL1
          have HLn:Aside0 (L1.length=P.length + 1):=⟨by rw [hL1,List.length_append];rfl⟩
          have HPB:=mk0 (Kd.F_bound (Kd.N_F HP.1))
          have HY:=mk0 (Below.refl wz.heap.size wz)
          clear hPr hPlen hL1 HM hn100
          go_upto_region 13 with (fail)
          go_region_held3 (fun w'=>True) (trivial)
            (first
              | (refine rows_stepE (W0:=wz) (ok:=fun k_=>k_ < w1.heap.size ∨ (wr.heap.size ≤ k_∧k_ ≠ g)) (m:=P) (by rfl) (by rfl) (by rfl) (by rfl) ?eb ?le HPB.1 (fun k_ hk=>hk) (fun k_ hk=>.inr ⟨Nat.le_trans HXS.1 hk,by have:=HGZ.1;omega⟩) ?b (Nat.le_trans HPL.1 (by decide)) ?_;(case eb=>with_reducible repeat (first|exact blk_new _ _|exact new2 _ _ _|exact new3 _ _ _ _|(refine blk_nat ?_;simp;done)|refine blk_drew ?_|refine blk_al ?_ _));(case le=>first|exact Nat.le_refl _|omega);(case b=>with_reducible repeat (first|exact HY.1|apply below_alloc|apply Below.drew));intro A7 c7 w7 hN hb hg hat;have HN7:=mk0 hN;replace HY:=mk0 hb;(first|(with_reducible have HZ7:=mk0 (lit_kept (g:=wz.heap.size + 1) (e:=3) (cells:=madeCells #[.int .i64 0] nd) (new2 _ _ _) hg (ne1 _) hat))|(with_reducible have HZ7:=mk0 (lit_kept (g:=wz.heap.size + 1) (e:=3) (cells:=madeCells #[.int .i64 0] nd) (blk_drew (new2 _ _ _)) hg (ne1 _) hat))|(with_reducible have HZ7:=mk0 (lit_kept (g:=wz.heap.size + 1) (e:=3) (cells:=madeCells #[.int .i64 0] nd) (blk_al (new2 _ _ _) _) hg (ne1 _) hat))|(with_reducible have HZ7:=mk0 (lit_kept (g:=wz.heap.size + 1) (e:=3) (cells:=madeCells #[.int .i64 0] nd) (blk_drew (blk_al (new2 _ _ _) _)) hg (ne1 _) hat))|(with_reducible have HZ7:=mk0 (lit_kept (g:=wz.heap.size) (e:=3) (cells:=madeCells #[.int .i64 0] nd) (blk_al (blk_new _ _) _) hg (ne2 _) hat))|(with_reducible have HZ7:=mk0 (lit_kept (g:=wz.heap.size) (e:=3) (cells:=madeCells #[.int .i64 0] nd) (blk_drew (blk_al (blk_new _ _) _)) hg (ne2 _) hat))|(with_reducible have HZ7:=mk0 (lit_kept (g:=wz.heap.size) (e:=3) (cells:=madeCells #[.int .i64 0] nd) (blk_al (blk_al (blk_new _ _) _) _) hg (ne2 _) hat))|(with_reducible have HZ7:=mk0 (lit_kept (g:=wz.heap.size) (e:=3) (cells:=madeCells #[.int .i64 0] nd) (blk_drew (blk_al (blk_al (blk_new _ _) _) _)) hg (ne2 _) hat))|(with_reducible have HZ7:=mk0 (lit_kept (g:=wz.heap.size) (e:=3) (cells:=madeCells #[.int .i64 0] nd) (blk_al (blk_al (blk_new _ _) _) _) hg (ne4 _) hat))|(with_reducible have HZ7:=mk0 (lit_kept (g:=wz.heap.size) (e:=3) (cells:=madeCells #[.int .i64 0] nd) (blk_drew (blk_al (blk_al (blk_new _ _) _) _)) hg (ne4 _) hat))|skip);(first|(with_reducible have HK7:=mk0 (lit_kept (g:=wz.heap.size + 2) (e:=23) (cells:=#[.slice (some ⟨wz.heap.size + 1,0,none⟩) nd nd]) (new3 _ _ _ _) hg (ne3 _) hat))|(with_reducible have HK7:=mk0 (lit_kept (g:=wz.heap.size + 2) (e:=23) (cells:=#[.slice (some ⟨wz.heap.size + 1,0,none⟩) nd nd]) (blk_drew (new3 _ _ _ _)) hg (ne3 _) hat))|(with_reducible have HK7:=mk0 (lit_kept (g:=wz.heap.size + 2) (e:=23) (cells:=#[.slice (some ⟨wz.heap.size,0,none⟩) nd nd]) (new3 _ _ _ _) hg (ne1 (wz.heap.size + 1)) hat))|(with_reducible have HK7:=mk0 (lit_kept (g:=wz.heap.size + 2) (e:=23) (cells:=#[.slice (some ⟨wz.heap.size,0,none⟩) nd nd]) (blk_drew (new3 _ _ _ _)) hg (ne1 (wz.heap.size + 1)) hat))|(with_reducible have HK7:=mk0 (lit_kept (g:=wz.heap.size + 1) (e:=23) (cells:=#[.slice (some ⟨wz.heap.size,0,none⟩) nd nd]) (blk_al (new2 _ _ _) _) hg (ne2 (wz.heap.size + 1)) hat))|(with_reducible have HK7:=mk0 (lit_kept (g:=wz.heap.size + 1) (e:=23) (cells:=#[.slice (some ⟨wz.heap.size,0,none⟩) nd nd]) (blk_drew (blk_al (new2 _ _ _) _)) hg (ne2 (wz.heap.size + 1)) hat))|skip);clear hN hb hg hat)
              | (refine' rows_stepG (W0:=wz) (v:=.slice A7 P.length c7) (ok:=fun k_=>k_ < w1.heap.size ∨ (wr.heap.size ≤ k_∧k_ ≠ g)) (l:=P) (m:=[List.replicate nd (0:Int)]) (L:=L1) (by rfl) (by rfl) (by rfl) (by rfl) ?n (F_litz ?g1 ?z1 HN1.1) ?ok1 (fun k_ hk=>.inr ⟨Nat.le_trans HXS.1 hk,by have:=HGZ.1;omega⟩) ?b (Nat.le_trans HPL.1 (by decide)) (by simp) HL1.1 ?_;(case n=>with_reducible repeat (first|exact HN7.1|refine N_al ?_ _|refine Kd.N_drew ?_));(case g1=>with_reducible first|exact HK7.1.1|exact blk_drew HK7.1.1|exact blk_new _ _|exact new2 _ _ _|exact blk_drew (blk_new _ _)|exact blk_drew (new2 _ _ _));(case z1=>with_reducible first|exact HZ7.1.1|exact blk_drew HZ7.1.1|exact blk_al HZ7.1.1 _|exact blk_drew (blk_al HZ7.1.1 _)|exact blk_al (blk_new _ _) _|exact blk_drew (blk_al (blk_new _ _) _));(case b=>with_reducible repeat (first|exact HY.1|apply below_alloc|apply Below.drew));(case ok1=>intro k_ hk;have h1:=HXS.1;have h2:=HGZ.1;have h3:=HY.1.size;rcases hk with rfl|rfl;all_goals (refine ⟨.inr ⟨?_,?_⟩,?_⟩;omega;omega;first|exact HK7.1.2|exact HZ7.1.2|(intro he;have h4:=Kd.N_lt HN7.1 _ he.symm;omega)));intro A8 c8 w8 hN hb hg hat;have HN8:=mk0 hN;replace HY:=mk0 hb;have HK8:=mk0 (blk_below HBK.1 hb);have hz1:w8.cell? ⟨g,1,none⟩=some (.slice vA P.length vc):=(blk_cell HK8.1 1).trans rfl;have hf1:=blk_frozen HK8.1 1;clear hN hb hg hat)
              | fail)
          all_goals
            have HK10:Aside0 ((w8.setCell ⟨g,1,none⟩ (.slice A8 L1.length c8)).heap[g]?=some (.cells #[.slice A0 x.f0.length b0,.slice A8 L1.length c8] 60 (0,0))):=⟨blk_put HK8.1 1 _ rfl⟩
            have HN10:=mk0 (Kd.N_far (p:=⟨g,1,none⟩) HN8.1 (fun k_ hk=>by have h1:=HG.1;have h2:=HWS.1;show k_ ≠ g;rcases hk with h_|h_ <;> omega) (.slice A8 L1.length c8))
            have HX10:Aside0 (Below wr.heap.size wr (w8.setCell ⟨g,1,none⟩ (.slice A8 L1.length c8))):=⟨below_set (below_step HX.1 HY.1) HG.1⟩
            have HPF:=mk0 (Kd.F_far (p:=⟨g,1,none⟩) (Kd.F_below HPB.1 HY.1) (fun k_ hk=>by have h1:=HG.1;have h2:=HWS.1;show k_ ≠ g;rcases hk.1 with h_|h_ <;> omega) (.slice A8 L1.length c8))
            have HPe:Aside0 (P.length=x.f1.length):=⟨by rw [HPR.1,List.length_reverse]⟩
            (try clear HK7)
            (try clear HZ7)
            clear hz1 hf1 HK8 HN8 HY HX HP HBK HWX hcl1 HN7 HPB
            generalize w8.setCell ⟨g,1,none⟩ (.slice A8 L1.length c8)=w10 at *
            have hcl0:w10.cell? ⟨g,0,none⟩=some (.slice A0 x.f0.length b0):=(blk_cell HK10.1 0).trans rfl
            have hcl1:w10.cell? ⟨g,1,none⟩=some (.slice A8 L1.length c8):=(blk_cell HK10.1 1).trans rfl
            have HG10:=mk0 (blk_lt HK10.1)
            have HN10L:=mk0 (Kd.N_lower HN10.1 HXS.1)
            by_cases h0:0 < P.length
            · have d1:decide ((0:Int) < (P.length:Int))=true:=decide_eq_true (by omega)
              have d1n:decide (0 < P.length)=true:=decide_eq_true h0
              by_cases h3:P.length < 3
              · have d2:decide ((P.length:Int) < 3)=true:=decide_eq_true (by omega)
                have d2n:decide (P.length < 3)=true:=decide_eq_true h3
                obtain ⟨aP,Aq,cq,e2,hqx,hlq,hFq⟩:=at_F1 HPF.1 0 (Int.le_refl 0) (by omega)
                cases e2
                obtain ⟨q,hq⟩:∃ q,q=rd_L1 P 0:=⟨_,rfl⟩
                rw [← hq] at hqx hlq hFq
                rw [show (0:Int).toNat=0 from rfl,add_z] at hqx
                have hqx0:w10.cell? (aP.add 0)=some (.slice Aq q.length cq):=by rw [add_z];exact hqx
                have q4:((0:Int) < (P.length:Int))=True:=eq_true (by omega)
                have q4n:(0 < P.length)=True:=eq_true h0
                obtain ⟨L3,hL3⟩:∃ L3,L3=L1 ++ [q]:=⟨_,rfl⟩
                have HEQ:Aside0 ((⟨x.f0,L3⟩:S60)=order_one nd x):=⟨by
                  have e:0 < x.f1.length∧x.f1.length < 3:=by have:=HPe.1;omega
                  unfold order_one
                  rw [if_pos e,hL3,HL1.1,hq,HPR.1]⟩
                have HL3:=mk0 hL3
                have HFQ:=mk0 hFq
                have HLQ:=mk0 hlq
                clear hL3 hq hFq hlq h0 h3
                go_wp2_with (first
                  | ((with_reducible refine gate_dst (N:=97) rfl ?_);refine stop_ ?_))
                delta Stop
                refine Kd.N_append (Kd.slice 3 (Kd.int .i64)) (w0:=wr) wr.heap.size rfl (.tmp 92) (.tmp 96) 58 23 (.slice none 0 0) 24 (by rfl) Try.underlying58 info23 rfl (by decide) (by omega) (.slice A8 L1.length c8) L1 q [.slice Aq q.length cq] (fun k_=>k_ < w1.heap.size ∨ (wr.heap.size ≤ k_∧k_ ≠ g)) (fun k_=>(k_ < w1.heap.size ∨ (wr.heap.size ≤ k_∧k_ ≠ g))∧k_ < wz.heap.size) (by rfl) (by rfl) (FK_list HFQ.1 HLQ.1) (fun k_ hk=>⟨hk.1,fun he=>by have:=Kd.N_base HN10.1 k_ he.symm;have:=hk.2;omega⟩) (fun k_ hk=>.inr ⟨Nat.le_trans HX10.1.size hk,by have:=HG10.1;omega⟩) HN10L.1 HX10.1 HX10.1.size (by have:=HLn.1;have:=HPL.1;omega) ?_
                intro v9 w9 hN9 hb9 hg9 _
                rw [← HL3.1] at hN9
                obtain ⟨A9,c9,rfl⟩:=Kd.N_slice hN9
                have HN9:=mk0 hN9
                have HX9:=mk0 hb9
                have HK9:=mk0 (blk_grown HK10.1 hg9 (fun e=>(HN10.1.1 g e.symm).elim (fun h_=>by have:=HWS.1;have:=HG.1;omega) (fun h_=>h_.2 rfl)))
                clear hN9 hb9 hg9 hcl0 hcl1 hqx hqx0 HN10L
                have hz1:w9.cell? ⟨g,1,none⟩=some (.slice A8 L1.length c8):=(blk_cell HK9.1 1).trans rfl
                have hf1:=blk_frozen HK9.1 1
                have hz0:(w9.setCell ⟨g,1,none⟩ (.slice A9 L3.length c9)).cell? ⟨g,0,none⟩=some (.slice A0 x.f0.length b0):=(blk_cell (blk_put (cs':=#[.slice A0 x.f0.length b0,.slice A9 L3.length c9]) HK9.1 1 _ rfl) 0).trans rfl
                have hz2:(w9.setCell ⟨g,1,none⟩ (.slice A9 L3.length c9)).cell? ⟨g,1,none⟩=some (.slice A9 L3.length c9):=(blk_cell (blk_put (cs':=#[.slice A0 x.f0.length b0,.slice A9 L3.length c9]) HK9.1 1 _ rfl) 1).trans rfl
                have HX11:Aside0 (Below wr.heap.size wr (w9.setCell ⟨g,1,none⟩ (.slice A9 L3.length c9))):=⟨below_set HX9.1 HG.1⟩
                have HN11:=mk0 (Kd.N_far (p:=⟨g,1,none⟩) HN9.1 (fun k_ hk=>by have h1:=HG.1;have h2:=HWS.1;show k_ ≠ g;rcases hk with h_|h_ <;> omega) (.slice A9 L3.length c9))
                go_upto_region 17 with (fail)
                clear hz1 hf1 HN9 HX9 HK9
                generalize w9.setCell ⟨g,1,none⟩ (.slice A9 L3.length c9)=w11 at *
                go_wp2_with (first
                  | ((with_reducible refine gate_dst (N:=102) rfl ?_);refine stop_ ?_))
                delta Stop
                refine Kd.N_append k60 (w0:=w1) w1.heap.size rfl (.tmp 99) (.tmp 101) 22 60 (.agg #[.slice none 0 0,.slice none 0 0]) 48 (by rfl) Try.underlying22 info60 rfl (by decide) (by omega) u10 L ⟨x.f0,L3⟩ [.slice A0 x.f0.length b0,.slice A9 L3.length c9] (fun _=>True) (fun k_=>k_ < w1.heap.size ∨ (wr.heap.size ≤ k_∧k_ ≠ g)) (by rfl) (by rfl) (k60_mkF _ _ ⟨x.f0,L3⟩ HLC0.1 (Kd.F_mono (Kd.F_below HC0.1 (below_step HL.1 HX11.1)) (fun k_ hk=>.inl hk)) (Kd.N_reads' HN11.1).2.1 (Kd.N_F HN11.1)) (fun k_ hk=>⟨trivial,fun he=>by have h1:=Kd.N_lt HO.1 k_ he.symm;have h2:=Kd.N_base HO.1 k_ he.symm;rcases hk with h_|h_ <;> omega⟩) (fun _ _=>trivial) (Kd.N_below HO.1 HX11.1) (below_step HL.1 HX11.1) (below_step HL.1 HX11.1).size (by have:=HLL.1;omega) ?_
                intro v12 w12 hN12 hb12 _ _
                have HN12:=mk0 hN12
                have HB12:=mk0 hb12
                clear hN12 hb12
                go_wp2
                have HWI:Aside0 (wrap64 ((i:Int) - 1)=(i:Int) - 1):=⟨by have:=HI.1;have:=HOK.1.2.1;unfold wrap64;omega⟩
                refine ⟨⟨i,(i:Int) - 1,L ++ [order_one nd x],congrArg _ HWI.1,⟨rfl,Nat.le_of_lt HI.1,HL2.1⟩,⟨HEQ.1 ▸ HN12.1⟩,HB12⟩,?_⟩
                rw [HWI.1];simp only [intOf];omega
              · have d2:decide ((P.length:Int) < 3)=false:=decide_eq_false (by omega)
                have d2n:decide (P.length < 3)=false:=decide_eq_false h3
                have HEQ:Aside0 ((⟨x.f0,L1⟩:S60)=order_one nd x):=⟨by
                  have e:¬ (0 < x.f1.length∧x.f1.length < 3):=by have:=HPe.1;omega
                  unfold order_one
                  rw [if_neg e,HL1.1,HPR.1]⟩
                clear h0 h3
                go_wp2_with (first
                  | ((with_reducible refine gate_dst (N:=102) rfl ?_);refine stop_ ?_))
                delta Stop
                refine Kd.N_append k60 (w0:=w1) w1.heap.size rfl (.tmp 99) (.tmp 101) 22 60 (.agg #[.slice none 0 0,.slice none 0 0]) 48 (by rfl) Try.underlying22 info60 rfl (by decide) (by omega) u10 L ⟨x.f0,L1⟩ [.slice A0 x.f0.length b0,.slice A8 L1.length c8] (fun _=>True) (fun k_=>k_ < w1.heap.size ∨ (wr.heap.size ≤ k_∧k_ ≠ g)) (by rfl) (by rfl) (k60_mkF _ _ ⟨x.f0,L1⟩ HLC0.1 (Kd.F_mono (Kd.F_below HC0.1 (below_step HL.1 HX10.1)) (fun k_ hk=>.inl hk)) (Kd.N_reads' HN10L.1).2.1 (Kd.N_F HN10L.1)) (fun k_ hk=>⟨trivial,fun he=>by have h1:=Kd.N_lt HO.1 k_ he.symm;have h2:=Kd.N_base HO.1 k_ he.symm;rcases hk with h_|h_ <;> omega⟩) (fun _ _=>trivial) (Kd.N_below HO.1 HX10.1) (below_step HL.1 HX10.1) (below_step HL.1 HX10.1).size (by have:=HLL.1;omega) ?_
                intro v12 w12 hN12 hb12 _ _
                have HN12:=mk0 hN12
                have HB12:=mk0 hb12
                clear hN12 hb12
                go_wp2
                have HWI:Aside0 (wrap64 ((i:Int) - 1)=(i:Int) - 1):=⟨by have:=HI.1;have:=HOK.1.2.1;unfold wrap64;omega⟩
                refine ⟨⟨i,(i:Int) - 1,L ++ [order_one nd x],congrArg _ HWI.1,⟨rfl,Nat.le_of_lt HI.1,HL2.1⟩,⟨HEQ.1 ▸ HN12.1⟩,HB12⟩,?_⟩
                rw [HWI.1];simp only [intOf];omega
            · have d1:decide ((0:Int) < (P.length:Int))=false:=decide_eq_false (by omega)
              have d1n:decide (0 < P.length)=false:=decide_eq_false h0
              have HEQ:Aside0 ((⟨x.f0,L1⟩:S60)=order_one nd x):=⟨by
                have e:¬ (0 < x.f1.length∧x.f1.length < 3):=by have:=HPe.1;omega
                unfold order_one
                rw [if_neg e,HL1.1,HPR.1]⟩
              clear h0
              go_wp2_with (first
                | ((with_reducible refine gate_dst (N:=102) rfl ?_);refine stop_ ?_))
              delta Stop
              refine Kd.N_append k60 (w0:=w1) w1.heap.size rfl (.tmp 99) (.tmp 101) 22 60 (.agg #[.slice none 0 0,.slice none 0 0]) 48 (by rfl) Try.underlying22 info60 rfl (by decide) (by omega) u10 L ⟨x.f0,L1⟩ [.slice A0 x.f0.length b0,.slice A8 L1.length c8] (fun _=>True) (fun k_=>k_ < w1.heap.size ∨ (wr.heap.size ≤ k_∧k_ ≠ g)) (by rfl) (by rfl) (k60_mkF _ _ ⟨x.f0,L1⟩ HLC0.1 (Kd.F_mono (Kd.F_below HC0.1 (below_step HL.1 HX10.1)) (fun k_ hk=>.inl hk)) (Kd.N_reads' HN10L.1).2.1 (Kd.N_F HN10L.1)) (fun k_ hk=>⟨trivial,fun he=>by have h1:=Kd.N_lt HO.1 k_ he.symm;have h2:=Kd.N_base HO.1 k_ he.symm;rcases hk with h_|h_ <;> omega⟩) (fun _ _=>trivial) (Kd.N_below HO.1 HX10.1) (below_step HL.1 HX10.1) (below_step HL.1 HX10.1).size (by have:=HLL.1;omega) ?_
              intro v12 w12 hN12 hb12 _ _
              have HN12:=mk0 hN12
              have HB12:=mk0 hb12
              clear hN12 hb12
              go_wp2
              have HWI:Aside0 (wrap64 ((i:Int) - 1)=(i:Int) - 1):=⟨by have:=HI.1;have:=HOK.1.2.1;unfold wrap64;omega⟩
              refine ⟨⟨i,(i:Int) - 1,L ++ [order_one nd x],congrArg _ HWI.1,⟨rfl,Nat.le_of_lt HI.1,HL2.1⟩,⟨HEQ.1 ▸ HN12.1⟩,HB12⟩,?_⟩
              rw [HWI.1];simp only [intOf];omega
    | zero =>
      have hz:z=-1:=by have:=HJ.1.1;omega
      subst hz
      have hE:L=D.reverse.map (order_one nd):=by rw [HJ.1.2.2,List.drop_zero]
      subst hE
      obtain ⟨AE,cE,hv⟩:=Kd.N_slice HO.1
      subst hv
      obtain ⟨E,hE⟩:∃ E,E=D.reverse.map (order_one nd):=⟨_,rfl⟩
      rw [← hE] at HO HH ⊢
      clear hE HJ
      have HEC:=mk0 (Kd.N_reads' HO.1)
      have HU:=mk0 (N_empty (Kd.int .i64) (e:=3) (base:=wr.heap.size) (ok:=fun _=>True) (blk_new wr (.cells #[] 3)) (Nat.le_refl _) trivial)
      have HX:=mk0 (below_alloc (Below.refl wr.heap.size wr) (.cells #[] 3))
      have HN3:Aside0 (nd ≤ 3):=⟨HOK.1.1⟩
      go_wp2
      go_loopw [17,18] (fun v17 v18 wz=>∃ (m:Nat) (u:List Int),v18=.int .i64 (m:Int)∧Aside0 (m ≤ nd∧u=order_vec m [y0,y1,y2])∧Aside0 (Kd.N (Kd.int .i64) 3 wz wr.heap.size (fun _=>True) v17 u)∧Aside0 (Below wr.heap.size wr wz)) (fun _ v18 _=>nd - (intOf v18).toNat)
      case atStart=>exact ⟨0,[],rfl,⟨Nat.zero_le _,rfl⟩,HU,HX⟩
      case round =>
        clear HU HX
        rename World=>wz
        obtain ⟨m,u,rfl,HM,HU,HX⟩:=hrel
        by_cases hm:m < nd
        · have d1:decide ((m:Int) < (nd:Int))=true:=decide_eq_true (by omega)
          have d1n:decide (m < nd)=true:=decide_eq_true hm
          have hy:wz.cell? ⟨gy,m,none⟩=some (.int .u8 (rd [y0,y1,y2] (m:Int))):=by
            rw [blk_cell (blk_below HYB.1 (below_step HL.1 HX.1)) m]
            have h3:=HN3.1
            match m,hm with
            | 0,_=>rfl
            | 1,_=>rfl
            | 2,_=>rfl
            | m + 3,hm=>omega
          have q0:((0:Int) ≤ (m:Int))=True:=eq_true (by omega)
          have q1:((m:Int) < 3)=True:=eq_true (by have:=HN3.1;omega)
          have q1n:(m < 3)=True:=eq_true (by have:=HN3.1;omega)
          obtain ⟨c3,hc3⟩:∃ c3,c3=rd [y0,y1,y2] (m:Int):=⟨_,rfl⟩
          rw [← hc3] at hy
          have HV:Aside0 (u ++ [Int.tmod (wrap64 c3) 12]=order_vec (m + 1) [y0,y1,y2]):=⟨by rw [HM.1.2,hc3];unfold order_vec;rw [List.range_succ,List.map_append];rfl⟩
          have HUL:Aside0 (u.length ≤ 3):=⟨by rw [HM.1.2];unfold order_vec;rw [List.length_map,List.length_range];have:=HN3.1;omega⟩
          have HMM:=mk0 hm
          have HWM:Aside0 (wrap64 ((m:Int) + 1)=((m + 1:Nat):Int)):=⟨by have:=HN3.1;have:=HMM.1;unfold wrap64;omega⟩
          clear hc3 hm HM
          go_wp2_with (first
            | ((with_reducible refine gate_dst (N:=116) rfl ?_);refine stop_ ?_))
          delta Stop
          refine Kd.N_append (Kd.int .i64) (w0:=wr) wr.heap.size rfl (.tmp 109) (.tmp 115) 23 3 (.int .i64 0) 8 (by rfl) Try.underlying23 info3 rfl (by decide) (by omega) u17 u (Int.tmod (wrap64 c3) 12) [.int .i64 (Int.tmod (wrap64 c3) 12)] (fun _=>True) (fun _=>False) (by rfl) (by rfl) (fun W hW=>rfl) (fun _ hk=>hk.elim) (fun _ _=>trivial) HU.1 HX.1 HX.1.size (by have:=HUL.1;omega) ?_
          intro v9 w9 hN9 hb9 _ _
          have HN9:=mk0 hN9
          have HX9:=mk0 hb9
          clear hN9 hb9 hy
          go_wp2
          refine ⟨⟨m + 1,u ++ [Int.tmod (wrap64 c3) 12],congrArg _ HWM.1,⟨HMM.1,HV.1⟩,HN9,HX9⟩,?_⟩
          rw [HWM.1];simp only [intOf];have:=HMM.1;omega
        have d1:decide ((m:Int) < (nd:Int))=false:=decide_eq_false (by omega)
        have d1n:decide (m < nd)=false:=decide_eq_false hm
        have hmn:m=nd:=by have:=HM.1.1;omega
        subst hmn
        have hu:=HM.1.2
        obtain ⟨AU,cU,hv⟩:=Kd.N_slice HU.1
        subst hv
        rw [← hu] at HH
        have HUC:=mk0 (Kd.N_reads' HU.1)
        obtain ⟨mc,hmc⟩:∃ mc,mc=Int.tmod (wrap64 n) 12:=⟨_,rfl⟩
        have h:=HH.1
        unfold order_tail at h
        rw [← hmc] at h
        obtain ⟨⟨ra,re⟩,hra,h⟩:=Option.bind_eq_some_iff.mp h
        obtain ⟨⟨rc,rf⟩,hrc,h⟩:=Option.bind_eq_some_iff.mp h
        obtain ⟨⟨rg,rh⟩,hrg,h⟩:=Option.bind_eq_some_iff.mp h
        obtain ⟨⟨ri,rj⟩,hri,h⟩:=Option.bind_eq_some_iff.mp h
        by_cases hall:re=0∧rf=0∧rh=0∧rj=0∧ra=rc∧rg=ri
        case neg=>rw [if_neg hall] at h;cases h
        rw [if_pos hall] at h
        have HLV:=mk0 h
        clear h
        obtain ⟨rfl,rfl,rfl,rfl,rfl,rfl⟩:=hall
        have HRA:=mk0 hra
        have HRC:=mk0 hrc
        have HRG:=mk0 hrg
        have HRI:=mk0 hri
        have HMC:=hmc.symm
        (try clear h)
        (try clear h)
        (try clear h)
        (try clear h)
        clear hra hrc hrg hri hu hm HM HH hmc
        have HA:Aside0 (∀ W:World,Below wz.heap.size wz W → Calls Try.prog 23 #[.int .i64 m,.slice A D.length c,.slice AU u.length cU] W fun e w'=>e=.returned (.tuple #[.bool ra,.int .i64 0])∧Below W.heap.size W w'):=⟨fun W hW=>by
          have hB:=below_step HL.1 (below_step HX.1 hW)
          exact count_Has.calls k m _ A c D AU cU u ra 0 W (C_V60 (Kd.C_below HD.1 hB) HDC.1) (Kd.C_below HUC.1.2.2 hW) HUC.1.2.1 HRA.1⟩
        have HC:Aside0 (∀ W:World,Below wz.heap.size wz W → Calls Try.prog 23 #[.int .i64 m,.slice AE E.length cE,.slice AU u.length cU] W fun e w'=>e=.returned (.tuple #[.bool ra,.int .i64 0])∧Below W.heap.size W w'):=⟨fun W hW=>by
          exact count_Has.calls k m _ AE cE E AU cU u ra 0 W (C_V60 (Kd.C_below HEC.1.2.2 (below_step HX.1 hW)) HEC.1.2.1) (Kd.C_below HUC.1.2.2 hW) HUC.1.2.1 HRC.1⟩
        have HG:Aside0 (∀ W:World,Below wz.heap.size wz W → Calls Try.prog 35 #[.int .i64 m,.slice A D.length c,.int .i64 mc] W fun e w'=>e=.returned (.tuple #[.int .i64 rg,.int .i64 0])∧Below W.heap.size W w'):=⟨fun W hW=>by
          have hB:=below_step HL.1 (below_step HX.1 hW)
          exact count_Count.calls k m A c D mc rg 0 W (Kd.C_below HD.1 hB) HDC.1 HRG.1⟩
        have HI:Aside0 (∀ W:World,Below wz.heap.size wz W → Calls Try.prog 35 #[.int .i64 m,.slice AE E.length cE,.int .i64 mc] W fun e w'=>e=.returned (.tuple #[.int .i64 rg,.int .i64 0])∧Below W.heap.size W w'):=⟨fun W hW=>by
          exact count_Count.calls k m AE cE E mc rg 0 W (Kd.C_below HEC.1.2.2 (below_step HX.1 hW)) HEC.1.2.1 HRI.1⟩
        have HY:=mk0 (Below.refl wz.heap.size wz)
        clear HRA HRC HRG HRI
        go_wp2_with (fail)
        (with_reducible refine (HA.1 _ HY.1).mono ?_)
        rintro e v1 ⟨rfl,hb⟩
        replace HY:=mk0 (below_step HY.1 hb)
        clear hb
        go_wp2_with (fail)
        (with_reducible refine (HC.1 _ HY.1).mono ?_)
        rintro e v2 ⟨rfl,hb⟩
        replace HY:=mk0 (below_step HY.1 hb)
        clear hb
        go_wp2_with (fail)
        (with_reducible refine (HG.1 _ HY.1).mono ?_)
        rintro e v3 ⟨rfl,hb⟩
        replace HY:=mk0 (below_step HY.1 hb)
        clear hb
        go_wp2_with (fail)
        (with_reducible refine (HI.1 _ HY.1).mono ?_)
        rintro e v4 ⟨rfl,hb⟩
        replace HY:=mk0 (below_step HY.1 hb)
        clear hb
        have hbb:(ra == ra)=true:=by cases ra <;> rfl
        go_wp2_with (fail)
        (with_reducible refine (bellpulllaw05_lives.calls k r _ HLV.1).mono ?_)
        rintro e v5 ⟨rfl,hb⟩
        replace HY:=mk0 (below_step HY.1 hb)
        clear hb
        go_wp2
        go_ret
        exact ⟨rfl,below_step HW.1 (below_step HL.1 (below_step HX.1 HY.1))⟩
end Go.Proofs.Ytkonljiembcdlaa.PC
namespace Go.Proofs.Ytkonljiembcdlaa.PC
open Go.Proofs.MyWords Go.RowKit Go.Proofs.YtkonljiembcdlaaW.PrintWords Go.Proofs.YtkonljiembcdlaaW.PrintLast Go.Proofs.YtkonljiembcdlaaW.PrintMore
attribute [local go_sem] max2_int min2_int max_two min_two max_three min_three max_four min_four   -- for this text's walks alone
set_option linter.unusedVariables false
set_option linter.unusedSimpArgs false
attribute [local go_sem] eqGuard_slices eqlnil23 neqnil23 eqlnil58 neqnil58
end Go.Proofs.Ytkonljiembcdlaa.PC
namespace Go.Proofs.Ytkonljiembcdlaa.PC
open Go.Proofs.MyWords Go.RowKit Go.Proofs.YtkonljiembcdlaaW.PrintWords Go.Proofs.YtkonljiembcdlaaW.PrintLast Go.Proofs.YtkonljiembcdlaaW.PrintMore
attribute [local go_sem] max2_int min2_int max_two min_two max_three min_three max_four min_four   -- for this text's walks alone
set_option linter.unusedVariables false
set_option linter.unusedSimpArgs false
attribute [local go_sem] eqGuard_slices eqlnil23 neqnil23 eqlnil58 neqnil58
end Go.Proofs.Ytkonljiembcdlaa.PC
namespace Go.Proofs.Ytkonljiembcdlaa.PC
open Go.Proofs.MyWords Go.RowKit Go.Proofs.YtkonljiembcdlaaW.PrintWords Go.Proofs.YtkonljiembcdlaaW.PrintLast Go.Proofs.YtkonljiembcdlaaW.PrintMore
attribute [local go_sem] max2_int min2_int max_two min_two max_three min_three max_four min_four   -- for this text's walks alone
set_option linter.unusedVariables false
set_option linter.unusedSimpArgs false
attribute [local go_sem] eqGuard_slices eqlnil23 neqnil23 eqlnil58 neqnil58
end Go.Proofs.Ytkonljiembcdlaa.PC
namespace Go.Proofs.Ytkonljiembcdlaa.PC
open Go.Proofs.MyWords Go.RowKit Go.Proofs.YtkonljiembcdlaaW.PrintWords Go.Proofs.YtkonljiembcdlaaW.PrintLast Go.Proofs.YtkonljiembcdlaaW.PrintMore
attribute [local go_sem] max2_int min2_int max_two min_two max_three min_three max_four min_four   -- for this text's walks alone
set_option linter.unusedVariables false
set_option linter.unusedSimpArgs false
attribute [local go_sem] eqGuard_slices eqlnil23 neqnil23 eqlnil58 neqnil58
end Go.Proofs.Ytkonljiembcdlaa.PC
namespace Go.Proofs.Ytkonljiembcdlaa.PC
open Go.Proofs.MyWords Go.RowKit Go.Proofs.YtkonljiembcdlaaW.PrintWords Go.Proofs.YtkonljiembcdlaaW.PrintLast Go.Proofs.YtkonljiembcdlaaW.PrintMore
attribute [local go_sem] max2_int min2_int max_two min_two max_three min_three max_four min_four   -- for this text's walks alone
set_option linter.unusedVariables false
set_option linter.unusedSimpArgs false
attribute [local go_sem] eqGuard_slices eqlnil23 neqnil23 eqlnil58 neqnil58
end Go.Proofs.Ytkonljiembcdlaa.PC
namespace Go.Proofs.Ytkonljiembcdlaa.PC
open Go.Proofs.MyWords Go.RowKit Go.Proofs.YtkonljiembcdlaaW.PrintWords Go.Proofs.YtkonljiembcdlaaW.PrintLast Go.Proofs.YtkonljiembcdlaaW.PrintMore
attribute [local go_sem] max2_int min2_int max_two min_two max_three min_three max_four min_four   -- for this text's walks alone
set_option linter.unusedVariables false
set_option linter.unusedSimpArgs false
attribute [local go_sem] eqGuard_slices eqlnil23 neqnil23 eqlnil58 neqnil58
end Go.Proofs.Ytkonljiembcdlaa.PC
namespace Go.Proofs.Ytkonljiembcdlaa.PC
open Go.Proofs.MyWords Go.RowKit Go.Proofs.YtkonljiembcdlaaW.PrintWords Go.Proofs.YtkonljiembcdlaaW.PrintLast Go.Proofs.YtkonljiembcdlaaW.PrintMore
attribute [local go_sem] max2_int min2_int max_two min_two max_three min_three max_four min_four   -- for this text's walks alone
set_option linter.unusedVariables false
set_option linter.unusedSimpArgs false
attribute [local go_sem] eqGuard_slices eqlnil23 neqnil23 eqlnil58 neqnil58
end Go.Proofs.Ytkonljiembcdlaa.PC
namespace Go.Proofs.Ytkonljiembcdlaa.PC
open Go.Proofs.MyWords Go.RowKit Go.Proofs.YtkonljiembcdlaaW.PrintWords Go.Proofs.YtkonljiembcdlaaW.PrintLast Go.Proofs.YtkonljiembcdlaaW.PrintMore
attribute [local go_sem] max2_int min2_int max_two min_two max_three min_three max_four min_four   -- for this text's walks alone
set_option linter.unusedVariables false
set_option linter.unusedSimpArgs false
attribute [local go_sem] eqGuard_slices eqlnil23 neqnil23 eqlnil58 neqnil58
end Go.Proofs.Ytkonljiembcdlaa.PC
namespace Go.Proofs.Ytkonljiembcdlaa.PC
open Go.Proofs.MyWords Go.RowKit Go.Proofs.YtkonljiembcdlaaW.PrintWords Go.Proofs.YtkonljiembcdlaaW.PrintLast Go.Proofs.YtkonljiembcdlaaW.PrintMore
attribute [local go_sem] max2_int min2_int max_two min_two max_three min_three max_four min_four   -- for this text's walks alone
set_option linter.unusedVariables false
set_option linter.unusedSimpArgs false
attribute [local go_sem] eqGuard_slices eqlnil23 neqnil23 eqlnil58 neqnil58
end Go.Proofs.Ytkonljiembcdlaa.PC
namespace Go.Proofs.Ytkonljiembcdlaa.PC
open Go.Proofs.MyWords Go.RowKit Go.Proofs.YtkonljiembcdlaaW.PrintWords Go.Proofs.YtkonljiembcdlaaW.PrintLast Go.Proofs.YtkonljiembcdlaaW.PrintMore
attribute [local go_sem] max2_int min2_int max_two min_two max_three min_three max_four min_four   -- for this text's walks alone
set_option linter.unusedVariables false
set_option linter.unusedSimpArgs false
attribute [local go_sem] eqGuard_slices eqlnil23 neqnil23 eqlnil58 neqnil58
end Go.Proofs.Ytkonljiembcdlaa.PC
/- Small tools for statements of the form 'with enough rounds the answer is r'. -/
set_option linter.unusedVariables false
set_option linter.unusedSimpArgs false
namespace Go.Proofs.Ytkonljiembcdlaa.Pure
open Go.RowKit Go.Proofs.YtkonljiembcdlaaW.PrintWords
theorem wrap_id {x:Int} (h0:-9223372036854775808 ≤ x) (h1:x ≤ 9223372036854775807):wrap64 x=x:=by
  unfold wrap64;omega
section
variable {α β:Type} {g a b:Nat → Option α} {r:α}
theorem Ev.rounds (h:Ev g r):∃ k,g k=some r:=by
  obtain ⟨K,hK⟩:=h
  exact ⟨K,hK K (Nat.le_refl _)⟩
theorem Ev.succ (h:Ev (fun k=>g (k + 1)) r):Ev g r:=Ev.step (fun _=>rfl) h
theorem Ev.pos {c:Prop} [Decidable c] (hc:c) (h:Ev a r):Ev (fun k=>if c then a k else b k) r:=by
  simpa only [if_pos hc] using h
theorem Ev.neg {c:Prop} [Decidable c] (hc:¬ c) (h:Ev b r):Ev (fun k=>if c then a k else b k) r:=by
  simpa only [if_neg hc] using h
theorem Ev.bindc {o:Option β} {f:Nat → β → Option α} {x:β} (ho:o=some x) (h:Ev (fun k=>f k x) r):Ev (fun k=>o.bind (f k)) r:=by
  subst ho;simpa only [Option.bind_some] using h
end
theorem rd_app (pre:List Int) (x:Int) (t:List Int):rd (pre ++ x :: t) (pre.length:Int)=x:=by
  simp [rd,List.getD_eq_getElem?_getD]
theorem rd_nat (l:List Int) (j:Nat) (h:j < l.length):rd l (j:Int)=l[j]:=by
  simp [rd,List.getD_eq_getElem?_getD,List.getElem?_eq_getElem h]
theorem wf_u8 {a:Int} (h:(Lit.int .u8 a).wf=true):0 ≤ a∧a ≤ 255:=by
  simp only [Lit.wf,Bool.and_eq_true,decide_eq_true_eq] at h
  exact h
end Go.Proofs.Ytkonljiembcdlaa.Pure
/- Sums of periods, in plain Lean. -/
set_option linter.unusedVariables false
namespace Go.Proofs.Ytkonljiembcdlaa.Sem
abbrev Vec:=List Int
def addV:Vec → Vec → Vec
  | x :: v,y :: w=>(x + y) :: addV v w
  | _,_=>[]
def subV:Vec → Vec → Vec
  | x :: v,y :: w=>(x - y) :: subV v w
  | _,_=>[]
def zeroN (d:Nat):Vec:=List.replicate d 0
def nnV (v:Vec):Prop:=∀ x,x ∈ v → 0 ≤ x
instance (v:Vec):Decidable (nnV v):=by unfold nnV;infer_instance
theorem addV_comm:∀ v w:Vec,addV v w=addV w v
  | [],[]=>rfl
  | [],y :: w=>rfl
  | x :: v,[]=>rfl
  | x :: v,y :: w=>by rw [addV,addV,addV_comm v w,Int.add_comm]
theorem addV_assoc:∀ v w u:Vec,addV (addV v w) u=addV v (addV w u)
  | [],w,u=>by simp [addV]
  | x :: v,[],u=>by simp [addV]
  | x :: v,y :: w,[]=>by simp [addV]
  | x :: v,y :: w,z :: u=>by rw [addV,addV,addV,addV,addV_assoc v w u,Int.add_assoc]
theorem addV_swap (v w u:Vec):addV (addV v w) u=addV (addV v u) w:=by
  rw [addV_assoc,addV_comm w u,← addV_assoc]
theorem addV_len {d:Nat}:∀ {v w:Vec},v.length=d → w.length=d → (addV v w).length=d:=by
  induction d with
  | zero=>intro v w hv hw;rw [List.length_eq_zero_iff.1 hv,List.length_eq_zero_iff.1 hw];rfl
  | succ d ih =>
    intro v w hv hw
    match v,w,hv,hw with
    | x :: v,y :: w,hv,hw=>simp at hv hw;simp [addV,ih hv hw]
theorem subV_len {d:Nat}:∀ {v w:Vec},v.length=d → w.length=d → (subV v w).length=d:=by
  induction d with
  | zero=>intro v w hv hw;rw [List.length_eq_zero_iff.1 hv,List.length_eq_zero_iff.1 hw];rfl
  | succ d ih =>
    intro v w hv hw
    match v,w,hv,hw with
    | x :: v,y :: w,hv,hw=>simp at hv hw;simp [subV,ih hv hw]
theorem zeroN_len (d:Nat):(zeroN d).length=d:=List.length_replicate
theorem zeroN_mem {d:Nat} {x:Int} (h:x ∈ zeroN d):x=0:=List.eq_of_mem_replicate h
theorem zeroN_succ (d:Nat):zeroN (d + 1)=0 :: zeroN d:=rfl
theorem eq_zeroN:∀ {v:Vec} {d:Nat},v.length=d → (∀ x,x ∈ v → x=0) → v=zeroN d
  | v,d,h,hz=>List.eq_replicate_iff.2 ⟨h,hz⟩
theorem addV_zero:∀ {v:Vec} {d:Nat},v.length=d → addV v (zeroN d)=v
  | [],0,_=>rfl
  | x :: v,d + 1,h=>by
    simp at h
    rw [zeroN_succ,addV,addV_zero h,Int.add_zero]
theorem subV_add:∀ {v w:Vec},v.length=w.length → addV (subV v w) w=v
  | [],[],_=>rfl
  | x :: v,y :: w,h=>by
    simp at h
    rw [subV,addV,subV_add h,Int.sub_add_cancel]
theorem addV_sub:∀ {v w:Vec},v.length=w.length → subV (addV v w) w=v
  | [],[],_=>rfl
  | x :: v,y :: w,h=>by
    simp at h
    rw [addV,subV,addV_sub h,Int.add_sub_cancel]
theorem sum_addV:∀ {v w:Vec},v.length=w.length → (addV v w).sum=v.sum + w.sum
  | [],[],_=>rfl
  | x :: v,y :: w,h=>by
    simp at h
    rw [addV,List.sum_cons,List.sum_cons,List.sum_cons,sum_addV h]
    omega
theorem sum_subV {v w:Vec} (h:v.length=w.length):(subV v w).sum=v.sum - w.sum:=by
  have h1:=sum_addV (v:=subV v w) (w:=w) (by rw [subV_len h rfl])
  rw [subV_add h] at h1
  omega
theorem nn_addV:∀ {v w:Vec},nnV v → nnV w → nnV (addV v w)
  | [],w,_,_=>by intro x hx;simp [addV] at hx
  | x :: v,[],_,_=>by intro x hx;simp [addV] at hx
  | x :: v,y :: w,hv,hw=>by
    intro z hz
    rw [addV] at hz
    rcases List.mem_cons.1 hz with rfl|hz
    · have:=hv x (by simp)
      have:=hw y (by simp)
      omega
    · exact nn_addV (fun a ha=>hv a (by simp [ha])) (fun a ha=>hw a (by simp [ha])) z hz
theorem sum_nn:∀ {v:Vec},nnV v → 0 ≤ v.sum
  | [],_=>by simp
  | x :: v,h=>by
    rw [List.sum_cons]
    have:=h x (by simp)
    have:=sum_nn (v:=v) (fun a ha=>h a (by simp [ha]))
    omega
theorem zero_of_sum:∀ {v:Vec},nnV v → v.sum=0 → ∀ x,x ∈ v → x=0
  | [],_,_=>by simp
  | x :: v,h,hs=>by
    rw [List.sum_cons] at hs
    have h1:=h x (by simp)
    have h2:=sum_nn (v:=v) (fun a ha=>h a (by simp [ha]))
    intro y hy
    rcases List.mem_cons.1 hy with rfl|hy
    · omega
    · exact zero_of_sum (fun a ha=>h a (by simp [ha])) (by omega) y hy
theorem mem_le_sum:∀ {v:Vec},nnV v → ∀ x,x ∈ v → x ≤ v.sum
  | [],_,x,hx=>by simp at hx
  | y :: v,h,x,hx=>by
    rw [List.sum_cons]
    have h1:=h y (by simp)
    have h2:=sum_nn (v:=v) (fun a ha=>h a (by simp [ha]))
    rcases List.mem_cons.1 hx with rfl|hx
    · omega
    · have:=mem_le_sum (v:=v) (fun a ha=>h a (by simp [ha])) x hx
      omega
theorem nn_zeroN (d:Nat):nnV (zeroN d):=fun x hx=>by rw [zeroN_mem hx];decide
inductive Comb (d:Nat) (ps:List Vec):Vec → Prop
  | zero:Comb d ps (zeroN d)
  | add {p w}:p ∈ ps → Comb d ps w → Comb d ps (addV w p)
def okD (d:Nat) (ps:List Vec):Prop:=∀ p,p ∈ ps → p.length=d∧nnV p
section
variable {d:Nat} {ps:List Vec}
theorem Comb.len (hp:okD d ps) {v:Vec} (h:Comb d ps v):v.length=d:=by
  induction h with
  | zero=>exact zeroN_len d
  | add h1 _ ih=>exact addV_len ih (hp _ h1).1
theorem Comb.nn (hp:okD d ps) {v:Vec} (h:Comb d ps v):nnV v:=by
  induction h with
  | zero=>exact nn_zeroN d
  | add h1 _ ih=>exact nn_addV ih (hp _ h1).2
theorem Comb.mono {qs:List Vec} (hs:∀ p,p ∈ ps → p ∈ qs) {v:Vec} (h:Comb d ps v):Comb d qs v:=by
  induction h with
  | zero=>exact .zero
  | add h1 _ ih=>exact .add (hs _ h1) ih
theorem comb_nil {v:Vec}:Comb d [] v ↔ v=zeroN d :=
  ⟨fun h=>by cases h with
    | zero=>rfl
    | add h1 _=>simp at h1,fun h=>h ▸ .zero⟩
theorem comb_cons {p v:Vec}:Comb d (p :: ps) v ↔ Comb d ps v ∨ ∃ w,Comb d (p :: ps) w∧v=addV w p:=by
  constructor
  · intro h
    induction h with
    | zero=>exact .inl .zero
    | @add q w h1 h2 ih =>
      rcases List.mem_cons.1 h1 with rfl|h1
      · exact .inr ⟨w,h2,rfl⟩
      · rcases ih with ih|⟨u,hu,rfl⟩
        · exact .inl (.add h1 ih)
        · exact .inr ⟨addV u q,.add (by simp [h1]) hu,addV_swap _ _ _⟩
  · rintro (h|⟨w,h,rfl⟩)
    · exact h.mono (fun q hq=>by simp [hq])
    · exact .add (by simp) h
theorem comb_sub {p v:Vec} (hp:okD d (p :: ps)) (hv:v.length=d):Comb d (p :: ps) v ↔ Comb d ps v ∨ Comb d (p :: ps) (subV v p):=by
  have hl:v.length=p.length:=hv.trans (hp p (by simp)).1.symm
  rw [comb_cons]
  constructor
  · rintro (h|⟨w,h,rfl⟩)
    · exact .inl h
    · rw [addV_sub ((h.len hp).trans (hp p (by simp)).1.symm)]
      exact .inr h
  · rintro (h|h)
    · exact .inl h
    · exact .inr ⟨_,h,(subV_add hl).symm⟩
theorem comb_skip {p:Vec} (hz:p=zeroN d) (hp:okD d ps) {v:Vec}:Comb d (p :: ps) v ↔ Comb d ps v:=by
  constructor
  · intro h
    induction h with
    | zero=>exact .zero
    | add h1 _ ih =>
      rcases List.mem_cons.1 h1 with rfl|h1
      · rw [hz,addV_zero (ih.len hp)];exact ih
      · exact .add h1 ih
  · exact fun h=>h.mono (fun q hq=>by simp [hq])
theorem comb_filter (hp:okD d ps) (f:Vec → Bool) (hf:∀ p,p ∈ ps → f p=false → p=zeroN d) {v:Vec}:Comb d (ps.filter f) v ↔ Comb d ps v:=by
  constructor
  · exact fun h=>h.mono (fun q hq=>(List.mem_filter.1 hq).1)
  · intro h
    have ho:okD d (ps.filter f):=fun q hq=>hp q (List.mem_filter.1 hq).1
    induction h with
    | zero=>exact .zero
    | @add p w h1 _ ih =>
      cases hb:f p with
      | true=>exact .add (List.mem_filter.2 ⟨h1,hb⟩) ih
      | false=>rw [hf p h1 hb,addV_zero (ih.len ho)];exact ih
end
end Go.Proofs.Ytkonljiembcdlaa.Sem
/- Differences of vectors, and sums of periods, as the program and the reference take them, in plain Lean. -/
set_option linter.unusedVariables false
set_option linter.unusedSimpArgs false
namespace Go.Proofs.Ytkonljiembcdlaa.Pure
open Go.RowKit Go.Proofs.MyWords Go.Proofs.YtkonljiembcdlaaW.PrintWords Go.Proofs.YtkonljiembcdlaaW.PrintLast Go.Proofs.YtkonljiembcdlaaW.PrintMore Go.Proofs.Ytkonljiembcdlaa.PC Go.Proofs.Ytkonljiembcdlaa.Sem
theorem getD_app {α:Type} (pre:List α) (x:α) (t:List α) (d:α):(pre ++ x :: t).getD ((pre.length:Int)).toNat d=x:=by
  simp [List.getD_eq_getElem?_getD]
theorem rdL1_app (pre:List (List Int)) (x:List Int) (t:List (List Int)):rd_L1 (pre ++ x :: t) (pre.length:Int)=x:=getD_app _ _ _ _
theorem rdL4_app (pre:List (List S60)) (x:List S60) (t:List (List S60)):rd_L4 (pre ++ x :: t) (pre.length:Int)=x:=getD_app _ _ _ _
theorem rdT60_app (pre:List S60) (x:S60) (t:List S60):rd_T60 (pre ++ x :: t) (pre.length:Int)=x:=getD_app _ _ _ _
theorem wsucc {n:Nat} (h:n < 4611686018427387904):wrap64 ((n:Int) + 1)=((n + 1:Nat):Int):=by rw [wrap_id (by omega) (by omega)];omega
theorem len_snoc {α:Type} (pre:List α) (x:α):pre.length + 1=(pre ++ [x]).length:=by simp
theorem app_snoc {α:Type} (pre:List α) (x:α) (t:List α):pre ++ x :: t=(pre ++ [x]) ++ t:=by simp
theorem lt_app {α:Type} (pre:List α) (x:α) (t:List α):(pre.length:Int) < ((pre ++ x :: t).length:Int):=by simp;omega
theorem set_app {α:Type} (pre:List α) (x y:α) (t:List α):(pre ++ x :: t).set ((pre.length:Int)).toNat y=pre ++ y :: t:=by simp
def inB (m:Int) (v:List Int):Prop:=∀ x,x ∈ v → 0 ≤ x∧x ≤ m
theorem inB.nn {m:Int} {v:List Int} (h:inB m v):nnV v:=fun x hx=>(h x hx).1
theorem outside_iff (v:List Int) (m:Int):(v.any fun x=>decide (x < 0) || decide (m < x))=true ↔ ¬ inB m v:=by
  rw [List.any_eq_true]
  constructor
  · rintro ⟨x,hx,h⟩ hi
    have:=hi x hx
    simp at h
    omega
  · intro h
    apply Classical.byContradiction
    intro h2
    refine h (fun x hx=>?_)
    apply Classical.byContradiction
    intro h3
    exact h2 ⟨x,hx,by simp;omega⟩
theorem less_go (m:Int):∀ (v2 w2 v1 w1 o1:List Int),v1.length=w1.length → o1.length=v1.length → v2.length=w2.length → inB 1000000 v2 → inB 1000000 w2 → (v1 ++ v2).length < 1000000 →
    Ev (fun k=>count_less.l0 k (v1 ++ v2) (w1 ++ w2) (o1 ++ List.replicate v2.length 0) ((v1 ++ v2).length:Int) (v1.length:Int)) (o1 ++ subV v2 w2,!((o1 ++ subV v2 w2).any fun x=>decide (x < 0) || decide (60 < x)))
  | [],[],v1,w1,o1,h1,h2,h3,b1,b2,hl=>by
    refine Ev.succ ?_
    simp only [count_less.l0]
    refine Ev.neg (by simp) ?_
    refine Ev.bindc (x:=(o1 ++ subV [] []).any fun x=>decide (x < 0) || decide (60 < x)) (by simp [count_outside.f,subV]) ?_
    simp [subV]
    exact Ev.now _
  | x :: v2,y :: w2,v1,w1,o1,h1,h2,h3,b1,b2,hl=>by
    have hlen:(v1 ++ x :: v2).length=v1.length + (v2.length + 1):=by simp
    have ih:=less_go m v2 w2 (v1 ++ [x]) (w1 ++ [y]) (o1 ++ [x - y]) (by simp [h1]) (by simp [h2]) (by simpa using h3) (fun z hz=>b1 z (by simp [hz])) (fun z hz=>b2 z (by simp [hz])) (by simp at hl ⊢;omega)
    have bx:=b1 x (by simp)
    have by':=b2 y (by simp)
    refine Ev.succ ?_
    simp only [count_less.l0]
    refine Ev.pos (by simp;omega) (Ev.pos (by omega) (Ev.pos (by simp;omega) (Ev.pos (by simp;omega) (Ev.pos (by simp;omega) ?_))))
    rw [rd_app v1 x v2,show (v1.length:Int)=(w1.length:Int) by omega,rd_app w1 y w2,← h1,wrap_id (by omega) (by omega),wsucc (by simp at hl;omega)]
    rw [← app_snoc,← app_snoc] at ih
    have e:(o1 ++ List.replicate (x :: v2).length 0).set ((v1.length:Int)).toNat (x - y)=o1 ++ [x - y] ++ List.replicate v2.length 0:=by
      rw [← h2,List.length_cons,List.replicate_succ,set_app];simp
    rw [e,len_snoc v1 x,subV]
    rw [List.append_assoc o1 [x - y] (subV v2 w2)] at ih
    exact ih
theorem less_ev {v w:List Int} (h:v.length=w.length) (hv:inB 1000000 v) (hw:inB 1000000 w) (hl:v.length < 1000000):Ev (fun k=>count_less.f k v w) (subV v w,!((subV v w).any fun x=>decide (x < 0) || decide (60 < x))):=by
  have:=less_go 0 v w [] [] [] rfl rfl h hv hw hl
  simp only [List.nil_append,List.length_nil] at this
  unfold count_less.f
  refine Ev.pos (by omega) (Ev.pos (by omega) ?_)
  rw [Int.toNat_natCast]
  exact this
theorem less_ok {m:Int} {v w:List Int} (h:v.length=w.length) (hv:inB 60 v) (hw:inB 1000000 w) (hl:v.length < 1000000):Ev (fun k=>count_less.f k v w) (subV v w,decide (nnV (subV v w))):=by
  have h1:=less_ev h (fun x hx=>⟨(hv x hx).1,by have:=hv x hx;omega⟩) hw hl
  have le60:∀ (v w:List Int),inB 60 v → nnV w → ∀ x,x ∈ subV v w → x ≤ 60:=fun v=>by
    induction v with
    | nil=>intro w _ _ x hx;simp [subV] at hx
    | cons a v ih =>
      intro w hv hw x hx
      match w,hw,hx with
      | b :: w,hw,hx =>
        rw [subV] at hx
        rcases List.mem_cons.1 hx with rfl|hx
        · have:=hv a (by simp)
          have:=hw b (by simp)
          omega
        · exact ih w (fun z hz=>hv z (by simp [hz])) (fun z hz=>hw z (by simp [hz])) x hx
  have e:(!((subV v w).any fun x=>decide (x < 0) || decide (60 < x)))=decide (nnV (subV v w)):=by
    rw [Bool.eq_iff_iff,decide_eq_true_iff,Bool.not_eq_true',← Bool.not_eq_true,outside_iff]
    constructor
    · intro h x hx
      exact (Classical.byContradiction h x hx).1
    · exact fun h hn=>hn (fun x hx=>⟨h x hx,le60 v w hv hw.nn x hx⟩)
  rw [← e]
  exact h1
end Go.Proofs.Ytkonljiembcdlaa.Pure
/- Has, of the program and of the reference, in plain Lean. -/
set_option linter.unusedVariables false
set_option linter.unusedSimpArgs false
namespace Go.Proofs.Ytkonljiembcdlaa.Pure
open Go.RowKit Go.Proofs.MyWords Go.Proofs.YtkonljiembcdlaaW.PrintWords Go.Proofs.YtkonljiembcdlaaW.PrintLast Go.Proofs.YtkonljiembcdlaaW.PrintMore Go.Proofs.Ytkonljiembcdlaa.PC Go.Proofs.Ytkonljiembcdlaa.Sem
def okV (d:Nat) (m:Int) (v:List Int):Prop:=v.length=d∧inB m v
theorem okV.mono {d:Nat} {m n:Int} {v:List Int} (h:okV d m v) (hm:m ≤ n):okV d n v:=⟨h.1,fun x hx=>⟨(h.2 x hx).1,by have:=h.2 x hx;omega⟩⟩
def okP (d:Nat) (ps:List (List Int)):Prop:=∀ p,p ∈ ps → okV d 1000000 p
theorem okP.okD {d:Nat} {ps:List (List Int)} (h:okP d ps):okD d ps:=fun p hp=>⟨(h p hp).1,(h p hp).2.nn⟩
theorem okP.tail {d:Nat} {p:List Int} {ps:List (List Int)} (h:okP d (p :: ps)):okP d ps:=fun q hq=>h q (by simp [hq])
theorem sub60 {d:Nat} {v w:List Int} (hv:okV d 60 v) (hw:okV d 1000000 w) (h:nnV (subV v w)):okV d 60 (subV v w):=by
  refine ⟨subV_len hv.1 hw.1,fun x hx=>⟨h x hx,?_⟩⟩
  have:∀ (v w:List Int),inB 60 v → nnV w → ∀ x,x ∈ subV v w → x ≤ 60:=fun v=>by
    induction v with
    | nil=>intro w _ _ x hx;simp [subV] at hx
    | cons a v ih =>
      intro w hv hw x hx
      match w,hw,hx with
      | b :: w,hw,hx =>
        rw [subV] at hx
        rcases List.mem_cons.1 hx with rfl|hx
        · have:=hv a (by simp)
          have:=hw b (by simp)
          omega
        · exact ih w (fun z hz=>hv z (by simp [hz])) (fun z hz=>hw z (by simp [hz])) x hx
  exact this v w hv.2 hw.2.nn x hx
theorem zeroV_iff (v:List Int):zeroV v=true ↔ ∀ x,x ∈ v → x=0:=by
  unfold zeroV
  rw [Bool.not_eq_true',← Bool.not_eq_true,List.any_eq_true]
  constructor
  · intro h x hx
    apply Classical.byContradiction
    intro h2
    exact h ⟨x,hx,by simp [h2]⟩
  · rintro h ⟨x,hx,h2⟩
    rw [h x hx] at h2
    simp at h2
theorem zero_f (v:List Int):count_zero.f v=some (zeroV v):=rfl
theorem pos_of_nz {p:List Int} (hn:nnV p) (h:zeroV p=false):0 < p.sum:=by
  have:=sum_nn hn
  rcases Int.lt_or_eq_of_le this with h1|h1
  · exact h1
  · have:=(zeroV_iff p).2 (zero_of_sum hn h1.symm)
    rw [h] at this
    cases this
theorem made_nil (v:List Int):Ev (fun k=>count_made.f k v []) (zeroV v):=by
  refine Ev.succ ?_
  simp only [count_made.f,zero_f,Option.bind_some]
  cases h:zeroV v with
  | true=>exact Ev.pos rfl (Ev.now _)
  | false=>exact Ev.neg (by simp) (Ev.pos (by simp) (Ev.now _))
theorem made_ev (d:Nat) (hd:d < 1000000):∀ (ps:List (List Int)),okP d ps → (∀ p,p ∈ ps → zeroV p=false) → ∀ v,okV d 60 v → ∃ b,Ev (fun k=>count_made.f k v ps) b∧(b=true ↔ Comb d ps v)
  | [],_,_,v,hv=>⟨_,made_nil v,by
      rw [zeroV_iff,comb_nil]
      exact ⟨eq_zeroN hv.1,fun h x hx=>by rw [h] at hx;exact zeroN_mem hx⟩⟩
  | p :: ps,hp,hz,v,hv=>by
    have IH:=made_ev d hd ps hp.tail (fun q hq=>hz q (by simp [hq]))
    have pp:0 < p.sum:=pos_of_nz (hp p (by simp)).2.nn (hz p (by simp))
    have loop:∀ (n:Nat) (v:List Int),v.sum.toNat < n → okV d 60 v → ∃ b,Ev (fun k=>count_made.l0 k v (p :: ps) true) b∧(b=true ↔ Comb d (p :: ps) v):=fun n=>by
      induction n with
      | zero=>intro v h _;omega
      | succ n ih =>
        intro v hn hv
        have hl:v.length=p.length:=hv.1.trans (hp p (by simp)).1.symm
        have hle:=less_ok (m:=0) hl hv.2 (hp p (by simp)).2 (by rw [hv.1];exact hd)
        obtain ⟨b1,e1,i1⟩:=IH v hv
        have hc:=comb_sub hp.okD (v:=v) hv.1
        cases b1 with
        | true =>
          refine ⟨true,?_,⟨fun _=>hc.2 (.inl (i1.1 rfl)),fun _=>rfl⟩⟩
          refine Ev.succ ?_
          simp only [count_made.l0]
          refine Ev.pos trivial (Ev.pos (by simp <;> omega) (Ev.bind e1 (Ev.pos rfl (Ev.now _))))
        | false =>
          have hno:¬ Comb d ps v:=fun h=>by have:=i1.2 h;cases this
          have rd0:rd_L1 (p :: ps) 0=p:=rfl
          have start:∀ b,Ev (fun k=>count_made.l0 k (subV v p) (p :: ps) (decide (nnV (subV v p)))) b → Ev (fun k=>count_made.l0 k v (p :: ps) true) b:=fun b hb=>by
            refine Ev.succ ?_
            simp only [count_made.l0]
            refine Ev.pos trivial (Ev.pos (by simp <;> omega) (Ev.bind e1 (Ev.neg (by simp) (Ev.pos (by simp <;> omega) ?_))))
            rw [rd0]
            exact Ev.bind hle hb
          by_cases hnn:nnV (subV v p)
          · have hs:=sub60 hv (hp p (by simp)) hnn
            have hsum:=sum_subV hl
            have:=sum_nn hs.2.nn
            have:=sum_nn hv.2.nn
            obtain ⟨b,e2,i2⟩:=ih (subV v p) (by omega) hs
            refine ⟨b,start b (by rw [decide_eq_true hnn];exact e2),?_⟩
            rw [i2,hc]
            exact ⟨.inr,fun h=>h.resolve_left hno⟩
          · refine ⟨false,start false (by rw [decide_eq_false hnn];refine Ev.succ ?_;simp only [count_made.l0];exact Ev.neg (by simp) (Ev.now _)),⟨fun h=>(by cases h),fun h=>?_⟩⟩
            rcases hc.1 h with h|h
            · exact absurd h hno
            · exact absurd (h.nn hp.okD) hnn
    cases hzv:zeroV v with
    | true =>
      have:v=zeroN d:=eq_zeroN hv.1 ((zeroV_iff v).1 hzv)
      refine ⟨true,?_,⟨fun _=>this ▸ .zero,fun _=>rfl⟩⟩
      refine Ev.succ ?_
      simp only [count_made.f,zero_f,Option.bind_some,hzv]
      exact Ev.pos trivial (Ev.now _)
    | false =>
      obtain ⟨b,e,i⟩:=loop (v.sum.toNat + 1) v (by omega) hv
      refine ⟨b,?_,i⟩
      refine Ev.succ ?_
      simp only [count_made.f,zero_f,Option.bind_some,hzv]
      exact Ev.neg (by simp) (Ev.neg (by simp <;> omega) e)
def InL (d:Nat) (b:List Int) (ps:List (List Int)) (v:List Int):Prop:=∃ w,Comb d ps w∧v=addV b w
def InS (d:Nat) (set:List S60) (v:List Int):Prop:=∃ l,l ∈ set∧InL d l.f0 l.f1 v
def okL (d:Nat) (l:S60):Prop:=okV d 1000000 l.f0∧okP d l.f1∧l.f1.length ≤ 1000000
theorem inL_sub {d:Nat} {b:List Int} {ps:List (List Int)} (hb:okV d 1000000 b) (hp:okP d ps) {v:List Int} (hv:v.length=d):InL d b ps v ↔ nnV (subV v b)∧Comb d ps (subV v b):=by
  constructor
  · rintro ⟨w,hw,rfl⟩
    have hl:=hw.len hp.okD
    rw [addV_comm,addV_sub (hl.trans hb.1.symm)]
    exact ⟨hw.nn hp.okD,hw⟩
  · rintro ⟨_,h⟩
    exact ⟨_,h,by rw [addV_comm,subV_add (hv.trans hb.1.symm)]⟩
theorem in_ev {d:Nat} (hd:d < 1000000) {l:S60} (hl:okL d l) {v:List Int} (hv:okV d 60 v):∃ b,Ev (fun k=>count_in.f k l.f0 l.f1 v) b∧(b=true ↔ InL d l.f0 l.f1 v):=by
  obtain ⟨hb,hp,hn⟩:=hl
  have hle:=less_ok (m:=0) (hv.1.trans hb.1.symm) hv.2 hb.2 (by rw [hv.1];exact hd)
  have hi:=inL_sub hb hp hv.1
  have start:∀ b,Ev (fun k=>if decide (nnV (subV v l.f0))=true then count_made.f k (subV v l.f0) (l.f1.filter fun x=>!zeroV x) else some false) b → Ev (fun k=>count_in.f k l.f0 l.f1 v) b:=fun b h=>by
    unfold count_in.f
    exact Ev.pos (by omega) (Ev.bind hle h)
  by_cases hnn:nnV (subV v l.f0)
  · have hz:∀ p,p ∈ (l.f1.filter fun x=>!zeroV x) → zeroV p=false:=fun p h=>by simpa using (List.mem_filter.1 h).2
    obtain ⟨b,e,i⟩:=made_ev d hd (l.f1.filter fun x=>!zeroV x) (fun p h=>hp p (List.mem_filter.1 h).1) hz _ (sub60 hv hb hnn)
    refine ⟨b,start b (Ev.pos (decide_eq_true hnn) e),?_⟩
    rw [i,hi,comb_filter hp.okD (fun x=>!zeroV x) (fun p h hf=>eq_zeroN (hp p h).1 ((zeroV_iff p).1 (by simpa using hf)))]
    exact ⟨fun h=>⟨hnn,h⟩,fun h=>h.2⟩
  · exact ⟨false,start false (Ev.neg (by simpa using hnn) (Ev.now _)),⟨fun h=>(by cases h),fun h=>absurd (hi.1 h).1 hnn⟩⟩
theorem has_go {d:Nat} (hd:d < 1000000) {v:List Int} (hv:okV d 60 v):∀ set:List S60,(∀ l,l ∈ set → okL d l) → ∃ b,Ev (fun k=>count_has.g k v set) b∧(b=true ↔ InS d set v)
  | [],_=>⟨false,Ev.now _,⟨fun h=>(by cases h),fun ⟨l,h,_⟩=>by simp at h⟩⟩
  | l :: set,h=>by
    obtain ⟨b,e,i⟩:=in_ev hd (h l (by simp)) hv
    obtain ⟨c,f,j⟩:=has_go hd hv set (fun x hx=>h x (by simp [hx]))
    refine ⟨b || c,Ev.bind e (Ev.bind f (Ev.now _)),?_⟩
    rw [Bool.or_eq_true,i,j]
    constructor
    · rintro (h|⟨x,hx,h⟩)
      · exact ⟨l,by simp,h⟩
      · exact ⟨x,by simp [hx],h⟩
    · rintro ⟨x,hx,h2⟩
      rcases List.mem_cons.1 hx with rfl|hx
      · exact .inl h2
      · exact .inr ⟨x,hx,h2⟩
theorem has_ev {d:Nat} (hd:d < 1000000) {v:List Int} (hv:okV d 60 v) {set:List S60} (h:∀ l,l ∈ set → okL d l):∃ b,Ev (fun k=>count_has.f k set v) b∧(b=true ↔ InS d set v):=has_go hd hv set h
end Go.Proofs.Ytkonljiembcdlaa.Pure
/- Which error semilinear sets have, by the program and by the reference, in plain Lean. -/
set_option linter.unusedVariables false
set_option linter.unusedSimpArgs false
namespace Go.Proofs.Ytkonljiembcdlaa.Pure
open Go.RowKit Go.Proofs.MyWords Go.Proofs.YtkonljiembcdlaaW.PrintWords Go.Proofs.YtkonljiembcdlaaW.PrintLast Go.Proofs.YtkonljiembcdlaaW.PrintMore Go.Proofs.Ytkonljiembcdlaa.PC Go.Proofs.Ytkonljiembcdlaa.Sem
def farV (v:List Int):Bool:=v.any fun x=>decide (x < 0) || decide (20 < x)
def oddV (d:Int) (v:List Int):Bool:=(v.length:Int) != d
def longS (s:List S60):Bool:=s.any (fun l=>decide ((l.f1.length:Int) > 4)) || decide ((s.length:Int) > 8)
def wideS (s:List S60):Bool:=s.any fun l=>farV l.f0 || l.f1.any farV
def oddS (d:Int) (s:List S60):Bool:=s.any fun l=>oddV d l.f0 || l.f1.any (oddV d)
def badD (d:Int):Bool:=decide (d < 1) || decide (d > 3)
def chk (d:Int) (ss:List (List S60)):Int:=if ss.any longS=true then 3 else if (badD d || ss.any wideS)=true then 1 else if ss.any (oddS d)=true then 2 else 0
def short {α:Type} (l:List α):Prop:=l.length < 1000000000
theorem short.tail {α:Type} {x:α} {l:List α} (h:short (x :: l)):short l:=by unfold short at *;simp at h;omega
section
variable (d:Int) (lg:Bool) (ss:List (List S60)) (n2 i2:Int) (set:List S60) (n1 i1:Int)
theorem check_l2:∀ (t pre:List (List Int)) (fr od:Bool) (r:Int),short (pre ++ t) → Ev (fun k=>count_check.l1 k d lg (fr || t.any farV) (od || t.any (oddV d)) ss n2 i2 set n1 (wrap64 (i1 + 1))) r →
    Ev (fun k=>count_check.l2 k d lg fr od ss n2 i2 set n1 i1 (pre ++ t) ((pre ++ t).length:Int) (pre.length:Int)) r
  | [],pre,fr,od,r,hs,h=>by
    refine Ev.succ ?_
    simp only [count_check.l2]
    refine Ev.neg (by simp) ?_
    simpa using h
  | p :: t,pre,fr,od,r,hs,h=>by
    have ws:wrap64 ((pre.length:Int) + 1)=((pre.length + 1:Nat):Int):=wsucc (by unfold short at hs;simp at hs;omega)
    have ih:∀ fr od,Ev (fun k=>count_check.l1 k d lg (fr || t.any farV) (od || t.any (oddV d)) ss n2 i2 set n1 (wrap64 (i1 + 1))) r → Ev (fun k=>count_check.l2 k d lg fr od ss n2 i2 set n1 i1 (pre ++ p :: t) ((pre ++ p :: t).length:Int) ((pre.length + 1:Nat):Int)) r:=fun fr od h2=>by
      have:=check_l2 t (pre ++ [p]) fr od r (by rw [← app_snoc];exact hs) h2
      rw [← app_snoc,← len_snoc] at this
      exact this
    rw [List.any_cons,List.any_cons,← Bool.or_assoc,← Bool.or_assoc] at h
    refine Ev.succ ?_
    simp only [count_check.l2,rdL1_app,ws]
    refine Ev.pos (lt_app _ _ _) (Ev.pos (by omega) (Ev.pos (lt_app _ _ _) ?_))
    have inner:∀ f2,f2=(fr || farV p) → Ev (fun k=>if od=true then count_check.l2 k d lg f2 true ss n2 i2 set n1 i1 (pre ++ p :: t) ((pre ++ p :: t).length:Int) ((pre.length + 1:Nat):Int) else count_check.l2 k d lg f2 ((p.length:Int) != d) ss n2 i2 set n1 i1 (pre ++ p :: t) ((pre ++ p :: t).length:Int) ((pre.length + 1:Nat):Int)) r:=fun f2 e=>by
      subst e
      cases od with
      | true=>exact Ev.pos rfl (ih _ _ h)
      | false=>exact Ev.neg (by simp) (ih _ _ h)
    cases fr with
    | true=>exact Ev.pos rfl (inner _ rfl)
    | false =>
      refine Ev.neg (by simp) ?_
      refine Ev.bindc (x:=farV p) rfl ?_
      exact inner _ rfl
end
theorem check_l1 (d:Int) (ss:List (List S60)) (n2 i2:Int):∀ (t pre:List S60) (lg fr od:Bool) (r:Int),short (pre ++ t) → (∀ l,l ∈ t → short l.f1) →
    Ev (fun k=>count_check.l0 k d (lg || t.any (fun l=>decide ((l.f1.length:Int) > 4))) (fr || wideS t) (od || oddS d t) ss n2 (wrap64 (i2 + 1))) r →
    Ev (fun k=>count_check.l1 k d lg fr od ss n2 i2 (pre ++ t) ((pre ++ t).length:Int) (pre.length:Int)) r
  | [],pre,lg,fr,od,r,hs,hp,h=>by
    refine Ev.succ ?_
    simp only [count_check.l1]
    refine Ev.neg (by simp) ?_
    simpa [wideS,oddS] using h
  | l :: t,pre,lg,fr,od,r,hs,hp,h=>by
    have ws:wrap64 ((pre.length:Int) + 1)=((pre.length + 1:Nat):Int):=wsucc (by unfold short at hs;simp at hs;omega)
    have ih:∀ lg fr od,Ev (fun k=>count_check.l0 k d (lg || t.any (fun l=>decide ((l.f1.length:Int) > 4))) (fr || wideS t) (od || oddS d t) ss n2 (wrap64 (i2 + 1))) r → Ev (fun k=>count_check.l1 k d lg fr od ss n2 i2 (pre ++ l :: t) ((pre ++ l :: t).length:Int) ((pre.length + 1:Nat):Int)) r:=fun lg fr od h2=>by
      have:=check_l1 d ss n2 i2 t (pre ++ [l]) lg fr od r (by rw [← app_snoc];exact hs) (fun x hx=>hp x (by simp [hx])) h2
      rw [← app_snoc,← len_snoc] at this
      exact this
    have e1:wideS (l :: t)=(farV l.f0 || l.f1.any farV || wideS t):=by unfold wideS;rw [List.any_cons]
    have e2:oddS d (l :: t)=(oddV d l.f0 || l.f1.any (oddV d) || oddS d t):=by unfold oddS;rw [List.any_cons]
    rw [List.any_cons,e1,e2,← Bool.or_assoc,← Bool.or_assoc,← Bool.or_assoc,← Bool.or_assoc,← Bool.or_assoc] at h
    have s6:∀ lg fr od,Ev (fun k=>count_check.l0 k d (lg || t.any (fun l=>decide ((l.f1.length:Int) > 4))) (fr || l.f1.any farV || wideS t) (od || l.f1.any (oddV d) || oddS d t) ss n2 (wrap64 (i2 + 1))) r → Ev (fun k=>count_check.j6 k d lg fr od ss n2 i2 (pre ++ l :: t) ((pre ++ l :: t).length:Int) (pre.length:Int) l.f0 l.f1) r:=fun lg fr od h2=>by
      refine Ev.succ ?_
      simp only [count_check.j6]
      refine check_l2 d lg ss n2 i2 _ _ _ l.f1 [] fr od r (hp l (by simp)) ?_
      rw [ws]
      exact ih _ _ _ h2
    have s5:∀ lg fr od,Ev (fun k=>count_check.l0 k d (lg || t.any (fun l=>decide ((l.f1.length:Int) > 4))) (fr || l.f1.any farV || wideS t) (od || oddV d l.f0 || l.f1.any (oddV d) || oddS d t) ss n2 (wrap64 (i2 + 1))) r → Ev (fun k=>count_check.j5 k d lg fr od ss n2 i2 (pre ++ l :: t) ((pre ++ l :: t).length:Int) (pre.length:Int) l.f0 l.f1) r:=fun lg fr od h2=>by
      refine Ev.succ ?_
      simp only [count_check.j5]
      cases od with
      | true=>exact Ev.pos rfl (s6 _ _ _ (by simpa using h2))
      | false=>exact Ev.neg (by simp) (s6 _ _ _ (by simpa [oddV] using h2))
    have s4:∀ lg fr od,Ev (fun k=>count_check.l0 k d (lg || t.any (fun l=>decide ((l.f1.length:Int) > 4))) (fr || farV l.f0 || l.f1.any farV || wideS t) (od || oddV d l.f0 || l.f1.any (oddV d) || oddS d t) ss n2 (wrap64 (i2 + 1))) r → Ev (fun k=>count_check.j4 k d lg fr od ss n2 i2 (pre ++ l :: t) ((pre ++ l :: t).length:Int) (pre.length:Int) l.f0 l.f1) r:=fun lg fr od h2=>by
      refine Ev.succ ?_
      simp only [count_check.j4]
      cases fr with
      | true=>exact Ev.pos rfl (s5 _ _ _ (by simpa using h2))
      | false =>
        refine Ev.neg (by simp) ?_
        refine Ev.bindc (x:=farV l.f0) rfl ?_
        exact s5 _ _ _ (by simpa using h2)
    refine Ev.succ ?_
    simp only [count_check.l1,rdT60_app]
    refine Ev.pos (lt_app _ _ _) (Ev.pos (by omega) (Ev.pos (lt_app _ _ _) ?_))
    cases lg with
    | true=>exact Ev.pos rfl (s4 _ _ _ (by simpa using h))
    | false=>exact Ev.neg (by simp) (s4 _ _ _ (by simpa using h))
def tell (lg fr od:Bool):Int:=if lg=true then 3 else if fr=true then 1 else if od=true then 2 else 0
theorem check_l0 (d:Int):∀ (t pre:List (List S60)) (lg fr od:Bool),short (pre ++ t) → (∀ s,s ∈ t → short s∧∀ l,l ∈ s → short l.f1) →
    Ev (fun k=>count_check.l0 k d lg fr od (pre ++ t) ((pre ++ t).length:Int) (pre.length:Int)) (tell (lg || t.any longS) (fr || t.any wideS) (od || t.any (oddS d)))
  | [],pre,lg,fr,od,hs,hp=>by
    refine Ev.succ ?_
    simp only [count_check.l0]
    refine Ev.neg (by simp) ?_
    unfold tell
    cases lg
    · refine Ev.neg (by simp) ?_
      cases fr
      · refine Ev.neg (by simp) ?_
        cases od
        · exact Ev.neg (by simp) (Ev.now _)
        · exact Ev.pos rfl (Ev.now _)
      · exact Ev.pos rfl (Ev.now _)
    · exact Ev.pos rfl (Ev.now _)
  | s :: t,pre,lg,fr,od,hs,hp=>by
    have ws:wrap64 ((pre.length:Int) + 1)=((pre.length + 1:Nat):Int):=wsucc (by unfold short at hs;simp at hs;omega)
    have ih:∀ lg fr od,Ev (fun k=>count_check.l0 k d lg fr od (pre ++ s :: t) ((pre ++ s :: t).length:Int) ((pre.length + 1:Nat):Int)) (tell (lg || t.any longS) (fr || t.any wideS) (od || t.any (oddS d))):=fun lg fr od=>by
      have:=check_l0 d t (pre ++ [s]) lg fr od (by rw [← app_snoc];exact hs) (fun x hx=>hp x (by simp [hx]))
      rw [← app_snoc,← len_snoc] at this
      exact this
    have j2:∀ lg,Ev (fun k=>count_check.j2 k d lg fr od s (pre ++ s :: t) ((pre ++ s :: t).length:Int) (pre.length:Int)) (tell ((lg || s.any (fun l=>decide ((l.f1.length:Int) > 4))) || t.any longS) (fr || wideS s || t.any wideS) (od || oddS d s || t.any (oddS d))):=fun lg=>by
      refine Ev.succ ?_
      simp only [count_check.j2]
      refine check_l1 d _ _ _ s [] lg fr od _ (hp s (by simp)).1 (hp s (by simp)).2 ?_
      rw [ws]
      exact ih _ _ _
    refine Ev.succ ?_
    simp only [count_check.l0,rdL4_app]
    refine Ev.pos (lt_app _ _ _) (Ev.pos (by omega) (Ev.pos (lt_app _ _ _) ?_))
    rw [List.any_cons,List.any_cons,List.any_cons,← Bool.or_assoc,← Bool.or_assoc,← Bool.or_assoc]
    cases lg with
    | true =>
      refine Ev.pos rfl ?_
      simpa using j2 true
    | false =>
      refine Ev.neg (by simp) ?_
      have:=j2 (decide ((s.length:Int) > 8))
      rw [Bool.or_comm (decide ((s.length:Int) > 8))] at this
      rw [Bool.false_or]
      exact this
theorem check_ev (d:Int) (ss:List (List S60)) (hs:short ss) (hp:∀ s,s ∈ ss → short s∧∀ l,l ∈ s → short l.f1):Ev (fun k=>count_check.f k d ss) (chk d ss):=by
  have go:∀ fr,Ev (fun k=>count_check.j0 k d ss false fr false) (tell (ss.any longS) (fr || ss.any wideS) (ss.any (oddS d))):=fun fr=>by
    refine Ev.succ ?_
    simp only [count_check.j0]
    have:=check_l0 d ss [] false fr false hs hp
    simpa using this
  unfold count_check.f
  by_cases h:d < 1
  · have e:badD d=true:=by unfold badD;simp [h]
    refine Ev.pos h ?_
    have:=go true
    unfold chk
    rw [e]
    exact this
  · have e:badD d=decide (d > 3):=by unfold badD;simp [h]
    refine Ev.neg h ?_
    have:=go (decide (d > 3))
    unfold chk
    rw [e]
    exact this
def shortL (l:S60):Prop:=short l.f0∧short (l.f0 :: l.f1)∧∀ p,p ∈ l.f1 → short p
def shortS (s:List S60):Prop:=short s∧∀ l,l ∈ s → shortL l
def okSet (d:Nat) (s:List S60):Prop:=s.length ≤ 8∧∀ l,l ∈ s → okV d 20 l.f0∧l.f1.length ≤ 4∧∀ p,p ∈ l.f1 → okV d 20 p
theorem farV_iff (v:List Int):farV v=false ↔ inB 20 v:=by
  have:=outside_iff v 20
  unfold farV
  rw [← Bool.not_eq_true,this]
  exact ⟨fun h=>Classical.byContradiction h,fun h h2=>h2 h⟩
theorem oddV_iff (d:Int) (v:List Int):oddV d v=false ↔ (v.length:Int)=d:=by unfold oddV;simp
theorem chk_ok {d:Int} {ss:List (List S60)}:chk d ss=0 ↔ (1 ≤ d∧d ≤ 3)∧∀ s,s ∈ ss → okSet d.toNat s:=by
  have hl:∀ s,longS s=false ↔ s.length ≤ 8∧∀ l,l ∈ s → l.f1.length ≤ 4:=fun s=>by
    unfold longS
    rw [Bool.or_eq_false_iff,← Bool.not_eq_true,List.any_eq_true,decide_eq_false_iff_not]
    constructor
    · rintro ⟨h1,h2⟩
      exact ⟨by omega,fun l hl=>Nat.le_of_not_lt (fun h=>h1 ⟨l,hl,decide_eq_true (by omega)⟩)⟩
    · rintro ⟨h1,h2⟩
      exact ⟨fun ⟨l,hl,h⟩=>by have:=h2 l hl;have:=of_decide_eq_true h;omega,by omega⟩
  have hw:∀ s,wideS s=false ↔ ∀ l,l ∈ s → inB 20 l.f0∧∀ p,p ∈ l.f1 → inB 20 p:=fun s=>by
    unfold wideS
    rw [← Bool.not_eq_true,List.any_eq_true]
    constructor
    · intro h l hl
      have:(farV l.f0 || l.f1.any farV)=false:=by
        rw [← Bool.not_eq_true];exact fun h2=>h ⟨l,hl,h2⟩
      rw [Bool.or_eq_false_iff,← Bool.not_eq_true (l.f1.any farV),List.any_eq_true] at this
      exact ⟨(farV_iff _).1 this.1,fun p hp=>(farV_iff _).1 (by rw [← Bool.not_eq_true];exact fun h2=>this.2 ⟨p,hp,h2⟩)⟩
    · rintro h ⟨l,hl,h2⟩
      rcases (Bool.or_eq_true _ _).mp h2 with h2|h2
      · rw [(farV_iff _).2 (h l hl).1] at h2;cases h2
      · obtain ⟨p,hp,h2⟩:=List.any_eq_true.1 h2
        rw [(farV_iff _).2 ((h l hl).2 p hp)] at h2;cases h2
  have ho:∀ s,oddS d s=false ↔ ∀ l,l ∈ s → (l.f0.length:Int)=d∧∀ p,p ∈ l.f1 → (p.length:Int)=d:=fun s=>by
    unfold oddS
    rw [← Bool.not_eq_true,List.any_eq_true]
    constructor
    · intro h l hl
      have:(oddV d l.f0 || l.f1.any (oddV d))=false:=by
        rw [← Bool.not_eq_true];exact fun h2=>h ⟨l,hl,h2⟩
      rw [Bool.or_eq_false_iff,← Bool.not_eq_true (l.f1.any (oddV d)),List.any_eq_true] at this
      exact ⟨(oddV_iff _ _).1 this.1,fun p hp=>(oddV_iff _ _).1 (by rw [← Bool.not_eq_true];exact fun h2=>this.2 ⟨p,hp,h2⟩)⟩
    · rintro h ⟨l,hl,h2⟩
      rcases (Bool.or_eq_true _ _).mp h2 with h2|h2
      · rw [(oddV_iff _ _).2 (h l hl).1] at h2;cases h2
      · obtain ⟨p,hp,h2⟩:=List.any_eq_true.1 h2
        rw [(oddV_iff _ _).2 ((h l hl).2 p hp)] at h2;cases h2
  have anyF:∀ (f:List S60 → Bool),ss.any f=false ↔ ∀ s,s ∈ ss → f s=false:=fun f=>by
    rw [← Bool.not_eq_true,List.any_eq_true]
    exact ⟨fun h s hs=>by rw [← Bool.not_eq_true];exact fun h2=>h ⟨s,hs,h2⟩,fun h ⟨s,hs,h2⟩=>by rw [h s hs] at h2;cases h2⟩
  have hb:badD d=false ↔ 1 ≤ d∧d ≤ 3:=by unfold badD;rw [Bool.or_eq_false_iff,decide_eq_false_iff_not,decide_eq_false_iff_not];omega
  have h0:chk d ss=0 ↔ ss.any longS=false∧badD d=false∧ss.any wideS=false∧ss.any (oddS d)=false:=by
    unfold chk
    cases ss.any longS <;> cases badD d <;> cases ss.any wideS <;> cases ss.any (oddS d) <;> simp
  rw [h0,anyF,anyF,anyF,hb]
  constructor
  · rintro ⟨h1,h2,h3,h4⟩
    refine ⟨h2,fun s hs=>⟨((hl s).1 (h1 s hs)).1,fun l hls=>?_⟩⟩
    have q3:=(hw s).1 (h3 s hs) l hls
    have q4:=(ho s).1 (h4 s hs) l hls
    exact ⟨⟨by omega,q3.1⟩,((hl s).1 (h1 s hs)).2 l hls,fun p hp=>⟨by have:=q4.2 p hp;omega,q3.2 p hp⟩⟩
  · rintro ⟨h1,h2⟩
    refine ⟨fun s hs=>(hl s).2 ⟨(h2 s hs).1,fun l hls=>((h2 s hs).2 l hls).2.1⟩,h1,fun s hs=>(hw s).2 (fun l hls=>?_),fun s hs=>(ho s).2 (fun l hls=>?_)⟩
    · have:=(h2 s hs).2 l hls
      exact ⟨this.1.2,fun p hp=>(this.2.2 p hp).2⟩
    · have:=(h2 s hs).2 l hls
      exact ⟨by have:=this.1.1;omega,fun p hp=>by have:=(this.2.2 p hp).1;omega⟩
theorem okSet.shorts {d:Nat} (hd:d ≤ 3) {s:List S60} (h:okSet d s):shortS s:=by
  refine ⟨by have:=h.1;unfold short;omega,fun l hl=>?_⟩
  have:=h.2 l hl
  exact ⟨by have:=this.1.1;unfold short;omega,by have:=this.2.1;unfold short;simp;omega,fun p hp=>by have:=(this.2.2 p hp).1;unfold short;omega⟩
theorem okSet.okL {d:Nat} {s:List S60} (h:okSet d s):∀ l,l ∈ s → okL d l:=fun l hl=>by
  have:=h.2 l hl
  exact ⟨this.1.mono (by decide),fun p hp=>(this.2.2 p hp).mono (by decide),by omega⟩
end Go.Proofs.Ytkonljiembcdlaa.Pure
/- The statements' measure of a long search has a value, in plain Lean. -/
set_option linter.unusedVariables false
set_option linter.unusedSimpArgs false
namespace Go.Proofs.Ytkonljiembcdlaa.Pure
open Go.RowKit Go.Proofs.MyWords Go.Proofs.YtkonljiembcdlaaW.PrintWords Go.Proofs.YtkonljiembcdlaaW.PrintLast Go.Proofs.YtkonljiembcdlaaW.PrintMore Go.Proofs.Ytkonljiembcdlaa.PC Go.Proofs.Ytkonljiembcdlaa.Sem
theorem Has_ok {d:Nat} (h1:1 ≤ d) (hd:d ≤ 3) {set:List S60} (h:okSet d set) {v:List Int} (hv:okV d 60 v):∃ b,Ev (fun k=>count_Has.f k (d:Int) set v) (b,0)∧(b=true ↔ InS d set v):=by
  obtain ⟨b,hb,ib⟩:=has_ev (by omega) hv h.okL
  refine ⟨b,?_,ib⟩
  have hs:=h.shorts hd
  have hc:Ev (fun k=>count_check.f k (d:Int) [set]) 0:=by
    have:=check_ev (d:Int) [set] (by unfold short;simp) (fun t ht=>by
      obtain rfl:t=set:=by simpa using ht
      exact ⟨hs.1,fun l hl=>(hs.2 l hl).2.1.tail⟩)
    rw [chk_ok.2 ⟨by omega,fun t ht=>by
      obtain rfl:t=set:=by simpa using ht
      exact h⟩] at this
    exact this
  have ho:count_outside.f v 60=some false:=by
    unfold count_outside.f
    have:¬ (v.any fun x=>decide (x < 0) || decide (60 < x))=true:=by rw [outside_iff];exact fun h2=>h2 hv.2
    rw [Bool.not_eq_true] at this
    rw [this]
  unfold count_Has.f
  refine Ev.bind hc (Ev.neg (by decide) (Ev.neg (by decide) (Ev.bindc ho ?_)))
  refine Ev.succ ?_
  simp only [count_Has.j0]
  refine Ev.neg (by simp) (Ev.pos trivial (Ev.pos (by rw [hv.1]) (Ev.bind hb (Ev.now _))))
end Go.Proofs.Ytkonljiembcdlaa.Pure
/- A vector's total, as the program takes it, in plain Lean. -/
set_option linter.unusedVariables false
set_option linter.unusedSimpArgs false
namespace Go.Proofs.Ytkonljiembcdlaa.Pure
open Go.RowKit Go.Proofs.MyWords Go.Proofs.YtkonljiembcdlaaW.PrintWords Go.Proofs.YtkonljiembcdlaaW.PrintLast Go.Proofs.YtkonljiembcdlaaW.PrintMore Go.Proofs.Ytkonljiembcdlaa.PC Go.Proofs.Ytkonljiembcdlaa.Sem
end Go.Proofs.Ytkonljiembcdlaa.Pure
/- count.Least and count.Count in plain Lean. -/
set_option linter.unusedVariables false
set_option linter.unusedSimpArgs false
namespace Go.Proofs.Ytkonljiembcdlaa.Pure
open Go.RowKit Go.Proofs.MyWords Go.Proofs.YtkonljiembcdlaaW.PrintWords Go.Proofs.YtkonljiembcdlaaW.PrintLast Go.Proofs.YtkonljiembcdlaaW.PrintMore Go.Proofs.Ytkonljiembcdlaa.PC Go.Proofs.Ytkonljiembcdlaa.Sem
section
variable {d:Nat} (h1:1 ≤ d) (hd:d ≤ 3) {x:List S60} (hx:okSet d x)
include h1 hd hx
theorem check_ok:Ev (fun k=>count_check.f k (d:Int) [x]) 0:=by
  have hs:=hx.shorts hd
  have:=check_ev (d:Int) [x] (by unfold short;simp) (fun t ht=>by
    obtain rfl:t=x:=by simpa using ht
    exact ⟨hs.1,fun l hl=>(hs.2 l hl).2.1.tail⟩)
  rw [chk_ok.2 ⟨by omega,fun t ht=>by
    obtain rfl:t=x:=by simpa using ht
    exact hx⟩] at this
  exact this
end
theorem mem_vecs:∀ (d s:Nat) (pre v:List Int),v ∈ vecs d s pre ↔ ∃ u,v=pre ++ u∧u.length=d + 1∧nnV u∧u.sum=(s:Int)
  | 0,s,pre,v=>by
    simp only [vecs,List.mem_singleton]
    constructor
    · rintro rfl
      exact ⟨[(s:Int)],rfl,rfl,fun z hz=>by simp at hz;omega,by simp⟩
    · rintro ⟨u,rfl,h1,h2,h3⟩
      match u,h1 with
      | [z],_=>simp at h3;rw [h3]
  | d + 1,s,pre,v=>by
    simp only [vecs,List.mem_flatMap,List.mem_range]
    constructor
    · rintro ⟨z,hz,hv⟩
      obtain ⟨u,rfl,q1,q2,q3⟩:=(mem_vecs d (s - z) (pre ++ [(z:Int)]) v).1 hv
      refine ⟨(z:Int) :: u,by simp,by simp [q1],fun y hy=>?_,by rw [List.sum_cons,q3];omega⟩
      rcases List.mem_cons.1 hy with rfl|hy
      · omega
      · exact q2 y hy
    · rintro ⟨u,rfl,q1,q2,q3⟩
      match u,q1 with
      | z :: u,q1 =>
        have z0:=q2 z (by simp)
        have u0:=sum_nn (v:=u) (fun y hy=>q2 y (by simp [hy]))
        rw [List.sum_cons] at q3
        refine ⟨z.toNat,by omega,(mem_vecs d (s - z.toNat) _ _).2 ⟨u,?_,by simpa using q1,fun y hy=>q2 y (by simp [hy]),by omega⟩⟩
        rw [Int.toNat_of_nonneg z0,List.append_assoc];rfl
open Classical in
noncomputable def cntV (d:Nat) (set:List S60) (l:List (List Int)):Int:=((l.filter fun v=>decide (InS d set v)).length:Int)
open Classical in
theorem countGo_ev {d:Nat} (hd:d ≤ 3) {set:List S60} (hs:okSet d set):∀ l:List (List Int),(∀ v,v ∈ l → okV d 60 v) → Ev (fun k=>count_Count.go k set l) (cntV d set l)
  | [],_=>Ev.now _
  | v :: r,h=>by
    obtain ⟨b,e,i⟩:=has_ev (by omega) (h v (by simp)) hs.okL
    simp only [count_Count.go]
    refine Ev.bind e (Ev.bind (countGo_ev hd hs r (fun w hw=>h w (by simp [hw]))) ?_)
    have:cntV d set (v :: r)=cntV d set r + if b=true then 1 else 0:=by
      unfold cntV
      by_cases hb:InS d set v
      · rw [i.2 hb,List.filter_cons_of_pos (by simpa using hb)];simp
      · have:b=false:=by cases b;rfl;exact absurd (i.1 rfl) hb
        rw [this,List.filter_cons_of_neg (by simpa using hb)];simp
    rw [this]
    exact Ev.now _
theorem Count_ev {d:Nat} (h1:1 ≤ d) (hd:d ≤ 3) {set:List S60} (hs:okSet d set) {n:Nat} (hn:n ≤ 20):Ev (fun k=>count_Count.f k (d:Int) set (n:Int)) (wrap64 (cntV d set (vecs (d - 1) n [])),0):=by
  have hb:Ev (fun k=>count_bounded.f k (n:Int) (d:Int) [set]) 0:=by
    unfold count_bounded.f
    exact Ev.bind (check_ok h1 hd hs) (Ev.neg (by decide) (Ev.neg (by omega) (Ev.neg (by omega) (Ev.now _))))
  unfold count_Count.f
  rw [show ((d:Int) - 1).toNat=d - 1 by omega,Int.toNat_natCast]
  refine Ev.bind hb (Ev.pos rfl (Ev.pos ⟨by omega,by omega,by omega,by omega⟩ (Ev.bind (countGo_ev hd hs _ fun v hv=>?_) (Ev.now _))))
  obtain ⟨u,rfl,q1,q2,q3⟩:=(mem_vecs _ _ _ _).1 hv
  exact ⟨by omega,fun z hz=>⟨q2 z hz,by have:=mem_le_sum q2 z hz;omega⟩⟩
end Go.Proofs.Ytkonljiembcdlaa.Pure
/- What a plan's sets are, in plain Lean. -/
set_option linter.unusedVariables false
set_option linter.unusedSimpArgs false
namespace Go.Proofs.Ytkonljiembcdlaa.Pure
open Go.RowKit Go.Proofs.MyWords Go.Proofs.YtkonljiembcdlaaW.PrintWords Go.Proofs.YtkonljiembcdlaaW.PrintLast Go.Proofs.YtkonljiembcdlaaW.PrintMore Go.Proofs.Ytkonljiembcdlaa.PC Go.Proofs.Ytkonljiembcdlaa.Sem
def tinyL (d:Nat) (l:S60):Prop:=okV d 4 l.f0∧l.f1.length ≤ 2∧∀ p,p ∈ l.f1 → okV d 4 p
theorem nextV_ok {x:List Int} (hx:∀ z,z ∈ x → 0 ≤ z∧z ≤ 255) (d p:Nat):okV d 4 (nextV d x p):=by
  unfold nextV
  refine ⟨by simp,fun z hz=>?_⟩
  obtain ⟨k,_,rfl⟩:=List.mem_map.1 hz
  by_cases h:p + k < x.length
  · rw [if_pos h,rd_nat x (p + k) h]
    have h1:=hx _ (List.getElem_mem h)
    rw [wrap_id (by omega) (by omega),Int.tmod_eq_emod_of_nonneg h1.1]
    omega
  · rw [if_neg h];decide
theorem manyV_two {x:List Int} (hx:∀ z,z ∈ x → 0 ≤ z∧z ≤ 255) {p:Nat} (hp:p < x.length):manyV x p ≤ 2:=by
  unfold manyV
  rw [rd_nat x p hp]
  have h1:=hx _ (List.getElem_mem hp)
  rw [wrap_id (by omega) (by omega),Int.tmod_eq_emod_of_nonneg h1.1]
  omega
theorem madeG_ok {x:List Int} (hx:∀ z,z ∈ x → 0 ≤ z∧z ≤ 255) (d:Nat):∀ m p,(madeG d x m p).length ≤ m∧∀ l,l ∈ madeG d x m p → tinyL d l
  | 0,p=>⟨by simp [madeG],fun l hl=>by simp [madeG] at hl⟩
  | m + 1,p=>by
    rw [madeG]
    split
    · rename_i hp
      obtain ⟨h1,h2⟩:=madeG_ok hx d m (p + 1 + d + d * manyV x p)
      refine ⟨by simp;exact h1,fun l hl=>?_⟩
      rcases List.mem_cons.1 hl with rfl|hl
      · refine ⟨nextV_ok hx _ _,?_,fun q hq=>?_⟩
        · show (perV d x (p + 1 + d) (manyV x p)).length ≤ 2
          unfold perV
          rw [List.length_map,List.length_range]
          exact manyV_two hx hp
        · obtain ⟨k,_,rfl⟩:=List.mem_map.1 (show q ∈ perV d x (p + 1 + d) (manyV x p) from hq)
          exact nextV_ok hx _ _
      · exact h2 l hl
    · exact ⟨by simp,fun l hl=>by simp at hl⟩
theorem madeG_set {x:List Int} (hx:∀ z,z ∈ x → 0 ≤ z∧z ≤ 255) (d m:Nat) (hm:m ≤ 8):okSet d (madeG d x m 0):=by
  obtain ⟨h1,h2⟩:=madeG_ok hx d m 0
  exact ⟨by omega,fun l hl=>⟨(h2 l hl).1.mono (by decide),by have:=(h2 l hl).2.1;omega,fun p hp=>((h2 l hl).2.2 p hp).mono (by decide)⟩⟩
def dimD (D:Int):Nat:=(D % 3).toNat + 1
theorem dimD_range (D:Int):1 ≤ dimD D∧dimD D ≤ 3:=by unfold dimD;omega
theorem bytes_of {l:List Int} (h:∀ x ∈ l,(Lit.int .u8 x).wf=true):∀ z,z ∈ l → 0 ≤ z∧z ≤ 255:=fun z hz=>wf_u8 (h z hz)
theorem sets_f {D:Int} {X Y:List Int} (hD:(Lit.int .u8 D).wf=true) (hX:∀ x ∈ X,(Lit.int .u8 x).wf=true) (hY:∀ x ∈ Y,(Lit.int .u8 x).wf=true) (lX:X.length ≤ 140737488351232) (lY:Y.length ≤ 140737488351232) (most:Nat) (hm:most ≤ 1000) :
    bellpulllaw05_Plan_sets.f D X Y (most:Int)=some ((dimD D:Int),madeG (dimD D) X most 0,madeG (dimD D) Y most 0):=by
  have h8:=wf_u8 hD
  have e:wrap64 ((Int.tmod (wrap64 D) 3) + 1)=((dimD D:Nat):Int):=by
    rw [wrap_id (x:=D) (by omega) (by omega),Int.tmod_eq_emod_of_nonneg h8.1,wrap_id (by omega) (by omega)]
    unfold dimD;omega
  have hd:=dimD_range D
  have mk:∀ (Z:List Int),(∀ x ∈ Z,(Lit.int .u8 x).wf=true) → Z.length ≤ 140737488351232 → bellpulllaw05_made.f ((dimD D:Nat):Int) Z (most:Int)=some (madeG (dimD D) Z most 0):=fun Z hZ lZ=>by
    unfold bellpulllaw05_made.f
    rw [if_pos,Int.toNat_natCast,Int.toNat_natCast]
    refine ⟨by omega,by omega,by omega,by omega,by omega,List.all_eq_true.2 (fun z hz=>?_)⟩
    have:=wf_u8 (hZ z hz)
    simp;omega
  unfold bellpulllaw05_Plan_sets.f
  rw [e,mk X hX lX,Option.bind_some,mk Y hY lY,Option.bind_some]
end Go.Proofs.Ytkonljiembcdlaa.Pure
/- The document's examples. -/
set_option linter.unusedVariables false
namespace Go.Proofs.Ytkonljiembcdlaa.Pure
open Go.RowKit Go.Proofs.YtkonljiembcdlaaW.PrintWords Go.Proofs.Ytkonljiembcdlaa.PC
theorem lives_ev:Ev (fun k=>bellpulllaw05_lives.f k) true :=
  Ev.of (fun k=>bellpulllaw05_lives.mono k) (k:=60) (by kernel_rfl)
end Go.Proofs.Ytkonljiembcdlaa.Pure
/- CountOrder: for every input the law returns true. -/
set_option linter.unusedVariables false
set_option linter.unusedSimpArgs false
namespace Go.Proofs.Ytkonljiembcdlaa.Pure
open Go.RowKit Go.Proofs.MyWords Go.Proofs.YtkonljiembcdlaaW.PrintWords Go.Proofs.YtkonljiembcdlaaW.PrintLast Go.Proofs.YtkonljiembcdlaaW.PrintMore Go.Proofs.Ytkonljiembcdlaa.PC Go.Proofs.Ytkonljiembcdlaa.Sem
theorem order_sub {d:Nat} {l:S60} {p:List Int} (hp:p ∈ (order_one d l).f1):p ∈ l.f1 ∨ p=zeroN d:=by
  unfold order_one at hp
  dsimp only at hp
  split at hp
  · rename_i h
    rcases List.mem_append.1 hp with hp|hp
    · rcases List.mem_append.1 hp with hp|hp
      · exact .inl (List.mem_reverse.1 hp)
      · exact .inr (List.mem_singleton.1 hp)
    · obtain rfl:=List.mem_singleton.1 hp
      refine .inl (List.mem_reverse.1 ?_)
      have hl:0 < l.f1.reverse.length:=by rw [List.length_reverse];exact h.1
      have:rd_L1 l.f1.reverse 0=l.f1.reverse[0]'hl:=by simp [rd_L1,List.getD_eq_getElem?_getD,List.getElem?_eq_getElem hl]
      rw [this]
      exact List.getElem_mem hl
  · rcases List.mem_append.1 hp with hp|hp
    · exact .inl (List.mem_reverse.1 hp)
    · exact .inr (List.mem_singleton.1 hp)
theorem order_sup {d:Nat} {l:S60} {p:List Int} (hp:p ∈ l.f1):p ∈ (order_one d l).f1:=by
  unfold order_one
  dsimp only
  split
  · exact List.mem_append_left _ (List.mem_append_left _ (List.mem_reverse.2 hp))
  · exact List.mem_append_left _ (List.mem_reverse.2 hp)
theorem order_len {d:Nat} {l:S60} (h:l.f1.length ≤ 2):(order_one d l).f1.length ≤ 4:=by
  unfold order_one
  dsimp only
  split <;> simp <;> omega
theorem okV_zeroN (d:Nat):okV d 20 (zeroN d):=⟨zeroN_len d,fun z hz=>by rw [List.eq_of_mem_replicate hz];omega⟩
theorem order_InL {d:Nat} {l:S60} (h:tinyL d l) {v:List Int}:InL d l.f0 (order_one d l).f1 v ↔ InL d l.f0 l.f1 v:=by
  have ok:okD d l.f1:=fun q hq=>⟨(h.2.2 q hq).1,(h.2.2 q hq).2.nn⟩
  constructor
  · rintro ⟨w,hw,rfl⟩
    refine ⟨w,(comb_skip rfl ok).1 (hw.mono (qs:=zeroN d :: l.f1) fun p hp=>?_),rfl⟩
    rcases order_sub hp with h|h
    · exact List.mem_cons_of_mem _ h
    · rw [h];exact List.mem_cons_self
  · rintro ⟨w,hw,rfl⟩
    exact ⟨w,hw.mono fun p hp=>order_sup hp,rfl⟩
theorem order_InS {d:Nat} {D:List S60} (h:∀ l,l ∈ D → tinyL d l) (v:List Int):InS d (D.reverse.map (order_one d)) v ↔ InS d D v:=by
  constructor
  · rintro ⟨l,hl,hv⟩
    obtain ⟨x,hx,rfl⟩:=List.mem_map.1 hl
    have hx:=List.mem_reverse.1 hx
    exact ⟨x,hx,(order_InL (h x hx)).1 hv⟩
  · rintro ⟨x,hx,hv⟩
    exact ⟨order_one d x,List.mem_map.2 ⟨x,List.mem_reverse.2 hx,rfl⟩,(order_InL (h x hx)).2 hv⟩
theorem CountOrder:∀ (a0_0:Int) (l0_1 l0_2:List Int) (a1:Int) (a2_0 a2_1 a2_2:Int),(Lit.int .u8 a0_0).wf=true → (∀ x ∈ l0_1,(Lit.int .u8 x).wf=true) → (∀ x ∈ l0_2,(Lit.int .u8 x).wf=true) → l0_1.length ≤ 140737488351232 → l0_2.length ≤ 140737488351232 → (Lit.int .u8 a1).wf=true → (Lit.int .u8 a2_0).wf=true → (Lit.int .u8 a2_1).wf=true → (Lit.int .u8 a2_2).wf=true → ∃ k,bellpulllaw05_CountOrder.f k a0_0 l0_1 l0_2 a1 a2_0 a2_1 a2_2=some true:=by
  intro D X Y n y0 y1 y2 hD hX hY lX lY hn h0 h1 h2
  refine Ev.rounds (g:=fun k=>bellpulllaw05_CountOrder.f k D X Y n y0 y1 y2) ?_
  obtain ⟨d,hdd⟩:∃ d,d=dimD D:=⟨_,rfl⟩
  have hr:=dimD_range D
  rw [← hdd] at hr
  have hset:=sets_f hD hX hY lX lY 4 (by omega)
  rw [← hdd] at hset
  have ox:okSet d (madeG d X 4 0):=madeG_set (bytes_of hX) d 4 (by omega)
  have tx:=(madeG_ok (bytes_of hX) d 4 0).2
  have n8:=wf_u8 hn
  have b0:=wf_u8 h0
  have b1:=wf_u8 h1
  have b2:=wf_u8 h2
  generalize hx:madeG d X 4 0=x at hset ox tx
  have oy:okSet d (x.reverse.map (order_one d)):=by
    refine ⟨by rw [List.length_map,List.length_reverse];exact ox.1,fun l hl=>?_⟩
    obtain ⟨q,hq,rfl⟩:=List.mem_map.1 hl
    have tq:=tx q (List.mem_reverse.1 hq)
    refine ⟨tq.1.mono (by decide),order_len tq.2.1,fun p hp=>?_⟩
    rcases order_sub hp with h|rfl
    · exact (tq.2.2 p h).mono (by decide)
    · exact okV_zeroN d
  have ov:okV d 60 (order_vec d [y0,y1,y2]):=by
    refine ⟨by unfold order_vec;simp,fun z hz=>?_⟩
    unfold order_vec at hz
    obtain ⟨i,hi,rfl⟩:=List.mem_map.1 hz
    have hi:=List.mem_range.1 hi
    have hb:0 ≤ rd [y0,y1,y2] (i:Int)∧rd [y0,y1,y2] (i:Int) ≤ 255:=by
      match i,hi with
      | 0,_=>exact b0
      | 1,_=>exact b1
      | 2,_=>exact b2
      | i + 3,hi=>omega
    rw [wrap_id (by omega) (by omega),Int.tmod_eq_emod_of_nonneg hb.1]
    omega
  obtain ⟨m,hm⟩:∃ m:Nat,m=(n % 12).toNat:=⟨_,rfl⟩
  have em:Int.tmod (wrap64 n) 12=(m:Int):=by
    rw [wrap_id (by omega) (by omega),Int.tmod_eq_emod_of_nonneg n8.1];omega
  obtain ⟨a,ea,ia⟩:=Has_ok hr.1 hr.2 ox ov
  obtain ⟨c,ec,ic⟩:=Has_ok hr.1 hr.2 oy ov
  have hac:a=c:=by
    have:a=true ↔ c=true:=by rw [ia,ic,order_InS tx]
    cases a <;> cases c <;> simp_all
  subst hac
  have g1:=Count_ev hr.1 hr.2 ox (show m ≤ 20 by omega)
  have g2:=Count_ev hr.1 hr.2 oy (show m ≤ 20 by omega)
  have e:cntV d (x.reverse.map (order_one d)) (vecs (d - 1) m [])=cntV d x (vecs (d - 1) m []):=by
    unfold cntV
    congr 2
    exact List.filter_congr fun v _=>by rw [decide_eq_decide];exact order_InS tx v
  rw [e] at g2
  unfold bellpulllaw05_CountOrder.f
  refine Ev.bindc hset ?_
  dsimp only
  rw [em,Int.toNat_natCast]
  refine Ev.pos ⟨by omega,by omega,by have:=ox.1;omega,fun l hl=>by have:=(tx l hl).2.1;omega⟩ ?_
  unfold order_tail
  exact Ev.bind ea (Ev.bind ec (Ev.bind g1 (Ev.bind g2 (Ev.pos ⟨rfl,rfl,rfl,rfl,rfl,rfl⟩ lives_ev))))
end Go.Proofs.Ytkonljiembcdlaa.Pure
/- An array of three bytes, and a slice of bytes, as arguments: opened, and shut. -/
set_option linter.unusedVariables false
set_option linter.constructorNameAsVariable false
namespace Go.Proofs.Ytkonljiembcdlaa.RowT
open Go.ChangeShapes Go.WideShapes Go.ChangeAt Go.RowKit Go.Joins
section
variable {H:Type} {enc:TypeId × Value → H} {w:World} {base:Nat} {spare:Nat → Bool} {held:Bool}
theorem open_three {r:Reach} {b0:Nat} {v:Value} {d:DataW H} {p:List MemPlace} (hv:Value.okWide Try.prog w r b0 51 v) (h:DataW.Trod enc Try.prog w base spare held 51 v d p) :
    ∃ a b c:Int,v=.agg #[.int .u8 a,.int .u8 b,.int .u8 c]∧d=.agg [.lit (.int .u8 a),.lit (.int .u8 b),.lit (.int .u8 c)]∧p=[] ∧
      (Lit.int .u8 a).wf=true∧(Lit.int .u8 b).wf=true∧(Lit.int .u8 c).wf=true:=by
  simp only [Value.okWide,Try.underlying51] at hv
  obtain ⟨cs,rfl,hs,_⟩:=hv
  have hC:Try.prog.cellsOf 51=3:=by kernel_rfl
  have hE:Try.prog.cellsOf 5=1:=by kernel_rfl
  obtain ⟨v0,v1,v2,rfl⟩:=array3 (hs.trans hC)
  obtain ⟨fuel,hf⟩:=h
  cases fuel with
  | zero=>simp [DataW.trod] at hf
  | succ m =>
    rw [DataW.trod_step] at hf
    unfold DataW.trodStep at hf
    simp only [Try.underlying51,Value.cells] at hf
    rw [if_pos (by rw [hC];rfl)] at hf
    simp only [Option.map_eq_some_iff] at hf
    obtain ⟨ys,hy,e1⟩:=hf
    rw [hE] at hy
    simp only [show List.range 3=[0,1,2] from rfl,List.mapM_cons,List.mapM_nil,bind,pure,Option.bind_eq_some_iff,Option.some.injEq] at hy
    obtain ⟨y0,h0,z0,⟨y1,h1,z1,⟨y2,h2,z2,rfl,rfl⟩,rfl⟩,rfl⟩:=hy
    obtain ⟨a,ea,rfl,wa⟩:=DataW.trod_int Try.underlying5 h0
    obtain ⟨b,eb,rfl,wb⟩:=DataW.trod_int Try.underlying5 h1
    obtain ⟨c,ec,rfl,wc⟩:=DataW.trod_int Try.underlying5 h2
    simp at ea eb ec e1
    subst ea eb ec
    exact ⟨a,b,c,rfl,e1.1.symm,e1.2.symm ▸ rfl,wa,wb,wc⟩
theorem shut_three {a b c:Int} (h:(Lit.int .u8 a).wf=true∧(Lit.int .u8 b).wf=true∧(Lit.int .u8 c).wf=true) :
    DataW.Trod enc Try.prog w base spare held 51 (.agg #[.int .u8 a,.int .u8 b,.int .u8 c]) (.agg [.lit (.int .u8 a),.lit (.int .u8 b),.lit (.int .u8 c)]) []:=by
  have hC:Try.prog.cellsOf 51=3:=by kernel_rfl
  have hE:Try.prog.cellsOf 5=1:=by kernel_rfl
  refine ⟨2,?_⟩
  rw [DataW.trod_step]
  unfold DataW.trodStep
  simp only [Try.underlying51,Value.cells]
  rw [if_pos (by rw [hC];rfl),hE]
  have t:∀ n,(Lit.int .u8 n).wf=true → DataW.trod enc Try.prog w base spare held 1 5 [.int .u8 n]=some (.lit (.int .u8 n),[]):=fun n hn=>trod_int_mk 0 Try.underlying5 hn
  simp only [show List.range 3=[0,1,2] from rfl,List.mapM_cons,List.mapM_nil,bind,pure]
  simp [t _ h.1,t _ h.2.1,t _ h.2.2]
end
end Go.Proofs.Ytkonljiembcdlaa.RowT
/- A query, and a plan, as arguments: opened. -/
set_option linter.unusedVariables false
set_option linter.constructorNameAsVariable false
namespace Go.Proofs.Ytkonljiembcdlaa.RowT
open Go.ChangeShapes Go.WideShapes Go.ChangeAt Go.RowKit Go.Joins Go.Proofs.YtkonljiembcdlaaW.PrintWords Go.Proofs.Ytkonljiembcdlaa.PC
theorem list_of {α:Type} {p:Nat → α → Prop}:∀ n:Nat,(∀ i,i < n → ∃ y,p i y) → ∃ xs:List α,xs.length=n∧∀ i y,xs[i]?=some y → p i y
  | 0,_=>⟨[],rfl,fun i y h=>by simp at h⟩
  | n + 1,h=>by
    obtain ⟨xs,h1,h2⟩:=list_of n (fun i hi=>h i (by omega))
    obtain ⟨y,hy⟩:=h n (by omega)
    refine ⟨xs ++ [y],by simp [h1],fun i z hz=>?_⟩
    by_cases hi:i < n
    · rw [List.getElem?_append_left (by omega)] at hz
      exact h2 i z hz
    · have:i < (xs ++ [y]).length:=by
        apply Classical.byContradiction
        intro hn
        rw [List.getElem?_eq_none (by omega)] at hz
        cases hz
      obtain rfl:i=n:=by simp [h1] at this;omega
      rw [List.getElem?_append_right (by omega),h1,Nat.sub_self] at hz
      obtain rfl:=Option.some.inj hz
      exact hy
section
variable {H:Type} {enc:TypeId × Value → H} {w:World} {base:Nat} {held:Bool}
def kwf:Kd {n:Int // (Lit.int .u8 n).wf=true}:=Kd.iso (Kd.int .u8) (fun x=>x.1)
theorem addr_add (a:Addr) (m k:Nat):(a.add m).add k=a.add (m + k):=by
  by_cases h1:k=0
  · subst h1;simp [Addr.add]
  · by_cases h2:m=0
    · subst h2;simp [Addr.add,h1]
    · simp [Addr.add,h1,h2,Nat.add_assoc]
theorem C_of_trod {α:Type} (d:Kd α) {t e:TypeId} (ht:Try.prog.underlying t=some (.slice e)) (hc:Try.prog.cellsOf e=d.sz)
    (hx:∀ fuel cs x,DataW.trod enc Try.prog w base (fun _=>true) held fuel e cs=some x → ∃ y,d.K w y cs) {fuel:Nat} {cs:List Value} {x:DataW H × List MemPlace} (h:DataW.trod enc Try.prog w base (fun _=>true) held fuel t cs=some x) :
    ∃ (A:Option Addr) (c:Nat) (xs:List α),cs=[.slice A xs.length c]∧xs.length ≤ c∧d.C w A xs.length xs:=by
  rcases Go.Deep.open_slice ht h with ⟨rfl,_⟩|⟨a,len,cap,m,n,D,Pl,rfl,_,hl,hm,hmm,_,hel⟩
  · exact ⟨none,0,[],rfl,Nat.le_refl _,rfl,Nat.zero_le _,fun h=>by simp at h⟩
  · have hlm:len ≤ m:=by rw [hmm];simp;exact hl
    have hcap:cap ≤ 9223372036854775807:=hm
    obtain ⟨xs,h1,h2⟩:=list_of (p:=fun i y=>∃ c:List Value,c.length=d.sz∧d.K w y c∧∀ k u,c[k]?=some u → w.cell? (a.add (i * d.sz + k))=some u) len (fun i hi=>by
      obtain ⟨cs',hcs,hr⟩:=hel i (by omega)
      obtain ⟨_,hlen,hcell⟩:=World.cells?_some hcs
      obtain ⟨y,hy⟩:=hx n cs' _ hr
      refine ⟨y,cs',hlen.trans hc,hy,fun k u hu=>?_⟩
      have hk:k < cs'.length:=by
        apply Classical.byContradiction
        intro hn
        rw [List.getElem?_eq_none (by omega)] at hu
        cases hu
      have:=hcell k (by omega)
      rw [hu,hc] at this
      have e:(a.add (i * d.sz)).add k=a.add (i * d.sz + k):=addr_add a _ k
      rw [e] at this
      exact this)
    refine ⟨some a,cap,xs,by rw [h1],by omega,rfl,by omega,fun _=>⟨a,rfl,h2⟩⟩
theorem u8_of_trod:∀ (fuel:Nat) (cs:List Value) (x:DataW H × List MemPlace),DataW.trod enc Try.prog w base (fun _=>true) held fuel 5 cs=some x → ∃ y:{n:Int // (Lit.int .u8 n).wf=true},(kwf).K w y cs:=fun fuel cs x h=>by
  obtain ⟨n,rfl,_,hw⟩:=DataW.trod_int Try.underlying5 h
  exact ⟨⟨n,hw⟩,rfl⟩
theorem u8s_of_trod {fuel:Nat} {cs:List Value} {x:DataW H × List MemPlace} (h:DataW.trod enc Try.prog w base (fun _=>true) held fuel 50 cs=some x):∃ (A:Option Addr) (c:Nat) (xs:List Int),cs=[.slice A xs.length c]∧xs.length ≤ c∧(Kd.int .u8).C w A xs.length xs∧∀ z ∈ xs,(Lit.int .u8 z).wf=true:=by
  obtain ⟨A,c,xs,rfl,hl,hC⟩:=C_of_trod kwf Try.underlying50 (by kernel_rfl) u8_of_trod h
  refine ⟨A,c,xs.map (·.1),by rw [List.length_map],by rw [List.length_map];exact hl,?_,fun z hz=>?_⟩
  · obtain ⟨h1,h2,h3⟩:=hC
    refine ⟨rfl,by rw [List.length_map];exact h2,fun h0=>?_⟩
    rw [List.length_map] at h0
    obtain ⟨ad,rfl,h4⟩:=h3 h0
    refine ⟨ad,rfl,fun j y hy=>?_⟩
    rw [List.getElem?_map,Option.map_eq_some_iff] at hy
    obtain ⟨z,hz,rfl⟩:=hy
    obtain ⟨c,e1,e2,e3⟩:=h4 j z hz
    exact ⟨c,e1,e2,e3⟩
  · obtain ⟨y,_,rfl⟩:=List.mem_map.1 hz
    exact y.2
theorem slice_weight {fuel:Nat} {A:Option Addr} {len cap:Nat} {x:DataW H × List MemPlace} (h:DataW.trod enc Try.prog w base (fun _=>true) held fuel 50 [.slice A len cap]=some x):len=0 ∨ ∃ n r,n ∈ DataW.weights Try.prog 50 x.1∧len ≤ n∧r=n:=by
  rcases Go.Deep.open_slice Try.underlying50 h with ⟨h1,_⟩|⟨a,l,c,m,n,D,Pl,h1,_,_,_,_,rfl,_⟩
  · left
    simp at h1
    exact h1.2.1
  · right
    have hl:len=l:=by simp at h1;exact h1.2.1
    have hb:Try.prog.bytesOf 5=1:=by kernel_rfl
    refine ⟨_,_,by rw [DataW.weights,Try.underlying50];exact List.mem_cons_self,?_,rfl⟩
    rw [hb,Nat.mul_one,List.length_map,List.length_range]
    omega
theorem plan_sized {ts:List TypeId} {ds:List (DataW H)} {y0 y1 y2:DataW H × List MemPlace} (hsz:(DataW.weightsEach Try.prog (55 :: ts) (.agg [y0.1,y1.1,y2.1] :: ds)).all (· ≤ reachBytes)=true) :
    (∀ n,n ∈ DataW.weights Try.prog 50 y1.1 → n ≤ 140737488351232)∧(∀ n,n ∈ DataW.weights Try.prog 50 y2.1 → n ≤ 140737488351232):=by
  rw [List.all_eq_true] at hsz
  have key:∀ n,n ∈ DataW.weights Try.prog 50 y1.1 ∨ n ∈ DataW.weights Try.prog 50 y2.1 → n ≤ 140737488351232:=fun n hn=>by
    have hm:n ∈ DataW.weightsEach Try.prog (55 :: ts) (.agg [y0.1,y1.1,y2.1] :: ds):=by
      rw [DataW.weightsEach]
      refine List.mem_append_left _ ?_
      rw [DataW.weights,Try.underlying55]
      show n ∈ DataW.weightsEach Try.prog [5,50,50] [y0.1,y1.1,y2.1]
      rw [DataW.weightsEach,DataW.weightsEach,DataW.weightsEach]
      rcases hn with hn|hn
      · exact List.mem_append_right _ (List.mem_append_left _ hn)
      · exact List.mem_append_right _ (List.mem_append_right _ (List.mem_append_left _ hn))
    exact of_decide_eq_true (hsz n hm)
  exact ⟨fun n h=>key n (.inl h),fun n h=>key n (.inr h)⟩
set_option maxRecDepth 100000 in
theorem open_plan {r:Reach} {b0:Nat} {v:Value} {d:DataW H} {p:List MemPlace} {ts:List TypeId} {ds:List (DataW H)} (hv:Value.okWide Try.prog w r b0 55 v) (h:DataW.Trod enc Try.prog w base (fun _=>true) held 55 v d p) (hsz:(DataW.weightsEach Try.prog (55 :: ts) (d :: ds)).all (· ≤ reachBytes)=true) :
    ∃ (D:Int) (A1:Option Addr) (c1:Nat) (X:List Int) (A2:Option Addr) (c2:Nat) (Y:List Int),v=.agg #[.int .u8 D,.slice A1 X.length c1,.slice A2 Y.length c2]∧(Lit.int .u8 D).wf=true ∧
      (Kd.int .u8).C w A1 X.length X∧X.length ≤ c1∧(Kd.int .u8).C w A2 Y.length Y∧Y.length ≤ c2∧(∀ z ∈ X,(Lit.int .u8 z).wf=true)∧(∀ z ∈ Y,(Lit.int .u8 z).wf=true)∧X.length ≤ 140737488351232∧Y.length ≤ 140737488351232:=by
  obtain ⟨v0,v1,v2,y0,y1,y2,n,rfl,rfl,_,h0,h1,h2⟩:=open_agg3 Try.underlying55 (by kernel_rfl) (by kernel_rfl) hv h
  dsimp only at h0 h1 h2
  obtain ⟨D,eD,_,wD⟩:=DataW.trod_int Try.underlying5 h0
  obtain ⟨A1,c1,X,eX,l1,g1,m1⟩:=u8s_of_trod h1
  obtain ⟨A2,c2,Y,eY,l2,g2,m2⟩:=u8s_of_trod h2
  obtain rfl:v0=_:=by simpa using eD
  obtain rfl:v1=_:=by simpa using eX
  obtain rfl:v2=_:=by simpa using eY
  obtain ⟨s1,s2⟩:=plan_sized hsz
  refine ⟨D,A1,c1,X,A2,c2,Y,rfl,wD,g1,l1,g2,l2,m1,m2,?_,?_⟩
  · rcases slice_weight h1 with h|⟨n,_,hn,hl,_⟩
    · omega
    · exact Nat.le_trans hl (s1 n hn)
  · rcases slice_weight h2 with h|⟨n,_,hn,hl,_⟩
    · omega
    · exact Nat.le_trans hl (s2 n hn)
end
end Go.Proofs.Ytkonljiembcdlaa.RowT
