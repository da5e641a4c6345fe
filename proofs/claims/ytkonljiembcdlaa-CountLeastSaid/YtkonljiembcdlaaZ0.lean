import Derived.Test.YtkonljiembcdlaaPCx0
import Derived.Test.YtkonljiembcdlaaMyTiny
import Derived.Test.YtkonljiembcdlaaPCx1
import Derived.Test.YtkonljiembcdlaaPCx3
import Derived.Test.YtkonljiembcdlaaPCx5
import Derived.Test.YtkonljiembcdlaaPCx4
import Derived.Test.YtkonljiembcdlaaWMore
import Derived.Test.YtkonljiembcdlaaProg
import Derived.WalkKit
import Derived.ProofKit
import Derived.OpenShut
import Derived.Lib.SmallJoins
import Derived.SizedLaws
import Derived.Deep.Slices
namespace Go.Proofs.Ytkonljiembcdlaa.PC
open Go.Proofs.MyWords Go.RowKit Go.Proofs.YtkonljiembcdlaaW.PrintWords Go.Proofs.YtkonljiembcdlaaW.PrintLast Go.Proofs.YtkonljiembcdlaaW.PrintMore
attribute [local go_sem] max2_int min2_int max_two min_two max_three min_three max_four min_four   -- for this text's walks alone
set_option linter.unusedVariables false
set_option linter.unusedSimpArgs false
attribute [local go_sem] eqGuard_slices eqlnil23 neqnil23 eqlnil58 neqnil58
def bellpullref05_Total.l0:Nat → List Int → Int → Int → Option (Int)
  | 0,_,_,_=>none
  | k + 1,x0,x3,x4=>if x4 < (x0.length:Int) then (if 0 ≤ x4 then (bellpullref05_Total.l0 k x0 (wrap64 (x3 + (rd x0 x4))) (wrap64 (x4 + 1))) else (none)) else (some x3)
def bellpullref05_Total.f (k:Nat) (l0:List Int):Option (Int):=bellpullref05_Total.l0 k l0 0 0
set_option maxHeartbeats 8000000 in
set_option maxRecDepth 100000 in
theorem bellpullref05_Total.calls (k:Nat) (O:Option Addr) (Q:Nat) (D:List Int) (r:Int) (w:World) (I:Kd.C (Kd.int .i64) w O D.length D) (J:D.length ≤ Q) (h:bellpullref05_Total.f k D=some r) :
    Calls Try.prog 45 #[.slice O D.length Q] w fun e w'=>e=.returned (.int .i64 r)∧Drawn0 w w':=by
 have R:=mk0 I;have X:=mk0 J;clear I J;have H:(bellpullref05_Total.l0 k D 0 0)=some r:=h;clear h;have H':=mk0 H;clear H;go_enter Try.func45,Try.ntmps45;go_wp2
 go_loopg [3,4] k (fun kq U V w'=>∃ (E:Int) (B:Int),U=.int .i64 E∧V=.int .i64 B∧Aside0 (bellpullref05_Total.l0 kq D E B=some r)∧Aside0 (kq ≤ k)∧Drawn0 w w')
 case atStart=>exact ⟨(0),(0),(by first|rfl|(simp;done)|(simp [*];done)),(by first|rfl|(simp;done)|(simp [*];done)),H',⟨Nat.le_refl _⟩,by repeat (first|exact Drawn0.refl _|apply Drawn0.step)⟩
 case round =>
  clear H';obtain ⟨E,B,rfl,rfl,HA,L,⟨Y,rfl⟩⟩:=hrel;cases gk with
  | zero=>exact absurd HA.1 (by simp [bellpullref05_Total.l0])
  | succ k1 =>
   have H:=HA.1;clear HA;simp only [bellpullref05_Total.l0] at H
   by_cases c2:B < (D.length:Int)
   ·
    rw [if_pos c2] at H;have c2b0:decide (B < (D.length:Int))=true:=decide_eq_true c2;clear c2
    by_cases c3:0 ≤ B
    ·
     rw [if_pos c3] at H;have c3b0:decide (0 ≤ B)=true:=decide_eq_true c3;clear c3;have H':=mk0 H;clear H;have F:0 ≤ (B:Int):=of_decide_eq_true (by first|(with_reducible assumption)|assumption);have G:B < (D.length:Int):=of_decide_eq_true (by first|(with_reducible assumption)|assumption);obtain ⟨T,M,N⟩:=Kd.at_int R.1 B F G;cases M;replace F:=eq_true F;replace G:=eq_true G;go_wp2;go_roundg k1
     case measure=>have:=L.1;omega
     case rel=>exact ⟨(wrap64 (E + (rd D B))),(wrap64 (B + 1)),(by first|rfl|(simp;done)|(simp [*];done)),(by first|rfl|(simp;done)|(simp [*];done)),H',⟨by have:=L.1;omega⟩,by repeat (first|exact Drawn0.refl _|apply Drawn0.step)⟩
    ·
     rw [if_neg c3] at H;exact absurd H (by simp)
   ·
    rw [if_neg c2] at H;have c2b0:decide (B < (D.length:Int))=false:=decide_eq_false c2;clear c2;obtain rfl:=Option.some.inj H;go_wp2;go_ret;exact ⟨by first|rfl|(simp;done)|(simp [*];done),by repeat (first|exact Drawn0.refl _|apply Drawn0.step)⟩
end Go.Proofs.Ytkonljiembcdlaa.PC
namespace Go.Proofs.Ytkonljiembcdlaa.PC
open Go.Proofs.MyWords Go.RowKit Go.Proofs.YtkonljiembcdlaaW.PrintWords Go.Proofs.YtkonljiembcdlaaW.PrintLast Go.Proofs.YtkonljiembcdlaaW.PrintMore
attribute [local go_sem] max2_int min2_int max_two min_two max_three min_three max_four min_four   -- for this text's walks alone
set_option linter.unusedVariables false
set_option linter.unusedSimpArgs false
attribute [local go_sem] eqGuard_slices eqlnil23 neqnil23 eqlnil58 neqnil58
def bellpullref05_Less.l0:Nat → List Int → List Int → List Int → Bool → Int → Option (List Int × Bool)
  | 0,_,_,_,_,_=>none
  | k + 1,x0,x1,x6,x7,x8=>if x8 < (x0.length:Int) then (if 0 ≤ x8 then (if x8 < (x1.length:Int) then (if x6.length < 17592186044416 then ((some (x6 ++ [wrap64 ((rd x0 x8) - (rd x1 x8))]:List Int)).bind fun y416=>(if x7=true then (bellpullref05_Less.l0 k x0 x1 y416 (decide ((rd x0 x8) ≥ (rd x1 x8))) (wrap64 (x8 + 1))) else (bellpullref05_Less.l0 k x0 x1 y416 false (wrap64 (x8 + 1))))) else (none)) else (none)) else (none)) else (some (x6,x7))
def bellpullref05_Less.f (k:Nat) (l0:List Int) (l1:List Int):Option (List Int × Bool):=bellpullref05_Less.l0 k l0 l1 (([]:List Int)) true 0
def bellpullref05_Less.T5:Bool × List (List Nat × List Nat):=(true,[([],[]),([],[]),([],[]),([1,2],[1,2]),([3],[3]),([],[]),([],[]),([5,6],[5,6]),([7],[7]),([4,8],[4,8]),([9],[9]),([0,10],[0,10]),([11,11,0,1,2,3,4,5,6,7,8,9,10,11],[0,11])])
def bellpullref05_Less.B5:List Nat:=[0,0,0,6,14,0,0,96,224,510,1022,2047,4095]
theorem bellpullref05_Less.tab5:rtab .any (opsOf Try.f38 5)=bellpullref05_Less.T5:=by kernel_rfl
theorem bellpullref05_Less.bits5:waitsOk bellpullref05_Less.T5.2 bellpullref05_Less.B5=true:=by kernel_rfl
def bellpullref05_Less.T6:Bool × List (List Nat × List Nat):=(true,[([],[]),([0],[0]),([1],[1]),([1],[1]),([2,3,1],[1,2,3]),([4,1],[1,4]),([1],[1]),([1],[1]),([6,7,1],[1,6,7]),([8,1],[1,8]),([5,9,1],[1,5,9]),([1,10],[1,10]),([11,1,0,1,2,3,4,5,6,7,8,9,10,11],[0,11])])
def bellpullref05_Less.B6:List Nat:=[0,1,3,3,15,31,3,3,195,451,1023,2047,4095]
theorem bellpullref05_Less.tab6:rtab .any (opsOf Try.f38 6)=bellpullref05_Less.T6:=by kernel_rfl
theorem bellpullref05_Less.bits6:waitsOk bellpullref05_Less.T6.2 bellpullref05_Less.B6=true:=by kernel_rfl
set_option maxHeartbeats 8000000 in
set_option maxRecDepth 100000 in
theorem bellpullref05_Less.calls (k:Nat) (A0:Option Addr) (c0:Nat) (M:List Int) (A1:Option Addr) (c1:Nat) (O:List Int) (r1:List Int) (r2:Bool) (w:World) (e5:Kd.C (Kd.int .i64) w A0 M.length M) (e6:M.length ≤ c0) (e7:Kd.C (Kd.int .i64) w A1 O.length O) (e8:O.length ≤ c1) (h:bellpullref05_Less.f k M O=some (r1,r2)) :
    Calls Try.prog 38 #[.slice A0 M.length c0,.slice A1 O.length c1] w fun e w'=>∃ e9:Value,e=.returned (.tuple #[e9,.bool r2])∧Kd.R (Kd.int .i64) 3 w' w.heap.size (fun _=>True) e9 r1∧Below w.heap.size w w':=by
 have d3:=mk0 e5;have g3:=mk0 e6;clear e5 e6;have d4:=mk0 e7;have g4:=mk0 e8;clear e7 e8;have G:=mk0 (Below.refl w.heap.size w);have H:(bellpullref05_Less.l0 k M O (([]:List Int)) true 0)=some (r1,r2):=h;clear h;obtain ⟨d5,a2⟩:∃ y_:List Int,y_=(([]:List Int)):=⟨_,rfl⟩
 replace H:(bellpullref05_Less.l0 k M O d5 true 0)=some (r1,r2):=by first|(rw [a2];with_reducible exact H)|(have a8:=(Option.bind_some _ _).symm.trans H;rw [a2];with_reducible exact a8)|(have a8:=(Option.bind_some _ _).symm.trans H;with_reducible exact a8)|with_reducible exact H|(rw [a2];exact H)|exact H
 have d0:=mk0 a2;clear a2;have H':=mk0 H;clear H;go_enter Try.func38,Try.ntmps38;go_wp2_with (first|((with_reducible refine gate_dst (N:=9) rfl ?_);refine Kd.R_lit (Kd.int .i64) _ 3 ?hg (N:=9) ?hd (xs:=([]:List Int)) (inner:=[]) (ok:=fun _=>True) (okp:=fun _=>True) ?hr ?hp (fun _ hk=>hk) trivial (Below.refl _ _) (Nat.le_refl _) (by simp) ?_;(case hd=>rfl);(case hg=>rfl);(case hr=>first|(go_simp;done)|(go_simp;rfl));(case hp=>exact (Reps.none _ _));intro f9 w3 b5 hb hg_ e0;clear hg_ e0;(first|rw [← d0.1] at b5|(simp only [Int.reduceToNat] at b5;rw [← d0.1] at b5));have e1:=mk0 (Kd.R_lower b5 (below_size G.1));replace G:=bst G hb;clear hb b5))
 go_loopg [6,7,8] k (fun kq v6 v7 v8 w'=>∃ (X:List Int) (a9:Bool) (B:Int),v7=.bool a9∧v8=.int .i64 B∧Aside0 (bellpullref05_Less.l0 kq M O X a9 B=some (r1,r2))∧Aside0 (kq ≤ k)∧Aside0 (Kd.R (Kd.int .i64) 3 w' w.heap.size (fun _=>True) v6 X)∧Aside0 (Below w.heap.size w w'))
 case atStart=>exact ⟨(d5),(true),(0),(by first|rfl|(simp;done)|(simp [*];done)),(by first|rfl|(simp;done)|(simp [*];done)),H',⟨Nat.le_refl _⟩,⟨by exact e1.1⟩,⟨by exact G.1⟩⟩
 case round =>
  clear H';try clear c1
  try clear p2
  try clear c3
  obtain ⟨X,a9,B,rfl,rfl,HA,d1,T,G⟩:=hrel;cases gk with
  | zero=>exact absurd HA.1 (by simp [bellpullref05_Less.l0])
  | succ k1 =>
   have H:=HA.1;clear HA;simp only [bellpullref05_Less.l0] at H
   by_cases c5:B < (M.length:Int)
   ·
    rw [if_pos c5] at H;have c5b0:decide (B < (M.length:Int))=true:=decide_eq_true c5;clear c5
    by_cases c6:0 ≤ B
    ·
     rw [if_pos c6] at H;have c6b0:decide (0 ≤ B)=true:=decide_eq_true c6;clear c6
     by_cases c7:B < (O.length:Int)
     ·
      rw [if_pos c7] at H;have c7b0:decide (B < (O.length:Int))=true:=decide_eq_true c7;clear c7
      by_cases c8:X.length < 17592186044416
      ·
       rw [if_pos c8] at H;have d6:=mk0 c8;clear c8;obtain ⟨a7,a3⟩:∃ y_:List Int,y_=(X ++ [wrap64 ((rd M B) - (rd O B))]):=⟨_,rfl⟩
       replace H:(if a9=true then (bellpullref05_Less.l0 k1 M O a7 (decide ((rd M B) ≥ (rd O B))) (wrap64 (B + 1))) else (bellpullref05_Less.l0 k1 M O a7 false (wrap64 (B + 1))))=some (r1,r2):=by first|(rw [a3];with_reducible exact H)|(have a8:=(Option.bind_some _ _).symm.trans H;rw [a3];with_reducible exact a8)|(have a8:=(Option.bind_some _ _).symm.trans H;with_reducible exact a8)|with_reducible exact H|(rw [a3];exact H)|exact H
       have d2:=mk0 a3;clear a3
       by_cases c9:a9=true
       ·
        subst c9;have H1:(bellpullref05_Less.l0 k1 M O a7 (decide ((rd M B) ≥ (rd O B))) (wrap64 (B + 1)))=some (r1,r2):=by rw [if_pos rfl] at H;exact H
        clear H;have H:=H1;clear H1;have H':=mk0 H;clear H;try go_wp2
        replace T:=rdr T;replace G:=hdr G;have Y:0 ≤ (B:Int):=of_decide_eq_true (by assumption);have Z:B < (M.length:Int):=of_decide_eq_true (by assumption);obtain ⟨a4,b6,J⟩:=Kd.at_int d3.1 B Y Z;have E:=J;cases b6;replace J:=bd_ G J;replace Y:=eq_true Y;replace Z:=eq_true Z;have a0:0 ≤ (B:Int):=of_decide_eq_true (by assumption);have a1:B < (O.length:Int):=of_decide_eq_true (by assumption);obtain ⟨a5,b7,L⟩:=Kd.at_int d4.1 B a0 a1;have F:=L;cases b7;replace L:=bd_ G L;replace a0:=eq_true a0;replace a1:=eq_true a1;refine start_ (n:=13) (S:=fun w'=>w'.cell? (a4.add (B).toNat)=some (.int .i64 (rd M B))∧w'.cell? (a5.add (B).toNat)=some (.int .i64 (rd O B))) (ds:=[]) #[n_,n_,n_,n_,n_,n_,n_,n_,n_,n_,n_,n_,n_] (by kernel_rfl) rfl rfl ⟨(bd_ G E),(bd_ G F)⟩ (fun I=>?_);refine with_tabW bellpullref05_Less.tab5 bellpullref05_Less.bits5 (fun D a6=>?_);generalize wr.drew=g5 at T G J L I ⊢;refine pure_ (i:=0) (N:=some 16) (v:=?_) (a':=?_) #[y_,n_,n_,n_,n_,n_,n_,n_,n_,n_,n_,n_,n_] rfl rfl (any_of D.1 (by kernel_rfl)) (fun _ _ _ h=>h) (Or.inl ⟨by rfl,?_⟩) ?_ ?_;rotate_left
        ·
         intro w';go_simp;with_reducible rfl
        rotate_left
        ·
         simp only [Act.put,s0_,s1_,s2_,i64_w,i32_w];rfl
        refine pure_ (i:=1) (N:=some 17) (v:=?_) (a':=?_) #[y_,y_,n_,n_,n_,n_,n_,n_,n_,n_,n_,n_,n_] rfl rfl (any_of D.1 (by kernel_rfl)) (fun _ _ _ h=>h) (Or.inl ⟨by rfl,?_⟩) ?_ ?_;rotate_left
        ·
         intro w';go_simp;with_reducible rfl
        rotate_left
        ·
         simp only [Act.put,s0_,s1_,s2_,i64_w,i32_w];rfl
        refine pure_ (i:=2) (N:=some 18) (v:=?_) (a':=?_) #[y_,y_,y_,n_,n_,n_,n_,n_,n_,n_,n_,n_,n_] rfl rfl (any_of D.1 (by kernel_rfl)) (fun _ _ _ h=>h) (Or.inl ⟨by rfl,?_⟩) ?_ ?_;rotate_left
        ·
         intro w';go_simp;with_reducible rfl
        rotate_left
        ·
         simp only [Act.put,s0_,s1_,s2_,i64_w,i32_w];rfl
        refine pure_ (i:=3) (N:=some 19) (v:=?_) (a':=?_) #[y_,y_,y_,y_,n_,n_,n_,n_,n_,n_,n_,n_,n_] rfl rfl (any_of D.1 (by kernel_rfl)) (fun _ _ _ h=>h) (Or.inl ⟨by rfl,?_⟩) ?_ ?_;rotate_left
        ·
         intro w';go_simp;with_reducible rfl
        rotate_left
        ·
         simp only [Act.put,s0_,s1_,s2_,i64_w,i32_w];rfl
        refine pure_ (i:=5) (N:=some 21) (v:=?_) (a':=?_) #[y_,y_,y_,y_,n_,y_,n_,n_,n_,n_,n_,n_,n_] rfl rfl (any_of D.1 (by kernel_rfl)) (fun _ _ _ h=>h) (Or.inl ⟨by rfl,?_⟩) ?_ ?_;rotate_left
        ·
         intro w';go_simp;with_reducible rfl
        rotate_left
        ·
         simp only [Act.put,s0_,s1_,s2_,i64_w,i32_w];rfl
        refine pure_ (i:=6) (N:=some 22) (v:=?_) (a':=?_) #[y_,y_,y_,y_,n_,y_,y_,n_,n_,n_,n_,n_,n_] rfl rfl (any_of D.1 (by kernel_rfl)) (fun _ _ _ h=>h) (Or.inl ⟨by rfl,?_⟩) ?_ ?_;rotate_left
        ·
         intro w';go_simp;with_reducible rfl
        rotate_left
        ·
         simp only [Act.put,s0_,s1_,s2_,i64_w,i32_w];rfl
        refine pure_ (i:=7) (N:=some 23) (v:=?_) (a':=?_) #[y_,y_,y_,y_,n_,y_,y_,y_,n_,n_,n_,n_,n_] rfl rfl (any_of D.1 (by kernel_rfl)) (fun _ _ _ h=>h) (Or.inl ⟨by rfl,?_⟩) ?_ ?_;rotate_left
        ·
         intro w';go_simp;with_reducible rfl
        rotate_left
        ·
         simp only [Act.put,s0_,s1_,s2_,i64_w,i32_w];rfl
        refine take_ (i:=4) (N:=some 20) (v:=?_) (a':=?_) #[y_,y_,y_,y_,y_,y_,y_,y_,n_,n_,n_,n_,n_] rfl rfl (take_ofW D.1 a6.1 (by kernel_rfl)) (fun _ _ _ h=>h) (Or.inl ⟨by rfl,?_⟩) I ?_ ?_;rotate_left
        ·
         rintro w' ⟨s0,s1⟩;go_simp;with_reducible rfl
        rotate_left
        ·
         simp only [Act.put,s0_,s1_,s2_,i64_w,i32_w];rfl
        refine take_ (i:=8) (N:=some 24) (v:=?_) (a':=?_) #[y_,y_,y_,y_,y_,y_,y_,y_,y_,n_,n_,n_,n_] rfl rfl (take_ofW D.1 a6.1 (by kernel_rfl)) (fun _ _ _ h=>h) (Or.inl ⟨by rfl,?_⟩) I ?_ ?_;rotate_left
        ·
         rintro w' ⟨s0,s1⟩;go_simp;with_reducible rfl
        rotate_left
        ·
         simp only [Act.put,s0_,s1_,s2_,i64_w,i32_w];rfl
        refine pure_ (i:=9) (N:=some 25) (v:=?_) (a':=?_) #[y_,y_,y_,y_,y_,y_,y_,y_,y_,y_,n_,n_,n_] rfl rfl (any_of D.1 (by kernel_rfl)) (fun _ _ _ h=>h) (Or.inl ⟨by rfl,?_⟩) ?_ ?_;rotate_left
        ·
         intro w';go_simp;with_reducible rfl
        rotate_left
        ·
         simp only [Act.put,s0_,s1_,s2_,i64_w,i32_w];rfl
        refine one_ (i:=10) (N:=some 26) #[y_,y_,y_,y_,y_,y_,y_,y_,y_,y_,y_,n_,n_] rfl rfl (one_of D.1 (by kernel_rfl)) (by decide) (fun K hK=>?_);refine value_ (w1:=?_) (v:=?_) (by rfl) rfl ?_ ?_;rotate_left 2
        ·
         go_simp;constructor
         ·
          rfl
         ·
          rfl
        refine hK.out _ _ ⟨(World.cell?_alloc_lt _ _ _ (World.block_lt_of_cell? _ _ ((bd_ G E)))).trans ((bd_ G E)),(World.cell?_alloc_lt _ _ _ (World.block_lt_of_cell? _ _ ((bd_ G F)))).trans ((bd_ G F))⟩ (fun I=>?_);clear hK K;refine norm_ (a':=?_) ?_ ?_;rotate_left
        ·
         show Act.put _ (some 26) _=_;simp only [Act.put,s0_,s1_,s2_,i64_w,i32_w];rfl
        refine one_ (i:=11) (N:=some 27) #[y_,y_,y_,y_,y_,y_,y_,y_,y_,y_,y_,y_,n_] rfl rfl (one_of D.1 (by kernel_rfl)) (by decide) (fun K hK=>?_);refine Kd.R_append_step (Kd.int .i64) (w0:=w) w.heap.size (by rfl) (.tmp 16) (.tmp 26) 23 3 (.int .i64 0) 8 rfl Try.underlying23 info3 rfl (by decide) (by omega) u6 X (wrap64 ((rd M B) - (rd O B))) [.int .i64 (wrap64 ((rd M B) - (rd O B)))] (fun _=>True) (fun _=>False) rfl rfl ?aP (fun _ hk=>hk.elim) ?aF ?aO ?aB ?aS ?aL ?_;(case aP=>exact rfl);(case aB=>exact G.1);(case aF=>exact (fun _ _=>trivial));(case aO=>exact T.1);(case aS=>exact (below_size G.1));(case aL=>have:=d6.1;omega);intro f1 f7 ho hb hg hat;rw [← d2.1] at ho;have Q:=mk0 (ho);replace G:=mk0 (hb);clear T;clear ho hb hg hat;refine hK.out _ _ ⟨(bd_ G E),(bd_ G F)⟩ (fun I=>?_);clear hK K;refine norm_ (a':=?_) ?_ ?_;rotate_left
        ·
         show Act.put _ (some 27) _=_;simp only [Act.put,s0_,s1_,s2_,i64_w,i32_w];rfl
        refine pure_ (i:=12) (N:=some 6) (v:=?_) (a':=?_) #[y_,y_,y_,y_,y_,y_,y_,y_,y_,y_,y_,y_,y_] rfl rfl (any_of D.1 (by kernel_rfl)) (fun _ _ _ h=>h) (Or.inl ⟨by rfl,?_⟩) ?_ ?_;rotate_left
        ·
         intro w';go_simp;with_reducible rfl
        rotate_left
        ·
         simp only [Act.put,s0_,s1_,s2_,i64_w,i32_w];rfl
        refine done_ (done_of D.1 (by kernel_rfl)) ?_;try go_wp2
        replace Q:=rdr Q;replace G:=hdr G;have b8:0 ≤ (B:Int):=of_decide_eq_true (by assumption);have b9:B < (M.length:Int):=of_decide_eq_true (by assumption);obtain ⟨e3,f2,U⟩:=Kd.at_int d3.1 B b8 b9;have b1:=U;obtain rfl:a4=e3:=(by injection f2)
        replace U:=bd_ G U;replace b8:=eq_true b8;replace b9:=eq_true b9;have c2:0 ≤ (B:Int):=of_decide_eq_true (by assumption);have c4:B < (O.length:Int):=of_decide_eq_true (by assumption);obtain ⟨e4,f3,V⟩:=Kd.at_int d4.1 B c2 c4;have b2:=V;obtain rfl:a5=e4:=(by injection f3)
        replace V:=bd_ G V;replace c2:=eq_true c2;replace c4:=eq_true c4;refine start_ (n:=13) (S:=fun w'=>w'.cell? (a4.add (B).toNat)=some (.int .i64 (rd M B))∧w'.cell? (a5.add (B).toNat)=some (.int .i64 (rd O B))) (ds:=[]) #[n_,n_,n_,n_,n_,n_,n_,n_,n_,n_,n_,n_,n_] (by kernel_rfl) rfl rfl ⟨(bd_ G b1),(bd_ G b2)⟩ (fun I=>?_);refine with_tabW bellpullref05_Less.tab6 bellpullref05_Less.bits6 (fun D a6=>?_);generalize f7.drew=g6 at Q G U V I ⊢;refine pure_ (i:=0) (N:=some 28) (v:=?_) (a':=?_) #[y_,n_,n_,n_,n_,n_,n_,n_,n_,n_,n_,n_,n_] rfl rfl (any_of D.1 (by kernel_rfl)) (fun _ _ _ h=>h) (Or.inl ⟨by rfl,?_⟩) ?_ ?_;rotate_left
        ·
         intro w';go_simp;with_reducible rfl
        rotate_left
        ·
         simp only [Act.put,s0_,s1_,s2_,i64_w,i32_w];rfl
        refine pure_ (i:=1) (N:=some 29) (v:=?_) (a':=?_) #[y_,y_,n_,n_,n_,n_,n_,n_,n_,n_,n_,n_,n_] rfl rfl (any_of D.1 (by kernel_rfl)) (fun _ _ _ h=>h) (Or.inl ⟨by rfl,?_⟩) ?_ ?_;rotate_left
        ·
         intro w';go_simp;with_reducible rfl
        rotate_left
        ·
         simp only [Act.put,s0_,s1_,s2_,i64_w,i32_w];rfl
        refine pure_ (i:=2) (N:=some 30) (v:=?_) (a':=?_) #[y_,y_,y_,n_,n_,n_,n_,n_,n_,n_,n_,n_,n_] rfl rfl (any_of D.1 (by kernel_rfl)) (fun _ _ _ h=>h) (Or.inl ⟨by rfl,?_⟩) ?_ ?_;rotate_left
        ·
         intro w';go_simp;with_reducible rfl
        rotate_left
        ·
         simp only [Act.put,s0_,s1_,s2_,i64_w,i32_w];rfl
        refine pure_ (i:=3) (N:=some 31) (v:=?_) (a':=?_) #[y_,y_,y_,y_,n_,n_,n_,n_,n_,n_,n_,n_,n_] rfl rfl (any_of D.1 (by kernel_rfl)) (fun _ _ _ h=>h) (Or.inl ⟨by rfl,?_⟩) ?_ ?_;rotate_left
        ·
         intro w';go_simp;with_reducible rfl
        rotate_left
        ·
         simp only [Act.put,s0_,s1_,s2_,i64_w,i32_w];rfl
        refine pure_ (i:=4) (N:=some 32) (v:=?_) (a':=?_) #[y_,y_,y_,y_,y_,n_,n_,n_,n_,n_,n_,n_,n_] rfl rfl (any_of D.1 (by kernel_rfl)) (fun _ _ _ h=>h) (Or.inl ⟨by rfl,?_⟩) ?_ ?_;rotate_left
        ·
         intro w';go_simp;with_reducible rfl
        rotate_left
        ·
         simp only [Act.put,s0_,s1_,s2_,i64_w,i32_w];rfl
        refine pure_ (i:=6) (N:=some 34) (v:=?_) (a':=?_) #[y_,y_,y_,y_,y_,n_,y_,n_,n_,n_,n_,n_,n_] rfl rfl (any_of D.1 (by kernel_rfl)) (fun _ _ _ h=>h) (Or.inl ⟨by rfl,?_⟩) ?_ ?_;rotate_left
        ·
         intro w';go_simp;with_reducible rfl
        rotate_left
        ·
         simp only [Act.put,s0_,s1_,s2_,i64_w,i32_w];rfl
        refine pure_ (i:=7) (N:=some 35) (v:=?_) (a':=?_) #[y_,y_,y_,y_,y_,n_,y_,y_,n_,n_,n_,n_,n_] rfl rfl (any_of D.1 (by kernel_rfl)) (fun _ _ _ h=>h) (Or.inl ⟨by rfl,?_⟩) ?_ ?_;rotate_left
        ·
         intro w';go_simp;with_reducible rfl
        rotate_left
        ·
         simp only [Act.put,s0_,s1_,s2_,i64_w,i32_w];rfl
        refine pure_ (i:=8) (N:=some 36) (v:=?_) (a':=?_) #[y_,y_,y_,y_,y_,n_,y_,y_,y_,n_,n_,n_,n_] rfl rfl (any_of D.1 (by kernel_rfl)) (fun _ _ _ h=>h) (Or.inl ⟨by rfl,?_⟩) ?_ ?_;rotate_left
        ·
         intro w';go_simp;with_reducible rfl
        rotate_left
        ·
         simp only [Act.put,s0_,s1_,s2_,i64_w,i32_w];rfl
        refine take_ (i:=5) (N:=some 33) (v:=?_) (a':=?_) #[y_,y_,y_,y_,y_,y_,y_,y_,y_,n_,n_,n_,n_] rfl rfl (take_ofW D.1 a6.1 (by kernel_rfl)) (fun _ _ _ h=>h) (Or.inl ⟨by rfl,?_⟩) I ?_ ?_;rotate_left
        ·
         rintro w' ⟨s0,s1⟩;go_simp;with_reducible rfl
        rotate_left
        ·
         simp only [Act.put,s0_,s1_,s2_,i64_w,i32_w];rfl
        refine take_ (i:=9) (N:=some 37) (v:=?_) (a':=?_) #[y_,y_,y_,y_,y_,y_,y_,y_,y_,y_,n_,n_,n_] rfl rfl (take_ofW D.1 a6.1 (by kernel_rfl)) (fun _ _ _ h=>h) (Or.inl ⟨by rfl,?_⟩) I ?_ ?_;rotate_left
        ·
         rintro w' ⟨s0,s1⟩;go_simp;with_reducible rfl
        rotate_left
        ·
         simp only [Act.put,s0_,s1_,s2_,i64_w,i32_w];rfl
        refine pure_ (i:=10) (N:=some 38) (v:=?_) (a':=?_) #[y_,y_,y_,y_,y_,y_,y_,y_,y_,y_,y_,n_,n_] rfl rfl (any_of D.1 (by kernel_rfl)) (fun _ _ _ h=>h) (Or.inl ⟨by rfl,?_⟩) ?_ ?_;rotate_left
        ·
         intro w';go_simp;with_reducible rfl
        rotate_left
        ·
         simp only [Act.put,s0_,s1_,s2_,i64_w,i32_w];rfl
        refine pure_ (i:=11) (N:=some 39) (v:=?_) (a':=?_) #[y_,y_,y_,y_,y_,y_,y_,y_,y_,y_,y_,y_,n_] rfl rfl (any_of D.1 (by kernel_rfl)) (fun _ _ _ h=>h) (Or.inl ⟨by rfl,?_⟩) ?_ ?_;rotate_left
        ·
         intro w';go_simp;with_reducible rfl
        rotate_left
        ·
         simp only [Act.put,s0_,s1_,s2_,i64_w,i32_w];rfl
        refine pure_ (i:=12) (N:=some 7) (v:=?_) (a':=?_) #[y_,y_,y_,y_,y_,y_,y_,y_,y_,y_,y_,y_,y_] rfl rfl (any_of D.1 (by kernel_rfl)) (fun _ _ _ h=>h) (Or.inl ⟨by rfl,?_⟩) ?_ ?_;rotate_left
        ·
         intro w';go_simp;with_reducible rfl
        rotate_left
        ·
         simp only [Act.put,s0_,s1_,s2_,i64_w,i32_w];rfl
        refine done_ (done_of D.1 (by kernel_rfl)) ?_;try go_wp2
        go_roundg k1
        case measure=>have:=d1.1;omega
        case rel=>exact ⟨(a7),(decide ((rd M B) ≥ (rd O B))),(wrap64 (B + 1)),(by first|rfl|(simp;done)|(simp [*];done)),(by first|rfl|(simp;done)|(simp [*];done)),H',⟨by have:=d1.1;omega⟩,⟨by exact Q.1⟩,⟨by exact G.1⟩⟩
       ·
        replace c9:=Bool.eq_false_iff.mpr c9;subst c9;have H1:(bellpullref05_Less.l0 k1 M O a7 false (wrap64 (B + 1)))=some (r1,r2):=by rw [if_neg (show ¬ (false=true) by decide)] at H;exact H
        clear H;have H:=H1;clear H1;have H':=mk0 H;clear H;try go_wp2
        replace T:=rdr T;replace G:=hdr G;have Y:0 ≤ (B:Int):=of_decide_eq_true (by assumption);have Z:B < (M.length:Int):=of_decide_eq_true (by assumption);obtain ⟨a4,b6,J⟩:=Kd.at_int d3.1 B Y Z;have E:=J;cases b6;replace J:=bd_ G J;replace Y:=eq_true Y;replace Z:=eq_true Z;have a0:0 ≤ (B:Int):=of_decide_eq_true (by assumption);have a1:B < (O.length:Int):=of_decide_eq_true (by assumption);obtain ⟨a5,b7,L⟩:=Kd.at_int d4.1 B a0 a1;have F:=L;cases b7;replace L:=bd_ G L;replace a0:=eq_true a0;replace a1:=eq_true a1;refine start_ (n:=13) (S:=fun w'=>w'.cell? (a4.add (B).toNat)=some (.int .i64 (rd M B))∧w'.cell? (a5.add (B).toNat)=some (.int .i64 (rd O B))) (ds:=[]) #[n_,n_,n_,n_,n_,n_,n_,n_,n_,n_,n_,n_,n_] (by kernel_rfl) rfl rfl ⟨(bd_ G E),(bd_ G F)⟩ (fun I=>?_);refine with_tabW bellpullref05_Less.tab5 bellpullref05_Less.bits5 (fun D a6=>?_);generalize wr.drew=g7 at T G J L I ⊢;refine pure_ (i:=0) (N:=some 16) (v:=?_) (a':=?_) #[y_,n_,n_,n_,n_,n_,n_,n_,n_,n_,n_,n_,n_] rfl rfl (any_of D.1 (by kernel_rfl)) (fun _ _ _ h=>h) (Or.inl ⟨by rfl,?_⟩) ?_ ?_;rotate_left
        ·
         intro w';go_simp;with_reducible rfl
        rotate_left
        ·
         simp only [Act.put,s0_,s1_,s2_,i64_w,i32_w];rfl
        refine pure_ (i:=1) (N:=some 17) (v:=?_) (a':=?_) #[y_,y_,n_,n_,n_,n_,n_,n_,n_,n_,n_,n_,n_] rfl rfl (any_of D.1 (by kernel_rfl)) (fun _ _ _ h=>h) (Or.inl ⟨by rfl,?_⟩) ?_ ?_;rotate_left
        ·
         intro w';go_simp;with_reducible rfl
        rotate_left
        ·
         simp only [Act.put,s0_,s1_,s2_,i64_w,i32_w];rfl
        refine pure_ (i:=2) (N:=some 18) (v:=?_) (a':=?_) #[y_,y_,y_,n_,n_,n_,n_,n_,n_,n_,n_,n_,n_] rfl rfl (any_of D.1 (by kernel_rfl)) (fun _ _ _ h=>h) (Or.inl ⟨by rfl,?_⟩) ?_ ?_;rotate_left
        ·
         intro w';go_simp;with_reducible rfl
        rotate_left
        ·
         simp only [Act.put,s0_,s1_,s2_,i64_w,i32_w];rfl
        refine pure_ (i:=3) (N:=some 19) (v:=?_) (a':=?_) #[y_,y_,y_,y_,n_,n_,n_,n_,n_,n_,n_,n_,n_] rfl rfl (any_of D.1 (by kernel_rfl)) (fun _ _ _ h=>h) (Or.inl ⟨by rfl,?_⟩) ?_ ?_;rotate_left
        ·
         intro w';go_simp;with_reducible rfl
        rotate_left
        ·
         simp only [Act.put,s0_,s1_,s2_,i64_w,i32_w];rfl
        refine pure_ (i:=5) (N:=some 21) (v:=?_) (a':=?_) #[y_,y_,y_,y_,n_,y_,n_,n_,n_,n_,n_,n_,n_] rfl rfl (any_of D.1 (by kernel_rfl)) (fun _ _ _ h=>h) (Or.inl ⟨by rfl,?_⟩) ?_ ?_;rotate_left
        ·
         intro w';go_simp;with_reducible rfl
        rotate_left
        ·
         simp only [Act.put,s0_,s1_,s2_,i64_w,i32_w];rfl
        refine pure_ (i:=6) (N:=some 22) (v:=?_) (a':=?_) #[y_,y_,y_,y_,n_,y_,y_,n_,n_,n_,n_,n_,n_] rfl rfl (any_of D.1 (by kernel_rfl)) (fun _ _ _ h=>h) (Or.inl ⟨by rfl,?_⟩) ?_ ?_;rotate_left
        ·
         intro w';go_simp;with_reducible rfl
        rotate_left
        ·
         simp only [Act.put,s0_,s1_,s2_,i64_w,i32_w];rfl
        refine pure_ (i:=7) (N:=some 23) (v:=?_) (a':=?_) #[y_,y_,y_,y_,n_,y_,y_,y_,n_,n_,n_,n_,n_] rfl rfl (any_of D.1 (by kernel_rfl)) (fun _ _ _ h=>h) (Or.inl ⟨by rfl,?_⟩) ?_ ?_;rotate_left
        ·
         intro w';go_simp;with_reducible rfl
        rotate_left
        ·
         simp only [Act.put,s0_,s1_,s2_,i64_w,i32_w];rfl
        refine take_ (i:=4) (N:=some 20) (v:=?_) (a':=?_) #[y_,y_,y_,y_,y_,y_,y_,y_,n_,n_,n_,n_,n_] rfl rfl (take_ofW D.1 a6.1 (by kernel_rfl)) (fun _ _ _ h=>h) (Or.inl ⟨by rfl,?_⟩) I ?_ ?_;rotate_left
        ·
         rintro w' ⟨s0,s1⟩;go_simp;with_reducible rfl
        rotate_left
        ·
         simp only [Act.put,s0_,s1_,s2_,i64_w,i32_w];rfl
        refine take_ (i:=8) (N:=some 24) (v:=?_) (a':=?_) #[y_,y_,y_,y_,y_,y_,y_,y_,y_,n_,n_,n_,n_] rfl rfl (take_ofW D.1 a6.1 (by kernel_rfl)) (fun _ _ _ h=>h) (Or.inl ⟨by rfl,?_⟩) I ?_ ?_;rotate_left
        ·
         rintro w' ⟨s0,s1⟩;go_simp;with_reducible rfl
        rotate_left
        ·
         simp only [Act.put,s0_,s1_,s2_,i64_w,i32_w];rfl
        refine pure_ (i:=9) (N:=some 25) (v:=?_) (a':=?_) #[y_,y_,y_,y_,y_,y_,y_,y_,y_,y_,n_,n_,n_] rfl rfl (any_of D.1 (by kernel_rfl)) (fun _ _ _ h=>h) (Or.inl ⟨by rfl,?_⟩) ?_ ?_;rotate_left
        ·
         intro w';go_simp;with_reducible rfl
        rotate_left
        ·
         simp only [Act.put,s0_,s1_,s2_,i64_w,i32_w];rfl
        refine one_ (i:=10) (N:=some 26) #[y_,y_,y_,y_,y_,y_,y_,y_,y_,y_,y_,n_,n_] rfl rfl (one_of D.1 (by kernel_rfl)) (by decide) (fun K hK=>?_);refine value_ (w1:=?_) (v:=?_) (by rfl) rfl ?_ ?_;rotate_left 2
        ·
         go_simp;constructor
         ·
          rfl
         ·
          rfl
        refine hK.out _ _ ⟨(World.cell?_alloc_lt _ _ _ (World.block_lt_of_cell? _ _ ((bd_ G E)))).trans ((bd_ G E)),(World.cell?_alloc_lt _ _ _ (World.block_lt_of_cell? _ _ ((bd_ G F)))).trans ((bd_ G F))⟩ (fun I=>?_);clear hK K;refine norm_ (a':=?_) ?_ ?_;rotate_left
        ·
         show Act.put _ (some 26) _=_;simp only [Act.put,s0_,s1_,s2_,i64_w,i32_w];rfl
        refine one_ (i:=11) (N:=some 27) #[y_,y_,y_,y_,y_,y_,y_,y_,y_,y_,y_,y_,n_] rfl rfl (one_of D.1 (by kernel_rfl)) (by decide) (fun K hK=>?_);refine Kd.R_append_step (Kd.int .i64) (w0:=w) w.heap.size (by rfl) (.tmp 16) (.tmp 26) 23 3 (.int .i64 0) 8 rfl Try.underlying23 info3 rfl (by decide) (by omega) u6 X (wrap64 ((rd M B) - (rd O B))) [.int .i64 (wrap64 ((rd M B) - (rd O B)))] (fun _=>True) (fun _=>False) rfl rfl ?aP (fun _ hk=>hk.elim) ?aF ?aO ?aB ?aS ?aL ?_;(case aP=>exact rfl);(case aB=>exact G.1);(case aF=>exact (fun _ _=>trivial));(case aO=>exact T.1);(case aS=>exact (below_size G.1));(case aL=>have:=d6.1;omega);intro f1 f8 ho hb hg hat;rw [← d2.1] at ho;have Q:=mk0 (ho);replace G:=mk0 (hb);clear T;clear ho hb hg hat;refine hK.out _ _ ⟨(bd_ G E),(bd_ G F)⟩ (fun I=>?_);clear hK K;refine norm_ (a':=?_) ?_ ?_;rotate_left
        ·
         show Act.put _ (some 27) _=_;simp only [Act.put,s0_,s1_,s2_,i64_w,i32_w];rfl
        refine pure_ (i:=12) (N:=some 6) (v:=?_) (a':=?_) #[y_,y_,y_,y_,y_,y_,y_,y_,y_,y_,y_,y_,y_] rfl rfl (any_of D.1 (by kernel_rfl)) (fun _ _ _ h=>h) (Or.inl ⟨by rfl,?_⟩) ?_ ?_;rotate_left
        ·
         intro w';go_simp;with_reducible rfl
        rotate_left
        ·
         simp only [Act.put,s0_,s1_,s2_,i64_w,i32_w];rfl
        refine done_ (done_of D.1 (by kernel_rfl)) ?_;try go_wp2
        replace Q:=rdr Q;replace G:=hdr G;refine start_ (n:=13) (S:=fun w'=>True) (ds:=[]) #[n_,n_,n_,n_,n_,n_,n_,n_,n_,n_,n_,n_,n_] (by kernel_rfl) rfl rfl trivial (fun I=>?_);refine with_tabW bellpullref05_Less.tab6 bellpullref05_Less.bits6 (fun D a6=>?_);generalize f8.drew=g8 at Q G I ⊢;refine pure_ (i:=0) (N:=some 28) (v:=?_) (a':=?_) #[y_,n_,n_,n_,n_,n_,n_,n_,n_,n_,n_,n_,n_] rfl rfl (any_of D.1 (by kernel_rfl)) (fun _ _ _ h=>h) (Or.inl ⟨by rfl,?_⟩) ?_ ?_;rotate_left
        ·
         intro w';go_simp;with_reducible rfl
        rotate_left
        ·
         simp only [Act.put,s0_,s1_,s2_,i64_w,i32_w];rfl
        refine pure_ (i:=1) (N:=some 29) (v:=?_) (a':=?_) #[y_,y_,n_,n_,n_,n_,n_,n_,n_,n_,n_,n_,n_] rfl rfl (any_of D.1 (by kernel_rfl)) (fun _ _ _ h=>h) (Or.inl ⟨by rfl,?_⟩) ?_ ?_;rotate_left
        ·
         intro w';go_simp;with_reducible rfl
        rotate_left
        ·
         simp only [Act.put,s0_,s1_,s2_,i64_w,i32_w];rfl
        refine pure_ (i:=2) (N:=some 30) (v:=undef) (a':=?_) #[y_,y_,y_,n_,n_,n_,n_,n_,n_,n_,n_,n_,n_] rfl rfl (any_of D.1 (by kernel_rfl)) (fun _ _ _ h=>h) (Or.inr ⟨by rfl,rfl⟩) ?_ ?_;rotate_left
        ·
         simp only [Act.put,s0_,s1_,s2_,i64_w,i32_w];rfl
        refine pure_ (i:=3) (N:=some 31) (v:=undef) (a':=?_) #[y_,y_,y_,y_,n_,n_,n_,n_,n_,n_,n_,n_,n_] rfl rfl (any_of D.1 (by kernel_rfl)) (fun _ _ _ h=>h) (Or.inr ⟨by rfl,rfl⟩) ?_ ?_;rotate_left
        ·
         simp only [Act.put,s0_,s1_,s2_,i64_w,i32_w];rfl
        refine pure_ (i:=4) (N:=some 32) (v:=undef) (a':=?_) #[y_,y_,y_,y_,y_,n_,n_,n_,n_,n_,n_,n_,n_] rfl rfl (any_of D.1 (by kernel_rfl)) (fun _ _ _ h=>h) (Or.inr ⟨by rfl,rfl⟩) ?_ ?_;rotate_left
        ·
         simp only [Act.put,s0_,s1_,s2_,i64_w,i32_w];rfl
        refine pure_ (i:=5) (N:=some 33) (v:=undef) (a':=?_) #[y_,y_,y_,y_,y_,y_,n_,n_,n_,n_,n_,n_,n_] rfl rfl (any_of D.1 (by kernel_rfl)) (fun _ _ _ h=>h) (Or.inr ⟨by rfl,rfl⟩) ?_ ?_;rotate_left
        ·
         simp only [Act.put,s0_,s1_,s2_,i64_w,i32_w];rfl
        refine pure_ (i:=6) (N:=some 34) (v:=undef) (a':=?_) #[y_,y_,y_,y_,y_,y_,y_,n_,n_,n_,n_,n_,n_] rfl rfl (any_of D.1 (by kernel_rfl)) (fun _ _ _ h=>h) (Or.inr ⟨by rfl,rfl⟩) ?_ ?_;rotate_left
        ·
         simp only [Act.put,s0_,s1_,s2_,i64_w,i32_w];rfl
        refine pure_ (i:=7) (N:=some 35) (v:=undef) (a':=?_) #[y_,y_,y_,y_,y_,y_,y_,y_,n_,n_,n_,n_,n_] rfl rfl (any_of D.1 (by kernel_rfl)) (fun _ _ _ h=>h) (Or.inr ⟨by rfl,rfl⟩) ?_ ?_;rotate_left
        ·
         simp only [Act.put,s0_,s1_,s2_,i64_w,i32_w];rfl
        refine pure_ (i:=8) (N:=some 36) (v:=undef) (a':=?_) #[y_,y_,y_,y_,y_,y_,y_,y_,y_,n_,n_,n_,n_] rfl rfl (any_of D.1 (by kernel_rfl)) (fun _ _ _ h=>h) (Or.inr ⟨by rfl,rfl⟩) ?_ ?_;rotate_left
        ·
         simp only [Act.put,s0_,s1_,s2_,i64_w,i32_w];rfl
        refine pure_ (i:=9) (N:=some 37) (v:=undef) (a':=?_) #[y_,y_,y_,y_,y_,y_,y_,y_,y_,y_,n_,n_,n_] rfl rfl (any_of D.1 (by kernel_rfl)) (fun _ _ _ h=>h) (Or.inr ⟨by rfl,rfl⟩) ?_ ?_;rotate_left
        ·
         simp only [Act.put,s0_,s1_,s2_,i64_w,i32_w];rfl
        refine pure_ (i:=10) (N:=some 38) (v:=undef) (a':=?_) #[y_,y_,y_,y_,y_,y_,y_,y_,y_,y_,y_,n_,n_] rfl rfl (any_of D.1 (by kernel_rfl)) (fun _ _ _ h=>h) (Or.inr ⟨by rfl,rfl⟩) ?_ ?_;rotate_left
        ·
         simp only [Act.put,s0_,s1_,s2_,i64_w,i32_w];rfl
        refine pure_ (i:=11) (N:=some 39) (v:=?_) (a':=?_) #[y_,y_,y_,y_,y_,y_,y_,y_,y_,y_,y_,y_,n_] rfl rfl (any_of D.1 (by kernel_rfl)) (fun _ _ _ h=>h) (Or.inl ⟨by rfl,?_⟩) ?_ ?_;rotate_left
        ·
         intro w';go_simp;with_reducible rfl
        rotate_left
        ·
         simp only [Act.put,s0_,s1_,s2_,i64_w,i32_w];rfl
        refine pure_ (i:=12) (N:=some 7) (v:=?_) (a':=?_) #[y_,y_,y_,y_,y_,y_,y_,y_,y_,y_,y_,y_,y_] rfl rfl (any_of D.1 (by kernel_rfl)) (fun _ _ _ h=>h) (Or.inl ⟨by rfl,?_⟩) ?_ ?_;rotate_left
        ·
         intro w';go_simp;with_reducible rfl
        rotate_left
        ·
         simp only [Act.put,s0_,s1_,s2_,i64_w,i32_w];rfl
        refine done_ (done_of D.1 (by kernel_rfl)) ?_;try go_wp2
        go_roundg k1
        case measure=>have:=d1.1;omega
        case rel=>exact ⟨(a7),(false),(wrap64 (B + 1)),(by first|rfl|(simp;done)|(simp [*];done)),(by first|rfl|(simp;done)|(simp [*];done)),H',⟨by have:=d1.1;omega⟩,⟨by exact Q.1⟩,⟨by exact G.1⟩⟩
      ·
       rw [if_neg c8] at H;exact absurd H (by simp)
     ·
      rw [if_neg c7] at H;exact absurd H (by simp)
    ·
     rw [if_neg c6] at H;exact absurd H (by simp)
   ·
    rw [if_neg c5] at H;have c5b0:decide (B < (M.length:Int))=false:=decide_eq_false c5;clear c5;simp only [Option.some.injEq,Prod.mk.injEq] at H;obtain ⟨rfl,rfl⟩:=H;go_wp2;go_ret2;exact ⟨_,by first|rfl|(simp [errW_none,errW_some] <;> rfl)|(simp [*,errW_none,errW_some] <;> rfl),by exact T.1,by exact G.1⟩
end Go.Proofs.Ytkonljiembcdlaa.PC
namespace Go.Proofs.Ytkonljiembcdlaa.PC
open Go.Proofs.MyWords Go.RowKit Go.Proofs.YtkonljiembcdlaaW.PrintWords Go.Proofs.YtkonljiembcdlaaW.PrintLast Go.Proofs.YtkonljiembcdlaaW.PrintMore
attribute [local go_sem] max2_int min2_int max_two min_two max_three min_three max_four min_four   -- for this text's walks alone
set_option linter.unusedVariables false
set_option linter.unusedSimpArgs false
attribute [local go_sem] eqGuard_slices eqlnil23 neqnil23 eqlnil58 neqnil58
def nextV (d:Nat) (x:List Int) (p:Nat):List Int:=(List.range d).map fun k=>if p + k < x.length then Int.tmod (wrap64 (rd x ((p + k:Nat):Int))) 5 else 0
theorem nextV_succ (d:Nat) (x:List Int) (p:Nat):nextV (d + 1) x p=nextV d x p ++ [if p + d < x.length then Int.tmod (wrap64 (rd x ((p + d:Nat):Int))) 5 else 0]:=by
  unfold nextV;rw [List.range_succ,List.map_append];rfl
theorem mg_join {a b c:World} {g:Nat} (h:a.grownBy b (some g)) (k:b.grownBy c (some g)):a.grownBy c (some g) :=
  ⟨k.os.trans h.os,k.tape.trans h.tape,k.output.trans h.output,Nat.le_trans h.size k.size,fun i hi hn=>(k.block i (Nat.lt_of_lt_of_le hi h.size) hn).trans (h.block i hi hn)⟩
theorem mg_ofb {a b:World} (g:Nat) {B:Nat} (h:Below B a b) (hB:a.heap.size ≤ B):a.grownBy b (some g):=⟨h.os,h.tape,h.output,h.size,fun i hi _=>h.block i (by omega)⟩
theorem mg_snoc {a b c:World} {g:Nat} (h:a.grownBy b (some g)) (k:Below a.heap.size b c):a.grownBy c (some g) :=
  ⟨k.os.trans h.os,k.tape.trans h.tape,k.output.trans h.output,Nat.le_trans h.size k.size,fun i hi hn=>(k.block i hi).trans (h.block i hi hn)⟩
theorem mg_set {W w:World} {g:Nat} (h:W.grownBy w (some g)) (u:Value):W.grownBy (w.setCell ⟨g,0,none⟩ u) (some g) :=
  mg_join h ⟨rfl,rfl,rfl,by simp [World.setCell],fun i _ hi=>Below.heap_setCell _ _ _ _ (fun e=>hi (by rw [e]))⟩
theorem mg_below {W w:World} {g B:Nat} (h:W.grownBy w (some g)) (hg:B ≤ g) (hB:B ≤ W.heap.size):Below B W w :=
  ⟨h.os,h.tape,h.output,h.size,fun k hk=>h.block k (by omega) (fun e=>by injection e with e;omega)⟩
set_option maxHeartbeats 2000000 in
set_option maxRecDepth 100000 in
theorem made_next.calls (d p gd gat gx:Nat) (A:Option Addr) (c:Nat) (x:List Int) (w0 W:World) (hd:d ≤ 100) (hp:p ≤ 4611686018427387904) (hn1:gd ≠ gat) (hn2:gx ≠ gat) (hg0:w0.heap.size ≤ gat)
    (hbd:W.heap[gd]?=some (.cells #[.int .i64 (d:Int)] 3 (0,0))) (hba:W.heap[gat]?=some (.cells #[.int .i64 (p:Int)] 3 (0,0))) (hbx:W.heap[gx]?=some (.cells #[.slice A x.length c] 50 (0,0)))
    (hC:Kd.C (Kd.int .u8) w0 A x.length x) (hB:Below w0.heap.size w0 W) :
    Calls Try.prog 96 #[.pointer (some ⟨gd,0,none⟩),.pointer (some ⟨gat,0,none⟩),.pointer (some ⟨gx,0,none⟩)] W fun e w'=>∃ v,e=.returned v∧Kd.R (Kd.int .i64) 3 w' W.heap.size (fun _=>True) v (nextV d x p) ∧
      w'.heap[gat]?=some (.cells #[.int .i64 ((p + d:Nat):Int)] 3 (0,0))∧W.grownBy w' (some gat):=by
  have HD:=mk0 hd
  have HP:=mk0 hp
  have HN1:=mk0 hn1
  have HN2:=mk0 hn2
  have HG0:=mk0 hg0
  have HBD:=mk0 hbd
  have HBA:=mk0 hba
  have HBX:=mk0 hbx
  have HC:=mk0 hC
  have HB0:=mk0 hB
  have HL:=mk0 (show gat < W.heap.size from (Array.getElem?_eq_some_iff.1 hba).1)
  clear hd hp hn1 hn2 hg0 hbd hba hbx hC hB
  go_enter Try.func96,Try.ntmps96
  go_wp2_with (first
    | ((with_reducible refine gate_dst (N:=7) rfl ?_);refine Kd.R_lit (Kd.int .i64) _ 3 ?hg (N:=7) ?hd (xs:=([]:List Int)) (inner:=[]) (ok:=fun _=>True) (okp:=fun _=>True) ?hr ?hp (fun _ hk=>hk) trivial (Below.refl _ _) (Nat.le_refl _) (by simp) ?_;(case hd=>rfl);(case hg=>rfl);(case hr=>first|(go_simp;done)|(go_simp;rfl));(case hp=>exact (Reps.none _ _));intro v7 w2 ho3 hb hg_ hnew_;clear hg_ hnew_;have HO:=mk0 ho3;have HB1:=mk0 hb;clear hb ho3))
  go_loopw [4,5] (fun v4 v5 wr=>∃ (k:Nat),v5=.int .i64 (k:Int)∧Aside0 (k ≤ d)∧Aside0 (Kd.R (Kd.int .i64) 3 wr W.heap.size (fun _=>True) v4 (nextV k x p))∧Aside0 (wr.heap[gat]?=some (.cells #[.int .i64 ((p + k:Nat):Int)] 3 (0,0)))∧Aside0 (W.grownBy wr (some gat))) (fun _ v5 _=>d - (intOf v5).toNat)
  case atStart=>exact ⟨0,rfl,⟨Nat.zero_le _⟩,HO,⟨(HB1.out.block gat HL.out).trans HBA.out⟩,⟨mg_ofb gat HB1.out (Nat.le_refl _)⟩⟩
  case round =>
    obtain ⟨k,rfl,HK,HR,HA,HGR⟩:=hrel
    have HWD:=mk0 ((HGR.out.block gd (Array.getElem?_eq_some_iff.1 HBD.out).1 (fun e=>HN1.out (by injection e))).trans HBD.out)
    have HWX:=mk0 ((HGR.out.block gx (Array.getElem?_eq_some_iff.1 HBX.out).1 (fun e=>HN2.out (by injection e))).trans HBX.out)
    have HBW:=mk0 (HB0.out.trans (mg_below HGR.out HG0.out HB0.out.size))
    have hc0:wr.cell? ⟨gd,0,none⟩=some (.int .i64 (d:Int)):=(blk_cell HWD.out 0).trans rfl
    have hc1:wr.cell? ⟨gat,0,none⟩=some (.int .i64 ((p + k:Nat):Int)):=(blk_cell HA.out 0).trans rfl
    have hc2:wr.cell? ⟨gx,0,none⟩=some (.slice A x.length c):=(blk_cell HWX.out 0).trans rfl
    by_cases hlt:k < d
    · have hd1:decide ((k:Int) < (d:Int))=true:=decide_eq_true (by omega)
      have hd2:decide (k < d)=true:=decide_eq_true hlt
      have hwk:wrap64 ((k:Int) + 1)=((k + 1:Nat):Int):=by have:=HD.out;unfold wrap64;omega
      have hwp:wrap64 (((p + k:Nat):Int) + 1)=((p + (k + 1):Nat):Int):=by have:=HD.out;have:=HP.out;unfold wrap64;omega
      have hlk:(nextV k x p).length=k:=by unfold nextV;simp
      obtain ⟨y,hy⟩:∃ y:Int,y=(if p + k < x.length then Int.tmod (wrap64 (rd x ((p + k:Nat):Int))) 5 else 0):=⟨_,rfl⟩
      have HWK:=mk0 hwk
      have HWP:=mk0 hwp
      have HLK:=mk0 hlk
      have HY:=mk0 hy
      have HKD:=mk0 hlt
      clear hwk hwp hlk hlt
      obtain ⟨q,hq⟩:∃ q:Int,q=((p + k:Nat):Int):=⟨_,rfl⟩
      rw [← hq] at hc1
      have hf1:=blk_frozen HA.out 0
      by_cases hin:p + k < x.length
      · have q0:(0:Int) ≤ q:=by omega
        have q1:q < (x.length:Int):=by omega
        obtain ⟨ad,e,hx0⟩:=Kd.at_int HC.out q q0 q1
        cases e
        have hx1:=(HBW.out.cell (World.block_lt_of_cell? w0 _ hx0)).trans hx0
        have hd3:decide (q < (x.length:Int))=true:=decide_eq_true q1
        have p0:((0:Int) ≤ q)=True:=eq_true q0
        have p1:(q < (x.length:Int))=True:=eq_true q1
        have hyv:Int.tmod (wrap64 (rd x q)) 5=y:=by rw [hy,if_pos hin,hq]
        have HQ:=mk0 hq
        have HIN:=mk0 hin
        clear hx0 q0 q1 hy hq hin
        go_wp2_with (first
          | ((with_reducible refine gate_builtin (b:=.append) (xs:=#[.tmp 23,.tmp 25]) rfl ?_);at_builtin;refine Kd.R_append (Kd.int .i64) (w0:=wr) W.heap.size rfl (.tmp 23) (.tmp 25) 23 3 (.int .i64 0) 8 rfl Try.underlying23 info3 rfl (by decide) (by omega) u4 (nextV k x p) y [.int .i64 y] (fun _=>True) (fun _=>False) rfl (by first|rfl|(rw [← hyv];rfl)) ?aP (fun _ hk=>hk.elim) ?aF ?aO ?aB ?aS ?aL ?_;(case aP=>exact rfl);(case aB=>exact Below.refl _ _);(case aF=>exact (fun _ _=>trivial));(case aO=>exact HR.out);(case aS=>exact HGR.out.size);(case aL=>rw [HLK.out];have:=HD.out;have:=HKD.out;omega);intro v1 w1 ho hb hg hat;have HR1:=mk0 ho;have HA1:=mk0 ((hg.block gat (Array.getElem?_eq_some_iff.1 HA.out).1 (fun e=>by have:=Kd.R_base HR.out gat e.symm;have:=HL.out;omega)).trans HA.out);have HGR1:=mk0 (mg_snoc HGR.out hb);clear ho hb hg hat;have hc3:w1.cell? ⟨gat,0,none⟩=some (.int .i64 q):=(blk_cell HA1.out 0).trans (by rw [HQ.out];rfl);have hf3:=blk_frozen HA1.out 0))
        go_roundw
        case measure=>rw [HWK.out];simp only [intOf];have:=HKD.out;omega
        case rel =>
          rw [HWK.out]
          refine ⟨k + 1,rfl,⟨by have:=HKD.out;omega⟩,⟨?_⟩,⟨?_⟩,⟨mg_set HGR1.out _⟩⟩
          · rw [nextV_succ,← HY.out]
            exact Kd.R_mono (Kd.R_far (p:=⟨gat,0,none⟩) (Kd.R_bound HR1.out) (fun kk hk=>by have h1:=hk.2.1;have h2:=HL.out;show kk ≠ gat;omega) _) (fun _ _=>trivial)
          · rw [HQ.out,HWP.out];exact blk_put HA1.out 0 _ rfl
      · have hd3:decide (q < (x.length:Int))=false:=decide_eq_false (by omega)
        have hy0:y=0:=by rw [hy,if_neg hin]
        have HQ:=mk0 hq
        have HIN:=mk0 hin
        have HY0:=mk0 hy0
        clear hq hin hy hy0
        go_wp2_with (first
          | ((with_reducible refine gate_builtin (b:=.append) (xs:=#[.tmp 23,.tmp 25]) rfl ?_);at_builtin;refine Kd.R_append (Kd.int .i64) (w0:=wr) W.heap.size rfl (.tmp 23) (.tmp 25) 23 3 (.int .i64 0) 8 rfl Try.underlying23 info3 rfl (by decide) (by omega) u4 (nextV k x p) y [.int .i64 0] (fun _=>True) (fun _=>False) rfl rfl ?aP (fun _ hk=>hk.elim) ?aF ?aO ?aB ?aS ?aL ?_;(case aP=>rw [HY0.out];exact rfl);(case aB=>exact Below.refl _ _);(case aF=>exact (fun _ _=>trivial));(case aO=>exact HR.out);(case aS=>exact HGR.out.size);(case aL=>rw [HLK.out];have:=HD.out;have:=HKD.out;omega);intro v1 w1 ho hb hg hat;have HR1:=mk0 ho;have HA1:=mk0 ((hg.block gat (Array.getElem?_eq_some_iff.1 HA.out).1 (fun e=>by have:=Kd.R_base HR.out gat e.symm;have:=HL.out;omega)).trans HA.out);have HGR1:=mk0 (mg_snoc HGR.out hb);clear ho hb hg hat;have hc3:w1.cell? ⟨gat,0,none⟩=some (.int .i64 q):=(blk_cell HA1.out 0).trans (by rw [HQ.out];rfl);have hf3:=blk_frozen HA1.out 0))
        go_roundw
        case measure=>rw [HWK.out];simp only [intOf];have:=HKD.out;omega
        case rel =>
          rw [HWK.out]
          refine ⟨k + 1,rfl,⟨by have:=HKD.out;omega⟩,⟨?_⟩,⟨?_⟩,⟨mg_set HGR1.out _⟩⟩
          · rw [nextV_succ,← HY.out]
            exact Kd.R_mono (Kd.R_far (p:=⟨gat,0,none⟩) (Kd.R_bound HR1.out) (fun kk hk=>by have h1:=hk.2.1;have h2:=HL.out;show kk ≠ gat;omega) _) (fun _ _=>trivial)
          · rw [HQ.out,HWP.out];exact blk_put HA1.out 0 _ rfl
    · have hd1:decide ((k:Int) < (d:Int))=false:=decide_eq_false (by omega)
      have hd2:decide (k < d)=false:=decide_eq_false hlt
      have hkd:k=d:=by have:=HK.out;omega
      subst hkd
      go_wp2
      go_ret
      exact ⟨_,rfl,HR.out,HA.out,HGR.out⟩
def manyV (x:List Int) (p:Nat):Nat:=(Int.tmod (wrap64 (rd x (p:Int))) 3).toNat
def perV (d:Nat) (x:List Int) (q n:Nat):List (List Int):=(List.range n).map fun k=>nextV d x (q + d * k)
theorem perV_succ (d:Nat) (x:List Int) (q n:Nat):perV d x q (n + 1)=perV d x q n ++ [nextV d x (q + d * n)]:=by
  unfold perV;rw [List.range_succ,List.map_append];rfl
def madeG (d:Nat) (x:List Int):Nat → Nat → List S60
  | 0,_=>[]
  | m + 1,p=>if p < x.length then ⟨nextV d x (p + 1),perV d x (p + 1 + d) (manyV x p)⟩ :: madeG d x m (p + 1 + d + d * manyV x p) else []
def bellpulllaw05_made.f (a0:Int) (l1:List Int) (a2:Int):Option (List S60) :=
  if 0 ≤ a0∧a0 ≤ 3∧0 ≤ a2∧a2 ≤ 1000∧l1.length ≤ 4611686018427386000∧(l1.all fun z=>decide (0 ≤ z) && decide (z ≤ 255))=true then some (madeG a0.toNat l1 a2.toNat 0) else none
theorem manyV_le {x:List Int} (hx:∀ z,z ∈ x → 0 ≤ z∧z ≤ 255) {p:Nat} (hp:p < x.length):Int.tmod (wrap64 (rd x (p:Int))) 3=((manyV x p:Nat):Int)∧manyV x p ≤ 2:=by
  have hr:rd x (p:Int)=x[p]'hp:=by simp [rd,List.getD_eq_getElem?_getD,List.getElem?_eq_getElem hp]
  have h1:=hx _ (List.getElem_mem hp)
  have hw:wrap64 (rd x (p:Int))=rd x (p:Int):=by rw [hr];unfold wrap64;omega
  have ht:Int.tmod (rd x (p:Int)) 3=rd x (p:Int) % 3:=Int.tmod_eq_emod_of_nonneg (by rw [hr];exact h1.1)
  unfold manyV
  rw [hw,ht]
  omega
def mg_len:Value → Nat
  | .slice _ n _=>n
  | _=>0
theorem mg_ne {W:World} {g t e:Nat} {cs:Array Value} {v:Value} (hb:W.heap[g]?=some (.cells cs t (0,0))) (hty:∀ k,v.ownBlock=some k → ∃ cells,W.heap[k]?=some (.cells cells e (0,0))) (hte:t ≠ e):some g ≠ v.ownBlock:=fun h=>by
  obtain ⟨cells,hc⟩:=hty g h.symm
  rw [hc] at hb
  injection hb with hb
  injection hb with _ hb
  exact hte hb.symm
theorem mg_R {α:Type} {d:Kd α} {e:Nat} {w w1:World} {base:Nat} {ok:Nat → Prop} {v:Value} {xs:List α} {g:Nat} (h:d.R e w base ok v xs) (hg:w.grownBy w1 (some g)) (hok:∀ k,ok k → k ≠ g):d.R e w1 base ok v xs :=
  Kd.R_mono (Kd.R_move (Kd.R_bound h) (fun k hk=>hg.block k hk.2.2.1 (fun e=>hok k hk.1 (by injection e)))) (fun _ hk=>hk.1)
set_option maxHeartbeats 4000000 in
set_option maxRecDepth 100000 in
theorem bellpulllaw05_made.calls (a0:Int) (A1:Option Addr) (c1:Nat) (l1:List Int) (a2:Int) (r:List S60) (w:World) (hr1:Kd.C (Kd.int .u8) w A1 l1.length l1) (hc1:l1.length ≤ c1) (h:bellpulllaw05_made.f a0 l1 a2=some r) :
    Calls Try.prog 76 #[.int .i64 a0,.slice A1 l1.length c1,.int .i64 a2] w fun e w'=>∃ v0_:Value,e=.returned v0_∧Kd.R k60 60 w' w.heap.size (fun _=>True) v0_ r∧Below w.heap.size w w':=by
  unfold bellpulllaw05_made.f at h
  split at h
  case isFalse=>cases h
  rename_i hall
  obtain ⟨h0,h3,hm0,hm1,hlen,hx0⟩:=hall
  obtain rfl:=Option.some.inj h
  have hx:∀ z,z ∈ l1 → 0 ≤ z∧z ≤ 255:=fun z hz=>by
    have:=List.all_eq_true.1 hx0 z hz
    simp only [Bool.and_eq_true,decide_eq_true_eq] at this
    exact this
  obtain ⟨d,rfl⟩:∃ d:Nat,a0=(d:Int):=⟨a0.toNat,by omega⟩
  obtain ⟨most,rfl⟩:∃ m:Nat,a2=(m:Int):=⟨a2.toNat,by omega⟩
  rw [Int.toNat_natCast,Int.toNat_natCast]
  have HD:=mk0 (show d ≤ 3 by omega)
  have HM:=mk0 (show most ≤ 1000 by omega)
  have HLEN:=mk0 hlen
  have HX:=mk0 hx
  have HC:=mk0 hr1
  have HB:=mk0 (Below.refl w.heap.size w)
  have eg:∀ args w,(callFunc 96 args).run Try.prog w=.ok (.enter 96 args) w:=enters_of Try.func96 (by kernel_rfl) rfl
  clear h h0 h3 hm0 hm1 hlen hx0 hx hr1
  go_enter Try.func76,Try.ntmps76
  go_wp2_with (first
    | ((with_reducible refine gate_dst (N:=3) rfl ?_);refine box_event ?hg (N:=3) ?hd (cs:=#[.int .i64 (d:Int)]) (t:=3) ?hr ?_;(case hd=>rfl);(case hg=>rfl);(case hr=>first|(go_simp;done)|(go_simp;rfl));intro gd hg w1 hbox hb;have HBD:=mk0 hbox;have HGD:=mk0 hg;replace HB:=mk0 (HB.out.trans (hb.mono (Nat.le_refl _)));clear hb hbox hg)
    | ((with_reducible refine gate_dst (N:=4) rfl ?_);refine box_event ?hg (N:=4) ?hd (cs:=#[.slice A1 l1.length c1]) (t:=50) ?hr ?_;(case hd=>rfl);(case hg=>rfl);(case hr=>first|(go_simp;done)|(go_simp;rfl));intro gx hg w2 hbox hb;have HBX:=mk0 hbox;have HGX:=mk0 hg;replace HBD:=mk0 (blk_below HBD.out hb);replace HB:=mk0 (HB.out.trans (hb.mono HB.out.size));clear hb hbox hg)
    | ((with_reducible refine gate_dst (N:=14) rfl ?_);refine Kd.R_lit k60 _ 60 ?hg (N:=14) ?hd (xs:=([]:List S60)) (inner:=[]) (ok:=fun _=>True) (okp:=fun _=>True) ?hr ?hp (fun _ hk=>hk) trivial (Below.refl _ _) (Nat.le_refl _) (by simp) ?_;(case hd=>rfl);(case hg=>rfl);(case hr=>first|(go_simp;done)|(go_simp;rfl));(case hp=>exact (Reps.none _ _));intro v7 w3 ho3 hb hg_ hnew_;have HO:=mk0 (Kd.R_lower ho3 HB.out.size);replace HBD:=mk0 (blk_below HBD.out hb);replace HBX:=mk0 (blk_below HBX.out hb);replace HB:=mk0 (HB.out.trans (hb.mono HB.out.size));clear hb ho3 hg_ hnew_)
    | ((with_reducible refine gate_dst (N:=8) rfl ?_);refine box_event ?hg (N:=8) ?hd (cs:=#[.int .i64 0]) (t:=3) ?hr ?_;(case hd=>rfl);(case hg=>rfl);(case hr=>first|(go_simp;done)|(go_simp;rfl));intro gat hg w4 hbox hb;have HBA:=mk0 hbox;have HGA:=mk0 hg;have HNE:=mk0 (show gd ≠ gat∧gx ≠ gat from ⟨by have:=(Array.getElem?_eq_some_iff.1 HBD.out).1;omega,by have:=(Array.getElem?_eq_some_iff.1 HBX.out).1;omega⟩);have HGW:=mk0 (show w.heap.size ≤ gat from by have:=HB.out.size;omega);replace HO:=mk0 (Kd.R_below (Kd.R_mono (Kd.R_bound HO.out) (ok':=fun k=>k ≠ gat) (fun k hk=>by have:=hk.2.2.1;omega)) hb);replace HBD:=mk0 (blk_below HBD.out hb);replace HBX:=mk0 (blk_below HBX.out hb);replace HB:=mk0 (HB.out.trans (hb.mono HB.out.size));clear hb hbox hg;have hc8:w4.cell? ⟨gat,0,none⟩=some (.int .i64 0):=(blk_cell HBA.out 0).trans rfl;have hf8:=blk_frozen HBA.out 0))
  go_loopw [7] (fun v7 wr=>∃ (o:List S60) (p:Nat) (A:Option Addr) (c:Nat),v7=.slice A o.length c∧Aside0 (o ++ madeG d l1 (most - o.length) p=madeG d l1 most 0)∧Aside0 (o.length ≤ most)∧Aside0 (p ≤ l1.length + 9)∧Aside0 (Kd.R k60 60 wr w.heap.size (fun k=>k ≠ gat) (.slice A o.length c) o) ∧
      Aside0 (wr.heap[gd]?=some (.cells #[.int .i64 (d:Int)] 3 (0,0)))∧Aside0 (wr.heap[gx]?=some (.cells #[.slice A1 l1.length c1] 50 (0,0)))∧Aside0 (wr.heap[gat]?=some (.cells #[.int .i64 (p:Int)] 3 (0,0)))∧Aside0 (Below w.heap.size w wr)) (fun v7 _=>most - mg_len v7)
  case atStart =>
    obtain ⟨A,c,rfl⟩:=Kd.R_slice HO.out
    refine ⟨[],0,A,c,rfl,⟨by simp⟩,⟨Nat.zero_le _⟩,⟨Nat.zero_le _⟩,⟨Kd.R_far (p:=⟨gat,0,none⟩) HO.out (fun _ hk=>hk) _⟩,⟨blk_far HBD.out HNE.out.1 _⟩,⟨blk_far HBX.out HNE.out.2 _⟩,⟨blk_put HBA.out 0 _ rfl⟩,⟨below_set HB.out HGW.out⟩⟩
  case round =>
    clear HO HBD HBX HBA HB hc8 hf8 HGD HGX HGA
    obtain ⟨o,p,A,c,rfl,HREL,HOL,HP,HO,HBD,HBX,HBA,HB⟩:=hrel
    have hcx:wr.cell? ⟨gx,0,none⟩=some (.slice A1 l1.length c1):=(blk_cell HBX.out 0).trans rfl
    by_cases hl:o.length < most
    · have hd1:decide ((o.length:Int) < (most:Int))=true:=decide_eq_true (by omega)
      have hd2:decide (o.length < most)=true:=decide_eq_true hl
      by_cases hp:p < l1.length
      · obtain ⟨q,hq⟩:∃ q:Int,q=(p:Int):=⟨_,rfl⟩
        have hca:wr.cell? ⟨gat,0,none⟩=some (.int .i64 q):=(blk_cell HBA.out 0).trans (by rw [hq];rfl)
        have hfa:=blk_frozen HBA.out 0
        have hd3:decide (q < (l1.length:Int))=true:=decide_eq_true (by omega)
        have q0:(0:Int) ≤ q:=by omega
        have q1:q < (l1.length:Int):=by omega
        obtain ⟨ad,e,hx0⟩:=Kd.at_int HC.out q q0 q1
        cases e
        have hx1:=(HB.out.cell (World.block_lt_of_cell? w _ hx0)).trans hx0
        have p0:((0:Int) ≤ q)=True:=eq_true q0
        have p1:(q < (l1.length:Int))=True:=eq_true q1
        obtain ⟨hmv,hm2⟩:=manyV_le HX.out hp
        rw [← hq] at hmv
        obtain ⟨n,hn⟩:∃ n:Nat,n=manyV l1 p:=⟨_,rfl⟩
        rw [← hn] at hmv hm2
        have hwq:wrap64 (q + 1)=((p + 1:Nat):Int):=by have:=HLEN.out;unfold wrap64;omega
        have HN:=mk0 hn
        have HQ:=mk0 hq
        have HPL:=mk0 hp
        have HLM:=mk0 hl
        have HN2:=mk0 hm2
        have HWQ:=mk0 hwq
        have hga:=(Array.getElem?_eq_some_iff.1 HBA.out).1
        have HGLT:=mk0 hga
        clear hx0 q0 q1 hq hp hl hn hm2 hwq hga
        have HO1:=mk0 (Kd.R_far (p:=⟨gat,0,none⟩) HO.out (fun _ hk=>hk) (.int .i64 (wrap64 (q + 1))))
        have HBD1:=mk0 (blk_far HBD.out HNE.out.1 (p:=⟨gat,0,none⟩) (.int .i64 (wrap64 (q + 1))))
        have HBX1:=mk0 (blk_far HBX.out HNE.out.2 (p:=⟨gat,0,none⟩) (.int .i64 (wrap64 (q + 1))))
        have HBA1:Aside0 ((wr.setCell ⟨gat,0,none⟩ (.int .i64 (wrap64 (q + 1)))).heap[gat]?=some (.cells #[.int .i64 ((p + 1:Nat):Int)] 3 (0,0))):=⟨by rw [HWQ.out];exact blk_put HBA.out 0 _ rfl⟩
        have HB1:Aside0 (Below w.heap.size w (wr.setCell ⟨gat,0,none⟩ (.int .i64 (wrap64 (q + 1))))):=⟨below_set HB.out HGW.out⟩
        clear HO HBD HBX HBA HB
        go_wp2_with (fail)
        generalize (wr.setCell ⟨gat,0,none⟩ (.int .i64 (wrap64 (q + 1))))=W1 at HO1 HBD1 HBX1 HBA1 HB1 ⊢;(with_reducible refine (made_next.calls d (p + 1) gd gat gx _ c1 l1 w W1 ?s1 ?s2 HNE.out.1 HNE.out.2 HGW.out HBD1.out HBA1.out HBX1.out HC.out HB1.out).mono ?_);(case s1=>have:=HD.out;omega);(case s2=>have:=HLEN.out;have:=HPL.out;omega);rintro e W2 ⟨vf,rfl,hR,hA,hG⟩;have HF:=mk0 (Kd.R_mono (Kd.R_bound hR) (ok':=fun k=>k ≠ gat) (fun k hk=>by have:=hk.2.1;have:=(Array.getElem?_eq_some_iff.1 HBA1.out).1;omega));have HO:=mk0 (mg_R HO1.out hG (fun _ hk=>hk));have HBD:=mk0 ((hG.block gd (Array.getElem?_eq_some_iff.1 HBD1.out).1 (fun e=>HNE.out.1 (by injection e))).trans HBD1.out);have HBX:=mk0 ((hG.block gx (Array.getElem?_eq_some_iff.1 HBX1.out).1 (fun e=>HNE.out.2 (by injection e))).trans HBX1.out);have HBA:=mk0 hA;have HB:=mk0 (HB1.out.trans (mg_below hG HGW.out HB1.out.size));replace HF:=mk0 (Kd.R_lower HF.out HB1.out.size);clear hR hA hG HO1 HBD1 HBX1 HBA1 HB1;obtain ⟨Af,cf,ef⟩:=Kd.R_slice HF.out;subst ef
        go_wp2_with (first
          | ((with_reducible refine gate_dst (N:=11) rfl ?_);refine box_event ?hg (N:=11) ?hd (cs:=#[.slice none 0 0,.slice none 0 0]) (t:=60) ?hr ?_;(case hd=>rfl);(case hg=>rfl);(case hr=>first|(go_simp;done)|(go_simp;rfl));intro gl hg w6 hbox hb;have HBL:=mk0 hbox;have HNL:=mk0 (show gd ≠ gl∧gx ≠ gl∧gat ≠ gl from ⟨by have:=(Array.getElem?_eq_some_iff.1 HBD.out).1;omega,by have:=(Array.getElem?_eq_some_iff.1 HBX.out).1;omega,by have:=(Array.getElem?_eq_some_iff.1 HBA.out).1;omega⟩);have HGL:=mk0 (show w.heap.size ≤ gl from by have:=HB.out.size;omega);replace HO:=mk0 (Kd.R_below (Kd.R_elderB HO.out gl (Nat.le_of_eq hg.symm)) hb);replace HF:=mk0 (Kd.R_below HF.out hb);replace HBD:=mk0 (blk_below HBD.out hb);replace HBX:=mk0 (blk_below HBX.out hb);replace HBA:=mk0 (blk_below HBA.out hb);replace HB:=mk0 (HB.out.trans (hb.mono HB.out.size));clear hb hbox hg;have hcl0:w6.cell? ⟨gl,0,none⟩=some (.slice none 0 0):=(blk_cell HBL.out 0).trans rfl;have hcl1:w6.cell? ⟨gl,1,none⟩=some (.slice none 0 0):=(blk_cell HBL.out 1).trans rfl;have hfl0:=blk_frozen HBL.out 0;have hfl1:=blk_frozen HBL.out 1))
        obtain ⟨F,hF⟩:∃ F:List Int,F=nextV d l1 (p + 1):=⟨_,rfl⟩
        rw [← hF] at HF
        have HFF:=mk0 hF
        rw [← hF]
        clear hF
        go_loopw [12] (fun v12 wi=>∃ (k:Nat) (u:Value),v12=.int .i64 (k:Int)∧Aside0 (k ≤ n)∧Aside0 (Kd.R k60 60 wi w.heap.size (fun z=>(z ≠ gat∧z ≠ gl)∧some z ≠ u.ownBlock) (.slice A o.length c) o)∧Aside0 (Kd.R (Kd.int .i64) 3 wi w.heap.size (fun z=>z ≠ gat) (.slice Af F.length cf) F) ∧
            Aside0 (Kd.R (Kd.slice 3 (Kd.int .i64)) 23 wi w.heap.size (fun z=>z ≠ gat) u (perV d l1 (p + 1 + d) k))∧Aside0 (wi.heap[gl]?=some (.cells #[.slice Af F.length cf,u] 60 (0,0))) ∧
            Aside0 (wi.heap[gd]?=some (.cells #[.int .i64 (d:Int)] 3 (0,0)))∧Aside0 (wi.heap[gx]?=some (.cells #[.slice (some ad) l1.length c1] 50 (0,0)))∧Aside0 (wi.heap[gat]?=some (.cells #[.int .i64 ((p + 1 + d + d * k:Nat):Int)] 3 (0,0)))∧Aside0 (Below w.heap.size w wi)) (fun v12 _=>n - (intOf v12).toNat)
        case atStart =>
          exact ⟨0,.slice none 0 0,rfl,⟨Nat.zero_le _⟩,⟨Kd.R_mono (Kd.R_far (p:=⟨gl,1,none⟩) (Kd.R_far (p:=⟨gl,0,none⟩) HO.out (fun _ hk=>hk.2) _) (fun _ hk=>hk.2) _) (fun _ hk=>⟨hk,by simp [Value.ownBlock]⟩)⟩,
            ⟨Kd.R_mono (Kd.R_far (p:=⟨gl,1,none⟩) (Kd.R_far (p:=⟨gl,0,none⟩) (Kd.R_types HF.out HBL.out (by decide)) (fun _ hk=>hk.2) _) (fun _ hk=>hk.2) _) (fun _ hk=>hk.1)⟩,⟨Kd.R_nil _ _ _ _ _⟩,
            ⟨by refine blk_put (cs:=#[.slice Af F.length cf,.slice none 0 0]) ?_ 1 _ rfl;exact blk_put HBL.out 0 _ rfl⟩,⟨blk_far (blk_far HBD.out HNL.out.1 _) HNL.out.1 _⟩,⟨blk_far (blk_far HBX.out HNL.out.2.1 _) HNL.out.2.1 _⟩,⟨blk_far (blk_far HBA.out HNL.out.2.2 _) HNL.out.2.2 _⟩,⟨below_set (below_set HB.out HGL.out) HGL.out⟩⟩
        case round =>
          clear HO HF HBL HBD HBX HBA HB hcl0 hcl1 hfl0 hfl1
          obtain ⟨k,u,rfl,HK,HO,HF,HS,HBL,HBD,HBX,HBA,HB⟩:=hrel
          have hcl0:wr.cell? ⟨gl,0,none⟩=some (.slice Af F.length cf):=(blk_cell HBL.out 0).trans rfl
          have hcl1:wr.cell? ⟨gl,1,none⟩=some u:=(blk_cell HBL.out 1).trans rfl
          by_cases hkn:k < n
          · have hd5:decide ((k:Int) < (n:Int))=true:=decide_eq_true (by omega)
            have hd6:decide (k < n)=true:=decide_eq_true hkn
            have hwk:wrap64 ((k:Int) + 1)=((k + 1:Nat):Int):=by have:=HN2.out;unfold wrap64;omega
            have HWK:=mk0 hwk
            have HKN:=mk0 hkn
            have hmul:d * k ≤ 6:=Nat.le_trans (Nat.mul_le_mul HD.out (show k ≤ 2 by have:=HN2.out;omega)) (by decide)
            have HMU:=mk0 hmul
            obtain ⟨p2,hp2⟩:∃ p2:Nat,p2=p + 1 + d + d * k:=⟨_,rfl⟩
            rw [← hp2] at HBA
            have HP2:=mk0 hp2
            have hpl:(perV d l1 (p + 1 + d) k).length=k:=by unfold perV;simp
            have HPV:=mk0 hpl
            clear hwk hkn hmul hp2 hpl
            go_wp2_with (fail)
            (with_reducible refine (made_next.calls d p2 gd gat gx _ c1 l1 w wr ?s1 ?s2 HNE.out.1 HNE.out.2 HGW.out HBD.out HBA.out HBX.out HC.out HB.out).mono ?_)
            case s1=>have:=HD.out;omega
            case s2=>rw [HP2.out];have:=HLEN.out;have:=HPL.out;have:=HMU.out;have:=HD.out;omega
            rintro e W2 ⟨vn,rfl,hR,hA,hG⟩
            have HV:=mk0 (Kd.R_lower (Kd.R_mono (Kd.R_bound hR) (ok':=fun k=>k ≠ gat) (fun z hk=>by have:=hk.2.1;have:=(Array.getElem?_eq_some_iff.1 HBA.out).1;omega)) HB.out.size)
            replace HO:=mk0 (mg_R HO.out hG (fun _ hk=>hk.1.1))
            replace HF:=mk0 (mg_R HF.out hG (fun _ hk=>hk))
            replace HS:=mk0 (mg_R HS.out hG (fun _ hk=>hk))
            replace HBL:=mk0 ((hG.block gl (Array.getElem?_eq_some_iff.1 HBL.out).1 (fun e=>HNL.out.2.2 (by injection e with e;exact e.symm))).trans HBL.out)
            replace HBD:=mk0 ((hG.block gd (Array.getElem?_eq_some_iff.1 HBD.out).1 (fun e=>HNE.out.1 (by injection e))).trans HBD.out)
            replace HBX:=mk0 ((hG.block gx (Array.getElem?_eq_some_iff.1 HBX.out).1 (fun e=>HNE.out.2 (by injection e))).trans HBX.out)
            replace HB:=mk0 (HB.out.trans (mg_below hG HGW.out HB.out.size))
            replace HBA:=mk0 hA
            clear hR hA hG hcl0 hcl1
            obtain ⟨V,hV⟩:∃ V:List Int,V=nextV d l1 p2:=⟨_,rfl⟩
            rw [← hV] at HV
            have HVV:=mk0 hV
            clear hV
            obtain ⟨An,cn,en⟩:=Kd.R_slice HV.out
            subst en
            go_wp2_with (first
              | ((with_reducible refine gate_builtin (b:=.append) (xs:=#[.tmp 44,.tmp 47]) rfl ?_);at_builtin;refine Kd.R_append (Kd.slice 3 (Kd.int .i64)) (w0:=w) w.heap.size rfl (.tmp 44) (.tmp 47) 58 23 (.slice none 0 0) 24 rfl Try.underlying58 info23 rfl (by decide) (by omega) u (perV d l1 (p + 1 + d) k) V [.slice An V.length cn] (fun z=>z ≠ gat) (fun z=>z ≠ gat∧some z ≠ u.ownBlock) rfl rfl ?aP (fun _ hk=>hk) ?aF ?aO ?aB ?aS ?aL ?_;(case aP=>exact Kd.M_row (Kd.R_apart' HV.out (Kd.R_typed HS.out) (by decide)));(case aF=>exact fun z hk=>Kd.freshB HBA.out z hk);(case aO=>exact HS.out);(case aB=>exact HB.out);(case aS=>exact below_size HB.out);(case aL=>rw [HPV.out];have:=HKN.out;have:=HN2.out;omega);intro u1 w9 ho hb hg hat;replace HO:=mk0 (Kd.R_after (ok:=fun z=>z ≠ gat∧z ≠ gl) HO.out hg hat);replace HF:=mk0 (Kd.R_over' HF.out (Kd.R_typed HS.out) (by decide) hg);replace HBL:=mk0 (blk_grown HBL.out hg (mg_ne HBL.out (Kd.R_typed HS.out) (by decide)));replace HBD:=mk0 (blk_grown HBD.out hg (mg_ne HBD.out (Kd.R_typed HS.out) (by decide)));replace HBX:=mk0 (blk_grown HBX.out hg (mg_ne HBX.out (Kd.R_typed HS.out) (by decide)));replace HBA:=mk0 (blk_grown HBA.out hg (mg_ne HBA.out (Kd.R_typed HS.out) (by decide)));obtain ⟨P2,hP2⟩:∃ P2:List (List Int),P2=perV d l1 (p + 1 + d) k ++ [V]:=⟨_,rfl⟩;rw [← hP2] at ho;have HP3:=mk0 hP2;replace HS:=mk0 ho;replace HB:=mk0 hb;clear ho hb hg hat hP2;obtain ⟨A8,c8,e8⟩:=Kd.R_slice HS.out;subst e8;have hcl0:w9.cell? ⟨gl,0,none⟩=some (.slice Af F.length cf):=(blk_cell HBL.out 0).trans rfl;have hcl1:w9.cell? ⟨gl,1,none⟩=some u:=(blk_cell HBL.out 1).trans rfl;have hfl0:=blk_frozen HBL.out 0;have hfl1:=blk_frozen HBL.out 1))
            go_roundw
            case measure=>rw [HWK.out];simp only [intOf];have:=HKN.out;omega
            case rel =>
              rw [HWK.out]
              refine ⟨k + 1,.slice A8 P2.length c8,rfl,⟨by have:=HKN.out;omega⟩,⟨Kd.R_far (p:=⟨gl,1,none⟩) HO.out (fun _ hk=>hk.1.2) _⟩,⟨Kd.R_mono (Kd.R_far (p:=⟨gl,1,none⟩) (Kd.R_types HF.out HBL.out (by decide)) (fun _ hk=>hk.2) _) (fun _ hk=>hk.1)⟩,⟨?_⟩,⟨blk_put HBL.out 1 _ rfl⟩,⟨blk_far HBD.out HNL.out.1 _⟩,⟨blk_far HBX.out HNL.out.2.1 _⟩,⟨?_⟩,⟨below_set HB.out HGL.out⟩⟩
              · rw [perV_succ,← HP2.out,← HVV.out,← HP3.out]
                exact Kd.R_mono (Kd.R_far (p:=⟨gl,1,none⟩) (Kd.R_types HS.out HBL.out (by decide)) (fun _ hk=>hk.2) _) (fun _ hk=>hk.1)
              · rw [show p + 1 + d + d * (k + 1)=p2 + d from by rw [HP2.out,Nat.mul_succ];omega]
                exact blk_far HBA.out HNL.out.2.2 _
          · have hd5:decide ((k:Int) < (n:Int))=false:=decide_eq_false (by omega)
            have hd6:decide (k < n)=false:=decide_eq_false hkn
            obtain rfl:k=n:=by have:=HK.out;omega
            obtain ⟨Au,cu,rfl⟩:=Kd.R_slice HS.out
            obtain ⟨P,hP⟩:∃ P:List (List Int),P=perV d l1 (p + 1 + d) k:=⟨_,rfl⟩
            rw [← hP] at HS hcl1 HBL HO
            have HPP:=mk0 hP
            clear hP hkn
            go_wp2_with (first
              | ((with_reducible refine gate_builtin (b:=.append) (xs:=#[.tmp 50,.tmp 52]) rfl ?_);at_builtin;refine Kd.R_append k60 (w0:=w) w.heap.size rfl (.tmp 50) (.tmp 52) 22 60 (.agg #[(.slice none 0 0),(.slice none 0 0)]) 48 rfl Try.underlying22 info60 rfl (by decide) (by omega) (.slice A o.length c) o (⟨F,P⟩:S60) [.slice Af F.length cf,.slice Au P.length cu] (fun z=>z ≠ gat) (fun z=>z ≠ gat∧some z ≠ (.slice A o.length c:Value).ownBlock) rfl rfl ?aP (fun _ hk=>hk) ?aF ?aO ?aB ?aS ?aL ?_;(case aP=>exact k60_mkM _ _ _ (⟨F,P⟩:S60) (Kd.R_apart' HF.out (Kd.R_typed HO.out) (by decide)) (Kd.R_apart' HS.out (Kd.R_typed HO.out) (by decide)));(case aF=>exact fun z hk=>Kd.freshB HBA.out z hk);(case aO=>exact Kd.R_mono HO.out (fun _ h=>h.1.1));(case aB=>exact HB.out);(case aS=>exact below_size HB.out);(case aL=>have:=HLM.out;have:=HM.out;omega);intro u2 w10 ho hb hg hat;replace HBD:=mk0 (blk_grown HBD.out hg (mg_ne HBD.out (Kd.R_typed HO.out) (by decide)));replace HBX:=mk0 (blk_grown HBX.out hg (mg_ne HBX.out (Kd.R_typed HO.out) (by decide)));replace HBA:=mk0 (blk_grown HBA.out hg (mg_ne HBA.out (Kd.R_typed HO.out) (by decide)));replace HO:=mk0 ho;replace HB:=mk0 hb;clear ho hb hg hat;obtain ⟨A9,c9,e9⟩:=Kd.R_slice HO.out;subst e9))
            go_roundw
            case measure=>simp only [mg_len];have:=HLM.out;omega
            case rel =>
              refine ⟨o ++ [⟨F,P⟩],p + 1 + d + d * k,A9,c9,by simp,⟨?_⟩,⟨by rw [List.length_append,List.length_singleton];have:=HLM.out;omega⟩,⟨?_⟩,HO,HBD,HBX,HBA,HB⟩
              · have h1:=HREL.out
                obtain ⟨m,hm⟩:∃ m,most - o.length=m + 1:=⟨most - o.length - 1,by have:=HLM.out;omega⟩
                rw [hm,madeG,if_pos HPL.out,← HN.out,← HFF.out,← HPP.out] at h1
                rw [List.length_append,List.length_singleton,show most - (o.length + 1)=m by omega,List.append_assoc]
                exact h1
              · have hmul:d * k ≤ 6:=Nat.le_trans (Nat.mul_le_mul HD.out (show k ≤ 2 from HN2.out)) (by decide)
                have:=HD.out;have:=HPL.out;omega
      · obtain ⟨q,hq⟩:∃ q:Int,q=(p:Int):=⟨_,rfl⟩
        have hca:wr.cell? ⟨gat,0,none⟩=some (.int .i64 q):=(blk_cell HBA.out 0).trans (by rw [hq];rfl)
        have hd3:decide (q < (l1.length:Int))=false:=decide_eq_false (by omega)
        have e1:madeG d l1 (most - o.length) p=[]:=by
          obtain ⟨m,hm⟩:∃ m,most - o.length=m + 1:=⟨most - o.length - 1,by omega⟩
          rw [hm,madeG,if_neg hp]
        have HE:=mk0 e1
        clear hq hp hl e1
        go_wp2
        go_ret
        refine ⟨_,rfl,?_,HB.out⟩
        rw [← HREL.out,HE.out,List.append_nil]
        exact Kd.R_mono HO.out (fun _ _=>trivial)
    · have hd1:decide ((o.length:Int) < (most:Int))=false:=decide_eq_false (by omega)
      have hd2:decide (o.length < most)=false:=decide_eq_false hl
      have e1:madeG d l1 (most - o.length) p=[]:=by rw [show most - o.length=0 by omega,madeG]
      have HE:=mk0 e1
      clear hl e1
      go_wp2
      go_ret
      refine ⟨_,rfl,?_,HB.out⟩
      rw [← HREL.out,HE.out,List.append_nil]
      exact Kd.R_mono HO.out (fun _ _=>trivial)
end Go.Proofs.Ytkonljiembcdlaa.PC
namespace Go.Proofs.Ytkonljiembcdlaa.PC
open Go.Proofs.MyWords Go.RowKit Go.Proofs.YtkonljiembcdlaaW.PrintWords Go.Proofs.YtkonljiembcdlaaW.PrintLast Go.Proofs.YtkonljiembcdlaaW.PrintMore
attribute [local go_sem] max2_int min2_int max_two min_two max_three min_three max_four min_four   -- for this text's walks alone
set_option linter.unusedVariables false
set_option linter.unusedSimpArgs false
attribute [local go_sem] eqGuard_slices eqlnil23 neqnil23 eqlnil58 neqnil58
def bellpulllaw05_Plan_sets.f (a0_0:Int) (l0_1:List Int) (l0_2:List Int) (a1:Int):Option (Int × (List (S60)) × (List (S60))):=(bellpulllaw05_made.f (wrap64 ((Int.tmod (wrap64 (a0_0)) 3) + 1)) l0_1 a1).bind fun t778=>((bellpulllaw05_made.f (wrap64 ((Int.tmod (wrap64 (a0_0)) 3) + 1)) l0_2 a1).bind fun t781=>(some (wrap64 ((Int.tmod (wrap64 (a0_0)) 3) + 1),t778,t781)))
def bellpulllaw05_Plan_sets.T2:Bool × List (List Nat × List Nat):=(true,[([],[]),([],[]),([],[]),([2],[2]),([],[]),([1,3,4],[1,3,4]),([],[]),([],[]),([7],[7]),([],[]),([6,8,9,5],[6,8,9]),([0,10,0],[0]),([5,11,0,1,2,3,4,5,11],[5]),([10,12,0,1,2,3,4,5,6,7,8,9,10,11,12],[10])])
def bellpulllaw05_Plan_sets.B2:List Nat:=[0,0,0,4,0,30,0,0,128,0,1022,2047,4095,8191]
theorem bellpulllaw05_Plan_sets.tab2:rtab .any (opsOf Try.f33 2)=bellpulllaw05_Plan_sets.T2:=by kernel_rfl
theorem bellpulllaw05_Plan_sets.bits2:waitsOk bellpulllaw05_Plan_sets.T2.2 bellpulllaw05_Plan_sets.B2=true:=by kernel_rfl
set_option maxHeartbeats 8000000 in
set_option maxRecDepth 100000 in
theorem bellpulllaw05_Plan_sets.calls (D:Int) (M:Option Addr) (O:Nat) (F:List Int) (Q:Option Addr) (T:Nat) (G:List Int) (X:Int) (r1:Int) (r2:List (S60)) (r3:List (S60)) (w:World) (a0:Kd.C (Kd.int .u8) w M F.length F) (a2:F.length ≤ O) (a3:Kd.C (Kd.int .u8) w Q G.length G) (a4:G.length ≤ T) (h:bellpulllaw05_Plan_sets.f D F G X=some (r1,r2,r3)) :
    Calls Try.prog 33 #[.agg #[.int .u8 D,.slice M F.length O,.slice Q G.length T],.int .i64 X] w fun e w'=>∃ a5 a6:Value,e=.returned (.tuple #[.int .i64 r1,a5,a6])∧Kd.R k60 60 w' w.heap.size (fun k_=>some k_ ≠ (a6:Value).ownBlock) a5 r2∧Kd.R k60 60 w' w.heap.size (fun k_=>some k_ ≠ (a5:Value).ownBlock) a6 r3∧Below w.heap.size w w':=by
 have c8:=Try.underlying55;have a9:=mk0 a0;have b0:=mk0 a2;clear a0 a2;have b1:=mk0 a3;have b2:=mk0 a4;clear a3 a4;have I:=mk0 (Below.refl w.heap.size w);have H:((bellpulllaw05_made.f (wrap64 ((Int.tmod (wrap64 (D)) 3) + 1)) F X).bind fun Y=>((bellpulllaw05_made.f (wrap64 ((Int.tmod (wrap64 (D)) 3) + 1)) G X).bind fun Z=>(some (wrap64 ((Int.tmod (wrap64 (D)) 3) + 1),Y,Z))))=some (r1,r2,r3):=h;clear h;replace H:=Option.bind_eq_some_iff.mp H;obtain ⟨Y,b6,H⟩:=H;(try dsimp only at H);have A3:=mk0 b6;clear b6;replace H:=Option.bind_eq_some_iff.mp H;obtain ⟨Z,b7,H⟩:=H;(try dsimp only at H);have A4:=mk0 b7;clear b7;simp only [Option.some.injEq,Prod.mk.injEq] at H;obtain ⟨rfl,rfl,rfl⟩:=H;go_enter Try.func33,Try.ntmps33;try go_wp2_with (first|((with_reducible refine gate_dst (N:=2) rfl ?_);refine box_event ?hg (N:=2) ?hd (cs:=#[.int .u8 D,.slice M F.length O,.slice Q G.length T]) (t:=55) ?hr ?_;(case hd=>rfl);(case hg=>rfl);(case hr=>first|(go_simp;done)|(go_simp;rfl));intro V hg w5 a7 hb;have B:=mk0 (a7);have b3:=szw hg I;have b4:=b3;replace I:=bst I hb;clear hb a7 hg;have c2:=q0_ B;have c3:=q1_ B;have c4:=q2_ B;have c5:=blk_frozen B.1 0;have c6:=blk_frozen B.1 1;have c7:=blk_frozen B.1 2))
 replace B:=bdr B;replace I:=hdr I;refine start_ (n:=14) (S:=fun w'=>w'.cell? ⟨V,0,none⟩=some (.int .u8 D)∧w'.cell? ⟨V,1,none⟩=some (.slice M F.length O)∧w'.cell? ⟨V,2,none⟩=some (.slice Q G.length T)) (ds:=[]) #[n_,n_,n_,n_,n_,n_,n_,n_,n_,n_,n_,n_,n_,n_] (by kernel_rfl) rfl rfl ⟨q0_ B,q1_ B,q2_ B⟩ (fun J=>?_);refine with_tabW bellpulllaw05_Plan_sets.tab2 bellpulllaw05_Plan_sets.bits2 (fun E b8=>?_);generalize w5.drew=w7 at B I J ⊢;refine pure_ (i:=0) (N:=some 13) (v:=?_) (a':=?_) #[y_,n_,n_,n_,n_,n_,n_,n_,n_,n_,n_,n_,n_,n_] rfl rfl (any_of E.1 (by kernel_rfl)) (fun _ _ _ h=>h) (Or.inl ⟨by rfl,?_⟩) ?_ ?_;rotate_left
 ·
  intro w';go_simp;with_reducible rfl
 rotate_left
 ·
  simp only [Act.put,s0_,s1_,s2_,i64_w,i32_w];rfl
 refine pure_ (i:=1) (N:=some 14) (v:=?_) (a':=?_) #[y_,y_,n_,n_,n_,n_,n_,n_,n_,n_,n_,n_,n_,n_] rfl rfl (any_of E.1 (by kernel_rfl)) (fun _ _ _ h=>h) (Or.inl ⟨by rfl,?_⟩) ?_ ?_;rotate_left
 ·
  intro w';go_simp;with_reducible rfl
 rotate_left
 ·
  simp only [Act.put,s0_,s1_,s2_,i64_w,i32_w];rfl
 refine pure_ (i:=2) (N:=some 15) (v:=?_) (a':=?_) #[y_,y_,y_,n_,n_,n_,n_,n_,n_,n_,n_,n_,n_,n_] rfl rfl (any_of E.1 (by kernel_rfl)) (fun _ _ _ h=>h) (Or.inl ⟨by rfl,?_⟩) ?_ ?_;rotate_left
 ·
  intro w';go_simp;with_reducible rfl
 rotate_left
 ·
  simp only [Act.put,s0_,s1_,s2_,i64_w,i32_w];rfl
 refine pure_ (i:=4) (N:=some 17) (v:=?_) (a':=?_) #[y_,y_,y_,n_,y_,n_,n_,n_,n_,n_,n_,n_,n_,n_] rfl rfl (any_of E.1 (by kernel_rfl)) (fun _ _ _ h=>h) (Or.inl ⟨by rfl,?_⟩) ?_ ?_;rotate_left
 ·
  intro w';go_simp;with_reducible rfl
 rotate_left
 ·
  simp only [Act.put,s0_,s1_,s2_,i64_w,i32_w];rfl
 refine pure_ (i:=6) (N:=some 19) (v:=?_) (a':=?_) #[y_,y_,y_,n_,y_,n_,y_,n_,n_,n_,n_,n_,n_,n_] rfl rfl (any_of E.1 (by kernel_rfl)) (fun _ _ _ h=>h) (Or.inl ⟨by rfl,?_⟩) ?_ ?_;rotate_left
 ·
  intro w';go_simp;with_reducible rfl
 rotate_left
 ·
  simp only [Act.put,s0_,s1_,s2_,i64_w,i32_w];rfl
 refine pure_ (i:=7) (N:=some 20) (v:=?_) (a':=?_) #[y_,y_,y_,n_,y_,n_,y_,y_,n_,n_,n_,n_,n_,n_] rfl rfl (any_of E.1 (by kernel_rfl)) (fun _ _ _ h=>h) (Or.inl ⟨by rfl,?_⟩) ?_ ?_;rotate_left
 ·
  intro w';go_simp;with_reducible rfl
 rotate_left
 ·
  simp only [Act.put,s0_,s1_,s2_,i64_w,i32_w];rfl
 refine pure_ (i:=9) (N:=some 22) (v:=?_) (a':=?_) #[y_,y_,y_,n_,y_,n_,y_,y_,n_,y_,n_,n_,n_,n_] rfl rfl (any_of E.1 (by kernel_rfl)) (fun _ _ _ h=>h) (Or.inl ⟨by rfl,?_⟩) ?_ ?_;rotate_left
 ·
  intro w';go_simp;with_reducible rfl
 rotate_left
 ·
  simp only [Act.put,s0_,s1_,s2_,i64_w,i32_w];rfl
 refine take_ (i:=3) (N:=some 16) (v:=?_) (a':=?_) #[y_,y_,y_,y_,y_,n_,y_,y_,n_,y_,n_,n_,n_,n_] rfl rfl (take_ofW E.1 b8.1 (by kernel_rfl)) (fun _ _ _ h=>h) (Or.inl ⟨by rfl,?_⟩) J ?_ ?_;rotate_left
 ·
  rintro w' ⟨s0,s1,s2⟩;go_simp;with_reducible rfl
 rotate_left
 ·
  simp only [Act.put,s0_,s1_,s2_,i64_w,i32_w];rfl
 refine take_ (i:=8) (N:=some 21) (v:=?_) (a':=?_) #[y_,y_,y_,y_,y_,n_,y_,y_,y_,y_,n_,n_,n_,n_] rfl rfl (take_ofW E.1 b8.1 (by kernel_rfl)) (fun _ _ _ h=>h) (Or.inl ⟨by rfl,?_⟩) J ?_ ?_;rotate_left
 ·
  rintro w' ⟨s0,s1,s2⟩;go_simp;with_reducible rfl
 rotate_left
 ·
  simp only [Act.put,s0_,s1_,s2_,i64_w,i32_w];rfl
 refine one_ (i:=5) (N:=some 18) #[y_,y_,y_,y_,y_,y_,y_,y_,y_,y_,n_,n_,n_,n_] rfl rfl (one_of E.1 (by kernel_rfl)) (by decide) (fun K hK=>?_);refine goes_ Try.func76 (by kernel_rfl) rfl #[.int .i64 (wrap64 ((Int.tmod (wrap64 (D)) 3) + 1)),.slice M F.length O,.int .i64 X] (by rfl) rfl rfl (by (try simp only [m0_,m1_,m2_]);first|done|rfl|(simp only [l0_,l1_];rfl)) ?_;with_reducible refine (bellpulllaw05_made.calls (wrap64 ((Int.tmod (wrap64 (D)) 3) + 1)) _ _ F X Y _ ?side1 ?side2 A3.1).mono ?_
 (case side1=>repeat (first|exact (Kd.C_below a9.1 I.1)|(with_reducible refine Kd.C_alloc ?_ _)|(with_reducible refine Kd.C_drewN ?_ _)|(with_reducible refine Kd.C_drew ?_)));(case side2=>exact b0.1);rintro e w8 ⟨d5,rfl,U,hb⟩;refine ⟨_,rfl,?_⟩;have L:=mk0 (Kd.R_lower U (below_size I.1));replace B:=bkb B hb;replace I:=bst I hb;(try clear hb);(try clear U);refine hK.out _ _ ⟨q0_ B,q1_ B,q2_ B⟩ (fun J=>?_);clear hK K;refine norm_ (a':=?_) ?_ ?_;rotate_left
 ·
  show Act.put _ (some 18) _=_;simp only [Act.put,s0_,s1_,s2_,i64_w,i32_w];rfl
 refine one_ (i:=10) (N:=some 23) #[y_,y_,y_,y_,y_,y_,y_,y_,y_,y_,y_,n_,n_,n_] rfl rfl (one_of E.1 (by kernel_rfl)) (by decide) (fun K hK=>?_);refine goes_ Try.func76 (by kernel_rfl) rfl #[.int .i64 (wrap64 ((Int.tmod (wrap64 (D)) 3) + 1)),.slice Q G.length T,.int .i64 X] (by rfl) rfl rfl (by (try simp only [m0_,m1_,m2_]);first|done|rfl|(simp only [l0_,l1_];rfl)) ?_;with_reducible refine (bellpulllaw05_made.calls (wrap64 ((Int.tmod (wrap64 (D)) 3) + 1)) _ _ G X Z _ ?side1 ?side2 A4.1).mono ?_
 (case side1=>repeat (first|exact (Kd.C_below b1.1 I.1)|(with_reducible refine Kd.C_alloc ?_ _)|(with_reducible refine Kd.C_drewN ?_ _)|(with_reducible refine Kd.C_drew ?_)));(case side2=>exact b2.1);rintro e w9 ⟨d6,rfl,U,hb⟩;refine ⟨_,rfl,?_⟩;have b5:=mk0 (Kd.R_lower (Kd.R_new' U (Kd.R_lt L.1)) (below_size I.1));replace L:=mk0 (Kd.R_elder' L.1 (Kd.R_base U) hb);replace B:=bkb B hb;replace I:=bst I hb;(try clear hb);(try clear U);refine hK.out _ _ ⟨q0_ B,q1_ B,q2_ B⟩ (fun J=>?_);clear hK K;refine norm_ (a':=?_) ?_ ?_;rotate_left
 ·
  show Act.put _ (some 23) _=_;simp only [Act.put,s0_,s1_,s2_,i64_w,i32_w];rfl
 refine pure_ (i:=11) (N:=some 4) (v:=?_) (a':=?_) #[y_,y_,y_,y_,y_,y_,y_,y_,y_,y_,y_,y_,n_,n_] rfl rfl (any_of E.1 (by kernel_rfl)) (fun _ _ _ h=>h) (Or.inl ⟨by rfl,?_⟩) ?_ ?_;rotate_left
 ·
  intro w';go_simp;with_reducible rfl
 rotate_left
 ·
  simp only [Act.put,s0_,s1_,s2_,i64_w,i32_w];rfl
 refine pure_ (i:=12) (N:=some 5) (v:=?_) (a':=?_) #[y_,y_,y_,y_,y_,y_,y_,y_,y_,y_,y_,y_,y_,n_] rfl rfl (any_of E.1 (by kernel_rfl)) (fun _ _ _ h=>h) (Or.inl ⟨by rfl,?_⟩) ?_ ?_;rotate_left
 ·
  intro w';go_simp;with_reducible rfl
 rotate_left
 ·
  simp only [Act.put,s0_,s1_,s2_,i64_w,i32_w];rfl
 refine pure_ (i:=13) (N:=some 6) (v:=?_) (a':=?_) #[y_,y_,y_,y_,y_,y_,y_,y_,y_,y_,y_,y_,y_,y_] rfl rfl (any_of E.1 (by kernel_rfl)) (fun _ _ _ h=>h) (Or.inl ⟨by rfl,?_⟩) ?_ ?_;rotate_left
 ·
  intro w';go_simp;with_reducible rfl
 rotate_left
 ·
  simp only [Act.put,s0_,s1_,s2_,i64_w,i32_w];rfl
 refine done_ (done_of E.1 (by kernel_rfl)) ?_;try go_wp2
 go_ret3;exact ⟨_,_,by first|rfl|(simp [errW_none,errW_some] <;> rfl)|(simp [*,errW_none,errW_some] <;> rfl),by (with_reducible repeat (first|apply Kd.R_alloc|apply Kd.R_drewN|apply Kd.R_drew));exact Kd.R_mono L.1 (fun _ hk=>hk.2),by (with_reducible repeat (first|apply Kd.R_alloc|apply Kd.R_drewN|apply Kd.R_drew));exact Kd.R_mono b5.1 (fun _ hk=>hk.2),by repeat (first|(with_reducible first|exact I.1|apply below_alloc|apply pw_below_drewN|apply below_drew1|refine below_set ?_ b4.1)|exact I.1)⟩
end Go.Proofs.Ytkonljiembcdlaa.PC
namespace Go.Proofs.Ytkonljiembcdlaa.PC
open Go.Proofs.MyWords Go.RowKit Go.Proofs.YtkonljiembcdlaaW.PrintWords Go.Proofs.YtkonljiembcdlaaW.PrintLast Go.Proofs.YtkonljiembcdlaaW.PrintMore
attribute [local go_sem] max2_int min2_int max_two min_two max_three min_three max_four min_four   -- for this text's walks alone
set_option linter.unusedVariables false
set_option linter.unusedSimpArgs false
attribute [local go_sem] eqGuard_slices eqlnil23 neqnil23 eqlnil58 neqnil58
def count_total.l0:Nat → Int → List Int → Int → Int → Option (Int)
  | 0,_,_,_,_=>none
  | k + 1,x3,x6,x7,x8=>if x8 < x7 then (if 0 ≤ x8 then (if x8 < (x6.length:Int) then (count_total.l0 k (wrap64 (x3 + (rd x6 x8))) x6 x7 (wrap64 (x8 + 1))) else (none)) else (none)) else (some x3)
def count_total.f (k:Nat) (l0:List Int):Option (Int):=count_total.l0 k 0 l0 (l0.length:Int) 0
set_option maxHeartbeats 8000000 in
set_option maxRecDepth 100000 in
theorem count_total.calls (k:Nat) (O:Option Addr) (Q:Nat) (D:List Int) (r:Int) (w:World) (I:Kd.C (Kd.int .i64) w O D.length D) (J:D.length ≤ Q) (h:count_total.f k D=some r) :
    Calls Try.prog 82 #[.slice O D.length Q] w fun e w'=>e=.returned (.int .i64 r)∧Drawn0 w w':=by
 have R:=mk0 I;have X:=mk0 J;clear I J;have H:(count_total.l0 k 0 D (D.length:Int) 0)=some r:=h;clear h;have H':=mk0 H;clear H;go_enter Try.func82,Try.ntmps82;go_wp2
 go_loopg [3,8] k (fun kq U V w'=>∃ (E:Int) (B:Int),U=.int .i64 E∧V=.int .i64 B∧Aside0 (count_total.l0 kq E D (D.length:Int) B=some r)∧Aside0 (kq ≤ k)∧Drawn0 w w')
 case atStart=>exact ⟨(0),(0),(by first|rfl|(simp;done)|(simp [*];done)),(by first|rfl|(simp;done)|(simp [*];done)),H',⟨Nat.le_refl _⟩,by repeat (first|exact Drawn0.refl _|apply Drawn0.step)⟩
 case round =>
  clear H';obtain ⟨E,B,rfl,rfl,HA,L,⟨Y,rfl⟩⟩:=hrel;cases gk with
  | zero=>exact absurd HA.1 (by simp [count_total.l0])
  | succ k1 =>
   have H:=HA.1;clear HA;simp only [count_total.l0] at H
   by_cases c2:B < (D.length:Int)
   ·
    rw [if_pos c2] at H;have c2b0:decide (B < (D.length:Int))=true:=decide_eq_true c2;clear c2
    by_cases c3:0 ≤ B
    ·
     rw [if_pos c3] at H;have c3b0:decide (0 ≤ B)=true:=decide_eq_true c3;clear c3
     by_cases c4:B < (D.length:Int)
     ·
      rw [if_pos c4] at H;have c4b0:decide (B < (D.length:Int))=true:=decide_eq_true c4;clear c4;have H':=mk0 H;clear H;have F:0 ≤ (B:Int):=of_decide_eq_true (by first|(with_reducible assumption)|assumption);have G:B < (D.length:Int):=of_decide_eq_true (by first|(with_reducible assumption)|assumption);obtain ⟨T,M,N⟩:=Kd.at_int R.1 B F G;cases M;replace F:=eq_true F;replace G:=eq_true G;go_wp2;go_roundg k1
      case measure=>have:=L.1;omega
      case rel=>exact ⟨(wrap64 (E + (rd D B))),(wrap64 (B + 1)),(by first|rfl|(simp;done)|(simp [*];done)),(by first|rfl|(simp;done)|(simp [*];done)),H',⟨by have:=L.1;omega⟩,by repeat (first|exact Drawn0.refl _|apply Drawn0.step)⟩
     ·
      rw [if_neg c4] at H;exact absurd H (by simp)
    ·
     rw [if_neg c3] at H;exact absurd H (by simp)
   ·
    rw [if_neg c2] at H;have c2b0:decide (B < (D.length:Int))=false:=decide_eq_false c2;clear c2;obtain rfl:=Option.some.inj H;go_wp2;go_ret;exact ⟨by first|rfl|(simp;done)|(simp [*];done),by repeat (first|exact Drawn0.refl _|apply Drawn0.step)⟩
end Go.Proofs.Ytkonljiembcdlaa.PC
namespace Go.Proofs.Ytkonljiembcdlaa.PC
open Go.Proofs.MyWords Go.RowKit Go.Proofs.YtkonljiembcdlaaW.PrintWords Go.Proofs.YtkonljiembcdlaaW.PrintLast Go.Proofs.YtkonljiembcdlaaW.PrintMore
attribute [local go_sem] max2_int min2_int max_two min_two max_three min_three max_four min_four   -- for this text's walks alone
set_option linter.unusedVariables false
set_option linter.unusedSimpArgs false
attribute [local go_sem] eqGuard_slices eqlnil23 neqnil23 eqlnil58 neqnil58
def cmp_isNaN_int.f (a0:Int):Option (Bool):=some (a0 != a0)
set_option maxHeartbeats 8000000 in
set_option maxRecDepth 100000 in
theorem cmp_isNaN_int.calls (a0:Int) (r:Bool) (w:World) (h:cmp_isNaN_int.f a0=some r) :
    Calls Try.prog 110 #[.int .i64 a0] w fun e w'=>e=.returned (.bool r)∧Drawn0 w w':=by
 have H:(some (a0 != a0))=some r:=h;clear h;obtain rfl:=Option.some.inj H;go_enter Try.func110,Try.ntmps110;go_wp2;go_ret;exact ⟨by first|rfl|(simp;done)|(simp [*];done),by repeat (first|exact Drawn0.refl _|apply Drawn0.step)⟩
end Go.Proofs.Ytkonljiembcdlaa.PC
namespace Go.Proofs.Ytkonljiembcdlaa.PC
open Go.Proofs.MyWords Go.RowKit Go.Proofs.YtkonljiembcdlaaW.PrintWords Go.Proofs.YtkonljiembcdlaaW.PrintLast Go.Proofs.YtkonljiembcdlaaW.PrintMore
attribute [local go_sem] max2_int min2_int max_two min_two max_three min_three max_four min_four   -- for this text's walks alone
set_option linter.unusedVariables false
set_option linter.unusedSimpArgs false
attribute [local go_sem] eqGuard_slices eqlnil23 neqnil23 eqlnil58 neqnil58
def cmp_Compare_int.f (a0:Int) (a1:Int):Option (Int):=(cmp_isNaN_int.f a0).bind fun t999=>((cmp_isNaN_int.f a1).bind fun t1000=>(if t999=true then (if t1000=true then (some 0) else (some (-1))) else (if t1000=true then (some 1) else (if a0 < a1 then (some (-1)) else (if a0 > a1 then (some 1) else (some 0))))))
set_option maxHeartbeats 8000000 in
set_option maxRecDepth 100000 in
theorem cmp_Compare_int.calls (B:Int) (C:Int) (r:Int) (w:World) (h:cmp_Compare_int.f B C=some r) :
    Calls Try.prog 98 #[.int .i64 B,.int .i64 C] w fun e w'=>e=.returned (.int .i64 r)∧Drawn0 w w':=by
 have H:((cmp_isNaN_int.f B).bind fun F=>((cmp_isNaN_int.f C).bind fun D=>(if F=true then (if D=true then (some 0) else (some (-1))) else (if D=true then (some 1) else (if B < C then (some (-1)) else (if B > C then (some 1) else (some 0)))))))=some r:=h;clear h;replace H:=Option.bind_eq_some_iff.mp H;obtain ⟨F,N,H⟩:=H;(try dsimp only at H);have G:=mk0 N;clear N;replace H:=Option.bind_eq_some_iff.mp H;obtain ⟨D,O,H⟩:=H;(try dsimp only at H);have I:=mk0 O;clear O
 by_cases J:F=true
 ·
  subst J;have E:(if D=true then (some 0) else (some (-1)))=some r:=by rw [if_pos rfl] at H;exact H
  clear H;have H:=E;clear E
  by_cases L:D=true
  ·
   subst L;have E:(some 0)=some r:=by rw [if_pos rfl] at H;exact H
   clear H;have H:=E;clear E;obtain rfl:=Option.some.inj H;go_enter Try.func98,Try.ntmps98;go_wp2_with (first|((with_reducible refine gate_callee (f:=110) rfl ?_);refine goesL_ (some 8) rfl rfl Try.func110 (by kernel_rfl) rfl #[.int .i64 B] rfl (by (try simp only [m0_,m1_,m2_]);first|done|rfl|(simp only [l0_,l1_];rfl)) ?_;(with_reducible refine (cmp_isNaN_int.calls B true _ G.1).mono ?_);rintro e w' ⟨rfl,⟨nd,rfl⟩⟩;refine ⟨_,rfl,?_⟩)|((with_reducible refine gate_callee (f:=110) rfl ?_);refine goesL_ (some 10) rfl rfl Try.func110 (by kernel_rfl) rfl #[.int .i64 C] rfl (by (try simp only [m0_,m1_,m2_]);first|done|rfl|(simp only [l0_,l1_];rfl)) ?_;(with_reducible refine (cmp_isNaN_int.calls C true _ I.1).mono ?_);rintro e w' ⟨rfl,⟨nd,rfl⟩⟩;refine ⟨_,rfl,?_⟩));go_ret;exact ⟨by first|rfl|(simp;done)|(simp [*];done),by repeat (first|exact Drawn0.refl _|apply Drawn0.step)⟩
  ·
   replace L:=Bool.eq_false_iff.mpr L;subst L;have E:(some (-1))=some r:=by rw [if_neg (show ¬ (false=true) by decide)] at H;exact H
   clear H;have H:=E;clear E;obtain rfl:=Option.some.inj H;go_enter Try.func98,Try.ntmps98;go_wp2_with (first|((with_reducible refine gate_callee (f:=110) rfl ?_);refine goesL_ (some 8) rfl rfl Try.func110 (by kernel_rfl) rfl #[.int .i64 B] rfl (by (try simp only [m0_,m1_,m2_]);first|done|rfl|(simp only [l0_,l1_];rfl)) ?_;(with_reducible refine (cmp_isNaN_int.calls B true _ G.1).mono ?_);rintro e w' ⟨rfl,⟨nd,rfl⟩⟩;refine ⟨_,rfl,?_⟩)|((with_reducible refine gate_callee (f:=110) rfl ?_);refine goesL_ (some 10) rfl rfl Try.func110 (by kernel_rfl) rfl #[.int .i64 C] rfl (by (try simp only [m0_,m1_,m2_]);first|done|rfl|(simp only [l0_,l1_];rfl)) ?_;(with_reducible refine (cmp_isNaN_int.calls C false _ I.1).mono ?_);rintro e w' ⟨rfl,⟨nd,rfl⟩⟩;refine ⟨_,rfl,?_⟩));go_ret;exact ⟨by first|rfl|(simp;done)|(simp [*];done),by repeat (first|exact Drawn0.refl _|apply Drawn0.step)⟩
 ·
  replace J:=Bool.eq_false_iff.mpr J;subst J;have E:(if D=true then (some 1) else (if B < C then (some (-1)) else (if B > C then (some 1) else (some 0))))=some r:=by rw [if_neg (show ¬ (false=true) by decide)] at H;exact H
  clear H;have H:=E;clear E
  by_cases M:D=true
  ·
   subst M;have E:(some 1)=some r:=by rw [if_pos rfl] at H;exact H
   clear H;have H:=E;clear E;obtain rfl:=Option.some.inj H;go_enter Try.func98,Try.ntmps98;go_wp2_with (first|((with_reducible refine gate_callee (f:=110) rfl ?_);refine goesL_ (some 8) rfl rfl Try.func110 (by kernel_rfl) rfl #[.int .i64 B] rfl (by (try simp only [m0_,m1_,m2_]);first|done|rfl|(simp only [l0_,l1_];rfl)) ?_;(with_reducible refine (cmp_isNaN_int.calls B false _ G.1).mono ?_);rintro e w' ⟨rfl,⟨nd,rfl⟩⟩;refine ⟨_,rfl,?_⟩)|((with_reducible refine gate_callee (f:=110) rfl ?_);refine goesL_ (some 10) rfl rfl Try.func110 (by kernel_rfl) rfl #[.int .i64 C] rfl (by (try simp only [m0_,m1_,m2_]);first|done|rfl|(simp only [l0_,l1_];rfl)) ?_;(with_reducible refine (cmp_isNaN_int.calls C true _ I.1).mono ?_);rintro e w' ⟨rfl,⟨nd,rfl⟩⟩;refine ⟨_,rfl,?_⟩));go_ret;exact ⟨by first|rfl|(simp;done)|(simp [*];done),by repeat (first|exact Drawn0.refl _|apply Drawn0.step)⟩
  ·
   replace M:=Bool.eq_false_iff.mpr M;subst M;have E:(if B < C then (some (-1)) else (if B > C then (some 1) else (some 0)))=some r:=by rw [if_neg (show ¬ (false=true) by decide)] at H;exact H
   clear H;have H:=E;clear E
   by_cases c8:B < C
   ·
    rw [if_pos c8] at H;have c8b0:decide (B < C)=true:=decide_eq_true c8;clear c8;obtain rfl:=Option.some.inj H;go_enter Try.func98,Try.ntmps98;go_wp2_with (first|((with_reducible refine gate_callee (f:=110) rfl ?_);refine goesL_ (some 8) rfl rfl Try.func110 (by kernel_rfl) rfl #[.int .i64 B] rfl (by (try simp only [m0_,m1_,m2_]);first|done|rfl|(simp only [l0_,l1_];rfl)) ?_;(with_reducible refine (cmp_isNaN_int.calls B false _ G.1).mono ?_);rintro e w' ⟨rfl,⟨nd,rfl⟩⟩;refine ⟨_,rfl,?_⟩)|((with_reducible refine gate_callee (f:=110) rfl ?_);refine goesL_ (some 10) rfl rfl Try.func110 (by kernel_rfl) rfl #[.int .i64 C] rfl (by (try simp only [m0_,m1_,m2_]);first|done|rfl|(simp only [l0_,l1_];rfl)) ?_;(with_reducible refine (cmp_isNaN_int.calls C false _ I.1).mono ?_);rintro e w' ⟨rfl,⟨nd,rfl⟩⟩;refine ⟨_,rfl,?_⟩));go_ret;exact ⟨by first|rfl|(simp;done)|(simp [*];done),by repeat (first|exact Drawn0.refl _|apply Drawn0.step)⟩
   ·
    rw [if_neg c8] at H;have c8b0:decide (B < C)=false:=decide_eq_false c8;clear c8
    by_cases c9:B > C
    ·
     rw [if_pos c9] at H;have c9b0:decide (C < B)=true:=decide_eq_true c9;clear c9;obtain rfl:=Option.some.inj H;go_enter Try.func98,Try.ntmps98;go_wp2_with (first|((with_reducible refine gate_callee (f:=110) rfl ?_);refine goesL_ (some 8) rfl rfl Try.func110 (by kernel_rfl) rfl #[.int .i64 B] rfl (by (try simp only [m0_,m1_,m2_]);first|done|rfl|(simp only [l0_,l1_];rfl)) ?_;(with_reducible refine (cmp_isNaN_int.calls B false _ G.1).mono ?_);rintro e w' ⟨rfl,⟨nd,rfl⟩⟩;refine ⟨_,rfl,?_⟩)|((with_reducible refine gate_callee (f:=110) rfl ?_);refine goesL_ (some 10) rfl rfl Try.func110 (by kernel_rfl) rfl #[.int .i64 C] rfl (by (try simp only [m0_,m1_,m2_]);first|done|rfl|(simp only [l0_,l1_];rfl)) ?_;(with_reducible refine (cmp_isNaN_int.calls C false _ I.1).mono ?_);rintro e w' ⟨rfl,⟨nd,rfl⟩⟩;refine ⟨_,rfl,?_⟩));go_ret;exact ⟨by first|rfl|(simp;done)|(simp [*];done),by repeat (first|exact Drawn0.refl _|apply Drawn0.step)⟩
    ·
     rw [if_neg c9] at H;have c9b0:decide (C < B)=false:=decide_eq_false c9;clear c9;obtain rfl:=Option.some.inj H;go_enter Try.func98,Try.ntmps98;go_wp2_with (first|((with_reducible refine gate_callee (f:=110) rfl ?_);refine goesL_ (some 8) rfl rfl Try.func110 (by kernel_rfl) rfl #[.int .i64 B] rfl (by (try simp only [m0_,m1_,m2_]);first|done|rfl|(simp only [l0_,l1_];rfl)) ?_;(with_reducible refine (cmp_isNaN_int.calls B false _ G.1).mono ?_);rintro e w' ⟨rfl,⟨nd,rfl⟩⟩;refine ⟨_,rfl,?_⟩)|((with_reducible refine gate_callee (f:=110) rfl ?_);refine goesL_ (some 10) rfl rfl Try.func110 (by kernel_rfl) rfl #[.int .i64 C] rfl (by (try simp only [m0_,m1_,m2_]);first|done|rfl|(simp only [l0_,l1_];rfl)) ?_;(with_reducible refine (cmp_isNaN_int.calls C false _ I.1).mono ?_);rintro e w' ⟨rfl,⟨nd,rfl⟩⟩;refine ⟨_,rfl,?_⟩));go_ret;exact ⟨by first|rfl|(simp;done)|(simp [*];done),by repeat (first|exact Drawn0.refl _|apply Drawn0.step)⟩
end Go.Proofs.Ytkonljiembcdlaa.PC
namespace Go.Proofs.Ytkonljiembcdlaa.PC
open Go.Proofs.MyWords Go.RowKit Go.Proofs.YtkonljiembcdlaaW.PrintWords Go.Proofs.YtkonljiembcdlaaW.PrintLast Go.Proofs.YtkonljiembcdlaaW.PrintMore
attribute [local go_sem] max2_int min2_int max_two min_two max_three min_three max_four min_four   -- for this text's walks alone
set_option linter.unusedVariables false
set_option linter.unusedSimpArgs false
attribute [local go_sem] eqGuard_slices eqlnil23 neqnil23 eqlnil58 neqnil58
def slices_Compare_int_int.l0:Nat → List Int → List Int → List Int → Int → Int → Option (Int)
  | 0,_,_,_,_,_=>none
  | k + 1,x0,x1,x9,x10,x11=>if x11 < x10 then (if 0 ≤ x11 then (if x11 < (x9.length:Int) then (if x11 ≥ (x1.length:Int) then (some 1) else (if x11 < (x1.length:Int) then ((cmp_Compare_int.f (rd x9 x11) (rd x1 x11)).bind fun t1003=>(if t1003=0 then (slices_Compare_int_int.l0 k x0 x1 x9 x10 (wrap64 (x11 + 1))) else (some t1003))) else (none))) else (none)) else (none)) else (if (x0.length:Int) < (x1.length:Int) then (some (-1)) else (some 0))
def slices_Compare_int_int.f (k:Nat) (l0:List Int) (l1:List Int):Option (Int):=slices_Compare_int_int.l0 k l0 l1 l0 (l0.length:Int) 0
set_option maxHeartbeats 8000000 in
set_option maxRecDepth 100000 in
theorem slices_Compare_int_int.calls (k:Nat) (A0:Option Addr) (c0:Nat) (F:List Int) (A1:Option Addr) (c1:Nat) (G:List Int) (r:Int) (w:World) (V:Kd.C (Kd.int .i64) w A0 F.length F) (X:F.length ≤ c0) (Y:Kd.C (Kd.int .i64) w A1 G.length G) (Z:G.length ≤ c1) (h:slices_Compare_int_int.f k F G=some r) :
    Calls Try.prog 83 #[.slice A0 F.length c0,.slice A1 G.length c1] w fun e w'=>e=.returned (.int .i64 r)∧Drawn0 w w':=by
 have T:=mk0 V;have a9:=mk0 X;clear V X;have a0:=mk0 Y;have b0:=mk0 Z;clear Y Z;have H:(slices_Compare_int_int.l0 k F G F (F.length:Int) 0)=some r:=h;clear h;have H':=mk0 H;clear H;go_enter Try.func83,Try.ntmps83;go_wp2
 go_loopg [11] k (fun kq a7 w'=>∃ (B:Int),a7=.int .i64 B∧Aside0 (slices_Compare_int_int.l0 kq F G F (F.length:Int) B=some r)∧Aside0 (kq ≤ k)∧Drawn0 w w')
 case atStart=>exact ⟨(0),(by first|rfl|(simp;done)|(simp [*];done)),H',⟨Nat.le_refl _⟩,by repeat (first|exact Drawn0.refl _|apply Drawn0.step)⟩
 case round =>
  clear H';try clear c1
  try clear p2
  obtain ⟨B,rfl,HA,a1,⟨m1,rfl⟩⟩:=hrel;cases gk with
  | zero=>exact absurd HA.1 (by simp [slices_Compare_int_int.l0])
  | succ k1 =>
   have H:=HA.1;clear HA;simp only [slices_Compare_int_int.l0] at H
   by_cases c3:B < (F.length:Int)
   ·
    rw [if_pos c3] at H;have c3b0:decide (B < (F.length:Int))=true:=decide_eq_true c3;clear c3
    by_cases c4:0 ≤ B
    ·
     rw [if_pos c4] at H;have c4b0:decide (0 ≤ B)=true:=decide_eq_true c4;clear c4
     by_cases c5:B < (F.length:Int)
     ·
      rw [if_pos c5] at H;have c5b0:decide (B < (F.length:Int))=true:=decide_eq_true c5;clear c5
      by_cases c6:B ≥ (G.length:Int)
      ·
       rw [if_pos c6] at H;have c6b0:decide ((G.length:Int) ≤ B)=true:=decide_eq_true c6;clear c6;obtain rfl:=Option.some.inj H;have D:0 ≤ (B:Int):=of_decide_eq_true (by first|(with_reducible assumption)|assumption);have E:B < (F.length:Int):=of_decide_eq_true (by first|(with_reducible assumption)|assumption);obtain ⟨Q,M,N⟩:=Kd.at_int T.1 B D E;cases M;replace D:=eq_true D;replace E:=eq_true E;go_wp2;go_ret;exact ⟨by first|rfl|(simp;done)|(simp [*];done),by repeat (first|exact Drawn0.refl _|apply Drawn0.step)⟩
      ·
       rw [if_neg c6] at H;have c6b0:decide ((G.length:Int) ≤ B)=false:=decide_eq_false c6;clear c6
       by_cases c7:B < (G.length:Int)
       ·
        rw [if_pos c7] at H;have c7b0:decide (B < (G.length:Int))=true:=decide_eq_true c7;clear c7;replace H:=Option.bind_eq_some_iff.mp H;obtain ⟨I,a2,H⟩:=H;(try dsimp only at H);have A8:=mk0 a2;clear a2
        by_cases c9:I=0
        ·
         rw [if_pos c9] at H;have c9b0:(I == 0)=true:=beq_iff_eq.mpr c9;have c9b1:(I != 0)=false:=bne_eq_false_iff_eq.mpr c9;clear c9;have H':=mk0 H;clear H;have D:0 ≤ (B:Int):=of_decide_eq_true (by first|(with_reducible assumption)|assumption);have E:B < (F.length:Int):=of_decide_eq_true (by first|(with_reducible assumption)|assumption);obtain ⟨Q,M,N⟩:=Kd.at_int T.1 B D E;cases M;replace D:=eq_true D;replace E:=eq_true E;have J:0 ≤ (B:Int):=of_decide_eq_true (by first|(with_reducible assumption)|assumption);have L:B < (G.length:Int):=of_decide_eq_true (by first|(with_reducible assumption)|assumption);obtain ⟨U,O,R⟩:=Kd.at_int a0.1 B J L;cases O;replace J:=eq_true J;replace L:=eq_true L;go_wp2_with (first|((with_reducible refine gate_callee (f:=98) rfl ?_);refine goesL_ (some 26) rfl rfl Try.func98 (by kernel_rfl) rfl #[.int .i64 (rd F B),.int .i64 (rd G B)] rfl (by (try simp only [m0_,m1_,m2_]);first|done|rfl|(simp only [l0_,l1_];rfl)) ?_;(with_reducible refine (cmp_Compare_int.calls (rd F B) (rd G B) I _ A8.1).mono ?_);rintro e w' ⟨rfl,⟨nd,rfl⟩⟩;refine ⟨_,rfl,?_⟩));go_roundg k1
         case measure=>have:=a1.1;omega
         case rel=>exact ⟨(wrap64 (B + 1)),(by first|rfl|(simp;done)|(simp [*];done)),H',⟨by have:=a1.1;omega⟩,by repeat (first|exact Drawn0.refl _|apply Drawn0.step)⟩
        ·
         rw [if_neg c9] at H;have c9b0:(I == 0)=false:=beq_eq_false_iff_ne.mpr c9;have c9b1:(I != 0)=true:=bne_iff_ne.mpr c9;obtain rfl:=Option.some.inj H;have D:0 ≤ (B:Int):=of_decide_eq_true (by first|(with_reducible assumption)|assumption);have E:B < (F.length:Int):=of_decide_eq_true (by first|(with_reducible assumption)|assumption);obtain ⟨Q,M,N⟩:=Kd.at_int T.1 B D E;cases M;replace D:=eq_true D;replace E:=eq_true E;have J:0 ≤ (B:Int):=of_decide_eq_true (by first|(with_reducible assumption)|assumption);have L:B < (G.length:Int):=of_decide_eq_true (by first|(with_reducible assumption)|assumption);obtain ⟨U,O,R⟩:=Kd.at_int a0.1 B J L;cases O;replace J:=eq_true J;replace L:=eq_true L;go_wp2_with (first|((with_reducible refine gate_callee (f:=98) rfl ?_);refine goesL_ (some 26) rfl rfl Try.func98 (by kernel_rfl) rfl #[.int .i64 (rd F B),.int .i64 (rd G B)] rfl (by (try simp only [m0_,m1_,m2_]);first|done|rfl|(simp only [l0_,l1_];rfl)) ?_;(with_reducible refine (cmp_Compare_int.calls (rd F B) (rd G B) I _ A8.1).mono ?_);rintro e w' ⟨rfl,⟨nd,rfl⟩⟩;refine ⟨_,rfl,?_⟩));go_ret;exact ⟨by first|rfl|(simp;done)|(simp [*];done),by repeat (first|exact Drawn0.refl _|apply Drawn0.step)⟩
       ·
        rw [if_neg c7] at H;exact absurd H (by simp)
     ·
      rw [if_neg c5] at H;exact absurd H (by simp)
    ·
     rw [if_neg c4] at H;exact absurd H (by simp)
   ·
    rw [if_neg c3] at H;have c3b0:decide (B < (F.length:Int))=false:=decide_eq_false c3;clear c3
    by_cases c10:(F.length:Int) < (G.length:Int)
    ·
     rw [if_pos c10] at H;have c10b0:decide ((F.length:Int) < (G.length:Int))=true:=decide_eq_true c10;have c10b1:decide (F.length < G.length)=true:=decide_eq_true (Int.ofNat_lt.mp c10);clear c10;obtain rfl:=Option.some.inj H;go_wp2;go_ret;exact ⟨by first|rfl|(simp;done)|(simp [*];done),by repeat (first|exact Drawn0.refl _|apply Drawn0.step)⟩
    ·
     rw [if_neg c10] at H;have c10b0:decide ((F.length:Int) < (G.length:Int))=false:=decide_eq_false c10;have c10b1:decide (F.length < G.length)=false:=decide_eq_false (fun h=>c10 (Int.ofNat_lt.mpr h));clear c10;obtain rfl:=Option.some.inj H;go_wp2;go_ret;exact ⟨by first|rfl|(simp;done)|(simp [*];done),by repeat (first|exact Drawn0.refl _|apply Drawn0.step)⟩
end Go.Proofs.Ytkonljiembcdlaa.PC
namespace Go.Proofs.Ytkonljiembcdlaa.PC
open Go.Proofs.MyWords Go.RowKit Go.Proofs.YtkonljiembcdlaaW.PrintWords Go.Proofs.YtkonljiembcdlaaW.PrintLast Go.Proofs.YtkonljiembcdlaaW.PrintMore
attribute [local go_sem] max2_int min2_int max_two min_two max_three min_three max_four min_four   -- for this text's walks alone
set_option linter.unusedVariables false
set_option linter.unusedSimpArgs false
attribute [local go_sem] eqGuard_slices eqlnil23 neqnil23 eqlnil58 neqnil58
def leastGo (k:Nat):List S60 → Option (List Int) → Option (Option (List Int))
  | [],b=>some b
  | l :: t,none=>leastGo k t (some l.f0)
  | l :: t,some b=>(count_total.f k l.f0).bind fun x=>(count_total.f k b).bind fun y=>if x < y then leastGo k t (some l.f0) else if x=y then (slices_Compare_int_int.f k l.f0 b).bind fun c=>if c < 0 then leastGo k t (some l.f0) else leastGo k t (some b) else leastGo k t (some b)
def count_Least.f (k:Nat) (a0:Int) (l1:List S60):Option (List Int × Int):=(count_check.f k a0 [l1]).bind fun e=>if e=0 then (if (l1.all fun l=>decide (0 < l.f0.length) && decide (l.f0.length ≤ 5000000))=true then (leastGo k l1 none).bind fun b=>match b with|none=>some ([],5)|some v=>(slices_Clone_int_int_84.f k v).bind fun v=>some (v,0) else none) else some ([],e)
def BestV (w:World) (v:Value):Option (List Int) → Prop
  | none=>v=.slice none 0 0
  | some b=>∃ ad c,v=.slice (some ad) b.length c∧b.length ≤ c∧0 < b.length∧Kd.C (Kd.int .i64) w (some ad) b.length b
attribute [local go_sem] eqGuard_slices eqlnil23 neqnil23 in
set_option maxHeartbeats 4000000 in
set_option maxRecDepth 100000 in
theorem count_Least.calls (k:Nat) (a0:Int) (A1:Option Addr) (c1:Nat) (l1:List S60) (r1:List Int) (r2:Int) (w:World) (hr1:Kd.C k60 w A1 l1.length l1) (hc1:l1.length ≤ c1) (h:count_Least.f k a0 l1=some (r1,r2)) :
    Calls Try.prog 46 #[.int .i64 a0,.slice A1 l1.length c1] w fun e w'=>∃ v0_:Value,e=.returned (.tuple #[v0_,.int .i64 r2])∧Kd.R (Kd.int .i64) 3 w' w.heap.size (fun _=>True) v0_ r1∧Below w.heap.size w w':=by
  unfold count_Least.f at h
  obtain ⟨e0,he0,h⟩:=Option.bind_eq_some_iff.mp h
  have HR:=Aside0.mk hr1
  have HC:=Aside0.mk hc1
  have HCH:Aside0 (∀ (g:Nat) (W:World),Below w.heap.size w W → W.heap[g]?=some (.cells #[.slice A1 l1.length c1] 22 (0,0)) → Calls Try.prog 51 #[.int .i64 a0,.slice (some ⟨g,0,none⟩) 1 1] W fun e w'=>e=.returned (.int .i64 e0)∧Below W.heap.size W w') :=
    ⟨fun g W hb hg=>count_check.calls k a0 (some ⟨g,0,none⟩) 1 [l1] e0 W (C_one_row hg (Kd.C_below HR.out hb) HC.out) (Nat.le_refl _) he0⟩
  clear hr1 hc1 he0
  by_cases hz:e0=0
  · rw [if_pos hz] at h
    subst hz
    split at h
    case isFalse=>cases h
    rename_i hall
    obtain ⟨res,hres,h⟩:=Option.bind_eq_some_iff.mp h
    have HALL:=Aside0.mk (show ∀ l,l ∈ l1 → 0 < l.f0.length∧l.f0.length ≤ 5000000 from fun l hl=>by
      have:=List.all_eq_true.1 hall l hl
      simp only [Bool.and_eq_true,decide_eq_true_eq] at this
      exact this)
    have HRES:=Aside0.mk hres
    have HH:=Aside0.mk h
    clear hres h hall
    go_enter Try.func46,Try.ntmps46
    go_wp2_with (fail)
    (with_reducible refine (HCH.out w.heap.size (w.alloc (.cells #[.slice A1 l1.length c1] 22)) (below_alloc (Below.refl _ _) _) (blk_new w _)).mono ?_)
    rintro e w2 ⟨rfl,hb⟩
    have HB:=Aside0.mk (Below.trans (below_alloc (Below.refl w.heap.size w) (.cells #[.slice A1 l1.length c1] 22)) (hb.mono (by simp)))
    clear hb
    clear HCH
    go_wp2
    go_loopw [7,19] (fun v7 v19 wr=>∃ (i:Nat) (q:Int) (b:Option (List Int)),v19=.int .i64 q∧Aside0 (q=(i:Int))∧Aside0 (i ≤ l1.length)∧Aside0 (leastGo k (l1.drop i) b=some res)∧Aside0 (BestV w v7 b)∧Aside0 (Below w.heap.size w wr)) (fun _ v19 _=>l1.length - (intOf v19).toNat)
    case atStart=>exact ⟨0,0,none,rfl,⟨rfl⟩,⟨Nat.zero_le _⟩,HRES,⟨rfl⟩,HB⟩
    case round =>
      clear HB HRES
      obtain ⟨i,q,b,rfl,HQ,HI,HG,HBV,HB⟩:=hrel
      by_cases hlt:i < l1.length
      · have hd:decide (q < (l1.length:Int))=true:=decide_eq_true (by have:=HQ.out;omega)
        obtain ⟨l,hl⟩:∃ l:S60,l=rd_T60 l1 q:=⟨_,rfl⟩
        have hdrop:l1.drop i=l :: l1.drop (i + 1):=by
          rw [List.drop_eq_getElem_cons hlt,hl]
          congr 1
          simp [rd_T60,HQ.out,List.getD_eq_getElem?_getD,List.getElem?_eq_getElem hlt]
        have hlm:l ∈ l1:=by
          rw [hl]
          have:rd_T60 l1 q=l1[i]'hlt:=by simp [rd_T60,HQ.out,List.getD_eq_getElem?_getD,List.getElem?_eq_getElem hlt]
          rw [this];exact List.getElem_mem hlt
        obtain ⟨hl0,hl5⟩:=HALL.out l hlm
        have HG2:=HG.out
        rw [hdrop] at HG2
        have hwi:wrap64 (q + 1)=((i + 1:Nat):Int):=by have:=HR.out.2.1;have:=HQ.out;unfold wrap64;omega
        obtain ⟨ad,A0,c0,A2,c2,e,hx0,hx1,hlc0,hi0,hlc1,hi1⟩:=at_T60 HR.out q (by have:=HQ.out;omega) (by have:=HQ.out;omega)
        cases e
        rw [← hl] at hx0 hx1 hlc0 hi0 hlc1 hi1
        obtain ⟨a0',rfl,_⟩:=hi0.2.2 hl0
        replace hx0:=(HB.out.cell (World.block_lt_of_cell? w _ hx0)).trans hx0
        replace hx1:=(HB.out.cell (World.block_lt_of_cell? w _ hx1)).trans hx1
        have p0:((0:Int) ≤ q)=True:=eq_true (by have:=HQ.out;omega)
        have p1:(q < (l1.length:Int))=True:=eq_true (by have:=HQ.out;omega)
        have HF:=Aside0.mk hi0
        have HFC:=Aside0.mk hlc0
        have HWI:=Aside0.mk hwi
        have HLT:=Aside0.mk hlt
        have HL5:=Aside0.mk hl0
        have HG3:=Aside0.mk HG2
        have HNEXT:∀ (b2:Option (List Int)) (v7:Value) (w9:World),leastGo k (l1.drop (i + 1)) b2=some res → BestV w v7 b2 → Below w.heap.size w w9 → True:=fun _ _ _ _ _ _=>trivial
        clear hi0 hlc0 hi1 hlc1 hlt hl hdrop hlm hl0 hl5 HG HG2 hwi HNEXT
        have HBV2:=HBV.out
        cases b with
        | none =>
          have hv7:u7=Value.slice none 0 0:=HBV2
          subst hv7
          clear HBV
          have hg:=HG3.out
          rw [leastGo] at hg
          have HG4:=Aside0.mk hg
          clear hg HG3
          go_wp2_with (first
            | ((with_reducible refine gate_dst (N:=9) rfl ?_);refine box_event ?hg (N:=9) ?hd (cs:=#[.slice none 0 0,.slice none 0 0]) (t:=60) ?hr ?_;(case hd=>rfl);(case hg=>rfl);(case hr=>first|(go_simp;done)|(go_simp;rfl));intro gl hg w6 hbox hb;have HBL:=Aside0.mk hbox;have HGL:=Aside0.mk (show w.heap.size ≤ gl from by have:=HB.out.size;omega);replace HB:=Aside0.mk (HB.out.trans (hb.mono HB.out.size));clear hb hbox hg;have hcl0:w6.cell? ⟨gl,0,none⟩=some (.slice none 0 0):=(blk_cell HBL.out 0).trans rfl;have hcl1:w6.cell? ⟨gl,1,none⟩=some (.slice none 0 0):=(blk_cell HBL.out 1).trans rfl;have hfl0:=blk_frozen HBL.out 0;have hfl1:=blk_frozen HBL.out 1))
          refine ⟨⟨i + 1,_,some l.f0,rfl,HWI,⟨by have:=HLT.out;omega⟩,HG4,⟨⟨a0',c0,rfl,HFC.out,HL5.out,HF.out⟩⟩,⟨below_set (below_set HB.out HGL.out) HGL.out⟩⟩,?_⟩
          rw [HWI.out,HQ.out];simp only [intOf];have:=HLT.out;omega
        | some v =>
          obtain ⟨adb,cb,hv7,hlcb,hlpb,hCb⟩:=HBV2
          subst hv7
          have hg:=HG3.out
          rw [leastGo] at hg
          obtain ⟨x,hx,hg⟩:=Option.bind_eq_some_iff.mp hg
          obtain ⟨y,hy,hg⟩:=Option.bind_eq_some_iff.mp hg
          have HV:=Aside0.mk hCb
          have HVC:=Aside0.mk hlcb
          have HV0:=Aside0.mk hlpb
          have HT1:Aside0 (∀ W:World,Below w.heap.size w W → Calls Try.prog 82 #[.slice (some a0') l.f0.length c0] W fun e w'=>e=.returned (.int .i64 x)∧Drawn0 W w'):=⟨fun W hW=>count_total.calls k _ c0 l.f0 x W (Kd.C_below HF.out hW) HFC.out hx⟩
          have HT2:Aside0 (∀ W:World,Below w.heap.size w W → Calls Try.prog 82 #[.slice (some adb) v.length cb] W fun e w'=>e=.returned (.int .i64 y)∧Drawn0 W w'):=⟨fun W hW=>count_total.calls k _ cb v y W (Kd.C_below HV.out hW) HVC.out hy⟩
          clear HBV HG3 hCb hlcb hlpb hx hy
          have HGG:=Aside0.mk hg
          clear hg
          go_wp2_with (first
            | ((with_reducible refine gate_dst (N:=9) rfl ?_);refine box_event ?hg (N:=9) ?hd (cs:=#[.slice none 0 0,.slice none 0 0]) (t:=60) ?hr ?_;(case hd=>rfl);(case hg=>rfl);(case hr=>first|(go_simp;done)|(go_simp;rfl));intro gl hg w6 hbox hb;have HBL:=Aside0.mk hbox;have HGL:=Aside0.mk (show w.heap.size ≤ gl from by have:=HB.out.size;omega);replace HB:=Aside0.mk (HB.out.trans (hb.mono HB.out.size));clear hb hbox hg;have hcl0:w6.cell? ⟨gl,0,none⟩=some (.slice none 0 0):=(blk_cell HBL.out 0).trans rfl;have hcl1:w6.cell? ⟨gl,1,none⟩=some (.slice none 0 0):=(blk_cell HBL.out 1).trans rfl;have hfl0:=blk_frozen HBL.out 0;have hfl1:=blk_frozen HBL.out 1))
          replace HB:Aside0 (Below w.heap.size w ((w6.setCell ⟨gl,0,none⟩ (.slice (some a0') l.f0.length c0)).setCell ⟨gl,1,none⟩ (.slice A2 l.f1.length c2))):=⟨below_set (below_set HB.out HGL.out) HGL.out⟩
          replace HBL:Aside0 (((w6.setCell ⟨gl,0,none⟩ (.slice (some a0') l.f0.length c0)).setCell ⟨gl,1,none⟩ (.slice A2 l.f1.length c2)).heap[gl]?=some (.cells #[.slice (some a0') l.f0.length c0,.slice A2 l.f1.length c2] 60 (0,0))):=⟨by refine blk_put (cs:=#[.slice (some a0') l.f0.length c0,.slice none 0 0]) ?_ 1 _ rfl;exact blk_put HBL.out 0 _ rfl⟩
          clear hcl0 hcl1 hfl0 hfl1
          generalize ((w6.setCell ⟨gl,0,none⟩ (.slice (some a0') l.f0.length c0)).setCell ⟨gl,1,none⟩ (.slice A2 l.f1.length c2))=w7 at HB HBL ⊢
          (with_reducible refine (HT1.out _ HB.out).mono ?_)
          rintro e w' ⟨rfl,⟨nd,rfl⟩⟩
          replace HB:=Aside0.mk (pw_below_drewN HB.out nd)
          replace HBL:=Aside0.mk (show (World.drewN _ nd).heap[gl]?=some (.cells #[.slice (some a0') l.f0.length c0,.slice A2 l.f1.length c2] 60 (0,0)) from HBL.out)
          generalize World.drewN _ nd=w8 at HB HBL ⊢
          have hcl0:w8.cell? ⟨gl,0,none⟩=some (.slice (some a0') l.f0.length c0):=(blk_cell HBL.out 0).trans rfl
          go_wp2_with (fail)
          (with_reducible refine (HT2.out _ HB.out).mono ?_)
          rintro e w' ⟨rfl,⟨nd,rfl⟩⟩
          replace HB:=Aside0.mk (pw_below_drewN HB.out nd)
          replace HBL:=Aside0.mk (show (World.drewN _ nd).heap[gl]?=some (.cells #[.slice (some a0') l.f0.length c0,.slice A2 l.f1.length c2] 60 (0,0)) from HBL.out)
          generalize World.drewN _ nd=w9 at HB HBL ⊢
          replace hcl0:w9.cell? ⟨gl,0,none⟩=some (.slice (some a0') l.f0.length c0):=(blk_cell HBL.out 0).trans rfl
          have hg:=HGG.out
          clear HGG
          by_cases hxy:x < y
          · rw [if_pos hxy] at hg
            have hd1:decide (x < y)=true:=decide_eq_true hxy
            clear hxy
            go_wp2
            refine ⟨⟨i + 1,_,some l.f0,rfl,HWI,⟨by have:=HLT.out;omega⟩,⟨hg⟩,⟨⟨a0',c0,rfl,HFC.out,HL5.out,HF.out⟩⟩,HB⟩,?_⟩
            rw [HWI.out,HQ.out];simp only [intOf];have:=HLT.out;omega
          · rw [if_neg hxy] at hg
            have hd1:decide (x < y)=false:=decide_eq_false hxy
            clear hxy
            go_wp2_with (fail)
            (with_reducible refine (HT1.out _ HB.out).mono ?_)
            rintro e w' ⟨rfl,⟨nd,rfl⟩⟩
            replace HB:=Aside0.mk (pw_below_drewN HB.out nd)
            replace HBL:=Aside0.mk (show (World.drewN _ nd).heap[gl]?=some (.cells #[.slice (some a0') l.f0.length c0,.slice A2 l.f1.length c2] 60 (0,0)) from HBL.out)
            generalize World.drewN _ nd=w10 at HB HBL ⊢
            replace hcl0:w10.cell? ⟨gl,0,none⟩=some (.slice (some a0') l.f0.length c0):=(blk_cell HBL.out 0).trans rfl
            go_wp2_with (fail)
            (with_reducible refine (HT2.out _ HB.out).mono ?_)
            rintro e w' ⟨rfl,⟨nd,rfl⟩⟩
            replace HB:=Aside0.mk (pw_below_drewN HB.out nd)
            replace HBL:=Aside0.mk (show (World.drewN _ nd).heap[gl]?=some (.cells #[.slice (some a0') l.f0.length c0,.slice A2 l.f1.length c2] 60 (0,0)) from HBL.out)
            generalize World.drewN _ nd=w11 at HB HBL ⊢
            replace hcl0:w11.cell? ⟨gl,0,none⟩=some (.slice (some a0') l.f0.length c0):=(blk_cell HBL.out 0).trans rfl
            by_cases hxe:x=y
            · rw [if_pos hxe] at hg
              obtain ⟨c,hc,hg⟩:=Option.bind_eq_some_iff.mp hg
              have HC3:Aside0 (∀ W:World,Below w.heap.size w W → Calls Try.prog 83 #[.slice (some a0') l.f0.length c0,.slice (some adb) v.length cb] W fun e w'=>e=.returned (.int .i64 c)∧Drawn0 W w'):=⟨fun W hW=>slices_Compare_int_int.calls k _ c0 l.f0 _ cb v c W (Kd.C_below HF.out hW) HFC.out (Kd.C_below HV.out hW) HVC.out hc⟩
              have hd2:(x == y)=true:=beq_iff_eq.mpr hxe
              subst hxe
              clear hc
              have HGG:=Aside0.mk hg
              clear hg
              go_wp2_with (fail)
              (with_reducible refine (HC3.out _ HB.out).mono ?_)
              rintro e w' ⟨rfl,⟨nd,rfl⟩⟩
              replace HB:=Aside0.mk (pw_below_drewN HB.out nd)
              replace HBL:=Aside0.mk (show (World.drewN _ nd).heap[gl]?=some (.cells #[.slice (some a0') l.f0.length c0,.slice A2 l.f1.length c2] 60 (0,0)) from HBL.out)
              generalize World.drewN _ nd=w12 at HB HBL ⊢
              replace hcl0:w12.cell? ⟨gl,0,none⟩=some (.slice (some a0') l.f0.length c0):=(blk_cell HBL.out 0).trans rfl
              have hg:=HGG.out
              clear HGG
              by_cases hc0:c < 0
              · rw [if_pos hc0] at hg
                have hd3:decide (c < 0)=true:=decide_eq_true hc0
                clear hc0
                go_wp2
                refine ⟨⟨i + 1,_,some l.f0,rfl,HWI,⟨by have:=HLT.out;omega⟩,⟨hg⟩,⟨⟨a0',c0,rfl,HFC.out,HL5.out,HF.out⟩⟩,HB⟩,?_⟩
                rw [HWI.out,HQ.out];simp only [intOf];have:=HLT.out;omega
              · rw [if_neg hc0] at hg
                have hd3:decide (c < 0)=false:=decide_eq_false hc0
                clear hc0
                go_wp2
                refine ⟨⟨i + 1,_,some v,rfl,HWI,⟨by have:=HLT.out;omega⟩,⟨hg⟩,⟨⟨adb,cb,rfl,HVC.out,HV0.out,HV.out⟩⟩,HB⟩,?_⟩
                rw [HWI.out,HQ.out];simp only [intOf];have:=HLT.out;omega
            · rw [if_neg hxe] at hg
              have hd2:(x == y)=false:=beq_eq_false_iff_ne.mpr hxe
              clear hxe
              go_wp2
              refine ⟨⟨i + 1,_,some v,rfl,HWI,⟨by have:=HLT.out;omega⟩,⟨hg⟩,⟨⟨adb,cb,rfl,HVC.out,HV0.out,HV.out⟩⟩,HB⟩,?_⟩
              rw [HWI.out,HQ.out];simp only [intOf];have:=HLT.out;omega
      · have hd:decide (q < (l1.length:Int))=false:=decide_eq_false (by have:=HQ.out;omega)
        have hb:b=res:=by
          have:=HG.out
          rw [List.drop_eq_nil_of_le (by omega),leastGo] at this
          exact Option.some.inj this
        subst hb
        clear hlt HG
        have HH2:=HH.out
        have HBV2:=HBV.out
        cases b with
        | none =>
          obtain ⟨rfl,rfl⟩:=Prod.mk.inj (Option.some.inj HH2)
          have hv7:u7=Value.slice none 0 0:=HBV2
          subst hv7
          clear HH HBV HH2
          go_wp2
          go_ret2
          exact ⟨_,rfl,Kd.R_nil _ _ _ _ _,HB.out⟩
        | some v =>
          obtain ⟨v2,hv2,h2⟩:=Option.bind_eq_some_iff.mp HH2
          obtain ⟨rfl,rfl⟩:=Prod.mk.inj (Option.some.inj h2)
          obtain ⟨ad,c,rfl,hlc,hlp,hCv⟩:=HBV2
          have HCL:=Aside0.mk (slices_Clone_int_int_84.calls k (some ad) c v _ wr (Kd.C_below hCv HB.out) hlc hv2)
          clear HH HBV HH2 hv2 h2 hlc hlp hCv
          go_wp2_with (fail)
          (with_reducible refine HCL.out.mono ?_)
          rintro e w3 ⟨v3,rfl,hR3,hb3⟩
          have HR3:=Aside0.mk (Kd.R_lower hR3 HB.out.size)
          have HB3:=Aside0.mk (HB.out.trans (hb3.mono HB.out.size))
          clear HCL hR3 hb3
          go_wp2
          go_ret2
          exact ⟨_,rfl,HR3.out,HB3.out⟩
  · rw [if_neg hz] at h
    obtain ⟨rfl,rfl⟩:=Prod.mk.inj (Option.some.inj h)
    have hz1:(e0 != 0)=true:=by simpa using hz
    clear h hz
    go_enter Try.func46,Try.ntmps46
    go_wp2_with (fail)
    (with_reducible refine (HCH.out w.heap.size (w.alloc (.cells #[.slice A1 l1.length c1] 22)) (below_alloc (Below.refl _ _) _) (blk_new w _)).mono ?_)
    rintro e w2 ⟨rfl,hb⟩
    have HB:=Aside0.mk (Below.trans (below_alloc (Below.refl w.heap.size w) (.cells #[.slice A1 l1.length c1] 22)) (hb.mono (by simp)))
    clear hb
    go_wp2
    go_ret2
    exact ⟨_,rfl,Kd.R_nil _ _ _ _ _,HB.out⟩
end Go.Proofs.Ytkonljiembcdlaa.PC
namespace Go.Proofs.Ytkonljiembcdlaa.PC
open Go.Proofs.MyWords Go.RowKit Go.Proofs.YtkonljiembcdlaaW.PrintWords Go.Proofs.YtkonljiembcdlaaW.PrintLast Go.Proofs.YtkonljiembcdlaaW.PrintMore
attribute [local go_sem] max2_int min2_int max_two min_two max_three min_three max_four min_four   -- for this text's walks alone
set_option linter.unusedVariables false
set_option linter.unusedSimpArgs false
attribute [local go_sem] eqGuard_slices eqlnil23 neqnil23 eqlnil58 neqnil58
mutual
def bellpulllaw05_CountLeast.j0:Nat → Int → List (S60) → List Int → Bool → Option (Bool)
  | 0,_,_,_,_=>none
  | k + 1,x3,x4,x6,x53=>if x53=true then (none) else ((count_Has.f k x3 x4 x6).bind fun bt1051=>(bellpulllaw05_CountLeast.l0 k x3 x4 x6 bt1051.1 bt1051.2 false 0))
def bellpulllaw05_CountLeast.l0:Nat → Int → List (S60) → List Int → Bool → Int → Bool → Int → Option (Bool)
  | 0,_,_,_,_,_,_,_=>none
  | k + 1,x3,x4,x6,x8,x9,x10,x11=>if x11 < (x4.length:Int) then (if 0 ≤ x11 then ((bellpullref05_Less.f k ((rd_T60 x4 x11).f0) x6).bind fun bt1054=>(if x10=true then (bellpulllaw05_CountLeast.l0 k x3 x4 x6 x8 x9 true (wrap64 (x11 + 1))) else (if bt1054.2=true then ((bellpullref05_Total.f k bt1054.1).bind fun t1058=>(bellpulllaw05_CountLeast.l0 k x3 x4 x6 x8 x9 (t1058 == 0) (wrap64 (x11 + 1)))) else (bellpulllaw05_CountLeast.l0 k x3 x4 x6 x8 x9 false (wrap64 (x11 + 1)))))) else (none)) else (if x8=true then (if x9=0 then (bellpulllaw05_CountLeast.j2 k x3 x4 x6 (!x10)) else (none)) else (none))
def bellpulllaw05_CountLeast.j2:Nat → Int → List (S60) → List Int → Bool → Option (Bool)
  | 0,_,_,_,_=>none
  | k + 1,x3,x4,x6,x95=>if x95=true then (none) else (bellpulllaw05_CountLeast.l1 k x3 x4 x6 0)
def bellpulllaw05_CountLeast.l1:Nat → Int → List (S60) → List Int → Int → Option (Bool)
  | 0,_,_,_,_=>none
  | k + 1,x3,x4,x6,x14=>(bellpullref05_Total.f k x6).bind fun t1059=>(if x14 < t1059 then (bellpulllaw05_CountLeast.j4 k x3 x4 x6 x14 (decide (x14 < 8))) else (bellpulllaw05_CountLeast.j4 k x3 x4 x6 x14 false))
def bellpulllaw05_CountLeast.j4:Nat → Int → List (S60) → List Int → Int → Bool → Option (Bool)
  | 0,_,_,_,_,_=>none
  | k + 1,x3,x4,x6,x14,x103=>if x103=true then ((count_Count.f k x3 x4 x14).bind fun bt1060=>(if bt1060.1=0 then (if bt1060.2=0 then (bellpulllaw05_CountLeast.l1 k x3 x4 x6 (wrap64 (x14 + 1))) else (none)) else (none))) else (some true)
end
def bellpulllaw05_CountLeast.f (k:Nat) (a0_0:Int) (l0_1:List Int) (l0_2:List Int):Option (Bool):=(bellpulllaw05_Plan_sets.f a0_0 l0_1 l0_2 8).bind fun bt1038=>((count_Least.f k bt1038.1 bt1038.2.1).bind fun bt1045=>(if (bt1038.2.1.length:Int)=0 then (if bt1045.2=5 then (if (bt1045.1.length:Int)=0 then ((bellpulllaw05_lives.f k).bind fun t1049=>(some t1049)) else (none)) else (none)) else (if bt1045.2=0 then (if (bt1045.1.length:Int)=bt1038.1 then ((bellpulllaw05_lives.f k).bind fun t1050=>(bellpulllaw05_CountLeast.j0 k bt1038.1 bt1038.2.1 bt1045.1 (!t1050))) else (none)) else (none))))
set_option maxHeartbeats 8000000 in
set_option maxRecDepth 100000 in
theorem bellpulllaw05_CountLeast.calls (k:Nat) (Z:Int) (a5:Option Addr) (a6:Nat) (V:List Int) (a7:Option Addr) (a8:Nat) (X:List Int) (r:Bool) (w:World) (j7:Kd.C (Kd.int .u8) w a5 V.length V) (j8:V.length ≤ a6) (j9:Kd.C (Kd.int .u8) w a7 X.length X) (l2:X.length ≤ a8) (h:bellpulllaw05_CountLeast.f k Z V X=some r) :
    Calls Try.prog 16 #[.agg #[.int .u8 Z,.slice a5 V.length a6,.slice a7 X.length a8]] w fun e w'=>e=.returned (.bool r)∧Below w.heap.size w w':=by
 have p9:=Try.underlying55;have l3:=mk0 j7;have l4:=mk0 j8;clear j7 j8;have l5:=mk0 j9;have l6:=mk0 l2;clear j9 l2;have I:=mk0 (Below.refl w.heap.size w);have H:((bellpulllaw05_Plan_sets.f Z V X 8).bind fun d6=>((count_Least.f k d6.1 d6.2.1).bind fun e7=>(if (d6.2.1.length:Int)=0 then (if e7.2=5 then (if (e7.1.length:Int)=0 then ((bellpulllaw05_lives.f k).bind fun i2=>(some i2)) else (none)) else (none)) else (if e7.2=0 then (if (e7.1.length:Int)=d6.1 then ((bellpulllaw05_lives.f k).bind fun g9=>(bellpulllaw05_CountLeast.j0 k d6.1 d6.2.1 e7.1 (!g9))) else (none)) else (none)))))=some r:=h;clear h;replace H:=Option.bind_eq_some_iff.mp H;obtain ⟨⟨L,D,l7⟩,n2,H⟩:=H;(try dsimp only at H);have A2:=mk0 n2;clear n2;replace H:=Option.bind_eq_some_iff.mp H;obtain ⟨⟨E,d4⟩,n3,H⟩:=H;(try dsimp only at H);have A3:=mk0 n3;clear n3
 by_cases c4:(D.length:Int)=0
 ·
  rw [if_pos c4] at H;have c4b0:((D.length:Int) == 0)=true:=beq_iff_eq.mpr c4;have c4b1:((D.length:Int) != 0)=false:=bne_eq_false_iff_eq.mpr c4;clear c4
  by_cases c5:d4=5
  ·
   rw [if_pos c5] at H;have c5b0:(d4 == 5)=true:=beq_iff_eq.mpr c5;have c5b1:(d4 != 5)=false:=bne_eq_false_iff_eq.mpr c5;clear c5
   by_cases c6:(E.length:Int)=0
   ·
    rw [if_pos c6] at H;have c6b0:((E.length:Int) == 0)=true:=beq_iff_eq.mpr c6;have c6b1:((E.length:Int) != 0)=false:=bne_eq_false_iff_eq.mpr c6;clear c6;replace H:=Option.bind_eq_some_iff.mp H;obtain ⟨i2,n4,H⟩:=H;(try dsimp only at H);have A7:=mk0 n4;clear n4;obtain rfl:=Option.some.inj H;go_enter Try.func16,Try.ntmps16;go_wp2_with (first|((with_reducible refine gate_dst (N:=1) rfl ?_);(try (refine gate_guard (by rfl) ?_;dsimp only));refine box_event ?hg (N:=1) ?hd (cs:=#[.int .u8 Z,.slice a5 V.length a6,.slice a7 X.length a8]) (t:=55) ?hr ?_;(case hd=>rfl);(case hg=>rfl);(case hr=>first|(go_simp;done)|(go_simp;rfl));intro U hg w8 h2 hb;have B:=mk0 (h2);have m1:=mk0 ((by rw [hg];exact (below_size (by repeat (first|(with_reducible first|exact I.1|apply below_alloc|apply pw_below_drewN|apply below_drew1)|exact I.1))):w.heap.size ≤ U));have G:=mk0 ((by rw [hg];exact (below_size (by repeat (first|(with_reducible first|exact I.1|apply below_alloc|apply pw_below_drewN|apply below_drew1)|exact I.1))):w.heap.size ≤ U));replace I:=mk0 (below_step (by repeat (first|(with_reducible first|exact I.1|apply below_alloc|apply pw_below_drewN|apply below_drew1)|exact I.1)) hb);clear hb h2 hg;have e8:=q0_ B;have e9:=q1_ B;have f2:=q2_ B;have f3:=blk_frozen B.1 0;have f4:=blk_frozen B.1 1;have f5:=blk_frozen B.1 2)|((with_reducible refine gate_callee (f:=33) rfl ?_);refine goesL_ (some 19) rfl rfl Try.func33 (by kernel_rfl) rfl #[.agg #[.int .u8 Z,.slice a5 V.length a6,.slice a7 X.length a8],.int .i64 8] rfl (by (try simp only [m0_,m1_,m2_]);first|done|rfl|(simp only [l0_,l1_];rfl)) ?_;(with_reducible refine (bellpulllaw05_Plan_sets.calls Z _ _ V _ _ X 8 L D l7 _ ?side1 ?side2 ?side3 ?side4 A2.1).mono ?_);(case side1=>repeat (first|exact (Kd.C_below l3.1 I.1)|(with_reducible refine Kd.C_alloc ?_ _)|(with_reducible refine Kd.C_drewN ?_ _)|(with_reducible refine Kd.C_drew ?_)));(case side2=>exact l4.1);(case side3=>repeat (first|exact (Kd.C_below l5.1 I.1)|(with_reducible refine Kd.C_alloc ?_ _)|(with_reducible refine Kd.C_drewN ?_ _)|(with_reducible refine Kd.C_drew ?_)));(case side4=>exact l6.1);rintro e q8 ⟨n0,n1,rfl,Y,i6,hb⟩;refine ⟨_,rfl,?_⟩;have a0:=mk0 (Kd.R_lower Y (below_size (by repeat (first|(with_reducible first|exact I.1|apply below_alloc|apply pw_below_drewN|apply below_drew1|refine below_set ?_ G.1)|exact I.1))));have c9:=mk0 (Kd.R_lower i6 (below_size (by repeat (first|(with_reducible first|exact I.1|apply below_alloc|apply pw_below_drewN|apply below_drew1|refine below_set ?_ G.1)|exact I.1))));replace B:=mk0 (blk_below (g:=U) (o:=.cells #[.int .u8 Z,.slice a5 V.length a6,.slice a7 X.length a8] 55 (0,0)) (by (with_reducible repeat (first|refine blk_drewN ?_ _|refine blk_drew ?_|refine blk_alloc ?_ _));exact B.1) hb);replace I:=mk0 (below_step (by repeat (first|(with_reducible first|exact I.1|apply below_alloc|apply pw_below_drewN|apply below_drew1|refine below_set ?_ G.1)|exact I.1)) hb);(try clear hb);(try clear Y);(try clear i6);obtain ⟨n6,n7,n8⟩:=Kd.R_slice a0.1;subst n8)|((with_reducible refine gate_callee (f:=46) rfl ?_);refine goesL_ (some 26) rfl rfl Try.func46 (by kernel_rfl) rfl #[.int .i64 L,.slice n6 D.length n7] rfl (by (try simp only [m0_,m1_,m2_]);first|done|rfl|(simp only [l0_,l1_];rfl)) ?_;(with_reducible refine (count_Least.calls k L _ _ D E d4 _ ?side1 ?side2 A3.1).mono ?_);(case side1=>repeat (first|exact (Kd.R_reads' a0.1).2.2|(with_reducible refine Kd.C_alloc ?_ _)|(with_reducible refine Kd.C_drewN ?_ _)|(with_reducible refine Kd.C_drew ?_)));(case side2=>exact (Kd.R_reads' a0.1).2.1);rintro e q9 ⟨i3,rfl,Y,hb⟩;refine ⟨_,rfl,?_⟩;have d1:=mk0 (Kd.R_lower Y (below_size (by repeat (first|(with_reducible first|exact I.1|apply below_alloc|apply pw_below_drewN|apply below_drew1|refine below_set ?_ G.1)|exact I.1))));replace a0:=mk0 (Kd.R_elder' (by (with_reducible repeat (first|apply Kd.R_alloc|apply Kd.R_drewN|apply Kd.R_drew));exact a0.1) (Kd.R_base Y) hb);replace c9:=mk0 (Kd.R_elder' (by (with_reducible repeat (first|apply Kd.R_alloc|apply Kd.R_drewN|apply Kd.R_drew));exact c9.1) (Kd.R_base Y) hb);replace B:=mk0 (blk_below (g:=U) (o:=.cells #[.int .u8 Z,.slice a5 V.length a6,.slice a7 X.length a8] 55 (0,0)) (by (with_reducible repeat (first|refine blk_drewN ?_ _|refine blk_drew ?_|refine blk_alloc ?_ _));exact B.1) hb);replace I:=mk0 (below_step (by repeat (first|(with_reducible first|exact I.1|apply below_alloc|apply pw_below_drewN|apply below_drew1|refine below_set ?_ G.1)|exact I.1)) hb);(try clear hb);(try clear Y);obtain ⟨q2,q3,n9⟩:=Kd.R_slice d1.1;subst n9)|(go_at_call 22;(with_reducible refine (bellpulllaw05_lives.calls k  i2 _ A7.1).mono ?_);rintro e r0 ⟨rfl,hb⟩;replace a0:=mk0 (Kd.R_below (by (with_reducible repeat (first|apply Kd.R_alloc|apply Kd.R_drewN|apply Kd.R_drew));exact a0.1) hb);replace c9:=mk0 (Kd.R_below (by (with_reducible repeat (first|apply Kd.R_alloc|apply Kd.R_drewN|apply Kd.R_drew));exact c9.1) hb);replace d1:=mk0 (Kd.R_below (by (with_reducible repeat (first|apply Kd.R_alloc|apply Kd.R_drewN|apply Kd.R_drew));exact d1.1) hb);replace B:=mk0 (blk_below (g:=U) (o:=.cells #[.int .u8 Z,.slice a5 V.length a6,.slice a7 X.length a8] 55 (0,0)) (by (with_reducible repeat (first|refine blk_drewN ?_ _|refine blk_drew ?_|refine blk_alloc ?_ _));exact B.1) hb);replace I:=mk0 (below_step (by repeat (first|(with_reducible first|exact I.1|apply below_alloc|apply pw_below_drewN|apply below_drew1|refine below_set ?_ G.1)|exact I.1)) hb);(try clear hb)))
    go_ret;exact ⟨by first|rfl|(simp [errW_none,errW_some] <;> rfl)|(simp [*,errW_none,errW_some] <;> rfl),by repeat (first|(with_reducible first|exact I.1|apply below_alloc|apply pw_below_drewN|apply below_drew1|refine below_set ?_ G.1)|exact I.1)⟩
   ·
    rw [if_neg c6] at H;exact absurd H (by simp)
  ·
   rw [if_neg c5] at H;exact absurd H (by simp)
 ·
  rw [if_neg c4] at H;have c4b0:((D.length:Int) == 0)=false:=beq_eq_false_iff_ne.mpr c4;have c4b1:((D.length:Int) != 0)=true:=bne_iff_ne.mpr c4;have c4b2:¬ (D=[]):=fun h_=>c4 (by rw [h_];rfl);have j3:=mk0 H;clear H;go_enter Try.func16,Try.ntmps16;go_upto_region 5 with (first|((with_reducible refine gate_dst (N:=1) rfl ?_);(try (refine gate_guard (by rfl) ?_;dsimp only));refine box_event ?hg (N:=1) ?hd (cs:=#[.int .u8 Z,.slice a5 V.length a6,.slice a7 X.length a8]) (t:=55) ?hr ?_;(case hd=>rfl);(case hg=>rfl);(case hr=>first|(go_simp;done)|(go_simp;rfl));intro U hg r1 h2 hb;have B:=mk0 (h2);have m1:=mk0 ((by rw [hg];exact (below_size (by repeat (first|(with_reducible first|exact I.1|apply below_alloc|apply pw_below_drewN|apply below_drew1)|exact I.1))):w.heap.size ≤ U));have G:=mk0 ((by rw [hg];exact (below_size (by repeat (first|(with_reducible first|exact I.1|apply below_alloc|apply pw_below_drewN|apply below_drew1)|exact I.1))):w.heap.size ≤ U));replace I:=mk0 (below_step (by repeat (first|(with_reducible first|exact I.1|apply below_alloc|apply pw_below_drewN|apply below_drew1)|exact I.1)) hb);clear hb h2 hg;have d7:=q0_ B;have d8:=q1_ B;have d9:=q2_ B;have e0:=blk_frozen B.1 0;have e1:=blk_frozen B.1 1;have e2:=blk_frozen B.1 2)|((with_reducible refine gate_callee (f:=33) rfl ?_);refine goesL_ (some 19) rfl rfl Try.func33 (by kernel_rfl) rfl #[.agg #[.int .u8 Z,.slice a5 V.length a6,.slice a7 X.length a8],.int .i64 8] rfl (by (try simp only [m0_,m1_,m2_]);first|done|rfl|(simp only [l0_,l1_];rfl)) ?_;(with_reducible refine (bellpulllaw05_Plan_sets.calls Z _ _ V _ _ X 8 L D l7 _ ?side1 ?side2 ?side3 ?side4 A2.1).mono ?_);(case side1=>repeat (first|exact (Kd.C_below l3.1 I.1)|(with_reducible refine Kd.C_alloc ?_ _)|(with_reducible refine Kd.C_drewN ?_ _)|(with_reducible refine Kd.C_drew ?_)));(case side2=>exact l4.1);(case side3=>repeat (first|exact (Kd.C_below l5.1 I.1)|(with_reducible refine Kd.C_alloc ?_ _)|(with_reducible refine Kd.C_drewN ?_ _)|(with_reducible refine Kd.C_drew ?_)));(case side4=>exact l6.1);rintro e r2 ⟨n0,n1,rfl,Y,i6,hb⟩;refine ⟨_,rfl,?_⟩;have a0:=mk0 (Kd.R_lower Y (below_size (by repeat (first|(with_reducible first|exact I.1|apply below_alloc|apply pw_below_drewN|apply below_drew1|refine below_set ?_ G.1)|exact I.1))));have c9:=mk0 (Kd.R_lower i6 (below_size (by repeat (first|(with_reducible first|exact I.1|apply below_alloc|apply pw_below_drewN|apply below_drew1|refine below_set ?_ G.1)|exact I.1))));replace B:=mk0 (blk_below (g:=U) (o:=.cells #[.int .u8 Z,.slice a5 V.length a6,.slice a7 X.length a8] 55 (0,0)) (by (with_reducible repeat (first|refine blk_drewN ?_ _|refine blk_drew ?_|refine blk_alloc ?_ _));exact B.1) hb);replace I:=mk0 (below_step (by repeat (first|(with_reducible first|exact I.1|apply below_alloc|apply pw_below_drewN|apply below_drew1|refine below_set ?_ G.1)|exact I.1)) hb);(try clear hb);(try clear Y);(try clear i6);obtain ⟨f6,f7,o0⟩:=Kd.R_slice a0.1;subst o0)|((with_reducible refine gate_callee (f:=46) rfl ?_);refine goesL_ (some 26) rfl rfl Try.func46 (by kernel_rfl) rfl #[.int .i64 L,.slice f6 D.length f7] rfl (by (try simp only [m0_,m1_,m2_]);first|done|rfl|(simp only [l0_,l1_];rfl)) ?_;(with_reducible refine (count_Least.calls k L _ _ D E d4 _ ?side1 ?side2 A3.1).mono ?_);(case side1=>repeat (first|exact (Kd.R_reads' a0.1).2.2|(with_reducible refine Kd.C_alloc ?_ _)|(with_reducible refine Kd.C_drewN ?_ _)|(with_reducible refine Kd.C_drew ?_)));(case side2=>exact (Kd.R_reads' a0.1).2.1);rintro e r3 ⟨i3,rfl,Y,hb⟩;refine ⟨_,rfl,?_⟩;have d1:=mk0 (Kd.R_lower Y (below_size (by repeat (first|(with_reducible first|exact I.1|apply below_alloc|apply pw_below_drewN|apply below_drew1|refine below_set ?_ G.1)|exact I.1))));replace a0:=mk0 (Kd.R_elder' (by (with_reducible repeat (first|apply Kd.R_alloc|apply Kd.R_drewN|apply Kd.R_drew));exact a0.1) (Kd.R_base Y) hb);replace c9:=mk0 (Kd.R_elder' (by (with_reducible repeat (first|apply Kd.R_alloc|apply Kd.R_drewN|apply Kd.R_drew));exact c9.1) (Kd.R_base Y) hb);replace B:=mk0 (blk_below (g:=U) (o:=.cells #[.int .u8 Z,.slice a5 V.length a6,.slice a7 X.length a8] 55 (0,0)) (by (with_reducible repeat (first|refine blk_drewN ?_ _|refine blk_drew ?_|refine blk_alloc ?_ _));exact B.1) hb);replace I:=mk0 (below_step (by repeat (first|(with_reducible first|exact I.1|apply below_alloc|apply pw_below_drewN|apply below_drew1|refine below_set ?_ G.1)|exact I.1)) hb);(try clear hb);(try clear Y)))
  (try simp only [Act.put,s0_,s1_,s2_])
  go_cut [53] (fun o7 wc=>∃ (kq:Nat) (g4:Bool),o7=.bool g4∧Aside0 (bellpulllaw05_CountLeast.j0 kq L D E g4=some r)∧Aside0 (kq ≤ k)∧Aside0 (Kd.R k60 60 wc w.heap.size (fun k_=>some k_ ≠ (i3:Value).ownBlock) (.slice f6 D.length f7) D)∧Aside0 (Kd.R (Kd.int .i64) 3 wc w.heap.size (fun _=>True) i3 E)∧Aside0 (wc.heap[U]?=some (.cells #[.int .u8 Z,(.slice a5 V.length a6),(.slice a7 X.length a8)] 55 (0,0)))∧Aside0 (Below w.heap.size w wc))
  case first =>
   have H:=j3.1;clear j3
   by_cases c21:d4=0
   ·
    rw [if_pos c21] at H;have c21b0:(d4 == 0)=true:=beq_iff_eq.mpr c21;have c21b1:(d4 != 0)=false:=bne_eq_false_iff_eq.mpr c21;clear c21;(first|rw [c21b0]|(simp only [i64_w,i32_w];rw [c21b0])|skip)
    by_cases c22:(E.length:Int)=L
    ·
     rw [if_pos c22] at H;have c22b0:((E.length:Int) == L)=true:=beq_iff_eq.mpr c22;have c22b1:((E.length:Int) != L)=false:=bne_eq_false_iff_eq.mpr c22;clear c22;replace H:=Option.bind_eq_some_iff.mp H;obtain ⟨g9,m2,H⟩:=H;(try dsimp only at H);have o8:=mk0 m2;clear m2;have H':=mk0 H;clear H;obtain ⟨q4,q5,o1⟩:=Kd.R_slice d1.1;subst o1;go_wp2_with (first|(go_at_call 22;(with_reducible refine (bellpulllaw05_lives.calls k  g9 _ o8.1).mono ?_);rintro e r4 ⟨rfl,hb⟩;replace a0:=mk0 (Kd.R_below (by (with_reducible repeat (first|apply Kd.R_alloc|apply Kd.R_drewN|apply Kd.R_drew));exact a0.1) hb);replace c9:=mk0 (Kd.R_below (by (with_reducible repeat (first|apply Kd.R_alloc|apply Kd.R_drewN|apply Kd.R_drew));exact c9.1) hb);replace d1:=mk0 (Kd.R_below (by (with_reducible repeat (first|apply Kd.R_alloc|apply Kd.R_drewN|apply Kd.R_drew));exact d1.1) hb);replace B:=mk0 (blk_below (g:=U) (o:=.cells #[.int .u8 Z,.slice a5 V.length a6,.slice a7 X.length a8] 55 (0,0)) (by (with_reducible repeat (first|refine blk_drewN ?_ _|refine blk_drew ?_|refine blk_alloc ?_ _));exact B.1) hb);replace I:=mk0 (below_step (by repeat (first|(with_reducible first|exact I.1|apply below_alloc|apply pw_below_drewN|apply below_drew1|refine below_set ?_ G.1)|exact I.1)) hb);(try clear hb)));go_meet
     case rel=>exact ⟨_,(!g9),(by first|rfl|(simp;done)|(simp [*];done)),H',⟨by first|omega|exact Nat.le_refl _⟩,⟨by (with_reducible repeat (first|apply Kd.R_alloc|apply Kd.R_drewN|apply Kd.R_drew));exact Kd.R_mono a0.1 (fun _ hk=>hk.2)⟩,⟨by (with_reducible repeat (first|apply Kd.R_alloc|apply Kd.R_drewN|apply Kd.R_drew));exact d1.1⟩,⟨by (with_reducible repeat (first|refine blk_drewN ?_ _|refine blk_drew ?_|refine blk_alloc ?_ _));exact B.1⟩,⟨by repeat (first|(with_reducible first|exact I.1|apply below_alloc|apply pw_below_drewN|apply below_drew1|refine below_set ?_ G.1)|exact I.1)⟩⟩
    ·
     rw [if_neg c22] at H;exact absurd H (by simp)
   ·
    rw [if_neg c21] at H;exact absurd H (by simp)
  case rest =>
   clear j3;try clear c1
   try clear c2
   try clear p2
   try clear c3
   try clear c4
   try clear c4b0
   try clear c4b1
   try clear c4b2
   try clear c5
   try clear c5b0
   try clear c5b1
   try clear c6
   try clear c6b0
   try clear c6b1
   try clear c16
   try clear c21
   try clear c21b0
   try clear c21b1
   try clear c22
   try clear c22b0
   try clear c22b1
   try clear d7
   try clear d8
   try clear d9
   try clear e8
   try clear e9
   try clear f2
   try clear e0
   try clear e1
   try clear e2
   try clear f3
   try clear f4
   try clear f5
   obtain ⟨kq,g4,rfl,HA,d2,M,J,B,I⟩:=hcut;cases kq with
   | zero=>exact absurd HA.1 (by simp [bellpulllaw05_CountLeast.j0])
   | succ kj14 =>
    have H:=HA.1;clear HA;simp only [bellpulllaw05_CountLeast.j0] at H
    by_cases g8:g4=true
    ·
     subst g8;have H1:(none)=some r:=by rw [if_pos rfl] at H;exact H
     clear H;have H:=H1;clear H1;exact absurd H (by simp)
    ·
     replace g8:=Bool.eq_false_iff.mpr g8;subst g8;have H1:((count_Has.f kj14 L D E).bind fun i7=>(bellpulllaw05_CountLeast.l0 kj14 L D E i7.1 i7.2 false 0))=some r:=by rw [if_neg (show ¬ (false=true) by decide)] at H;exact H
     clear H;have H:=H1;clear H1;replace H:=Option.bind_eq_some_iff.mp H;obtain ⟨⟨d5,d0⟩,m3,H⟩:=H;(try dsimp only at H);have o9:=mk0 m3;clear m3;have H':=mk0 H;clear H;obtain ⟨c7,c8,o2⟩:=Kd.R_slice J.1;subst o2;go_wp2_with (first|((with_reducible refine gate_callee (f:=23) rfl ?_);refine goesL_ (some 58) rfl rfl Try.func23 (by kernel_rfl) rfl #[.int .i64 L,.slice f6 D.length f7,.slice c7 E.length c8] rfl (by (try simp only [m0_,m1_,m2_]);first|done|rfl|(simp only [l0_,l1_];rfl)) ?_;(with_reducible refine (count_Has.calls kj14 L (fun k_=>(some k_ ≠ (.slice c7 E.length c8:Value).ownBlock∧k_ ≠ U)) _ _ D _ _ E d5 d0 _ ?side1 ?side2 ?side3 o9.1).mono ?_);(case side1=>exact Kd.R_V (Kd.R_types (M.1) B.1 (by decide)));(case side2=>repeat (first|exact (Kd.R_reads' J.1).2.2|(with_reducible refine Kd.C_alloc ?_ _)|(with_reducible refine Kd.C_drewN ?_ _)|(with_reducible refine Kd.C_drew ?_)));(case side3=>exact (Kd.R_reads' J.1).2.1);rintro e r5 ⟨rfl,hb⟩;refine ⟨_,rfl,?_⟩;replace M:=mk0 (Kd.R_below (by (with_reducible repeat (first|apply Kd.R_alloc|apply Kd.R_drewN|apply Kd.R_drew));exact M.1) hb);replace J:=mk0 (Kd.R_below (by (with_reducible repeat (first|apply Kd.R_alloc|apply Kd.R_drewN|apply Kd.R_drew));exact J.1) hb);replace B:=mk0 (blk_below (g:=U) (o:=.cells #[.int .u8 Z,.slice a5 V.length a6,.slice a7 X.length a8] 55 (0,0)) (by (with_reducible repeat (first|refine blk_drewN ?_ _|refine blk_drew ?_|refine blk_alloc ?_ _));exact B.1) hb);replace I:=mk0 (below_step (by repeat (first|(with_reducible first|exact I.1|apply below_alloc|apply pw_below_drewN|apply below_drew1|refine below_set ?_ G.1)|exact I.1)) hb);(try clear hb)))
     go_loopg [10,11] kj14 (fun kq p0 p3 w'=>∃ (g0:Bool) (F:Int),p0=.bool g0∧p3=.int .i64 F∧Aside0 (bellpulllaw05_CountLeast.l0 kq L D E d5 d0 g0 F=some r)∧Aside0 (kq ≤ kj14)∧Aside0 (Kd.R k60 60 w' w.heap.size (fun k_=>some k_ ≠ ((.slice c7 E.length c8):Value).ownBlock) (.slice f6 D.length f7) D)∧Aside0 (Kd.R (Kd.int .i64) 3 w' w.heap.size (fun _=>True) (.slice c7 E.length c8) E)∧Aside0 (w'.heap[U]?=some (.cells #[.int .u8 Z,(.slice a5 V.length a6),(.slice a7 X.length a8)] 55 (0,0)))∧Aside0 (Below w.heap.size w w'))
     case atStart=>exact ⟨(false),(0),(by first|rfl|(simp;done)|(simp [*];done)),(by first|rfl|(simp;done)|(simp [*];done)),H',⟨Nat.le_refl _⟩,⟨by (with_reducible repeat (first|apply Kd.R_alloc|apply Kd.R_drewN|apply Kd.R_drew));exact M.1⟩,⟨by (with_reducible repeat (first|apply Kd.R_alloc|apply Kd.R_drewN|apply Kd.R_drew));exact J.1⟩,⟨by (with_reducible repeat (first|refine blk_drewN ?_ _|refine blk_drew ?_|refine blk_alloc ?_ _));exact B.1⟩,⟨by repeat (first|(with_reducible first|exact I.1|apply below_alloc|apply pw_below_drewN|apply below_drew1|refine below_set ?_ G.1)|exact I.1)⟩⟩
     case round =>
      clear H';try clear c1
      try clear c2
      try clear p2
      try clear c3
      try clear c4
      try clear c4b0
      try clear c4b1
      try clear c4b2
      try clear c5
      try clear c5b0
      try clear c5b1
      try clear c6
      try clear c6b0
      try clear c6b1
      try clear c16
      try clear c21
      try clear c21b0
      try clear c21b1
      try clear c22
      try clear c22b0
      try clear c22b1
      try clear c23
      try clear g8
      try clear d7
      try clear d8
      try clear d9
      try clear e8
      try clear e9
      try clear f2
      try clear e0
      try clear e1
      try clear e2
      try clear f3
      try clear f4
      try clear f5
      try clear p2
      obtain ⟨g0,F,rfl,rfl,HA,f8,M,J,B,I⟩:=hrel;cases gk with
      | zero=>exact absurd HA.1 (by simp [bellpulllaw05_CountLeast.l0])
      | succ k2 =>
       have H:=HA.1;clear HA;simp only [bellpulllaw05_CountLeast.l0] at H
       by_cases c30:F < (D.length:Int)
       ·
        rw [if_pos c30] at H;have c30b0:decide (F < (D.length:Int))=true:=decide_eq_true c30;clear c30
        by_cases c31:0 ≤ F
        ·
         rw [if_pos c31] at H;have c31b0:decide (0 ≤ F)=true:=decide_eq_true c31;clear c31;replace H:=Option.bind_eq_some_iff.mp H;obtain ⟨⟨g1,i4⟩,m4,H⟩:=H;(try dsimp only at H);have m5:=mk0 m4;clear m4
         by_cases h3:g0=true
         ·
          subst h3;have H1:(bellpulllaw05_CountLeast.l0 k2 L D E d5 d0 true (wrap64 (F + 1)))=some r:=by rw [if_pos rfl] at H;exact H
          clear H;have H:=H1;clear H1;have H':=mk0 H;clear H;have a9:0 ≤ (F:Int):=of_decide_eq_true (by first|(with_reducible assumption)|assumption);have b0:F < (D.length:Int):=of_decide_eq_true (by first|(with_reducible assumption)|assumption);obtain ⟨i8,e3,e4,h9,i0,g5,b3,b4,b5,b6,b7,b8⟩:=at_T60 (Kd.R_reads' M.1).2.2 F a9 b0;cases g5;obtain ⟨i9,e5,e6,b1⟩:=Kd.R_get M.1 z60 F a9 (by first|exact b0|exact of_decide_eq_true (by first|(with_reducible assumption)|assumption)|(have e_:=(Kd.R_reads' M.1).1;omega));obtain ⟨h4,h5,rfl,a1,a2⟩:=k60_openM e6;have O:=b1 0 _ rfl;rw [Nat.add_zero] at O;replace O:=Option.some.inj (O.symm.trans b3);rw [O] at a1;have a3:=mk0 (show Kd.R (Kd.int .i64) 3 _ _ _ _ ((rd_T60 D F).f0) from a1);clear O a1;have Q:=b1 1 _ rfl;rw [add_field _ _ 1 (by omega)] at Q;replace Q:=Option.some.inj (Q.symm.trans b4);rw [Q] at a2;have b9:=mk0 (show Kd.R (Kd.slice 3 (Kd.int .i64)) 23 _ _ _ _ ((rd_T60 D F).f1) from a2);clear Q a2;clear b1 e5;have T:=mk0 b6;have d3:=mk0 b5;clear b6 b5;have a4:=mk0 b8;have h6:=mk0 b7;clear b8 b7;replace a9:=eq_true a9;replace b0:=eq_true b0;go_wp2_with (first|((with_reducible refine gate_callee (f:=38) rfl ?_);refine goesL_ (some 74) rfl rfl Try.func38 (by kernel_rfl) rfl #[.slice e3 ((rd_T60 D F).f0).length e4,.slice c7 E.length c8] rfl (by (try simp only [m0_,m1_,m2_]);first|done|rfl|(simp only [l0_,l1_];rfl)) ?_;(with_reducible refine (bellpullref05_Less.calls k2 _ _ ((rd_T60 D F).f0) _ _ E g1 i4 _ ?side1 ?side2 ?side3 ?side4 m5.1).mono ?_);(case side1=>repeat (first|exact (by repeat (first|(with_reducible exact T.1)|(with_reducible refine Kd.C_alloc ?_ _)|(with_reducible refine Kd.C_drewN ?_ _)|(with_reducible refine Kd.C_drew ?_)|exact T.1))|(with_reducible refine Kd.C_alloc ?_ _)|(with_reducible refine Kd.C_drewN ?_ _)|(with_reducible refine Kd.C_drew ?_)));(case side2=>exact d3.1);(case side3=>repeat (first|exact (Kd.R_reads' J.1).2.2|(with_reducible refine Kd.C_alloc ?_ _)|(with_reducible refine Kd.C_drewN ?_ _)|(with_reducible refine Kd.C_drew ?_)));(case side4=>exact (Kd.R_reads' J.1).2.1);rintro e r6 ⟨l8,rfl,Y,hb⟩;refine ⟨_,rfl,?_⟩;have f9:=mk0 (Kd.R_lower (Kd.R_new' (Kd.R_new' Y (Kd.R_lt (by (with_reducible repeat (first|apply Kd.R_alloc|apply Kd.R_drewN|apply Kd.R_drew));exact J.1))) (Kd.R_lt (by (with_reducible repeat (first|apply Kd.R_alloc|apply Kd.R_drewN|apply Kd.R_drew));exact a3.1))) (below_size (by repeat (first|(with_reducible first|exact I.1|apply below_alloc|apply pw_below_drewN|apply below_drew1|refine below_set ?_ G.1)|exact I.1))));replace M:=mk0 (Kd.R_elder' (by (with_reducible repeat (first|apply Kd.R_alloc|apply Kd.R_drewN|apply Kd.R_drew));exact M.1) (Kd.R_base Y) hb);replace J:=mk0 (Kd.R_elder' (by (with_reducible repeat (first|apply Kd.R_alloc|apply Kd.R_drewN|apply Kd.R_drew));exact J.1) (Kd.R_base Y) hb);replace a3:=mk0 (Kd.R_elder' (by (with_reducible repeat (first|apply Kd.R_alloc|apply Kd.R_drewN|apply Kd.R_drew));exact a3.1) (Kd.R_base Y) hb);replace b9:=mk0 (Kd.R_elder' (by (with_reducible repeat (first|apply Kd.R_alloc|apply Kd.R_drewN|apply Kd.R_drew));exact b9.1) (Kd.R_base Y) hb);replace B:=mk0 (blk_below (g:=U) (o:=.cells #[.int .u8 Z,.slice a5 V.length a6,.slice a7 X.length a8] 55 (0,0)) (by (with_reducible repeat (first|refine blk_drewN ?_ _|refine blk_drew ?_|refine blk_alloc ?_ _));exact B.1) hb);replace T:=mk0 (Kd.C_below (by repeat (first|(with_reducible exact T.1)|(with_reducible refine Kd.C_alloc ?_ _)|(with_reducible refine Kd.C_drewN ?_ _)|(with_reducible refine Kd.C_drew ?_)|exact T.1)) hb);replace a4:=mk0 (Kd.C_below (by repeat (first|(with_reducible exact a4.1)|(with_reducible refine Kd.C_alloc ?_ _)|(with_reducible refine Kd.C_drewN ?_ _)|(with_reducible refine Kd.C_drew ?_)|exact a4.1)) hb);replace I:=mk0 (below_step (by repeat (first|(with_reducible first|exact I.1|apply below_alloc|apply pw_below_drewN|apply below_drew1|refine below_set ?_ G.1)|exact I.1)) hb);(try clear hb);(try clear Y)))
          go_roundg k2
          case measure=>have:=d2.1;have:=f8.1;omega
          case rel=>exact ⟨(true),(wrap64 (F + 1)),(by first|rfl|(simp;done)|(simp [*];done)),(by first|rfl|(simp;done)|(simp [*];done)),H',⟨by have:=d2.1;have:=f8.1;omega⟩,⟨by (with_reducible repeat (first|apply Kd.R_alloc|apply Kd.R_drewN|apply Kd.R_drew));exact Kd.R_mono M.1 (fun _ hk=>hk.1)⟩,⟨by (with_reducible repeat (first|apply Kd.R_alloc|apply Kd.R_drewN|apply Kd.R_drew));exact Kd.R_mono J.1 (fun _ hk=>trivial)⟩,⟨by (with_reducible repeat (first|refine blk_drewN ?_ _|refine blk_drew ?_|refine blk_alloc ?_ _));exact B.1⟩,⟨by repeat (first|(with_reducible first|exact I.1|apply below_alloc|apply pw_below_drewN|apply below_drew1|refine below_set ?_ G.1)|exact I.1)⟩⟩
         ·
          replace h3:=Bool.eq_false_iff.mpr h3;subst h3;have H1:(if i4=true then ((bellpullref05_Total.f k2 g1).bind fun g2=>(bellpulllaw05_CountLeast.l0 k2 L D E d5 d0 (g2 == 0) (wrap64 (F + 1)))) else (bellpulllaw05_CountLeast.l0 k2 L D E d5 d0 false (wrap64 (F + 1))))=some r:=by rw [if_neg (show ¬ (false=true) by decide)] at H;exact H
          clear H;have H:=H1;clear H1
          by_cases h7:i4=true
          ·
           subst h7;have H1:((bellpullref05_Total.f k2 g1).bind fun g2=>(bellpulllaw05_CountLeast.l0 k2 L D E d5 d0 (g2 == 0) (wrap64 (F + 1))))=some r:=by rw [if_pos rfl] at H;exact H
           clear H;have H:=H1;clear H1;replace H:=Option.bind_eq_some_iff.mp H;obtain ⟨g2,m6,H⟩:=H;(try dsimp only at H);have p4:=mk0 m6;clear m6;have H':=mk0 H;clear H;have a9:0 ≤ (F:Int):=of_decide_eq_true (by first|(with_reducible assumption)|assumption);have b0:F < (D.length:Int):=of_decide_eq_true (by first|(with_reducible assumption)|assumption);obtain ⟨i8,e3,e4,h9,i0,g5,b3,b4,b5,b6,b7,b8⟩:=at_T60 (Kd.R_reads' M.1).2.2 F a9 b0;cases g5;obtain ⟨i9,e5,e6,b1⟩:=Kd.R_get M.1 z60 F a9 (by first|exact b0|exact of_decide_eq_true (by first|(with_reducible assumption)|assumption)|(have e_:=(Kd.R_reads' M.1).1;omega));obtain ⟨h4,h5,rfl,a1,a2⟩:=k60_openM e6;have O:=b1 0 _ rfl;rw [Nat.add_zero] at O;replace O:=Option.some.inj (O.symm.trans b3);rw [O] at a1;have a3:=mk0 (show Kd.R (Kd.int .i64) 3 _ _ _ _ ((rd_T60 D F).f0) from a1);clear O a1;have Q:=b1 1 _ rfl;rw [add_field _ _ 1 (by omega)] at Q;replace Q:=Option.some.inj (Q.symm.trans b4);rw [Q] at a2;have b9:=mk0 (show Kd.R (Kd.slice 3 (Kd.int .i64)) 23 _ _ _ _ ((rd_T60 D F).f1) from a2);clear Q a2;clear b1 e5;have T:=mk0 b6;have d3:=mk0 b5;clear b6 b5;have a4:=mk0 b8;have h6:=mk0 b7;clear b8 b7;replace a9:=eq_true a9;replace b0:=eq_true b0;go_wp2_with (first|((with_reducible refine gate_callee (f:=38) rfl ?_);refine goesL_ (some 74) rfl rfl Try.func38 (by kernel_rfl) rfl #[.slice e3 ((rd_T60 D F).f0).length e4,.slice c7 E.length c8] rfl (by (try simp only [m0_,m1_,m2_]);first|done|rfl|(simp only [l0_,l1_];rfl)) ?_;(with_reducible refine (bellpullref05_Less.calls k2 _ _ ((rd_T60 D F).f0) _ _ E g1 true _ ?side1 ?side2 ?side3 ?side4 m5.1).mono ?_);(case side1=>repeat (first|exact (by repeat (first|(with_reducible exact T.1)|(with_reducible refine Kd.C_alloc ?_ _)|(with_reducible refine Kd.C_drewN ?_ _)|(with_reducible refine Kd.C_drew ?_)|exact T.1))|(with_reducible refine Kd.C_alloc ?_ _)|(with_reducible refine Kd.C_drewN ?_ _)|(with_reducible refine Kd.C_drew ?_)));(case side2=>exact d3.1);(case side3=>repeat (first|exact (Kd.R_reads' J.1).2.2|(with_reducible refine Kd.C_alloc ?_ _)|(with_reducible refine Kd.C_drewN ?_ _)|(with_reducible refine Kd.C_drew ?_)));(case side4=>exact (Kd.R_reads' J.1).2.1);rintro e r7 ⟨l8,rfl,Y,hb⟩;refine ⟨_,rfl,?_⟩;have f9:=mk0 (Kd.R_lower (Kd.R_new' (Kd.R_new' Y (Kd.R_lt (by (with_reducible repeat (first|apply Kd.R_alloc|apply Kd.R_drewN|apply Kd.R_drew));exact J.1))) (Kd.R_lt (by (with_reducible repeat (first|apply Kd.R_alloc|apply Kd.R_drewN|apply Kd.R_drew));exact a3.1))) (below_size (by repeat (first|(with_reducible first|exact I.1|apply below_alloc|apply pw_below_drewN|apply below_drew1|refine below_set ?_ G.1)|exact I.1))));replace M:=mk0 (Kd.R_elder' (by (with_reducible repeat (first|apply Kd.R_alloc|apply Kd.R_drewN|apply Kd.R_drew));exact M.1) (Kd.R_base Y) hb);replace J:=mk0 (Kd.R_elder' (by (with_reducible repeat (first|apply Kd.R_alloc|apply Kd.R_drewN|apply Kd.R_drew));exact J.1) (Kd.R_base Y) hb);replace a3:=mk0 (Kd.R_elder' (by (with_reducible repeat (first|apply Kd.R_alloc|apply Kd.R_drewN|apply Kd.R_drew));exact a3.1) (Kd.R_base Y) hb);replace b9:=mk0 (Kd.R_elder' (by (with_reducible repeat (first|apply Kd.R_alloc|apply Kd.R_drewN|apply Kd.R_drew));exact b9.1) (Kd.R_base Y) hb);replace B:=mk0 (blk_below (g:=U) (o:=.cells #[.int .u8 Z,.slice a5 V.length a6,.slice a7 X.length a8] 55 (0,0)) (by (with_reducible repeat (first|refine blk_drewN ?_ _|refine blk_drew ?_|refine blk_alloc ?_ _));exact B.1) hb);replace T:=mk0 (Kd.C_below (by repeat (first|(with_reducible exact T.1)|(with_reducible refine Kd.C_alloc ?_ _)|(with_reducible refine Kd.C_drewN ?_ _)|(with_reducible refine Kd.C_drew ?_)|exact T.1)) hb);replace a4:=mk0 (Kd.C_below (by repeat (first|(with_reducible exact a4.1)|(with_reducible refine Kd.C_alloc ?_ _)|(with_reducible refine Kd.C_drewN ?_ _)|(with_reducible refine Kd.C_drew ?_)|exact a4.1)) hb);replace I:=mk0 (below_step (by repeat (first|(with_reducible first|exact I.1|apply below_alloc|apply pw_below_drewN|apply below_drew1|refine below_set ?_ G.1)|exact I.1)) hb);(try clear hb);(try clear Y);obtain ⟨q6,q7,o3⟩:=Kd.R_slice f9.1;subst o3)|(go_at_call 45;(with_reducible refine (bellpullref05_Total.calls k2 _ _ g1 g2 _ ?side1 ?side2 p4.1).mono ?_);(case side1=>repeat (first|exact (Kd.R_reads' f9.1).2.2|(with_reducible refine Kd.C_alloc ?_ _)|(with_reducible refine Kd.C_drewN ?_ _)|(with_reducible refine Kd.C_drew ?_)));(case side2=>exact (Kd.R_reads' f9.1).2.1);rintro e w' ⟨rfl,⟨nd,rfl⟩⟩))
           go_roundg k2
           case measure=>have:=d2.1;have:=f8.1;omega
           case rel=>exact ⟨((g2 == 0)),(wrap64 (F + 1)),(by first|rfl|(simp;done)|(simp [*];done)),(by first|rfl|(simp;done)|(simp [*];done)),H',⟨by have:=d2.1;have:=f8.1;omega⟩,⟨by (with_reducible repeat (first|apply Kd.R_alloc|apply Kd.R_drewN|apply Kd.R_drew));exact Kd.R_mono M.1 (fun _ hk=>hk.1)⟩,⟨by (with_reducible repeat (first|apply Kd.R_alloc|apply Kd.R_drewN|apply Kd.R_drew));exact Kd.R_mono J.1 (fun _ hk=>trivial)⟩,⟨by (with_reducible repeat (first|refine blk_drewN ?_ _|refine blk_drew ?_|refine blk_alloc ?_ _));exact B.1⟩,⟨by repeat (first|(with_reducible first|exact I.1|apply below_alloc|apply pw_below_drewN|apply below_drew1|refine below_set ?_ G.1)|exact I.1)⟩⟩
          ·
           replace h7:=Bool.eq_false_iff.mpr h7;subst h7;have H1:(bellpulllaw05_CountLeast.l0 k2 L D E d5 d0 false (wrap64 (F + 1)))=some r:=by rw [if_neg (show ¬ (false=true) by decide)] at H;exact H
           clear H;have H:=H1;clear H1;have H':=mk0 H;clear H;have a9:0 ≤ (F:Int):=of_decide_eq_true (by first|(with_reducible assumption)|assumption);have b0:F < (D.length:Int):=of_decide_eq_true (by first|(with_reducible assumption)|assumption);obtain ⟨i8,e3,e4,h9,i0,g5,b3,b4,b5,b6,b7,b8⟩:=at_T60 (Kd.R_reads' M.1).2.2 F a9 b0;cases g5;obtain ⟨i9,e5,e6,b1⟩:=Kd.R_get M.1 z60 F a9 (by first|exact b0|exact of_decide_eq_true (by first|(with_reducible assumption)|assumption)|(have e_:=(Kd.R_reads' M.1).1;omega));obtain ⟨h4,h5,rfl,a1,a2⟩:=k60_openM e6;have O:=b1 0 _ rfl;rw [Nat.add_zero] at O;replace O:=Option.some.inj (O.symm.trans b3);rw [O] at a1;have a3:=mk0 (show Kd.R (Kd.int .i64) 3 _ _ _ _ ((rd_T60 D F).f0) from a1);clear O a1;have Q:=b1 1 _ rfl;rw [add_field _ _ 1 (by omega)] at Q;replace Q:=Option.some.inj (Q.symm.trans b4);rw [Q] at a2;have b9:=mk0 (show Kd.R (Kd.slice 3 (Kd.int .i64)) 23 _ _ _ _ ((rd_T60 D F).f1) from a2);clear Q a2;clear b1 e5;have T:=mk0 b6;have d3:=mk0 b5;clear b6 b5;have a4:=mk0 b8;have h6:=mk0 b7;clear b8 b7;replace a9:=eq_true a9;replace b0:=eq_true b0;go_wp2_with (first|((with_reducible refine gate_callee (f:=38) rfl ?_);refine goesL_ (some 74) rfl rfl Try.func38 (by kernel_rfl) rfl #[.slice e3 ((rd_T60 D F).f0).length e4,.slice c7 E.length c8] rfl (by (try simp only [m0_,m1_,m2_]);first|done|rfl|(simp only [l0_,l1_];rfl)) ?_;(with_reducible refine (bellpullref05_Less.calls k2 _ _ ((rd_T60 D F).f0) _ _ E g1 false _ ?side1 ?side2 ?side3 ?side4 m5.1).mono ?_);(case side1=>repeat (first|exact (by repeat (first|(with_reducible exact T.1)|(with_reducible refine Kd.C_alloc ?_ _)|(with_reducible refine Kd.C_drewN ?_ _)|(with_reducible refine Kd.C_drew ?_)|exact T.1))|(with_reducible refine Kd.C_alloc ?_ _)|(with_reducible refine Kd.C_drewN ?_ _)|(with_reducible refine Kd.C_drew ?_)));(case side2=>exact d3.1);(case side3=>repeat (first|exact (Kd.R_reads' J.1).2.2|(with_reducible refine Kd.C_alloc ?_ _)|(with_reducible refine Kd.C_drewN ?_ _)|(with_reducible refine Kd.C_drew ?_)));(case side4=>exact (Kd.R_reads' J.1).2.1);rintro e r8 ⟨l8,rfl,Y,hb⟩;refine ⟨_,rfl,?_⟩;have f9:=mk0 (Kd.R_lower (Kd.R_new' (Kd.R_new' Y (Kd.R_lt (by (with_reducible repeat (first|apply Kd.R_alloc|apply Kd.R_drewN|apply Kd.R_drew));exact J.1))) (Kd.R_lt (by (with_reducible repeat (first|apply Kd.R_alloc|apply Kd.R_drewN|apply Kd.R_drew));exact a3.1))) (below_size (by repeat (first|(with_reducible first|exact I.1|apply below_alloc|apply pw_below_drewN|apply below_drew1|refine below_set ?_ G.1)|exact I.1))));replace M:=mk0 (Kd.R_elder' (by (with_reducible repeat (first|apply Kd.R_alloc|apply Kd.R_drewN|apply Kd.R_drew));exact M.1) (Kd.R_base Y) hb);replace J:=mk0 (Kd.R_elder' (by (with_reducible repeat (first|apply Kd.R_alloc|apply Kd.R_drewN|apply Kd.R_drew));exact J.1) (Kd.R_base Y) hb);replace a3:=mk0 (Kd.R_elder' (by (with_reducible repeat (first|apply Kd.R_alloc|apply Kd.R_drewN|apply Kd.R_drew));exact a3.1) (Kd.R_base Y) hb);replace b9:=mk0 (Kd.R_elder' (by (with_reducible repeat (first|apply Kd.R_alloc|apply Kd.R_drewN|apply Kd.R_drew));exact b9.1) (Kd.R_base Y) hb);replace B:=mk0 (blk_below (g:=U) (o:=.cells #[.int .u8 Z,.slice a5 V.length a6,.slice a7 X.length a8] 55 (0,0)) (by (with_reducible repeat (first|refine blk_drewN ?_ _|refine blk_drew ?_|refine blk_alloc ?_ _));exact B.1) hb);replace T:=mk0 (Kd.C_below (by repeat (first|(with_reducible exact T.1)|(with_reducible refine Kd.C_alloc ?_ _)|(with_reducible refine Kd.C_drewN ?_ _)|(with_reducible refine Kd.C_drew ?_)|exact T.1)) hb);replace a4:=mk0 (Kd.C_below (by repeat (first|(with_reducible exact a4.1)|(with_reducible refine Kd.C_alloc ?_ _)|(with_reducible refine Kd.C_drewN ?_ _)|(with_reducible refine Kd.C_drew ?_)|exact a4.1)) hb);replace I:=mk0 (below_step (by repeat (first|(with_reducible first|exact I.1|apply below_alloc|apply pw_below_drewN|apply below_drew1|refine below_set ?_ G.1)|exact I.1)) hb);(try clear hb);(try clear Y)))
           go_roundg k2
           case measure=>have:=d2.1;have:=f8.1;omega
           case rel=>exact ⟨(false),(wrap64 (F + 1)),(by first|rfl|(simp;done)|(simp [*];done)),(by first|rfl|(simp;done)|(simp [*];done)),H',⟨by have:=d2.1;have:=f8.1;omega⟩,⟨by (with_reducible repeat (first|apply Kd.R_alloc|apply Kd.R_drewN|apply Kd.R_drew));exact Kd.R_mono M.1 (fun _ hk=>hk.1)⟩,⟨by (with_reducible repeat (first|apply Kd.R_alloc|apply Kd.R_drewN|apply Kd.R_drew));exact Kd.R_mono J.1 (fun _ hk=>trivial)⟩,⟨by (with_reducible repeat (first|refine blk_drewN ?_ _|refine blk_drew ?_|refine blk_alloc ?_ _));exact B.1⟩,⟨by repeat (first|(with_reducible first|exact I.1|apply below_alloc|apply pw_below_drewN|apply below_drew1|refine below_set ?_ G.1)|exact I.1)⟩⟩
        ·
         rw [if_neg c31] at H;exact absurd H (by simp)
       ·
        rw [if_neg c30] at H;have c30b0:decide (F < (D.length:Int))=false:=decide_eq_false c30;clear c30;have j5:=mk0 H;clear H;go_upto_region 14 with (fail)
        go_cut [95] (fun p5 wc=>∃ (kq:Nat) (g6:Bool),p5=.bool g6∧Aside0 (bellpulllaw05_CountLeast.j2 kq L D E g6=some r)∧Aside0 (kq ≤ k2)∧Aside0 (Kd.R k60 60 wc w.heap.size (fun k_=>some k_ ≠ ((.slice c7 E.length c8):Value).ownBlock) (.slice f6 D.length f7) D)∧Aside0 (Kd.R (Kd.int .i64) 3 wc w.heap.size (fun _=>True) (.slice c7 E.length c8) E)∧Aside0 (wc.heap[U]?=some (.cells #[.int .u8 Z,(.slice a5 V.length a6),(.slice a7 X.length a8)] 55 (0,0)))∧Aside0 (Below w.heap.size w wc))
        case first =>
         have H:=j5.1;clear j5
         by_cases h8:d5=true
         ·
          subst h8;have H1:(if d0=0 then (bellpulllaw05_CountLeast.j2 k2 L D E (!g0)) else (none))=some r:=by rw [if_pos rfl] at H;exact H
          clear H;have H:=H1;clear H1
          by_cases c42:d0=0
          ·
           rw [if_pos c42] at H;have c42b0:(d0 == 0)=true:=beq_iff_eq.mpr c42;have c42b1:(d0 != 0)=false:=bne_eq_false_iff_eq.mpr c42;clear c42;(first|rw [c42b0]|(simp only [i64_w,i32_w];rw [c42b0])|skip);have H':=mk0 H;clear H;go_wp2;go_meet
           case rel=>exact ⟨_,(!g0),(by first|rfl|(simp;done)|(simp [*];done)),H',⟨by have:=d2.1;have:=f8.1;first|omega|exact Nat.le_refl _⟩,⟨by (with_reducible repeat (first|apply Kd.R_alloc|apply Kd.R_drewN|apply Kd.R_drew));exact M.1⟩,⟨by (with_reducible repeat (first|apply Kd.R_alloc|apply Kd.R_drewN|apply Kd.R_drew));exact J.1⟩,⟨by (with_reducible repeat (first|refine blk_drewN ?_ _|refine blk_drew ?_|refine blk_alloc ?_ _));exact B.1⟩,⟨by repeat (first|(with_reducible first|exact I.1|apply below_alloc|apply pw_below_drewN|apply below_drew1|refine below_set ?_ G.1)|exact I.1)⟩⟩
          ·
           rw [if_neg c42] at H;exact absurd H (by simp)
         ·
          replace h8:=Bool.eq_false_iff.mpr h8;subst h8;have H1:(none)=some r:=by rw [if_neg (show ¬ (false=true) by decide)] at H;exact H
          clear H;have H:=H1;clear H1;exact absurd H (by simp)
        case rest =>
         clear j5;try clear c1
         try clear p1
         try clear q1
         try clear hx1
         try clear c2
         try clear p2
         try clear c3
         try clear c4
         try clear c4b0
         try clear c4b1
         try clear c4b2
         try clear c5
         try clear c5b0
         try clear c5b1
         try clear c6
         try clear c6b0
         try clear c6b1
         try clear p6
         try clear c10
         try clear p10
         try clear q10
         try clear hx10
         try clear c16
         try clear c21
         try clear c21b0
         try clear c21b1
         try clear c22
         try clear c22b0
         try clear c22b1
         try clear c23
         try clear g8
         try clear c30
         try clear c30b0
         try clear c31
         try clear c31b0
         try clear h3
         try clear h7
         try clear c38
         try clear h8
         try clear c42
         try clear c42b0
         try clear c42b1
         try clear d7
         try clear d8
         try clear d9
         try clear e8
         try clear e9
         try clear f2
         try clear e0
         try clear e1
         try clear e2
         try clear f3
         try clear f4
         try clear f5
         try clear b3
         try clear b4
         try clear a9
         try clear p2
         try clear b0
         obtain ⟨kq,g6,rfl,HA,i5,M,J,B,I⟩:=hcut;cases kq with
         | zero=>exact absurd HA.1 (by simp [bellpulllaw05_CountLeast.j2])
         | succ kj39 =>
          have H:=HA.1;clear HA;simp only [bellpulllaw05_CountLeast.j2] at H
          by_cases i1:g6=true
          ·
           subst i1;have H1:(none)=some r:=by rw [if_pos rfl] at H;exact H
           clear H;have H:=H1;clear H1;exact absurd H (by simp)
          ·
           replace i1:=Bool.eq_false_iff.mpr i1;subst i1;have H1:(bellpulllaw05_CountLeast.l1 kj39 L D E 0)=some r:=by rw [if_neg (show ¬ (false=true) by decide)] at H;exact H
           clear H;have H:=H1;clear H1;have H':=mk0 H;clear H;go_wp2
           go_loopg [14] kj39 (fun kq p7 w'=>∃ (c0:Int),p7=.int .i64 c0∧Aside0 (bellpulllaw05_CountLeast.l1 kq L D E c0=some r)∧Aside0 (kq ≤ kj39)∧Aside0 (Kd.R k60 60 w' w.heap.size (fun k_=>some k_ ≠ ((.slice c7 E.length c8):Value).ownBlock) (.slice f6 D.length f7) D)∧Aside0 (Kd.R (Kd.int .i64) 3 w' w.heap.size (fun _=>True) (.slice c7 E.length c8) E)∧Aside0 (w'.heap[U]?=some (.cells #[.int .u8 Z,(.slice a5 V.length a6),(.slice a7 X.length a8)] 55 (0,0)))∧Aside0 (Below w.heap.size w w'))
           case atStart=>exact ⟨(0),(by first|rfl|(simp;done)|(simp [*];done)),H',⟨Nat.le_refl _⟩,⟨by (with_reducible repeat (first|apply Kd.R_alloc|apply Kd.R_drewN|apply Kd.R_drew));exact M.1⟩,⟨by (with_reducible repeat (first|apply Kd.R_alloc|apply Kd.R_drewN|apply Kd.R_drew));exact J.1⟩,⟨by (with_reducible repeat (first|refine blk_drewN ?_ _|refine blk_drew ?_|refine blk_alloc ?_ _));exact B.1⟩,⟨by repeat (first|(with_reducible first|exact I.1|apply below_alloc|apply pw_below_drewN|apply below_drew1|refine below_set ?_ G.1)|exact I.1)⟩⟩
           case round =>
            clear H';try clear c1
            try clear p1
            try clear q1
            try clear hx1
            try clear c2
            try clear p2
            try clear c3
            try clear c4
            try clear c4b0
            try clear c4b1
            try clear c4b2
            try clear c5
            try clear c5b0
            try clear c5b1
            try clear c6
            try clear c6b0
            try clear c6b1
            try clear p6
            try clear c10
            try clear p10
            try clear q10
            try clear hx10
            try clear c16
            try clear c21
            try clear c21b0
            try clear c21b1
            try clear c22
            try clear c22b0
            try clear c22b1
            try clear c23
            try clear g8
            try clear c30
            try clear c30b0
            try clear c31
            try clear c31b0
            try clear h3
            try clear h7
            try clear c38
            try clear h8
            try clear c42
            try clear c42b0
            try clear c42b1
            try clear i1
            try clear d7
            try clear d8
            try clear d9
            try clear e8
            try clear e9
            try clear f2
            try clear e0
            try clear e1
            try clear e2
            try clear f3
            try clear f4
            try clear f5
            try clear b3
            try clear b4
            try clear p1
            try clear p10
            try clear a9
            try clear p2
            try clear p6
            try clear q1
            try clear q10
            try clear b0
            obtain ⟨c0,rfl,HA,l9,M,J,B,I⟩:=hrel;cases gk with
            | zero=>exact absurd HA.1 (by simp [bellpulllaw05_CountLeast.l1])
            | succ k4 =>
             have H:=HA.1;clear HA;simp only [bellpulllaw05_CountLeast.l1] at H;have j6:=mk0 H;clear H;go_upto_region 17 with (fail)
             go_cut [103] (fun o4 wc=>∃ (kq:Nat) (g3:Bool),o4=.bool g3∧Aside0 (bellpulllaw05_CountLeast.j4 kq L D E c0 g3=some r)∧Aside0 (kq ≤ k4)∧Aside0 (Kd.R k60 60 wc w.heap.size (fun k_=>some k_ ≠ ((.slice c7 E.length c8):Value).ownBlock) (.slice f6 D.length f7) D)∧Aside0 (Kd.R (Kd.int .i64) 3 wc w.heap.size (fun _=>True) (.slice c7 E.length c8) E)∧Aside0 (wc.heap[U]?=some (.cells #[.int .u8 Z,(.slice a5 V.length a6),(.slice a7 X.length a8)] 55 (0,0)))∧Aside0 (Below w.heap.size w wc))
             case first =>
              have H:=j6.1;clear j6;replace H:=Option.bind_eq_some_iff.mp H;obtain ⟨g7,m7,H⟩:=H;(try dsimp only at H);have n5:=mk0 m7;clear m7
              by_cases c46:c0 < g7
              ·
               rw [if_pos c46] at H;have c46b0:decide (c0 < g7)=true:=decide_eq_true c46;clear c46;(first|rw [c46b0]|(simp only [i64_w,i32_w];rw [c46b0])|skip);have H':=mk0 H;clear H;go_wp2_with (first|((with_reducible refine gate_callee (f:=45) rfl ?_);refine goesL_ (some 98) rfl rfl Try.func45 (by kernel_rfl) rfl #[.slice c7 E.length c8] rfl (by (try simp only [m0_,m1_,m2_]);first|done|rfl|(simp only [l0_,l1_];rfl)) ?_;(with_reducible refine (bellpullref05_Total.calls k4 _ _ E g7 _ ?side1 ?side2 n5.1).mono ?_);(case side1=>repeat (first|exact (Kd.R_reads' J.1).2.2|(with_reducible refine Kd.C_alloc ?_ _)|(with_reducible refine Kd.C_drewN ?_ _)|(with_reducible refine Kd.C_drew ?_)));(case side2=>exact (Kd.R_reads' J.1).2.1);rintro e w' ⟨rfl,⟨nd,rfl⟩⟩;refine ⟨_,rfl,?_⟩));go_meet
               case rel=>exact ⟨_,(decide (c0 < 8)),(by first|rfl|(simp;done)|(simp [*];done)),H',⟨by have:=d2.1;have:=f8.1;have:=i5.1;have:=l9.1;first|omega|exact Nat.le_refl _⟩,⟨by (with_reducible repeat (first|apply Kd.R_alloc|apply Kd.R_drewN|apply Kd.R_drew));exact M.1⟩,⟨by (with_reducible repeat (first|apply Kd.R_alloc|apply Kd.R_drewN|apply Kd.R_drew));exact J.1⟩,⟨by (with_reducible repeat (first|refine blk_drewN ?_ _|refine blk_drew ?_|refine blk_alloc ?_ _));exact B.1⟩,⟨by repeat (first|(with_reducible first|exact I.1|apply below_alloc|apply pw_below_drewN|apply below_drew1|refine below_set ?_ G.1)|exact I.1)⟩⟩
              ·
               rw [if_neg c46] at H;have c46b0:decide (c0 < g7)=false:=decide_eq_false c46;clear c46;(first|rw [c46b0]|(simp only [i64_w,i32_w];rw [c46b0])|skip);have H':=mk0 H;clear H;go_wp2_with (first|((with_reducible refine gate_callee (f:=45) rfl ?_);refine goesL_ (some 98) rfl rfl Try.func45 (by kernel_rfl) rfl #[.slice c7 E.length c8] rfl (by (try simp only [m0_,m1_,m2_]);first|done|rfl|(simp only [l0_,l1_];rfl)) ?_;(with_reducible refine (bellpullref05_Total.calls k4 _ _ E g7 _ ?side1 ?side2 n5.1).mono ?_);(case side1=>repeat (first|exact (Kd.R_reads' J.1).2.2|(with_reducible refine Kd.C_alloc ?_ _)|(with_reducible refine Kd.C_drewN ?_ _)|(with_reducible refine Kd.C_drew ?_)));(case side2=>exact (Kd.R_reads' J.1).2.1);rintro e w' ⟨rfl,⟨nd,rfl⟩⟩;refine ⟨_,rfl,?_⟩));go_meet
               case rel=>exact ⟨_,(false),(by first|rfl|(simp;done)|(simp [*];done)),H',⟨by have:=d2.1;have:=f8.1;have:=i5.1;have:=l9.1;first|omega|exact Nat.le_refl _⟩,⟨by (with_reducible repeat (first|apply Kd.R_alloc|apply Kd.R_drewN|apply Kd.R_drew));exact M.1⟩,⟨by (with_reducible repeat (first|apply Kd.R_alloc|apply Kd.R_drewN|apply Kd.R_drew));exact J.1⟩,⟨by (with_reducible repeat (first|refine blk_drewN ?_ _|refine blk_drew ?_|refine blk_alloc ?_ _));exact B.1⟩,⟨by repeat (first|(with_reducible first|exact I.1|apply below_alloc|apply pw_below_drewN|apply below_drew1|refine below_set ?_ G.1)|exact I.1)⟩⟩
             case rest =>
              clear j6;try clear c1
              try clear p1
              try clear q1
              try clear hx1
              try clear c2
              try clear p2
              try clear c3
              try clear c4
              try clear c4b0
              try clear c4b1
              try clear c4b2
              try clear c5
              try clear c5b0
              try clear c5b1
              try clear c6
              try clear c6b0
              try clear c6b1
              try clear p6
              try clear c10
              try clear p10
              try clear q10
              try clear hx10
              try clear c16
              try clear c21
              try clear c21b0
              try clear c21b1
              try clear c22
              try clear c22b0
              try clear c22b1
              try clear c23
              try clear g8
              try clear c30
              try clear c30b0
              try clear c31
              try clear c31b0
              try clear h3
              try clear h7
              try clear c38
              try clear h8
              try clear c42
              try clear c42b0
              try clear c42b1
              try clear i1
              try clear c45
              try clear c46
              try clear c46b0
              try clear d7
              try clear d8
              try clear d9
              try clear e8
              try clear e9
              try clear f2
              try clear e0
              try clear e1
              try clear e2
              try clear f3
              try clear f4
              try clear f5
              try clear b3
              try clear b4
              try clear p1
              try clear p10
              try clear a9
              try clear p2
              try clear p6
              try clear q1
              try clear q10
              try clear b0
              obtain ⟨kq,g3,rfl,HA,m8,M,J,B,I⟩:=hcut;cases kq with
              | zero=>exact absurd HA.1 (by simp [bellpulllaw05_CountLeast.j4])
              | succ kj43 =>
               have H:=HA.1;clear HA;simp only [bellpulllaw05_CountLeast.j4] at H
               by_cases m0:g3=true
               ·
                subst m0;have H1:((count_Count.f kj43 L D c0).bind fun j1=>(if j1.1=0 then (if j1.2=0 then (bellpulllaw05_CountLeast.l1 kj43 L D E (wrap64 (c0 + 1))) else (none)) else (none)))=some r:=by rw [if_pos rfl] at H;exact H
                clear H;have H:=H1;clear H1;replace H:=Option.bind_eq_some_iff.mp H;obtain ⟨⟨h0,h1⟩,m9,H⟩:=H;(try dsimp only at H);have p8:=mk0 m9;clear m9
                by_cases c49:h0=0
                ·
                 rw [if_pos c49] at H;have c49b0:(h0 == 0)=true:=beq_iff_eq.mpr c49;have c49b1:(h0 != 0)=false:=bne_eq_false_iff_eq.mpr c49;clear c49
                 by_cases c50:h1=0
                 ·
                  rw [if_pos c50] at H;have c50b0:(h1 == 0)=true:=beq_iff_eq.mpr c50;have c50b1:(h1 != 0)=false:=bne_eq_false_iff_eq.mpr c50;clear c50;have H':=mk0 H;clear H;go_wp2_with (first|((with_reducible refine gate_callee (f:=35) rfl ?_);refine goesL_ (some 110) rfl rfl Try.func35 (by kernel_rfl) rfl #[.int .i64 L,.slice f6 D.length f7,.int .i64 c0] rfl (by (try simp only [m0_,m1_,m2_]);first|done|rfl|(simp only [l0_,l1_];rfl)) ?_;(with_reducible refine (count_Count.calls kj43 L _ _ D c0 h0 h1 _ ?side1 ?side2 p8.1).mono ?_);(case side1=>repeat (first|exact (Kd.R_reads' M.1).2.2|(with_reducible refine Kd.C_alloc ?_ _)|(with_reducible refine Kd.C_drewN ?_ _)|(with_reducible refine Kd.C_drew ?_)));(case side2=>exact (Kd.R_reads' M.1).2.1);rintro e r9 ⟨rfl,hb⟩;refine ⟨_,rfl,?_⟩;replace M:=mk0 (Kd.R_below (by (with_reducible repeat (first|apply Kd.R_alloc|apply Kd.R_drewN|apply Kd.R_drew));exact M.1) hb);replace J:=mk0 (Kd.R_below (by (with_reducible repeat (first|apply Kd.R_alloc|apply Kd.R_drewN|apply Kd.R_drew));exact J.1) hb);replace B:=mk0 (blk_below (g:=U) (o:=.cells #[.int .u8 Z,.slice a5 V.length a6,.slice a7 X.length a8] 55 (0,0)) (by (with_reducible repeat (first|refine blk_drewN ?_ _|refine blk_drew ?_|refine blk_alloc ?_ _));exact B.1) hb);replace I:=mk0 (below_step (by repeat (first|(with_reducible first|exact I.1|apply below_alloc|apply pw_below_drewN|apply below_drew1|refine below_set ?_ G.1)|exact I.1)) hb);(try clear hb)));go_roundg kj43
                  case measure=>have:=d2.1;have:=f8.1;have:=i5.1;have:=l9.1;have:=m8.1;omega
                  case rel=>exact ⟨(wrap64 (c0 + 1)),(by first|rfl|(simp;done)|(simp [*];done)),H',⟨by have:=d2.1;have:=f8.1;have:=i5.1;have:=l9.1;have:=m8.1;omega⟩,⟨by (with_reducible repeat (first|apply Kd.R_alloc|apply Kd.R_drewN|apply Kd.R_drew));exact M.1⟩,⟨by (with_reducible repeat (first|apply Kd.R_alloc|apply Kd.R_drewN|apply Kd.R_drew));exact J.1⟩,⟨by (with_reducible repeat (first|refine blk_drewN ?_ _|refine blk_drew ?_|refine blk_alloc ?_ _));exact B.1⟩,⟨by repeat (first|(with_reducible first|exact I.1|apply below_alloc|apply pw_below_drewN|apply below_drew1|refine below_set ?_ G.1)|exact I.1)⟩⟩
                 ·
                  rw [if_neg c50] at H;exact absurd H (by simp)
                ·
                 rw [if_neg c49] at H;exact absurd H (by simp)
               ·
                replace m0:=Bool.eq_false_iff.mpr m0;subst m0;have H1:(some true)=some r:=by rw [if_neg (show ¬ (false=true) by decide)] at H;exact H
                clear H;have H:=H1;clear H1;obtain rfl:=Option.some.inj H;go_wp2;go_ret;exact ⟨by first|rfl|(simp [errW_none,errW_some] <;> rfl)|(simp [*,errW_none,errW_some] <;> rfl),by repeat (first|(with_reducible first|exact I.1|apply below_alloc|apply pw_below_drewN|apply below_drew1|refine below_set ?_ G.1)|exact I.1)⟩
end Go.Proofs.Ytkonljiembcdlaa.PC
namespace Go.Proofs.Ytkonljiembcdlaa.PC
open Go.Proofs.MyWords Go.RowKit Go.Proofs.YtkonljiembcdlaaW.PrintWords Go.Proofs.YtkonljiembcdlaaW.PrintLast Go.Proofs.YtkonljiembcdlaaW.PrintMore
attribute [local go_sem] max2_int min2_int max_two min_two max_three min_three max_four min_four   -- for this text's walks alone
set_option linter.unusedVariables false
set_option linter.unusedSimpArgs false
attribute [local go_sem] eqGuard_slices eqlnil23 neqnil23 eqlnil58 neqnil58
end Go.Proofs.Ytkonljiembcdlaa.PC
namespace Go.Proofs.Ytkonljiembcdlaa.PC
open Go.Proofs.MyWords Go.RowKit Go.Proofs.YtkonljiembcdlaaW.PrintWords Go.Proofs.YtkonljiembcdlaaW.PrintLast Go.Proofs.YtkonljiembcdlaaW.PrintMore
attribute [local go_sem] max2_int min2_int max_two min_two max_three min_three max_four min_four   -- for this text's walks alone
set_option linter.unusedVariables false
set_option linter.unusedSimpArgs false
attribute [local go_sem] eqGuard_slices eqlnil23 neqnil23 eqlnil58 neqnil58
end Go.Proofs.Ytkonljiembcdlaa.PC
namespace Go.Proofs.Ytkonljiembcdlaa.PC
open Go.Proofs.MyWords Go.RowKit Go.Proofs.YtkonljiembcdlaaW.PrintWords Go.Proofs.YtkonljiembcdlaaW.PrintLast Go.Proofs.YtkonljiembcdlaaW.PrintMore
attribute [local go_sem] max2_int min2_int max_two min_two max_three min_three max_four min_four   -- for this text's walks alone
set_option linter.unusedVariables false
set_option linter.unusedSimpArgs false
attribute [local go_sem] eqGuard_slices eqlnil23 neqnil23 eqlnil58 neqnil58
end Go.Proofs.Ytkonljiembcdlaa.PC
namespace Go.Proofs.Ytkonljiembcdlaa.PC
open Go.Proofs.MyWords Go.RowKit Go.Proofs.YtkonljiembcdlaaW.PrintWords Go.Proofs.YtkonljiembcdlaaW.PrintLast Go.Proofs.YtkonljiembcdlaaW.PrintMore
attribute [local go_sem] max2_int min2_int max_two min_two max_three min_three max_four min_four   -- for this text's walks alone
set_option linter.unusedVariables false
set_option linter.unusedSimpArgs false
attribute [local go_sem] eqGuard_slices eqlnil23 neqnil23 eqlnil58 neqnil58
end Go.Proofs.Ytkonljiembcdlaa.PC
namespace Go.Proofs.Ytkonljiembcdlaa.PC
open Go.Proofs.MyWords Go.RowKit Go.Proofs.YtkonljiembcdlaaW.PrintWords Go.Proofs.YtkonljiembcdlaaW.PrintLast Go.Proofs.YtkonljiembcdlaaW.PrintMore
attribute [local go_sem] max2_int min2_int max_two min_two max_three min_three max_four min_four   -- for this text's walks alone
set_option linter.unusedVariables false
set_option linter.unusedSimpArgs false
attribute [local go_sem] eqGuard_slices eqlnil23 neqnil23 eqlnil58 neqnil58
end Go.Proofs.Ytkonljiembcdlaa.PC
namespace Go.Proofs.Ytkonljiembcdlaa.PC
open Go.Proofs.MyWords Go.RowKit Go.Proofs.YtkonljiembcdlaaW.PrintWords Go.Proofs.YtkonljiembcdlaaW.PrintLast Go.Proofs.YtkonljiembcdlaaW.PrintMore
attribute [local go_sem] max2_int min2_int max_two min_two max_three min_three max_four min_four   -- for this text's walks alone
set_option linter.unusedVariables false
set_option linter.unusedSimpArgs false
attribute [local go_sem] eqGuard_slices eqlnil23 neqnil23 eqlnil58 neqnil58
end Go.Proofs.Ytkonljiembcdlaa.PC
namespace Go.Proofs.Ytkonljiembcdlaa.PC
open Go.Proofs.MyWords Go.RowKit Go.Proofs.YtkonljiembcdlaaW.PrintWords Go.Proofs.YtkonljiembcdlaaW.PrintLast Go.Proofs.YtkonljiembcdlaaW.PrintMore
attribute [local go_sem] max2_int min2_int max_two min_two max_three min_three max_four min_four   -- for this text's walks alone
set_option linter.unusedVariables false
set_option linter.unusedSimpArgs false
attribute [local go_sem] eqGuard_slices eqlnil23 neqnil23 eqlnil58 neqnil58
end Go.Proofs.Ytkonljiembcdlaa.PC
namespace Go.Proofs.Ytkonljiembcdlaa.PC
open Go.Proofs.MyWords Go.RowKit Go.Proofs.YtkonljiembcdlaaW.PrintWords Go.Proofs.YtkonljiembcdlaaW.PrintLast Go.Proofs.YtkonljiembcdlaaW.PrintMore
attribute [local go_sem] max2_int min2_int max_two min_two max_three min_three max_four min_four   -- for this text's walks alone
set_option linter.unusedVariables false
set_option linter.unusedSimpArgs false
attribute [local go_sem] eqGuard_slices eqlnil23 neqnil23 eqlnil58 neqnil58
end Go.Proofs.Ytkonljiembcdlaa.PC
namespace Go.Proofs.Ytkonljiembcdlaa.PC
open Go.Proofs.MyWords Go.RowKit Go.Proofs.YtkonljiembcdlaaW.PrintWords Go.Proofs.YtkonljiembcdlaaW.PrintLast Go.Proofs.YtkonljiembcdlaaW.PrintMore
attribute [local go_sem] max2_int min2_int max_two min_two max_three min_three max_four min_four   -- for this text's walks alone
set_option linter.unusedVariables false
set_option linter.unusedSimpArgs false
attribute [local go_sem] eqGuard_slices eqlnil23 neqnil23 eqlnil58 neqnil58
end Go.Proofs.Ytkonljiembcdlaa.PC
/- Small tools for statements of the form 'with enough rounds the answer is r'. -/
set_option linter.unusedVariables false
set_option linter.unusedSimpArgs false
namespace Go.Proofs.Ytkonljiembcdlaa.Pure
open Go.RowKit Go.Proofs.YtkonljiembcdlaaW.PrintWords
theorem wrap_id {x:Int} (h0:-9223372036854775808 ≤ x) (h1:x ≤ 9223372036854775807):wrap64 x=x:=by
  unfold wrap64;omega
section
variable {α β:Type} {g a b:Nat → Option α} {r:α}
theorem Ev.rounds (h:Ev g r):∃ k,g k=some r:=by
  obtain ⟨K,hK⟩:=h
  exact ⟨K,hK K (Nat.le_refl _)⟩
theorem Ev.succ (h:Ev (fun k=>g (k + 1)) r):Ev g r:=Ev.step (fun _=>rfl) h
theorem Ev.pos {c:Prop} [Decidable c] (hc:c) (h:Ev a r):Ev (fun k=>if c then a k else b k) r:=by
  simpa only [if_pos hc] using h
theorem Ev.neg {c:Prop} [Decidable c] (hc:¬ c) (h:Ev b r):Ev (fun k=>if c then a k else b k) r:=by
  simpa only [if_neg hc] using h
theorem Ev.bindc {o:Option β} {f:Nat → β → Option α} {x:β} (ho:o=some x) (h:Ev (fun k=>f k x) r):Ev (fun k=>o.bind (f k)) r:=by
  subst ho;simpa only [Option.bind_some] using h
end
theorem rd_app (pre:List Int) (x:Int) (t:List Int):rd (pre ++ x :: t) (pre.length:Int)=x:=by
  simp [rd,List.getD_eq_getElem?_getD]
theorem rd_nat (l:List Int) (j:Nat) (h:j < l.length):rd l (j:Int)=l[j]:=by
  simp [rd,List.getD_eq_getElem?_getD,List.getElem?_eq_getElem h]
theorem wf_u8 {a:Int} (h:(Lit.int .u8 a).wf=true):0 ≤ a∧a ≤ 255:=by
  simp only [Lit.wf,Bool.and_eq_true,decide_eq_true_eq] at h
  exact h
end Go.Proofs.Ytkonljiembcdlaa.Pure
/- Sums of periods, in plain Lean. -/
set_option linter.unusedVariables false
namespace Go.Proofs.Ytkonljiembcdlaa.Sem
abbrev Vec:=List Int
def addV:Vec → Vec → Vec
  | x :: v,y :: w=>(x + y) :: addV v w
  | _,_=>[]
def subV:Vec → Vec → Vec
  | x :: v,y :: w=>(x - y) :: subV v w
  | _,_=>[]
def zeroN (d:Nat):Vec:=List.replicate d 0
def nnV (v:Vec):Prop:=∀ x,x ∈ v → 0 ≤ x
instance (v:Vec):Decidable (nnV v):=by unfold nnV;infer_instance
theorem addV_comm:∀ v w:Vec,addV v w=addV w v
  | [],[]=>rfl
  | [],y :: w=>rfl
  | x :: v,[]=>rfl
  | x :: v,y :: w=>by rw [addV,addV,addV_comm v w,Int.add_comm]
theorem addV_assoc:∀ v w u:Vec,addV (addV v w) u=addV v (addV w u)
  | [],w,u=>by simp [addV]
  | x :: v,[],u=>by simp [addV]
  | x :: v,y :: w,[]=>by simp [addV]
  | x :: v,y :: w,z :: u=>by rw [addV,addV,addV,addV,addV_assoc v w u,Int.add_assoc]
theorem addV_swap (v w u:Vec):addV (addV v w) u=addV (addV v u) w:=by
  rw [addV_assoc,addV_comm w u,← addV_assoc]
theorem addV_len {d:Nat}:∀ {v w:Vec},v.length=d → w.length=d → (addV v w).length=d:=by
  induction d with
  | zero=>intro v w hv hw;rw [List.length_eq_zero_iff.1 hv,List.length_eq_zero_iff.1 hw];rfl
  | succ d ih =>
    intro v w hv hw
    match v,w,hv,hw with
    | x :: v,y :: w,hv,hw=>simp at hv hw;simp [addV,ih hv hw]
theorem subV_len {d:Nat}:∀ {v w:Vec},v.length=d → w.length=d → (subV v w).length=d:=by
  induction d with
  | zero=>intro v w hv hw;rw [List.length_eq_zero_iff.1 hv,List.length_eq_zero_iff.1 hw];rfl
  | succ d ih =>
    intro v w hv hw
    match v,w,hv,hw with
    | x :: v,y :: w,hv,hw=>simp at hv hw;simp [subV,ih hv hw]
theorem zeroN_len (d:Nat):(zeroN d).length=d:=List.length_replicate
theorem zeroN_mem {d:Nat} {x:Int} (h:x ∈ zeroN d):x=0:=List.eq_of_mem_replicate h
theorem zeroN_succ (d:Nat):zeroN (d + 1)=0 :: zeroN d:=rfl
theorem eq_zeroN:∀ {v:Vec} {d:Nat},v.length=d → (∀ x,x ∈ v → x=0) → v=zeroN d
  | v,d,h,hz=>List.eq_replicate_iff.2 ⟨h,hz⟩
theorem addV_zero:∀ {v:Vec} {d:Nat},v.length=d → addV v (zeroN d)=v
  | [],0,_=>rfl
  | x :: v,d + 1,h=>by
    simp at h
    rw [zeroN_succ,addV,addV_zero h,Int.add_zero]
theorem zero_addV {v:Vec} {d:Nat} (h:v.length=d):addV (zeroN d) v=v:=by rw [addV_comm,addV_zero h]
theorem subV_add:∀ {v w:Vec},v.length=w.length → addV (subV v w) w=v
  | [],[],_=>rfl
  | x :: v,y :: w,h=>by
    simp at h
    rw [subV,addV,subV_add h,Int.sub_add_cancel]
theorem addV_sub:∀ {v w:Vec},v.length=w.length → subV (addV v w) w=v
  | [],[],_=>rfl
  | x :: v,y :: w,h=>by
    simp at h
    rw [addV,subV,addV_sub h,Int.add_sub_cancel]
theorem sum_addV:∀ {v w:Vec},v.length=w.length → (addV v w).sum=v.sum + w.sum
  | [],[],_=>rfl
  | x :: v,y :: w,h=>by
    simp at h
    rw [addV,List.sum_cons,List.sum_cons,List.sum_cons,sum_addV h]
    omega
theorem sum_subV {v w:Vec} (h:v.length=w.length):(subV v w).sum=v.sum - w.sum:=by
  have h1:=sum_addV (v:=subV v w) (w:=w) (by rw [subV_len h rfl])
  rw [subV_add h] at h1
  omega
theorem nn_addV:∀ {v w:Vec},nnV v → nnV w → nnV (addV v w)
  | [],w,_,_=>by intro x hx;simp [addV] at hx
  | x :: v,[],_,_=>by intro x hx;simp [addV] at hx
  | x :: v,y :: w,hv,hw=>by
    intro z hz
    rw [addV] at hz
    rcases List.mem_cons.1 hz with rfl|hz
    · have:=hv x (by simp)
      have:=hw y (by simp)
      omega
    · exact nn_addV (fun a ha=>hv a (by simp [ha])) (fun a ha=>hw a (by simp [ha])) z hz
theorem sum_nn:∀ {v:Vec},nnV v → 0 ≤ v.sum
  | [],_=>by simp
  | x :: v,h=>by
    rw [List.sum_cons]
    have:=h x (by simp)
    have:=sum_nn (v:=v) (fun a ha=>h a (by simp [ha]))
    omega
theorem zero_of_sum:∀ {v:Vec},nnV v → v.sum=0 → ∀ x,x ∈ v → x=0
  | [],_,_=>by simp
  | x :: v,h,hs=>by
    rw [List.sum_cons] at hs
    have h1:=h x (by simp)
    have h2:=sum_nn (v:=v) (fun a ha=>h a (by simp [ha]))
    intro y hy
    rcases List.mem_cons.1 hy with rfl|hy
    · omega
    · exact zero_of_sum (fun a ha=>h a (by simp [ha])) (by omega) y hy
theorem mem_le_sum:∀ {v:Vec},nnV v → ∀ x,x ∈ v → x ≤ v.sum
  | [],_,x,hx=>by simp at hx
  | y :: v,h,x,hx=>by
    rw [List.sum_cons]
    have h1:=h y (by simp)
    have h2:=sum_nn (v:=v) (fun a ha=>h a (by simp [ha]))
    rcases List.mem_cons.1 hx with rfl|hx
    · omega
    · have:=mem_le_sum (v:=v) (fun a ha=>h a (by simp [ha])) x hx
      omega
theorem nn_zeroN (d:Nat):nnV (zeroN d):=fun x hx=>by rw [zeroN_mem hx];decide
inductive Comb (d:Nat) (ps:List Vec):Vec → Prop
  | zero:Comb d ps (zeroN d)
  | add {p w}:p ∈ ps → Comb d ps w → Comb d ps (addV w p)
def okD (d:Nat) (ps:List Vec):Prop:=∀ p,p ∈ ps → p.length=d∧nnV p
section
variable {d:Nat} {ps:List Vec}
theorem Comb.len (hp:okD d ps) {v:Vec} (h:Comb d ps v):v.length=d:=by
  induction h with
  | zero=>exact zeroN_len d
  | add h1 _ ih=>exact addV_len ih (hp _ h1).1
theorem Comb.nn (hp:okD d ps) {v:Vec} (h:Comb d ps v):nnV v:=by
  induction h with
  | zero=>exact nn_zeroN d
  | add h1 _ ih=>exact nn_addV ih (hp _ h1).2
theorem Comb.mono {qs:List Vec} (hs:∀ p,p ∈ ps → p ∈ qs) {v:Vec} (h:Comb d ps v):Comb d qs v:=by
  induction h with
  | zero=>exact .zero
  | add h1 _ ih=>exact .add (hs _ h1) ih
theorem comb_nil {v:Vec}:Comb d [] v ↔ v=zeroN d :=
  ⟨fun h=>by cases h with
    | zero=>rfl
    | add h1 _=>simp at h1,fun h=>h ▸ .zero⟩
theorem comb_cons {p v:Vec}:Comb d (p :: ps) v ↔ Comb d ps v ∨ ∃ w,Comb d (p :: ps) w∧v=addV w p:=by
  constructor
  · intro h
    induction h with
    | zero=>exact .inl .zero
    | @add q w h1 h2 ih =>
      rcases List.mem_cons.1 h1 with rfl|h1
      · exact .inr ⟨w,h2,rfl⟩
      · rcases ih with ih|⟨u,hu,rfl⟩
        · exact .inl (.add h1 ih)
        · exact .inr ⟨addV u q,.add (by simp [h1]) hu,addV_swap _ _ _⟩
  · rintro (h|⟨w,h,rfl⟩)
    · exact h.mono (fun q hq=>by simp [hq])
    · exact .add (by simp) h
theorem comb_sub {p v:Vec} (hp:okD d (p :: ps)) (hv:v.length=d):Comb d (p :: ps) v ↔ Comb d ps v ∨ Comb d (p :: ps) (subV v p):=by
  have hl:v.length=p.length:=hv.trans (hp p (by simp)).1.symm
  rw [comb_cons]
  constructor
  · rintro (h|⟨w,h,rfl⟩)
    · exact .inl h
    · rw [addV_sub ((h.len hp).trans (hp p (by simp)).1.symm)]
      exact .inr h
  · rintro (h|h)
    · exact .inl h
    · exact .inr ⟨_,h,(subV_add hl).symm⟩
theorem comb_filter (hp:okD d ps) (f:Vec → Bool) (hf:∀ p,p ∈ ps → f p=false → p=zeroN d) {v:Vec}:Comb d (ps.filter f) v ↔ Comb d ps v:=by
  constructor
  · exact fun h=>h.mono (fun q hq=>(List.mem_filter.1 hq).1)
  · intro h
    have ho:okD d (ps.filter f):=fun q hq=>hp q (List.mem_filter.1 hq).1
    induction h with
    | zero=>exact .zero
    | @add p w h1 _ ih =>
      cases hb:f p with
      | true=>exact .add (List.mem_filter.2 ⟨h1,hb⟩) ih
      | false=>rw [hf p h1 hb,addV_zero (ih.len ho)];exact ih
end
end Go.Proofs.Ytkonljiembcdlaa.Sem
/- Differences of vectors, and sums of periods, as the program and the reference take them, in plain Lean. -/
set_option linter.unusedVariables false
set_option linter.unusedSimpArgs false
namespace Go.Proofs.Ytkonljiembcdlaa.Pure
open Go.RowKit Go.Proofs.MyWords Go.Proofs.YtkonljiembcdlaaW.PrintWords Go.Proofs.YtkonljiembcdlaaW.PrintLast Go.Proofs.YtkonljiembcdlaaW.PrintMore Go.Proofs.Ytkonljiembcdlaa.PC Go.Proofs.Ytkonljiembcdlaa.Sem
theorem getD_app {α:Type} (pre:List α) (x:α) (t:List α) (d:α):(pre ++ x :: t).getD ((pre.length:Int)).toNat d=x:=by
  simp [List.getD_eq_getElem?_getD]
theorem rdL1_app (pre:List (List Int)) (x:List Int) (t:List (List Int)):rd_L1 (pre ++ x :: t) (pre.length:Int)=x:=getD_app _ _ _ _
theorem rdL4_app (pre:List (List S60)) (x:List S60) (t:List (List S60)):rd_L4 (pre ++ x :: t) (pre.length:Int)=x:=getD_app _ _ _ _
theorem rdT60_app (pre:List S60) (x:S60) (t:List S60):rd_T60 (pre ++ x :: t) (pre.length:Int)=x:=getD_app _ _ _ _
theorem wsucc {n:Nat} (h:n < 4611686018427387904):wrap64 ((n:Int) + 1)=((n + 1:Nat):Int):=by rw [wrap_id (by omega) (by omega)];omega
theorem len_snoc {α:Type} (pre:List α) (x:α):pre.length + 1=(pre ++ [x]).length:=by simp
theorem app_snoc {α:Type} (pre:List α) (x:α) (t:List α):pre ++ x :: t=(pre ++ [x]) ++ t:=by simp
theorem lt_app {α:Type} (pre:List α) (x:α) (t:List α):(pre.length:Int) < ((pre ++ x :: t).length:Int):=by simp;omega
theorem set_app {α:Type} (pre:List α) (x y:α) (t:List α):(pre ++ x :: t).set ((pre.length:Int)).toNat y=pre ++ y :: t:=by simp
def inB (m:Int) (v:List Int):Prop:=∀ x,x ∈ v → 0 ≤ x∧x ≤ m
theorem inB.nn {m:Int} {v:List Int} (h:inB m v):nnV v:=fun x hx=>(h x hx).1
theorem outside_iff (v:List Int) (m:Int):(v.any fun x=>decide (x < 0) || decide (m < x))=true ↔ ¬ inB m v:=by
  rw [List.any_eq_true]
  constructor
  · rintro ⟨x,hx,h⟩ hi
    have:=hi x hx
    simp at h
    omega
  · intro h
    apply Classical.byContradiction
    intro h2
    refine h (fun x hx=>?_)
    apply Classical.byContradiction
    intro h3
    exact h2 ⟨x,hx,by simp;omega⟩
theorem less_go (m:Int):∀ (v2 w2 v1 w1 o1:List Int),v1.length=w1.length → o1.length=v1.length → v2.length=w2.length → inB 1000000 v2 → inB 1000000 w2 → (v1 ++ v2).length < 1000000 →
    Ev (fun k=>count_less.l0 k (v1 ++ v2) (w1 ++ w2) (o1 ++ List.replicate v2.length 0) ((v1 ++ v2).length:Int) (v1.length:Int)) (o1 ++ subV v2 w2,!((o1 ++ subV v2 w2).any fun x=>decide (x < 0) || decide (60 < x)))
  | [],[],v1,w1,o1,h1,h2,h3,b1,b2,hl=>by
    refine Ev.succ ?_
    simp only [count_less.l0]
    refine Ev.neg (by simp) ?_
    refine Ev.bindc (x:=(o1 ++ subV [] []).any fun x=>decide (x < 0) || decide (60 < x)) (by simp [count_outside.f,subV]) ?_
    simp [subV]
    exact Ev.now _
  | x :: v2,y :: w2,v1,w1,o1,h1,h2,h3,b1,b2,hl=>by
    have hlen:(v1 ++ x :: v2).length=v1.length + (v2.length + 1):=by simp
    have ih:=less_go m v2 w2 (v1 ++ [x]) (w1 ++ [y]) (o1 ++ [x - y]) (by simp [h1]) (by simp [h2]) (by simpa using h3) (fun z hz=>b1 z (by simp [hz])) (fun z hz=>b2 z (by simp [hz])) (by simp at hl ⊢;omega)
    have bx:=b1 x (by simp)
    have by':=b2 y (by simp)
    refine Ev.succ ?_
    simp only [count_less.l0]
    refine Ev.pos (by simp;omega) (Ev.pos (by omega) (Ev.pos (by simp;omega) (Ev.pos (by simp;omega) (Ev.pos (by simp;omega) ?_))))
    rw [rd_app v1 x v2,show (v1.length:Int)=(w1.length:Int) by omega,rd_app w1 y w2,← h1,wrap_id (by omega) (by omega),wsucc (by simp at hl;omega)]
    rw [← app_snoc,← app_snoc] at ih
    have e:(o1 ++ List.replicate (x :: v2).length 0).set ((v1.length:Int)).toNat (x - y)=o1 ++ [x - y] ++ List.replicate v2.length 0:=by
      rw [← h2,List.length_cons,List.replicate_succ,set_app];simp
    rw [e,len_snoc v1 x,subV]
    rw [List.append_assoc o1 [x - y] (subV v2 w2)] at ih
    exact ih
theorem less_ev {v w:List Int} (h:v.length=w.length) (hv:inB 1000000 v) (hw:inB 1000000 w) (hl:v.length < 1000000):Ev (fun k=>count_less.f k v w) (subV v w,!((subV v w).any fun x=>decide (x < 0) || decide (60 < x))):=by
  have:=less_go 0 v w [] [] [] rfl rfl h hv hw hl
  simp only [List.nil_append,List.length_nil] at this
  unfold count_less.f
  refine Ev.pos (by omega) (Ev.pos (by omega) ?_)
  rw [Int.toNat_natCast]
  exact this
theorem less_ok {m:Int} {v w:List Int} (h:v.length=w.length) (hv:inB 60 v) (hw:inB 1000000 w) (hl:v.length < 1000000):Ev (fun k=>count_less.f k v w) (subV v w,decide (nnV (subV v w))):=by
  have h1:=less_ev h (fun x hx=>⟨(hv x hx).1,by have:=hv x hx;omega⟩) hw hl
  have le60:∀ (v w:List Int),inB 60 v → nnV w → ∀ x,x ∈ subV v w → x ≤ 60:=fun v=>by
    induction v with
    | nil=>intro w _ _ x hx;simp [subV] at hx
    | cons a v ih =>
      intro w hv hw x hx
      match w,hw,hx with
      | b :: w,hw,hx =>
        rw [subV] at hx
        rcases List.mem_cons.1 hx with rfl|hx
        · have:=hv a (by simp)
          have:=hw b (by simp)
          omega
        · exact ih w (fun z hz=>hv z (by simp [hz])) (fun z hz=>hw z (by simp [hz])) x hx
  have e:(!((subV v w).any fun x=>decide (x < 0) || decide (60 < x)))=decide (nnV (subV v w)):=by
    rw [Bool.eq_iff_iff,decide_eq_true_iff,Bool.not_eq_true',← Bool.not_eq_true,outside_iff]
    constructor
    · intro h x hx
      exact (Classical.byContradiction h x hx).1
    · exact fun h hn=>hn (fun x hx=>⟨h x hx,le60 v w hv hw.nn x hx⟩)
  rw [← e]
  exact h1
theorem refLess_go:∀ (v2 w2 v1 w1 o1:List Int) (ok:Bool),v1.length=w1.length → v2.length=w2.length → inB 1000000 v2 → inB 1000000 w2 → (v1 ++ v2).length < 1000000 → o1.length=v1.length →
    Ev (fun k=>bellpullref05_Less.l0 k (v1 ++ v2) (w1 ++ w2) o1 ok (v1.length:Int)) (o1 ++ subV v2 w2,ok && decide (nnV (subV v2 w2)))
  | [],[],v1,w1,o1,ok,h1,h3,b1,b2,hl,ho=>by
    refine Ev.succ ?_
    simp only [bellpullref05_Less.l0]
    refine Ev.neg (by simp) ?_
    have:decide (nnV (subV [] []))=true:=decide_eq_true (fun x hx=>by simp [subV] at hx)
    rw [this]
    simp [subV]
    exact Ev.now _
  | x :: v2,y :: w2,v1,w1,o1,ok,h1,h3,b1,b2,hl,ho=>by
    have ih:∀ ok:Bool,Ev (fun k=>bellpullref05_Less.l0 k (v1 ++ x :: v2) (w1 ++ y :: w2) (o1 ++ [x - y]) ok ((v1.length + 1:Nat):Int)) (o1 ++ (x - y) :: subV v2 w2,ok && decide (nnV (subV v2 w2))):=fun ok=>by
      have:=refLess_go v2 w2 (v1 ++ [x]) (w1 ++ [y]) (o1 ++ [x - y]) ok (by simp [h1]) (by simpa using h3) (fun z hz=>b1 z (by simp [hz])) (fun z hz=>b2 z (by simp [hz])) (by simp at hl ⊢;omega) (by simp [ho])
      rw [← app_snoc,← app_snoc,← len_snoc,List.append_assoc o1] at this
      exact this
    have bx:=b1 x (by simp)
    have by':=b2 y (by simp)
    have e:decide (nnV (subV (x :: v2) (y :: w2)))=(decide (x ≥ y) && decide (nnV (subV v2 w2))):=by
      rw [Bool.eq_iff_iff,Bool.and_eq_true,decide_eq_true_iff,decide_eq_true_iff,decide_eq_true_iff,subV]
      constructor
      · exact fun h=>⟨by have:=h (x - y) (by simp);omega,fun z hz=>h z (by simp [hz])⟩
      · rintro ⟨h,h2⟩ z hz
        rcases List.mem_cons.1 hz with rfl|hz
        · omega
        · exact h2 z hz
    refine Ev.succ ?_
    simp only [bellpullref05_Less.l0]
    refine Ev.pos (by simp;omega) (Ev.pos (by omega) (Ev.pos (by simp;omega) (Ev.pos (by simp at hl;omega) ?_)))
    rw [rd_app v1 x v2,show (v1.length:Int)=(w1.length:Int) by omega,rd_app w1 y w2,← h1,wrap_id (by omega) (by omega),wsucc (by simp at hl;omega)]
    simp only [Option.bind_some]
    rw [e,subV]
    cases ok with
    | true =>
      refine Ev.pos rfl ?_
      rw [Bool.true_and]
      exact ih _
    | false =>
      refine Ev.neg (by simp) ?_
      rw [Bool.false_and]
      have:=ih false
      rw [Bool.false_and] at this
      exact this
theorem refLess_ev {v w:List Int} (h:v.length=w.length) (hv:inB 1000000 v) (hw:inB 1000000 w) (hl:v.length < 1000000):Ev (fun k=>bellpullref05_Less.f k v w) (subV v w,decide (nnV (subV v w))):=by
  have:=refLess_go v w [] [] [] true rfl h hv hw hl rfl
  simp only [List.nil_append,List.length_nil,Bool.true_and] at this
  exact this
theorem refTotal_go:∀ (v2 v1:List Int) (s:Int),inB 1000000 v2 → 0 ≤ s → s ≤ 1000000 * v1.length → (v1 ++ v2).length < 1000000 → Ev (fun k=>bellpullref05_Total.l0 k (v1 ++ v2) s (v1.length:Int)) (s + v2.sum)
  | [],v1,s,_,h0,h1,hl=>by
    refine Ev.succ ?_
    simp only [bellpullref05_Total.l0]
    refine Ev.neg (by simp) ?_
    simp
    exact Ev.now _
  | x :: v2,v1,s,hb,h0,h1,hl=>by
    have bx:=hb x (by simp)
    have ih:=refTotal_go v2 (v1 ++ [x]) (s + x) (fun z hz=>hb z (by simp [hz])) (by omega) (by simp;omega) (by simp at hl ⊢;omega)
    rw [← app_snoc,← len_snoc] at ih
    refine Ev.succ ?_
    simp only [bellpullref05_Total.l0]
    refine Ev.pos (by simp;omega) (Ev.pos (by omega) ?_)
    have hl2:v1.length < 1000000:=by simp at hl;omega
    rw [rd_app,wrap_id (x:=s + x) (by omega) (by omega),wsucc (by omega),List.sum_cons,← Int.add_assoc]
    exact ih
theorem refTotal_ev {v:List Int} (hv:inB 1000000 v) (hl:v.length < 1000000):Ev (fun k=>bellpullref05_Total.f k v) v.sum:=by
  have:=refTotal_go v [] 0 hv (by omega) (by simp) hl
  simp only [List.nil_append,List.length_nil,Int.zero_add] at this
  exact this
end Go.Proofs.Ytkonljiembcdlaa.Pure
/- Has, of the program and of the reference, in plain Lean. -/
set_option linter.unusedVariables false
set_option linter.unusedSimpArgs false
namespace Go.Proofs.Ytkonljiembcdlaa.Pure
open Go.RowKit Go.Proofs.MyWords Go.Proofs.YtkonljiembcdlaaW.PrintWords Go.Proofs.YtkonljiembcdlaaW.PrintLast Go.Proofs.YtkonljiembcdlaaW.PrintMore Go.Proofs.Ytkonljiembcdlaa.PC Go.Proofs.Ytkonljiembcdlaa.Sem
def okV (d:Nat) (m:Int) (v:List Int):Prop:=v.length=d∧inB m v
theorem okV.mono {d:Nat} {m n:Int} {v:List Int} (h:okV d m v) (hm:m ≤ n):okV d n v:=⟨h.1,fun x hx=>⟨(h.2 x hx).1,by have:=h.2 x hx;omega⟩⟩
def okP (d:Nat) (ps:List (List Int)):Prop:=∀ p,p ∈ ps → okV d 1000000 p
theorem okP.okD {d:Nat} {ps:List (List Int)} (h:okP d ps):okD d ps:=fun p hp=>⟨(h p hp).1,(h p hp).2.nn⟩
theorem okP.tail {d:Nat} {p:List Int} {ps:List (List Int)} (h:okP d (p :: ps)):okP d ps:=fun q hq=>h q (by simp [hq])
theorem sub60 {d:Nat} {v w:List Int} (hv:okV d 60 v) (hw:okV d 1000000 w) (h:nnV (subV v w)):okV d 60 (subV v w):=by
  refine ⟨subV_len hv.1 hw.1,fun x hx=>⟨h x hx,?_⟩⟩
  have:∀ (v w:List Int),inB 60 v → nnV w → ∀ x,x ∈ subV v w → x ≤ 60:=fun v=>by
    induction v with
    | nil=>intro w _ _ x hx;simp [subV] at hx
    | cons a v ih =>
      intro w hv hw x hx
      match w,hw,hx with
      | b :: w,hw,hx =>
        rw [subV] at hx
        rcases List.mem_cons.1 hx with rfl|hx
        · have:=hv a (by simp)
          have:=hw b (by simp)
          omega
        · exact ih w (fun z hz=>hv z (by simp [hz])) (fun z hz=>hw z (by simp [hz])) x hx
  exact this v w hv.2 hw.2.nn x hx
theorem zeroV_iff (v:List Int):zeroV v=true ↔ ∀ x,x ∈ v → x=0:=by
  unfold zeroV
  rw [Bool.not_eq_true',← Bool.not_eq_true,List.any_eq_true]
  constructor
  · intro h x hx
    apply Classical.byContradiction
    intro h2
    exact h ⟨x,hx,by simp [h2]⟩
  · rintro h ⟨x,hx,h2⟩
    rw [h x hx] at h2
    simp at h2
theorem zero_f (v:List Int):count_zero.f v=some (zeroV v):=rfl
theorem pos_of_nz {p:List Int} (hn:nnV p) (h:zeroV p=false):0 < p.sum:=by
  have:=sum_nn hn
  rcases Int.lt_or_eq_of_le this with h1|h1
  · exact h1
  · have:=(zeroV_iff p).2 (zero_of_sum hn h1.symm)
    rw [h] at this
    cases this
theorem made_nil (v:List Int):Ev (fun k=>count_made.f k v []) (zeroV v):=by
  refine Ev.succ ?_
  simp only [count_made.f,zero_f,Option.bind_some]
  cases h:zeroV v with
  | true=>exact Ev.pos rfl (Ev.now _)
  | false=>exact Ev.neg (by simp) (Ev.pos (by simp) (Ev.now _))
theorem made_ev (d:Nat) (hd:d < 1000000):∀ (ps:List (List Int)),okP d ps → (∀ p,p ∈ ps → zeroV p=false) → ∀ v,okV d 60 v → ∃ b,Ev (fun k=>count_made.f k v ps) b∧(b=true ↔ Comb d ps v)
  | [],_,_,v,hv=>⟨_,made_nil v,by
      rw [zeroV_iff,comb_nil]
      exact ⟨eq_zeroN hv.1,fun h x hx=>by rw [h] at hx;exact zeroN_mem hx⟩⟩
  | p :: ps,hp,hz,v,hv=>by
    have IH:=made_ev d hd ps hp.tail (fun q hq=>hz q (by simp [hq]))
    have pp:0 < p.sum:=pos_of_nz (hp p (by simp)).2.nn (hz p (by simp))
    have loop:∀ (n:Nat) (v:List Int),v.sum.toNat < n → okV d 60 v → ∃ b,Ev (fun k=>count_made.l0 k v (p :: ps) true) b∧(b=true ↔ Comb d (p :: ps) v):=fun n=>by
      induction n with
      | zero=>intro v h _;omega
      | succ n ih =>
        intro v hn hv
        have hl:v.length=p.length:=hv.1.trans (hp p (by simp)).1.symm
        have hle:=less_ok (m:=0) hl hv.2 (hp p (by simp)).2 (by rw [hv.1];exact hd)
        obtain ⟨b1,e1,i1⟩:=IH v hv
        have hc:=comb_sub hp.okD (v:=v) hv.1
        cases b1 with
        | true =>
          refine ⟨true,?_,⟨fun _=>hc.2 (.inl (i1.1 rfl)),fun _=>rfl⟩⟩
          refine Ev.succ ?_
          simp only [count_made.l0]
          refine Ev.pos trivial (Ev.pos (by simp <;> omega) (Ev.bind e1 (Ev.pos rfl (Ev.now _))))
        | false =>
          have hno:¬ Comb d ps v:=fun h=>by have:=i1.2 h;cases this
          have rd0:rd_L1 (p :: ps) 0=p:=rfl
          have start:∀ b,Ev (fun k=>count_made.l0 k (subV v p) (p :: ps) (decide (nnV (subV v p)))) b → Ev (fun k=>count_made.l0 k v (p :: ps) true) b:=fun b hb=>by
            refine Ev.succ ?_
            simp only [count_made.l0]
            refine Ev.pos trivial (Ev.pos (by simp <;> omega) (Ev.bind e1 (Ev.neg (by simp) (Ev.pos (by simp <;> omega) ?_))))
            rw [rd0]
            exact Ev.bind hle hb
          by_cases hnn:nnV (subV v p)
          · have hs:=sub60 hv (hp p (by simp)) hnn
            have hsum:=sum_subV hl
            have:=sum_nn hs.2.nn
            have:=sum_nn hv.2.nn
            obtain ⟨b,e2,i2⟩:=ih (subV v p) (by omega) hs
            refine ⟨b,start b (by rw [decide_eq_true hnn];exact e2),?_⟩
            rw [i2,hc]
            exact ⟨.inr,fun h=>h.resolve_left hno⟩
          · refine ⟨false,start false (by rw [decide_eq_false hnn];refine Ev.succ ?_;simp only [count_made.l0];exact Ev.neg (by simp) (Ev.now _)),⟨fun h=>(by cases h),fun h=>?_⟩⟩
            rcases hc.1 h with h|h
            · exact absurd h hno
            · exact absurd (h.nn hp.okD) hnn
    cases hzv:zeroV v with
    | true =>
      have:v=zeroN d:=eq_zeroN hv.1 ((zeroV_iff v).1 hzv)
      refine ⟨true,?_,⟨fun _=>this ▸ .zero,fun _=>rfl⟩⟩
      refine Ev.succ ?_
      simp only [count_made.f,zero_f,Option.bind_some,hzv]
      exact Ev.pos trivial (Ev.now _)
    | false =>
      obtain ⟨b,e,i⟩:=loop (v.sum.toNat + 1) v (by omega) hv
      refine ⟨b,?_,i⟩
      refine Ev.succ ?_
      simp only [count_made.f,zero_f,Option.bind_some,hzv]
      exact Ev.neg (by simp) (Ev.neg (by simp <;> omega) e)
def InL (d:Nat) (b:List Int) (ps:List (List Int)) (v:List Int):Prop:=∃ w,Comb d ps w∧v=addV b w
def InS (d:Nat) (set:List S60) (v:List Int):Prop:=∃ l,l ∈ set∧InL d l.f0 l.f1 v
def okL (d:Nat) (l:S60):Prop:=okV d 1000000 l.f0∧okP d l.f1∧l.f1.length ≤ 1000000
theorem inL_sub {d:Nat} {b:List Int} {ps:List (List Int)} (hb:okV d 1000000 b) (hp:okP d ps) {v:List Int} (hv:v.length=d):InL d b ps v ↔ nnV (subV v b)∧Comb d ps (subV v b):=by
  constructor
  · rintro ⟨w,hw,rfl⟩
    have hl:=hw.len hp.okD
    rw [addV_comm,addV_sub (hl.trans hb.1.symm)]
    exact ⟨hw.nn hp.okD,hw⟩
  · rintro ⟨_,h⟩
    exact ⟨_,h,by rw [addV_comm,subV_add (hv.trans hb.1.symm)]⟩
theorem in_ev {d:Nat} (hd:d < 1000000) {l:S60} (hl:okL d l) {v:List Int} (hv:okV d 60 v):∃ b,Ev (fun k=>count_in.f k l.f0 l.f1 v) b∧(b=true ↔ InL d l.f0 l.f1 v):=by
  obtain ⟨hb,hp,hn⟩:=hl
  have hle:=less_ok (m:=0) (hv.1.trans hb.1.symm) hv.2 hb.2 (by rw [hv.1];exact hd)
  have hi:=inL_sub hb hp hv.1
  have start:∀ b,Ev (fun k=>if decide (nnV (subV v l.f0))=true then count_made.f k (subV v l.f0) (l.f1.filter fun x=>!zeroV x) else some false) b → Ev (fun k=>count_in.f k l.f0 l.f1 v) b:=fun b h=>by
    unfold count_in.f
    exact Ev.pos (by omega) (Ev.bind hle h)
  by_cases hnn:nnV (subV v l.f0)
  · have hz:∀ p,p ∈ (l.f1.filter fun x=>!zeroV x) → zeroV p=false:=fun p h=>by simpa using (List.mem_filter.1 h).2
    obtain ⟨b,e,i⟩:=made_ev d hd (l.f1.filter fun x=>!zeroV x) (fun p h=>hp p (List.mem_filter.1 h).1) hz _ (sub60 hv hb hnn)
    refine ⟨b,start b (Ev.pos (decide_eq_true hnn) e),?_⟩
    rw [i,hi,comb_filter hp.okD (fun x=>!zeroV x) (fun p h hf=>eq_zeroN (hp p h).1 ((zeroV_iff p).1 (by simpa using hf)))]
    exact ⟨fun h=>⟨hnn,h⟩,fun h=>h.2⟩
  · exact ⟨false,start false (Ev.neg (by simpa using hnn) (Ev.now _)),⟨fun h=>(by cases h),fun h=>absurd (hi.1 h).1 hnn⟩⟩
theorem has_go {d:Nat} (hd:d < 1000000) {v:List Int} (hv:okV d 60 v):∀ set:List S60,(∀ l,l ∈ set → okL d l) → ∃ b,Ev (fun k=>count_has.g k v set) b∧(b=true ↔ InS d set v)
  | [],_=>⟨false,Ev.now _,⟨fun h=>(by cases h),fun ⟨l,h,_⟩=>by simp at h⟩⟩
  | l :: set,h=>by
    obtain ⟨b,e,i⟩:=in_ev hd (h l (by simp)) hv
    obtain ⟨c,f,j⟩:=has_go hd hv set (fun x hx=>h x (by simp [hx]))
    refine ⟨b || c,Ev.bind e (Ev.bind f (Ev.now _)),?_⟩
    rw [Bool.or_eq_true,i,j]
    constructor
    · rintro (h|⟨x,hx,h⟩)
      · exact ⟨l,by simp,h⟩
      · exact ⟨x,by simp [hx],h⟩
    · rintro ⟨x,hx,h2⟩
      rcases List.mem_cons.1 hx with rfl|hx
      · exact .inl h2
      · exact .inr ⟨x,hx,h2⟩
theorem has_ev {d:Nat} (hd:d < 1000000) {v:List Int} (hv:okV d 60 v) {set:List S60} (h:∀ l,l ∈ set → okL d l):∃ b,Ev (fun k=>count_has.f k set v) b∧(b=true ↔ InS d set v):=has_go hd hv set h
end Go.Proofs.Ytkonljiembcdlaa.Pure
/- Which error semilinear sets have, by the program and by the reference, in plain Lean. -/
set_option linter.unusedVariables false
set_option linter.unusedSimpArgs false
namespace Go.Proofs.Ytkonljiembcdlaa.Pure
open Go.RowKit Go.Proofs.MyWords Go.Proofs.YtkonljiembcdlaaW.PrintWords Go.Proofs.YtkonljiembcdlaaW.PrintLast Go.Proofs.YtkonljiembcdlaaW.PrintMore Go.Proofs.Ytkonljiembcdlaa.PC Go.Proofs.Ytkonljiembcdlaa.Sem
def farV (v:List Int):Bool:=v.any fun x=>decide (x < 0) || decide (20 < x)
def oddV (d:Int) (v:List Int):Bool:=(v.length:Int) != d
def longS (s:List S60):Bool:=s.any (fun l=>decide ((l.f1.length:Int) > 4)) || decide ((s.length:Int) > 8)
def wideS (s:List S60):Bool:=s.any fun l=>farV l.f0 || l.f1.any farV
def oddS (d:Int) (s:List S60):Bool:=s.any fun l=>oddV d l.f0 || l.f1.any (oddV d)
def badD (d:Int):Bool:=decide (d < 1) || decide (d > 3)
def chk (d:Int) (ss:List (List S60)):Int:=if ss.any longS=true then 3 else if (badD d || ss.any wideS)=true then 1 else if ss.any (oddS d)=true then 2 else 0
def short {α:Type} (l:List α):Prop:=l.length < 1000000000
theorem short.tail {α:Type} {x:α} {l:List α} (h:short (x :: l)):short l:=by unfold short at *;simp at h;omega
section
variable (d:Int) (lg:Bool) (ss:List (List S60)) (n2 i2:Int) (set:List S60) (n1 i1:Int)
theorem check_l2:∀ (t pre:List (List Int)) (fr od:Bool) (r:Int),short (pre ++ t) → Ev (fun k=>count_check.l1 k d lg (fr || t.any farV) (od || t.any (oddV d)) ss n2 i2 set n1 (wrap64 (i1 + 1))) r →
    Ev (fun k=>count_check.l2 k d lg fr od ss n2 i2 set n1 i1 (pre ++ t) ((pre ++ t).length:Int) (pre.length:Int)) r
  | [],pre,fr,od,r,hs,h=>by
    refine Ev.succ ?_
    simp only [count_check.l2]
    refine Ev.neg (by simp) ?_
    simpa using h
  | p :: t,pre,fr,od,r,hs,h=>by
    have ws:wrap64 ((pre.length:Int) + 1)=((pre.length + 1:Nat):Int):=wsucc (by unfold short at hs;simp at hs;omega)
    have ih:∀ fr od,Ev (fun k=>count_check.l1 k d lg (fr || t.any farV) (od || t.any (oddV d)) ss n2 i2 set n1 (wrap64 (i1 + 1))) r → Ev (fun k=>count_check.l2 k d lg fr od ss n2 i2 set n1 i1 (pre ++ p :: t) ((pre ++ p :: t).length:Int) ((pre.length + 1:Nat):Int)) r:=fun fr od h2=>by
      have:=check_l2 t (pre ++ [p]) fr od r (by rw [← app_snoc];exact hs) h2
      rw [← app_snoc,← len_snoc] at this
      exact this
    rw [List.any_cons,List.any_cons,← Bool.or_assoc,← Bool.or_assoc] at h
    refine Ev.succ ?_
    simp only [count_check.l2,rdL1_app,ws]
    refine Ev.pos (lt_app _ _ _) (Ev.pos (by omega) (Ev.pos (lt_app _ _ _) ?_))
    have inner:∀ f2,f2=(fr || farV p) → Ev (fun k=>if od=true then count_check.l2 k d lg f2 true ss n2 i2 set n1 i1 (pre ++ p :: t) ((pre ++ p :: t).length:Int) ((pre.length + 1:Nat):Int) else count_check.l2 k d lg f2 ((p.length:Int) != d) ss n2 i2 set n1 i1 (pre ++ p :: t) ((pre ++ p :: t).length:Int) ((pre.length + 1:Nat):Int)) r:=fun f2 e=>by
      subst e
      cases od with
      | true=>exact Ev.pos rfl (ih _ _ h)
      | false=>exact Ev.neg (by simp) (ih _ _ h)
    cases fr with
    | true=>exact Ev.pos rfl (inner _ rfl)
    | false =>
      refine Ev.neg (by simp) ?_
      refine Ev.bindc (x:=farV p) rfl ?_
      exact inner _ rfl
end
theorem check_l1 (d:Int) (ss:List (List S60)) (n2 i2:Int):∀ (t pre:List S60) (lg fr od:Bool) (r:Int),short (pre ++ t) → (∀ l,l ∈ t → short l.f1) →
    Ev (fun k=>count_check.l0 k d (lg || t.any (fun l=>decide ((l.f1.length:Int) > 4))) (fr || wideS t) (od || oddS d t) ss n2 (wrap64 (i2 + 1))) r →
    Ev (fun k=>count_check.l1 k d lg fr od ss n2 i2 (pre ++ t) ((pre ++ t).length:Int) (pre.length:Int)) r
  | [],pre,lg,fr,od,r,hs,hp,h=>by
    refine Ev.succ ?_
    simp only [count_check.l1]
    refine Ev.neg (by simp) ?_
    simpa [wideS,oddS] using h
  | l :: t,pre,lg,fr,od,r,hs,hp,h=>by
    have ws:wrap64 ((pre.length:Int) + 1)=((pre.length + 1:Nat):Int):=wsucc (by unfold short at hs;simp at hs;omega)
    have ih:∀ lg fr od,Ev (fun k=>count_check.l0 k d (lg || t.any (fun l=>decide ((l.f1.length:Int) > 4))) (fr || wideS t) (od || oddS d t) ss n2 (wrap64 (i2 + 1))) r → Ev (fun k=>count_check.l1 k d lg fr od ss n2 i2 (pre ++ l :: t) ((pre ++ l :: t).length:Int) ((pre.length + 1:Nat):Int)) r:=fun lg fr od h2=>by
      have:=check_l1 d ss n2 i2 t (pre ++ [l]) lg fr od r (by rw [← app_snoc];exact hs) (fun x hx=>hp x (by simp [hx])) h2
      rw [← app_snoc,← len_snoc] at this
      exact this
    have e1:wideS (l :: t)=(farV l.f0 || l.f1.any farV || wideS t):=by unfold wideS;rw [List.any_cons]
    have e2:oddS d (l :: t)=(oddV d l.f0 || l.f1.any (oddV d) || oddS d t):=by unfold oddS;rw [List.any_cons]
    rw [List.any_cons,e1,e2,← Bool.or_assoc,← Bool.or_assoc,← Bool.or_assoc,← Bool.or_assoc,← Bool.or_assoc] at h
    have s6:∀ lg fr od,Ev (fun k=>count_check.l0 k d (lg || t.any (fun l=>decide ((l.f1.length:Int) > 4))) (fr || l.f1.any farV || wideS t) (od || l.f1.any (oddV d) || oddS d t) ss n2 (wrap64 (i2 + 1))) r → Ev (fun k=>count_check.j6 k d lg fr od ss n2 i2 (pre ++ l :: t) ((pre ++ l :: t).length:Int) (pre.length:Int) l.f0 l.f1) r:=fun lg fr od h2=>by
      refine Ev.succ ?_
      simp only [count_check.j6]
      refine check_l2 d lg ss n2 i2 _ _ _ l.f1 [] fr od r (hp l (by simp)) ?_
      rw [ws]
      exact ih _ _ _ h2
    have s5:∀ lg fr od,Ev (fun k=>count_check.l0 k d (lg || t.any (fun l=>decide ((l.f1.length:Int) > 4))) (fr || l.f1.any farV || wideS t) (od || oddV d l.f0 || l.f1.any (oddV d) || oddS d t) ss n2 (wrap64 (i2 + 1))) r → Ev (fun k=>count_check.j5 k d lg fr od ss n2 i2 (pre ++ l :: t) ((pre ++ l :: t).length:Int) (pre.length:Int) l.f0 l.f1) r:=fun lg fr od h2=>by
      refine Ev.succ ?_
      simp only [count_check.j5]
      cases od with
      | true=>exact Ev.pos rfl (s6 _ _ _ (by simpa using h2))
      | false=>exact Ev.neg (by simp) (s6 _ _ _ (by simpa [oddV] using h2))
    have s4:∀ lg fr od,Ev (fun k=>count_check.l0 k d (lg || t.any (fun l=>decide ((l.f1.length:Int) > 4))) (fr || farV l.f0 || l.f1.any farV || wideS t) (od || oddV d l.f0 || l.f1.any (oddV d) || oddS d t) ss n2 (wrap64 (i2 + 1))) r → Ev (fun k=>count_check.j4 k d lg fr od ss n2 i2 (pre ++ l :: t) ((pre ++ l :: t).length:Int) (pre.length:Int) l.f0 l.f1) r:=fun lg fr od h2=>by
      refine Ev.succ ?_
      simp only [count_check.j4]
      cases fr with
      | true=>exact Ev.pos rfl (s5 _ _ _ (by simpa using h2))
      | false =>
        refine Ev.neg (by simp) ?_
        refine Ev.bindc (x:=farV l.f0) rfl ?_
        exact s5 _ _ _ (by simpa using h2)
    refine Ev.succ ?_
    simp only [count_check.l1,rdT60_app]
    refine Ev.pos (lt_app _ _ _) (Ev.pos (by omega) (Ev.pos (lt_app _ _ _) ?_))
    cases lg with
    | true=>exact Ev.pos rfl (s4 _ _ _ (by simpa using h))
    | false=>exact Ev.neg (by simp) (s4 _ _ _ (by simpa using h))
def tell (lg fr od:Bool):Int:=if lg=true then 3 else if fr=true then 1 else if od=true then 2 else 0
theorem check_l0 (d:Int):∀ (t pre:List (List S60)) (lg fr od:Bool),short (pre ++ t) → (∀ s,s ∈ t → short s∧∀ l,l ∈ s → short l.f1) →
    Ev (fun k=>count_check.l0 k d lg fr od (pre ++ t) ((pre ++ t).length:Int) (pre.length:Int)) (tell (lg || t.any longS) (fr || t.any wideS) (od || t.any (oddS d)))
  | [],pre,lg,fr,od,hs,hp=>by
    refine Ev.succ ?_
    simp only [count_check.l0]
    refine Ev.neg (by simp) ?_
    unfold tell
    cases lg
    · refine Ev.neg (by simp) ?_
      cases fr
      · refine Ev.neg (by simp) ?_
        cases od
        · exact Ev.neg (by simp) (Ev.now _)
        · exact Ev.pos rfl (Ev.now _)
      · exact Ev.pos rfl (Ev.now _)
    · exact Ev.pos rfl (Ev.now _)
  | s :: t,pre,lg,fr,od,hs,hp=>by
    have ws:wrap64 ((pre.length:Int) + 1)=((pre.length + 1:Nat):Int):=wsucc (by unfold short at hs;simp at hs;omega)
    have ih:∀ lg fr od,Ev (fun k=>count_check.l0 k d lg fr od (pre ++ s :: t) ((pre ++ s :: t).length:Int) ((pre.length + 1:Nat):Int)) (tell (lg || t.any longS) (fr || t.any wideS) (od || t.any (oddS d))):=fun lg fr od=>by
      have:=check_l0 d t (pre ++ [s]) lg fr od (by rw [← app_snoc];exact hs) (fun x hx=>hp x (by simp [hx]))
      rw [← app_snoc,← len_snoc] at this
      exact this
    have j2:∀ lg,Ev (fun k=>count_check.j2 k d lg fr od s (pre ++ s :: t) ((pre ++ s :: t).length:Int) (pre.length:Int)) (tell ((lg || s.any (fun l=>decide ((l.f1.length:Int) > 4))) || t.any longS) (fr || wideS s || t.any wideS) (od || oddS d s || t.any (oddS d))):=fun lg=>by
      refine Ev.succ ?_
      simp only [count_check.j2]
      refine check_l1 d _ _ _ s [] lg fr od _ (hp s (by simp)).1 (hp s (by simp)).2 ?_
      rw [ws]
      exact ih _ _ _
    refine Ev.succ ?_
    simp only [count_check.l0,rdL4_app]
    refine Ev.pos (lt_app _ _ _) (Ev.pos (by omega) (Ev.pos (lt_app _ _ _) ?_))
    rw [List.any_cons,List.any_cons,List.any_cons,← Bool.or_assoc,← Bool.or_assoc,← Bool.or_assoc]
    cases lg with
    | true =>
      refine Ev.pos rfl ?_
      simpa using j2 true
    | false =>
      refine Ev.neg (by simp) ?_
      have:=j2 (decide ((s.length:Int) > 8))
      rw [Bool.or_comm (decide ((s.length:Int) > 8))] at this
      rw [Bool.false_or]
      exact this
theorem check_ev (d:Int) (ss:List (List S60)) (hs:short ss) (hp:∀ s,s ∈ ss → short s∧∀ l,l ∈ s → short l.f1):Ev (fun k=>count_check.f k d ss) (chk d ss):=by
  have go:∀ fr,Ev (fun k=>count_check.j0 k d ss false fr false) (tell (ss.any longS) (fr || ss.any wideS) (ss.any (oddS d))):=fun fr=>by
    refine Ev.succ ?_
    simp only [count_check.j0]
    have:=check_l0 d ss [] false fr false hs hp
    simpa using this
  unfold count_check.f
  by_cases h:d < 1
  · have e:badD d=true:=by unfold badD;simp [h]
    refine Ev.pos h ?_
    have:=go true
    unfold chk
    rw [e]
    exact this
  · have e:badD d=decide (d > 3):=by unfold badD;simp [h]
    refine Ev.neg h ?_
    have:=go (decide (d > 3))
    unfold chk
    rw [e]
    exact this
def shortL (l:S60):Prop:=short l.f0∧short (l.f0 :: l.f1)∧∀ p,p ∈ l.f1 → short p
def shortS (s:List S60):Prop:=short s∧∀ l,l ∈ s → shortL l
def okSet (d:Nat) (s:List S60):Prop:=s.length ≤ 8∧∀ l,l ∈ s → okV d 20 l.f0∧l.f1.length ≤ 4∧∀ p,p ∈ l.f1 → okV d 20 p
theorem farV_iff (v:List Int):farV v=false ↔ inB 20 v:=by
  have:=outside_iff v 20
  unfold farV
  rw [← Bool.not_eq_true,this]
  exact ⟨fun h=>Classical.byContradiction h,fun h h2=>h2 h⟩
theorem oddV_iff (d:Int) (v:List Int):oddV d v=false ↔ (v.length:Int)=d:=by unfold oddV;simp
theorem chk_ok {d:Int} {ss:List (List S60)}:chk d ss=0 ↔ (1 ≤ d∧d ≤ 3)∧∀ s,s ∈ ss → okSet d.toNat s:=by
  have hl:∀ s,longS s=false ↔ s.length ≤ 8∧∀ l,l ∈ s → l.f1.length ≤ 4:=fun s=>by
    unfold longS
    rw [Bool.or_eq_false_iff,← Bool.not_eq_true,List.any_eq_true,decide_eq_false_iff_not]
    constructor
    · rintro ⟨h1,h2⟩
      exact ⟨by omega,fun l hl=>Nat.le_of_not_lt (fun h=>h1 ⟨l,hl,decide_eq_true (by omega)⟩)⟩
    · rintro ⟨h1,h2⟩
      exact ⟨fun ⟨l,hl,h⟩=>by have:=h2 l hl;have:=of_decide_eq_true h;omega,by omega⟩
  have hw:∀ s,wideS s=false ↔ ∀ l,l ∈ s → inB 20 l.f0∧∀ p,p ∈ l.f1 → inB 20 p:=fun s=>by
    unfold wideS
    rw [← Bool.not_eq_true,List.any_eq_true]
    constructor
    · intro h l hl
      have:(farV l.f0 || l.f1.any farV)=false:=by
        rw [← Bool.not_eq_true];exact fun h2=>h ⟨l,hl,h2⟩
      rw [Bool.or_eq_false_iff,← Bool.not_eq_true (l.f1.any farV),List.any_eq_true] at this
      exact ⟨(farV_iff _).1 this.1,fun p hp=>(farV_iff _).1 (by rw [← Bool.not_eq_true];exact fun h2=>this.2 ⟨p,hp,h2⟩)⟩
    · rintro h ⟨l,hl,h2⟩
      rcases (Bool.or_eq_true _ _).mp h2 with h2|h2
      · rw [(farV_iff _).2 (h l hl).1] at h2;cases h2
      · obtain ⟨p,hp,h2⟩:=List.any_eq_true.1 h2
        rw [(farV_iff _).2 ((h l hl).2 p hp)] at h2;cases h2
  have ho:∀ s,oddS d s=false ↔ ∀ l,l ∈ s → (l.f0.length:Int)=d∧∀ p,p ∈ l.f1 → (p.length:Int)=d:=fun s=>by
    unfold oddS
    rw [← Bool.not_eq_true,List.any_eq_true]
    constructor
    · intro h l hl
      have:(oddV d l.f0 || l.f1.any (oddV d))=false:=by
        rw [← Bool.not_eq_true];exact fun h2=>h ⟨l,hl,h2⟩
      rw [Bool.or_eq_false_iff,← Bool.not_eq_true (l.f1.any (oddV d)),List.any_eq_true] at this
      exact ⟨(oddV_iff _ _).1 this.1,fun p hp=>(oddV_iff _ _).1 (by rw [← Bool.not_eq_true];exact fun h2=>this.2 ⟨p,hp,h2⟩)⟩
    · rintro h ⟨l,hl,h2⟩
      rcases (Bool.or_eq_true _ _).mp h2 with h2|h2
      · rw [(oddV_iff _ _).2 (h l hl).1] at h2;cases h2
      · obtain ⟨p,hp,h2⟩:=List.any_eq_true.1 h2
        rw [(oddV_iff _ _).2 ((h l hl).2 p hp)] at h2;cases h2
  have anyF:∀ (f:List S60 → Bool),ss.any f=false ↔ ∀ s,s ∈ ss → f s=false:=fun f=>by
    rw [← Bool.not_eq_true,List.any_eq_true]
    exact ⟨fun h s hs=>by rw [← Bool.not_eq_true];exact fun h2=>h ⟨s,hs,h2⟩,fun h ⟨s,hs,h2⟩=>by rw [h s hs] at h2;cases h2⟩
  have hb:badD d=false ↔ 1 ≤ d∧d ≤ 3:=by unfold badD;rw [Bool.or_eq_false_iff,decide_eq_false_iff_not,decide_eq_false_iff_not];omega
  have h0:chk d ss=0 ↔ ss.any longS=false∧badD d=false∧ss.any wideS=false∧ss.any (oddS d)=false:=by
    unfold chk
    cases ss.any longS <;> cases badD d <;> cases ss.any wideS <;> cases ss.any (oddS d) <;> simp
  rw [h0,anyF,anyF,anyF,hb]
  constructor
  · rintro ⟨h1,h2,h3,h4⟩
    refine ⟨h2,fun s hs=>⟨((hl s).1 (h1 s hs)).1,fun l hls=>?_⟩⟩
    have q3:=(hw s).1 (h3 s hs) l hls
    have q4:=(ho s).1 (h4 s hs) l hls
    exact ⟨⟨by omega,q3.1⟩,((hl s).1 (h1 s hs)).2 l hls,fun p hp=>⟨by have:=q4.2 p hp;omega,q3.2 p hp⟩⟩
  · rintro ⟨h1,h2⟩
    refine ⟨fun s hs=>(hl s).2 ⟨(h2 s hs).1,fun l hls=>((h2 s hs).2 l hls).2.1⟩,h1,fun s hs=>(hw s).2 (fun l hls=>?_),fun s hs=>(ho s).2 (fun l hls=>?_)⟩
    · have:=(h2 s hs).2 l hls
      exact ⟨this.1.2,fun p hp=>(this.2.2 p hp).2⟩
    · have:=(h2 s hs).2 l hls
      exact ⟨by have:=this.1.1;omega,fun p hp=>by have:=(this.2.2 p hp).1;omega⟩
theorem okSet.shorts {d:Nat} (hd:d ≤ 3) {s:List S60} (h:okSet d s):shortS s:=by
  refine ⟨by have:=h.1;unfold short;omega,fun l hl=>?_⟩
  have:=h.2 l hl
  exact ⟨by have:=this.1.1;unfold short;omega,by have:=this.2.1;unfold short;simp;omega,fun p hp=>by have:=(this.2.2 p hp).1;unfold short;omega⟩
theorem okSet.okL {d:Nat} {s:List S60} (h:okSet d s):∀ l,l ∈ s → okL d l:=fun l hl=>by
  have:=h.2 l hl
  exact ⟨this.1.mono (by decide),fun p hp=>(this.2.2 p hp).mono (by decide),by omega⟩
end Go.Proofs.Ytkonljiembcdlaa.Pure
/- The statements' measure of a long search has a value, in plain Lean. -/
set_option linter.unusedVariables false
set_option linter.unusedSimpArgs false
namespace Go.Proofs.Ytkonljiembcdlaa.Pure
open Go.RowKit Go.Proofs.MyWords Go.Proofs.YtkonljiembcdlaaW.PrintWords Go.Proofs.YtkonljiembcdlaaW.PrintLast Go.Proofs.YtkonljiembcdlaaW.PrintMore Go.Proofs.Ytkonljiembcdlaa.PC Go.Proofs.Ytkonljiembcdlaa.Sem
theorem Has_ok {d:Nat} (h1:1 ≤ d) (hd:d ≤ 3) {set:List S60} (h:okSet d set) {v:List Int} (hv:okV d 60 v):∃ b,Ev (fun k=>count_Has.f k (d:Int) set v) (b,0)∧(b=true ↔ InS d set v):=by
  obtain ⟨b,hb,ib⟩:=has_ev (by omega) hv h.okL
  refine ⟨b,?_,ib⟩
  have hs:=h.shorts hd
  have hc:Ev (fun k=>count_check.f k (d:Int) [set]) 0:=by
    have:=check_ev (d:Int) [set] (by unfold short;simp) (fun t ht=>by
      obtain rfl:t=set:=by simpa using ht
      exact ⟨hs.1,fun l hl=>(hs.2 l hl).2.1.tail⟩)
    rw [chk_ok.2 ⟨by omega,fun t ht=>by
      obtain rfl:t=set:=by simpa using ht
      exact h⟩] at this
    exact this
  have ho:count_outside.f v 60=some false:=by
    unfold count_outside.f
    have:¬ (v.any fun x=>decide (x < 0) || decide (60 < x))=true:=by rw [outside_iff];exact fun h2=>h2 hv.2
    rw [Bool.not_eq_true] at this
    rw [this]
  unfold count_Has.f
  refine Ev.bind hc (Ev.neg (by decide) (Ev.neg (by decide) (Ev.bindc ho ?_)))
  refine Ev.succ ?_
  simp only [count_Has.j0]
  refine Ev.neg (by simp) (Ev.pos trivial (Ev.pos (by rw [hv.1]) (Ev.bind hb (Ev.now _))))
end Go.Proofs.Ytkonljiembcdlaa.Pure
/- A vector's total, as the program takes it, in plain Lean. -/
set_option linter.unusedVariables false
set_option linter.unusedSimpArgs false
namespace Go.Proofs.Ytkonljiembcdlaa.Pure
open Go.RowKit Go.Proofs.MyWords Go.Proofs.YtkonljiembcdlaaW.PrintWords Go.Proofs.YtkonljiembcdlaaW.PrintLast Go.Proofs.YtkonljiembcdlaaW.PrintMore Go.Proofs.Ytkonljiembcdlaa.PC Go.Proofs.Ytkonljiembcdlaa.Sem
theorem ctotal_go:∀ (v2 v1:List Int) (s:Int),inB 1000000 v2 → 0 ≤ s → s ≤ 1000000 * v1.length → (v1 ++ v2).length < 1000000 → Ev (fun k=>count_total.l0 k s (v1 ++ v2) ((v1 ++ v2).length:Int) (v1.length:Int)) (s + v2.sum)
  | [],v1,s,_,h0,h1,hl=>by
    refine Ev.succ ?_
    simp only [count_total.l0]
    refine Ev.neg (by simp) ?_
    simp
    exact Ev.now _
  | x :: v2,v1,s,hb,h0,h1,hl=>by
    have bx:=hb x (by simp)
    have ih:=ctotal_go v2 (v1 ++ [x]) (s + x) (fun z hz=>hb z (by simp [hz])) (by omega) (by simp;omega) (by simp at hl ⊢;omega)
    rw [← app_snoc,← len_snoc] at ih
    refine Ev.succ ?_
    simp only [count_total.l0]
    refine Ev.pos (by simp;omega) (Ev.pos (by omega) (Ev.pos (by simp;omega) ?_))
    have hl2:v1.length < 1000000:=by simp at hl;omega
    rw [rd_app,wrap_id (x:=s + x) (by omega) (by omega),wsucc (by omega),List.sum_cons,← Int.add_assoc]
    exact ih
theorem ctotal_ev {v:List Int} (hv:inB 1000000 v) (hl:v.length < 1000000):Ev (fun k=>count_total.f k v) v.sum:=by
  have:=ctotal_go v [] 0 hv (by omega) (by simp) hl
  simp only [List.nil_append,List.length_nil,Int.zero_add] at this
  exact this
end Go.Proofs.Ytkonljiembcdlaa.Pure
/- count.Least and count.Count in plain Lean. -/
set_option linter.unusedVariables false
set_option linter.unusedSimpArgs false
namespace Go.Proofs.Ytkonljiembcdlaa.Pure
open Go.RowKit Go.Proofs.MyWords Go.Proofs.YtkonljiembcdlaaW.PrintWords Go.Proofs.YtkonljiembcdlaaW.PrintLast Go.Proofs.YtkonljiembcdlaaW.PrintMore Go.Proofs.Ytkonljiembcdlaa.PC Go.Proofs.Ytkonljiembcdlaa.Sem
def cmpL:List Int → List Int → Int
  | [],[]=>0
  | [],_ :: _=>-1
  | _ :: _,[]=>1
  | a :: s,b :: t=>if a < b then -1 else if a > b then 1 else cmpL s t
theorem cmp_f (a b:Int):cmp_Compare_int.f a b=some (if a < b then -1 else if a > b then 1 else 0):=by
  unfold cmp_Compare_int.f cmp_isNaN_int.f
  simp only [bne_self_eq_false,Option.bind_some,Bool.false_eq_true,if_false]
  by_cases h:a < b
  · simp [h]
  · by_cases h2:a > b <;> simp [h,h2]
theorem cmp_go:∀ (s t v w:List Int),v.length=w.length → (v ++ s).length < 1000000 → (w ++ t).length < 1000000 → Ev (fun k=>slices_Compare_int_int.l0 k (v ++ s) (w ++ t) (v ++ s) ((v ++ s).length:Int) (v.length:Int)) (cmpL s t)
  | [],t,v,w,hl,_,_=>by
    refine Ev.succ ?_
    simp only [slices_Compare_int_int.l0]
    refine Ev.neg (by simp) ?_
    cases t with
    | nil=>exact Ev.neg (by simp;omega) (Ev.now _)
    | cons b t=>exact Ev.pos (by simp;omega) (Ev.now _)
  | a :: s,t,v,w,hl,h1,h2=>by
    refine Ev.succ ?_
    simp only [slices_Compare_int_int.l0]
    refine Ev.pos (by simp;omega) (Ev.pos (by omega) (Ev.pos (by simp;omega) ?_))
    cases t with
    | nil=>exact Ev.pos (by simp;omega) (Ev.now _)
    | cons b t =>
      refine Ev.neg (by simp;omega) (Ev.pos (by simp;omega) ?_)
      have e2:rd (w ++ b :: t) (v.length:Int)=b:=by rw [hl];exact rd_app _ _ _
      rw [rd_app,e2]
      refine Ev.bindc (cmp_f a b) ?_
      have hv:v.length < 1000000:=by simp at h1;omega
      have ih:=cmp_go s t (v ++ [a]) (w ++ [b]) (by simp;omega) (by simpa using h1) (by simpa using h2)
      rw [← app_snoc,← app_snoc,← len_snoc] at ih
      rw [wsucc (show v.length < 4611686018427387904 by omega)]
      simp only [cmpL]
      by_cases c1:a < b
      · rw [if_pos c1,if_pos c1];exact Ev.neg (by decide) (Ev.now _)
      · rw [if_neg c1,if_neg c1]
        by_cases c2:a > b
        · rw [if_pos c2,if_pos c2];exact Ev.neg (by decide) (Ev.now _)
        · rw [if_neg c2,if_neg c2];exact Ev.pos rfl ih
theorem cmp_ev {s t:List Int} (h1:s.length < 1000000) (h2:t.length < 1000000):Ev (fun k=>slices_Compare_int_int.f k s t) (cmpL s t):=cmp_go s t [] [] rfl h1 h2
def better (a b:List Int):Bool:=decide (a.sum < b.sum) || (decide (a.sum=b.sum) && decide (cmpL a b < 0))
def leastB:List S60 → Option (List Int) → Option (List Int)
  | [],b=>b
  | l :: t,none=>leastB t (some l.f0)
  | l :: t,some b=>if better l.f0 b=true then leastB t (some l.f0) else leastB t (some b)
def fineV (v:List Int):Prop:=inB 1000000 v∧v.length < 1000000
theorem leastGo_ev:∀ (x:List S60) (b:Option (List Int)),(∀ l,l ∈ x → fineV l.f0) → (∀ v,b=some v → fineV v) → Ev (fun k=>leastGo k x b) (leastB x b)
  | [],b,_,_=>Ev.now _
  | l :: t,none,hx,_=>leastGo_ev t (some l.f0) (fun m hm=>hx m (by simp [hm])) (fun v hv=>by cases hv;exact hx l (by simp))
  | l :: t,some b,hx,hb=>by
    have fl:=hx l (by simp)
    have fb:=hb b rfl
    have ht:∀ m,m ∈ t → fineV m.f0:=fun m hm=>hx m (by simp [hm])
    have i1:=leastGo_ev t (some l.f0) ht (fun v hv=>by cases hv;exact fl)
    have i2:=leastGo_ev t (some b) ht (fun v hv=>by cases hv;exact fb)
    simp only [leastGo,leastB]
    refine Ev.bind (ctotal_ev fl.1 fl.2) (Ev.bind (ctotal_ev fb.1 fb.2) ?_)
    by_cases h1:l.f0.sum < b.sum
    · rw [if_pos (show better l.f0 b=true by simp [better,h1])];exact Ev.pos h1 i1
    · refine Ev.neg h1 ?_
      by_cases h2:l.f0.sum=b.sum
      · refine Ev.pos h2 (Ev.bind (cmp_ev fl.2 fb.2) ?_)
        by_cases h3:cmpL l.f0 b < 0
        · rw [if_pos (show better l.f0 b=true by simp [better,h2,h3])];exact Ev.pos h3 i1
        · rw [if_neg (show ¬ better l.f0 b=true by simp [better,h2,h3])];exact Ev.neg h3 i2
      · rw [if_neg (show ¬ better l.f0 b=true by simp [better,h1,h2])];exact Ev.neg h2 i2
theorem leastB_some:∀ (x:List S60) (b:List Int),∃ v,leastB x (some b)=some v∧(v=b ∨ ∃ l,l ∈ x∧l.f0=v)∧v.sum ≤ b.sum∧∀ l,l ∈ x → v.sum ≤ l.f0.sum
  | [],b=>⟨b,rfl,.inl rfl,by omega,fun l hl=>by simp at hl⟩
  | l :: t,b=>by
    simp only [leastB]
    by_cases h:better l.f0 b=true
    · rw [if_pos h]
      obtain ⟨v,e,i,s1,s2⟩:=leastB_some t l.f0
      have:l.f0.sum ≤ b.sum:=by
        simp only [better,Bool.or_eq_true,decide_eq_true_eq,Bool.and_eq_true] at h;omega
      refine ⟨v,e,.inr ?_,by omega,fun m hm=>?_⟩
      · rcases i with rfl|⟨m,hm,q⟩
        · exact ⟨l,by simp,rfl⟩
        · exact ⟨m,by simp [hm],q⟩
      · rcases List.mem_cons.1 hm with rfl|hm
        · exact s1
        · exact s2 m hm
    · rw [if_neg h]
      obtain ⟨v,e,i,s1,s2⟩:=leastB_some t b
      have:b.sum ≤ l.f0.sum:=by
        simp only [better,Bool.or_eq_true,decide_eq_true_eq,Bool.and_eq_true] at h;omega
      refine ⟨v,e,?_,s1,fun m hm=>?_⟩
      · rcases i with rfl|⟨m,hm,q⟩
        · exact .inl rfl
        · exact .inr ⟨m,by simp [hm],q⟩
      · rcases List.mem_cons.1 hm with rfl|hm
        · omega
        · exact s2 m hm
theorem leastB_none {x:List S60} (hx:x ≠ []):∃ v,leastB x none=some v∧(∃ l,l ∈ x∧l.f0=v)∧∀ l,l ∈ x → v.sum ≤ l.f0.sum:=by
  cases x with
  | nil=>exact absurd rfl hx
  | cons l t =>
    obtain ⟨v,e,i,s1,s2⟩:=leastB_some t l.f0
    refine ⟨v,e,?_,fun m hm=>?_⟩
    · rcases i with rfl|⟨m,hm,q⟩
      · exact ⟨l,by simp,rfl⟩
      · exact ⟨m,by simp [hm],q⟩
    · rcases List.mem_cons.1 hm with rfl|hm
      · exact s1
      · exact s2 m hm
section
variable {d:Nat} (h1:1 ≤ d) (hd:d ≤ 3) {x:List S60} (hx:okSet d x)
include h1 hd hx
theorem check_ok:Ev (fun k=>count_check.f k (d:Int) [x]) 0:=by
  have hs:=hx.shorts hd
  have:=check_ev (d:Int) [x] (by unfold short;simp) (fun t ht=>by
    obtain rfl:t=x:=by simpa using ht
    exact ⟨hs.1,fun l hl=>(hs.2 l hl).2.1.tail⟩)
  rw [chk_ok.2 ⟨by omega,fun t ht=>by
    obtain rfl:t=x:=by simpa using ht
    exact hx⟩] at this
  exact this
theorem Least_ev:Ev (fun k=>count_Least.f k (d:Int) x) (match leastB x none with|none=>([],5)|some v=>(v,0)):=by
  unfold count_Least.f
  refine Ev.bind (check_ok h1 hd hx) (Ev.pos rfl (Ev.pos ?_ ?_))
  · refine List.all_eq_true.2 fun l hl=>?_
    have:=(hx.2 l hl).1.1
    simp;omega
  · refine Ev.bind (leastGo_ev x none (fun l hl=>⟨((hx.2 l hl).1.mono (n:=1000000) (by decide)).2,by have:=(hx.2 l hl).1.1;omega⟩) (fun v hv=>by cases hv)) ?_
    cases e:leastB x none with
    | none=>exact Ev.now _
    | some v =>
      have hl:v.length ≤ 5000000:=by
        by_cases h0:x=[]
        · subst h0;cases e
        · obtain ⟨w,e2,⟨l,hl,q⟩,_⟩:=leastB_none h0
          rw [e] at e2;cases e2
          have:=(hx.2 l hl).1.1
          rw [← q];omega
      show Ev (fun k=>(slices_Clone_int_int_84.f k v).bind fun v=>some (v,0)) (v,0)
      unfold slices_Clone_int_int_84.f
      rw [if_pos hl]
      exact Ev.now _
end
theorem mem_vecs:∀ (d s:Nat) (pre v:List Int),v ∈ vecs d s pre ↔ ∃ u,v=pre ++ u∧u.length=d + 1∧nnV u∧u.sum=(s:Int)
  | 0,s,pre,v=>by
    simp only [vecs,List.mem_singleton]
    constructor
    · rintro rfl
      exact ⟨[(s:Int)],rfl,rfl,fun z hz=>by simp at hz;omega,by simp⟩
    · rintro ⟨u,rfl,h1,h2,h3⟩
      match u,h1 with
      | [z],_=>simp at h3;rw [h3]
  | d + 1,s,pre,v=>by
    simp only [vecs,List.mem_flatMap,List.mem_range]
    constructor
    · rintro ⟨z,hz,hv⟩
      obtain ⟨u,rfl,q1,q2,q3⟩:=(mem_vecs d (s - z) (pre ++ [(z:Int)]) v).1 hv
      refine ⟨(z:Int) :: u,by simp,by simp [q1],fun y hy=>?_,by rw [List.sum_cons,q3];omega⟩
      rcases List.mem_cons.1 hy with rfl|hy
      · omega
      · exact q2 y hy
    · rintro ⟨u,rfl,q1,q2,q3⟩
      match u,q1 with
      | z :: u,q1 =>
        have z0:=q2 z (by simp)
        have u0:=sum_nn (v:=u) (fun y hy=>q2 y (by simp [hy]))
        rw [List.sum_cons] at q3
        refine ⟨z.toNat,by omega,(mem_vecs d (s - z.toNat) _ _).2 ⟨u,?_,by simpa using q1,fun y hy=>q2 y (by simp [hy]),by omega⟩⟩
        rw [Int.toNat_of_nonneg z0,List.append_assoc];rfl
open Classical in
noncomputable def cntV (d:Nat) (set:List S60) (l:List (List Int)):Int:=((l.filter fun v=>decide (InS d set v)).length:Int)
open Classical in
theorem countGo_ev {d:Nat} (hd:d ≤ 3) {set:List S60} (hs:okSet d set):∀ l:List (List Int),(∀ v,v ∈ l → okV d 60 v) → Ev (fun k=>count_Count.go k set l) (cntV d set l)
  | [],_=>Ev.now _
  | v :: r,h=>by
    obtain ⟨b,e,i⟩:=has_ev (by omega) (h v (by simp)) hs.okL
    simp only [count_Count.go]
    refine Ev.bind e (Ev.bind (countGo_ev hd hs r (fun w hw=>h w (by simp [hw]))) ?_)
    have:cntV d set (v :: r)=cntV d set r + if b=true then 1 else 0:=by
      unfold cntV
      by_cases hb:InS d set v
      · rw [i.2 hb,List.filter_cons_of_pos (by simpa using hb)];simp
      · have:b=false:=by cases b;rfl;exact absurd (i.1 rfl) hb
        rw [this,List.filter_cons_of_neg (by simpa using hb)];simp
    rw [this]
    exact Ev.now _
theorem Count_ev {d:Nat} (h1:1 ≤ d) (hd:d ≤ 3) {set:List S60} (hs:okSet d set) {n:Nat} (hn:n ≤ 20):Ev (fun k=>count_Count.f k (d:Int) set (n:Int)) (wrap64 (cntV d set (vecs (d - 1) n [])),0):=by
  have hb:Ev (fun k=>count_bounded.f k (n:Int) (d:Int) [set]) 0:=by
    unfold count_bounded.f
    exact Ev.bind (check_ok h1 hd hs) (Ev.neg (by decide) (Ev.neg (by omega) (Ev.neg (by omega) (Ev.now _))))
  unfold count_Count.f
  rw [show ((d:Int) - 1).toNat=d - 1 by omega,Int.toNat_natCast]
  refine Ev.bind hb (Ev.pos rfl (Ev.pos ⟨by omega,by omega,by omega,by omega⟩ (Ev.bind (countGo_ev hd hs _ fun v hv=>?_) (Ev.now _))))
  obtain ⟨u,rfl,q1,q2,q3⟩:=(mem_vecs _ _ _ _).1 hv
  exact ⟨by omega,fun z hz=>⟨q2 z hz,by have:=mem_le_sum q2 z hz;omega⟩⟩
end Go.Proofs.Ytkonljiembcdlaa.Pure
/- What a plan's sets are, in plain Lean. -/
set_option linter.unusedVariables false
set_option linter.unusedSimpArgs false
namespace Go.Proofs.Ytkonljiembcdlaa.Pure
open Go.RowKit Go.Proofs.MyWords Go.Proofs.YtkonljiembcdlaaW.PrintWords Go.Proofs.YtkonljiembcdlaaW.PrintLast Go.Proofs.YtkonljiembcdlaaW.PrintMore Go.Proofs.Ytkonljiembcdlaa.PC Go.Proofs.Ytkonljiembcdlaa.Sem
def tinyL (d:Nat) (l:S60):Prop:=okV d 4 l.f0∧l.f1.length ≤ 2∧∀ p,p ∈ l.f1 → okV d 4 p
theorem nextV_ok {x:List Int} (hx:∀ z,z ∈ x → 0 ≤ z∧z ≤ 255) (d p:Nat):okV d 4 (nextV d x p):=by
  unfold nextV
  refine ⟨by simp,fun z hz=>?_⟩
  obtain ⟨k,_,rfl⟩:=List.mem_map.1 hz
  by_cases h:p + k < x.length
  · rw [if_pos h,rd_nat x (p + k) h]
    have h1:=hx _ (List.getElem_mem h)
    rw [wrap_id (by omega) (by omega),Int.tmod_eq_emod_of_nonneg h1.1]
    omega
  · rw [if_neg h];decide
theorem manyV_two {x:List Int} (hx:∀ z,z ∈ x → 0 ≤ z∧z ≤ 255) {p:Nat} (hp:p < x.length):manyV x p ≤ 2:=by
  unfold manyV
  rw [rd_nat x p hp]
  have h1:=hx _ (List.getElem_mem hp)
  rw [wrap_id (by omega) (by omega),Int.tmod_eq_emod_of_nonneg h1.1]
  omega
theorem madeG_ok {x:List Int} (hx:∀ z,z ∈ x → 0 ≤ z∧z ≤ 255) (d:Nat):∀ m p,(madeG d x m p).length ≤ m∧∀ l,l ∈ madeG d x m p → tinyL d l
  | 0,p=>⟨by simp [madeG],fun l hl=>by simp [madeG] at hl⟩
  | m + 1,p=>by
    rw [madeG]
    split
    · rename_i hp
      obtain ⟨h1,h2⟩:=madeG_ok hx d m (p + 1 + d + d * manyV x p)
      refine ⟨by simp;exact h1,fun l hl=>?_⟩
      rcases List.mem_cons.1 hl with rfl|hl
      · refine ⟨nextV_ok hx _ _,?_,fun q hq=>?_⟩
        · show (perV d x (p + 1 + d) (manyV x p)).length ≤ 2
          unfold perV
          rw [List.length_map,List.length_range]
          exact manyV_two hx hp
        · obtain ⟨k,_,rfl⟩:=List.mem_map.1 (show q ∈ perV d x (p + 1 + d) (manyV x p) from hq)
          exact nextV_ok hx _ _
      · exact h2 l hl
    · exact ⟨by simp,fun l hl=>by simp at hl⟩
theorem madeG_set {x:List Int} (hx:∀ z,z ∈ x → 0 ≤ z∧z ≤ 255) (d m:Nat) (hm:m ≤ 8):okSet d (madeG d x m 0):=by
  obtain ⟨h1,h2⟩:=madeG_ok hx d m 0
  exact ⟨by omega,fun l hl=>⟨(h2 l hl).1.mono (by decide),by have:=(h2 l hl).2.1;omega,fun p hp=>((h2 l hl).2.2 p hp).mono (by decide)⟩⟩
def dimD (D:Int):Nat:=(D % 3).toNat + 1
theorem dimD_range (D:Int):1 ≤ dimD D∧dimD D ≤ 3:=by unfold dimD;omega
theorem bytes_of {l:List Int} (h:∀ x ∈ l,(Lit.int .u8 x).wf=true):∀ z,z ∈ l → 0 ≤ z∧z ≤ 255:=fun z hz=>wf_u8 (h z hz)
theorem sets_f {D:Int} {X Y:List Int} (hD:(Lit.int .u8 D).wf=true) (hX:∀ x ∈ X,(Lit.int .u8 x).wf=true) (hY:∀ x ∈ Y,(Lit.int .u8 x).wf=true) (lX:X.length ≤ 140737488351232) (lY:Y.length ≤ 140737488351232) (most:Nat) (hm:most ≤ 1000) :
    bellpulllaw05_Plan_sets.f D X Y (most:Int)=some ((dimD D:Int),madeG (dimD D) X most 0,madeG (dimD D) Y most 0):=by
  have h8:=wf_u8 hD
  have e:wrap64 ((Int.tmod (wrap64 D) 3) + 1)=((dimD D:Nat):Int):=by
    rw [wrap_id (x:=D) (by omega) (by omega),Int.tmod_eq_emod_of_nonneg h8.1,wrap_id (by omega) (by omega)]
    unfold dimD;omega
  have hd:=dimD_range D
  have mk:∀ (Z:List Int),(∀ x ∈ Z,(Lit.int .u8 x).wf=true) → Z.length ≤ 140737488351232 → bellpulllaw05_made.f ((dimD D:Nat):Int) Z (most:Int)=some (madeG (dimD D) Z most 0):=fun Z hZ lZ=>by
    unfold bellpulllaw05_made.f
    rw [if_pos,Int.toNat_natCast,Int.toNat_natCast]
    refine ⟨by omega,by omega,by omega,by omega,by omega,List.all_eq_true.2 (fun z hz=>?_)⟩
    have:=wf_u8 (hZ z hz)
    simp;omega
  unfold bellpulllaw05_Plan_sets.f
  rw [e,mk X hX lX,Option.bind_some,mk Y hY lY,Option.bind_some]
end Go.Proofs.Ytkonljiembcdlaa.Pure
/- The document's examples. -/
set_option linter.unusedVariables false
namespace Go.Proofs.Ytkonljiembcdlaa.Pure
open Go.RowKit Go.Proofs.YtkonljiembcdlaaW.PrintWords Go.Proofs.Ytkonljiembcdlaa.PC
theorem lives_ev:Ev (fun k=>bellpulllaw05_lives.f k) true :=
  Ev.of (fun k=>bellpulllaw05_lives.mono k) (k:=60) (by kernel_rfl)
end Go.Proofs.Ytkonljiembcdlaa.Pure
/- CountLeast: for every input the law returns true. -/
set_option linter.unusedVariables false
set_option linter.unusedSimpArgs false
namespace Go.Proofs.Ytkonljiembcdlaa.Pure
open Go.RowKit Go.Proofs.MyWords Go.Proofs.YtkonljiembcdlaaW.PrintWords Go.Proofs.YtkonljiembcdlaaW.PrintLast Go.Proofs.YtkonljiembcdlaaW.PrintMore Go.Proofs.Ytkonljiembcdlaa.PC Go.Proofs.Ytkonljiembcdlaa.Sem
theorem InL.sum_le {d:Nat} {b:List Int} {ps:List (List Int)} (hb:b.length=d) (hp:okD d ps) {v:List Int} (h:InL d b ps v):b.sum ≤ v.sum:=by
  obtain ⟨w,hw,rfl⟩:=h
  have:=sum_nn (hw.nn hp)
  rw [sum_addV (hb.trans (hw.len hp).symm)]
  omega
theorem InS.low {d:Nat} {x:List S60} (hx:∀ l,l ∈ x → okL d l) {m:Int} (hm:∀ l,l ∈ x → m ≤ l.f0.sum) {v:List Int} (h:InS d x v):m ≤ v.sum:=by
  obtain ⟨l,hl,hi⟩:=h
  have:=hm l hl
  have:=InL.sum_le (hx l hl).1.1 (hx l hl).2.1.okD hi
  omega
theorem InS.base {d:Nat} {x:List S60} {l:S60} (hl:l ∈ x) (ho:okL d l):InS d x l.f0 :=
  ⟨l,hl,zeroN d,.zero,(addV_zero ho.1.1).symm⟩
theorem cntV_zero {d:Nat} {set:List S60} {l:List (List Int)} (h:∀ v,v ∈ l → ¬ InS d set v):cntV d set l=0:=by
  unfold cntV
  rw [List.filter_eq_nil_iff.2 (fun v hv=>by simpa using h v hv)]
  rfl
section
variable {d:Nat} (h1:1 ≤ d) (hd:d ≤ 3) {x:List S60} (hx:okSet d x) {v:List Int} (hv:okV d 20 v)
include h1 hd hx hv
theorem least_l1 (hm:∀ l,l ∈ x → v.sum ≤ l.f0.sum):∀ (j n:Nat),8 - n=j → n ≤ 8 → Ev (fun k=>bellpulllaw05_CountLeast.l1 k (d:Int) x v (n:Int)) true:=fun j=>by
  have tv:=refTotal_ev (hv.mono (n:=1000000) (by decide)).2 (by have:=hv.1;omega)
  induction j with
  | zero =>
    intro n hj hn
    have hn8:decide ((n:Int) < 8)=false:=decide_eq_false (by omega)
    refine Ev.succ ?_
    simp only [bellpulllaw05_CountLeast.l1,hn8]
    have fin:Ev (fun k=>bellpulllaw05_CountLeast.j4 k (d:Int) x v (n:Int) false) true:=by
      refine Ev.succ ?_
      simp only [bellpulllaw05_CountLeast.j4]
      exact Ev.neg (by simp) (Ev.now _)
    refine Ev.bind tv ?_
    by_cases c:(n:Int) < v.sum
    · exact Ev.pos c fin
    · exact Ev.neg c fin
  | succ j ih =>
    intro n hj hn
    have hn8:decide ((n:Int) < 8)=true:=decide_eq_true (by omega)
    refine Ev.succ ?_
    simp only [bellpulllaw05_CountLeast.l1,hn8]
    refine Ev.bind tv ?_
    by_cases c:(n:Int) < v.sum
    · refine Ev.pos c (Ev.succ ?_)
      simp only [bellpulllaw05_CountLeast.j4]
      refine Ev.pos trivial ?_
      have hc:=Count_ev h1 hd hx (show n ≤ 20 by omega)
      rw [cntV_zero (fun w hw hi=>by
        obtain ⟨u,rfl,q1,q2,q3⟩:=(mem_vecs _ _ _ _).1 hw
        have:=InS.low hx.okL hm hi
        omega)] at hc
      rw [show wrap64 0=0 from wrap_id (by omega) (by omega)] at hc
      refine Ev.bind hc (Ev.pos rfl (Ev.pos rfl ?_))
      rw [wsucc (show n < 4611686018427387904 by omega)]
      exact ih (n + 1) (by omega) (by omega)
    · refine Ev.neg c (Ev.succ ?_)
      simp only [bellpulllaw05_CountLeast.j4]
      exact Ev.neg (by simp) (Ev.now _)
theorem least_l0 (hb:∃ l,l ∈ x∧l.f0=v) (hm:∀ l,l ∈ x → v.sum ≤ l.f0.sum):∀ (t pre:List S60) (b:Bool),x=pre ++ t → (b=true ∨ ∃ l,l ∈ t∧l.f0=v) → Ev (fun k=>bellpulllaw05_CountLeast.l0 k (d:Int) x v true 0 b (pre.length:Int)) true:=fun t=>by
  have tv:=refTotal_ev (hv.mono (n:=1000000) (by decide)).2 (by have:=hv.1;omega)
  induction t with
  | nil =>
    intro pre b e hb2
    have hbt:b=true:=hb2.resolve_right (fun ⟨l,hl,_⟩=>by simp at hl)
    subst hbt
    have hl:x.length=pre.length:=by rw [e];simp
    refine Ev.succ ?_
    simp only [bellpulllaw05_CountLeast.l0]
    refine Ev.neg (by omega) (Ev.pos trivial (Ev.pos trivial (Ev.succ ?_)))
    simp only [bellpulllaw05_CountLeast.j2]
    exact Ev.neg (by simp) (least_l1 h1 hd hx hv hm 8 0 rfl (by omega))
  | cons l t ih =>
    intro pre b e hb2
    have hl:x.length=pre.length + (t.length + 1):=by rw [e];simp
    have h8:=hx.1
    have lm:l ∈ x:=by rw [e];simp
    have ol:=(hx.2 l lm).1
    have hrd:rd_T60 x (pre.length:Int)=l:=by rw [e];exact rdT60_app _ _ _
    have hle:=refLess_ev (ol.1.trans hv.1.symm) (ol.mono (n:=1000000) (by decide)).2 (hv.mono (n:=1000000) (by decide)).2 (by have:=ol.1;omega)
    have go:∀ c,(c=true ∨ ∃ m,m ∈ t∧m.f0=v) → Ev (fun k=>bellpulllaw05_CountLeast.l0 k (d:Int) x v true 0 c ((pre.length + 1:Nat):Int)) true:=fun c hc=>by
      have:=ih (pre ++ [l]) c (by rw [e];simp) hc
      rwa [← len_snoc] at this
    refine Ev.succ ?_
    simp only [bellpulllaw05_CountLeast.l0,hrd,wsucc (show pre.length < 4611686018427387904 by omega)]
    refine Ev.pos (by omega) (Ev.pos (by omega) (Ev.bind hle ?_))
    cases b
    · refine Ev.neg (by simp) ?_
      have hrest:=hb2.resolve_left (by simp)
      by_cases hs:nnV (subV l.f0 v)
      · refine Ev.pos (decide_eq_true hs) ?_
        have os:okV d 1000000 (subV l.f0 v):=(sub60 (ol.mono (by decide)) (hv.mono (by decide)) hs).mono (by decide)
        have ht:=refTotal_ev os.2 (by have:=os.1;omega)
        refine Ev.bind ht (go _ ?_)
        obtain ⟨m,hm2,q⟩:=hrest
        rcases List.mem_cons.1 hm2 with rfl|hm2
        · left
          rw [sum_subV (ol.1.trans hv.1.symm),q]
          simp
        · exact .inr ⟨m,hm2,q⟩
      · refine Ev.neg (by simpa using hs) (go _ ?_)
        obtain ⟨m,hm2,q⟩:=hrest
        rcases List.mem_cons.1 hm2 with rfl|hm2
        · refine absurd ?_ hs
          rw [q]
          have e0:subV v v=zeroN d:=by
            have:=addV_sub (v:=zeroN d) (w:=v) (by rw [zeroN_len];exact hv.1.symm)
            rwa [zero_addV hv.1] at this
          rw [e0];exact nn_zeroN d
        · exact .inr ⟨m,hm2,q⟩
    · exact Ev.pos rfl (go true (.inl rfl))
end
theorem CountLeast:∀ (a0_0:Int) (l0_1 l0_2:List Int),(Lit.int .u8 a0_0).wf=true → (∀ x ∈ l0_1,(Lit.int .u8 x).wf=true) → (∀ x ∈ l0_2,(Lit.int .u8 x).wf=true) → l0_1.length ≤ 140737488351232 → l0_2.length ≤ 140737488351232 → ∃ k,bellpulllaw05_CountLeast.f k a0_0 l0_1 l0_2=some true:=by
  intro D X Y hD hX hY lX lY
  refine Ev.rounds (g:=fun k=>bellpulllaw05_CountLeast.f k D X Y) ?_
  obtain ⟨d,hdd⟩:∃ d,d=dimD D:=⟨_,rfl⟩
  have hr:=dimD_range D
  rw [← hdd] at hr
  have hset:=sets_f hD hX hY lX lY 8 (by omega)
  rw [← hdd] at hset
  obtain ⟨x,hx⟩:∃ x,x=madeG d X 8 0:=⟨_,rfl⟩
  have ox:okSet d x:=by rw [hx];exact madeG_set (bytes_of hX) d 8 (by omega)
  rw [← hx] at hset
  have hL:=Least_ev hr.1 hr.2 ox
  unfold bellpulllaw05_CountLeast.f
  refine Ev.bindc hset ?_
  by_cases h0:x=[]
  · rw [h0] at hL
    refine Ev.bind (a:=([],5)) (by rw [h0];exact hL) (Ev.pos (by rw [h0];rfl) (Ev.pos rfl (Ev.pos rfl (Ev.bind lives_ev (Ev.now _)))))
  · obtain ⟨v,e,hb,hm⟩:=leastB_none h0
    rw [e] at hL
    have hv:okV d 20 v:=by
      obtain ⟨l,hl,q⟩:=hb
      rw [← q];exact (ox.2 l hl).1
    have hn:¬ (x.length:Int)=0:=by
      cases x with
      | nil=>exact absurd rfl h0
      | cons l t=>simp;omega
    refine Ev.bind (a:=(v,0)) hL (Ev.neg hn (Ev.pos rfl (Ev.pos (by rw [hv.1]) (Ev.bind lives_ev (Ev.succ ?_)))))
    simp only [bellpulllaw05_CountLeast.j0]
    refine Ev.neg (by simp) ?_
    obtain ⟨b,hh,ib⟩:=Has_ok hr.1 hr.2 ox (v:=v) (hv.mono (by decide))
    have:b=true:=ib.2 (by
      obtain ⟨l,hl,q⟩:=hb
      rw [← q];exact InS.base hl (ox.okL l hl))
    rw [this] at hh
    exact Ev.bind hh (least_l0 hr.1 hr.2 ox hv hb hm x [] false rfl (.inr hb))
end Go.Proofs.Ytkonljiembcdlaa.Pure
/- An array of three bytes, and a slice of bytes, as arguments: opened, and shut. -/
set_option linter.unusedVariables false
set_option linter.constructorNameAsVariable false
namespace Go.Proofs.Ytkonljiembcdlaa.RowT
open Go.ChangeShapes Go.WideShapes Go.ChangeAt Go.RowKit Go.Joins
section
variable {H:Type} {enc:TypeId × Value → H} {w:World} {base:Nat} {spare:Nat → Bool} {held:Bool}
end
end Go.Proofs.Ytkonljiembcdlaa.RowT
/- A query, and a plan, as arguments: opened. -/
set_option linter.unusedVariables false
set_option linter.constructorNameAsVariable false
namespace Go.Proofs.Ytkonljiembcdlaa.RowT
open Go.ChangeShapes Go.WideShapes Go.ChangeAt Go.RowKit Go.Joins Go.Proofs.YtkonljiembcdlaaW.PrintWords Go.Proofs.Ytkonljiembcdlaa.PC
theorem list_of {α:Type} {p:Nat → α → Prop}:∀ n:Nat,(∀ i,i < n → ∃ y,p i y) → ∃ xs:List α,xs.length=n∧∀ i y,xs[i]?=some y → p i y
  | 0,_=>⟨[],rfl,fun i y h=>by simp at h⟩
  | n + 1,h=>by
    obtain ⟨xs,h1,h2⟩:=list_of n (fun i hi=>h i (by omega))
    obtain ⟨y,hy⟩:=h n (by omega)
    refine ⟨xs ++ [y],by simp [h1],fun i z hz=>?_⟩
    by_cases hi:i < n
    · rw [List.getElem?_append_left (by omega)] at hz
      exact h2 i z hz
    · have:i < (xs ++ [y]).length:=by
        apply Classical.byContradiction
        intro hn
        rw [List.getElem?_eq_none (by omega)] at hz
        cases hz
      obtain rfl:i=n:=by simp [h1] at this;omega
      rw [List.getElem?_append_right (by omega),h1,Nat.sub_self] at hz
      obtain rfl:=Option.some.inj hz
      exact hy
section
variable {H:Type} {enc:TypeId × Value → H} {w:World} {base:Nat} {held:Bool}
def kwf:Kd {n:Int // (Lit.int .u8 n).wf=true}:=Kd.iso (Kd.int .u8) (fun x=>x.1)
theorem addr_add (a:Addr) (m k:Nat):(a.add m).add k=a.add (m + k):=by
  by_cases h1:k=0
  · subst h1;simp [Addr.add]
  · by_cases h2:m=0
    · subst h2;simp [Addr.add,h1]
    · simp [Addr.add,h1,h2,Nat.add_assoc]
theorem C_of_trod {α:Type} (d:Kd α) {t e:TypeId} (ht:Try.prog.underlying t=some (.slice e)) (hc:Try.prog.cellsOf e=d.sz)
    (hx:∀ fuel cs x,DataW.trod enc Try.prog w base (fun _=>true) held fuel e cs=some x → ∃ y,d.K w y cs) {fuel:Nat} {cs:List Value} {x:DataW H × List MemPlace} (h:DataW.trod enc Try.prog w base (fun _=>true) held fuel t cs=some x) :
    ∃ (A:Option Addr) (c:Nat) (xs:List α),cs=[.slice A xs.length c]∧xs.length ≤ c∧d.C w A xs.length xs:=by
  rcases Go.Deep.open_slice ht h with ⟨rfl,_⟩|⟨a,len,cap,m,n,D,Pl,rfl,_,hl,hm,hmm,_,hel⟩
  · exact ⟨none,0,[],rfl,Nat.le_refl _,rfl,Nat.zero_le _,fun h=>by simp at h⟩
  · have hlm:len ≤ m:=by rw [hmm];simp;exact hl
    have hcap:cap ≤ 9223372036854775807:=hm
    obtain ⟨xs,h1,h2⟩:=list_of (p:=fun i y=>∃ c:List Value,c.length=d.sz∧d.K w y c∧∀ k u,c[k]?=some u → w.cell? (a.add (i * d.sz + k))=some u) len (fun i hi=>by
      obtain ⟨cs',hcs,hr⟩:=hel i (by omega)
      obtain ⟨_,hlen,hcell⟩:=World.cells?_some hcs
      obtain ⟨y,hy⟩:=hx n cs' _ hr
      refine ⟨y,cs',hlen.trans hc,hy,fun k u hu=>?_⟩
      have hk:k < cs'.length:=by
        apply Classical.byContradiction
        intro hn
        rw [List.getElem?_eq_none (by omega)] at hu
        cases hu
      have:=hcell k (by omega)
      rw [hu,hc] at this
      have e:(a.add (i * d.sz)).add k=a.add (i * d.sz + k):=addr_add a _ k
      rw [e] at this
      exact this)
    refine ⟨some a,cap,xs,by rw [h1],by omega,rfl,by omega,fun _=>⟨a,rfl,h2⟩⟩
theorem u8_of_trod:∀ (fuel:Nat) (cs:List Value) (x:DataW H × List MemPlace),DataW.trod enc Try.prog w base (fun _=>true) held fuel 5 cs=some x → ∃ y:{n:Int // (Lit.int .u8 n).wf=true},(kwf).K w y cs:=fun fuel cs x h=>by
  obtain ⟨n,rfl,_,hw⟩:=DataW.trod_int Try.underlying5 h
  exact ⟨⟨n,hw⟩,rfl⟩
theorem u8s_of_trod {fuel:Nat} {cs:List Value} {x:DataW H × List MemPlace} (h:DataW.trod enc Try.prog w base (fun _=>true) held fuel 50 cs=some x):∃ (A:Option Addr) (c:Nat) (xs:List Int),cs=[.slice A xs.length c]∧xs.length ≤ c∧(Kd.int .u8).C w A xs.length xs∧∀ z ∈ xs,(Lit.int .u8 z).wf=true:=by
  obtain ⟨A,c,xs,rfl,hl,hC⟩:=C_of_trod kwf Try.underlying50 (by kernel_rfl) u8_of_trod h
  refine ⟨A,c,xs.map (·.1),by rw [List.length_map],by rw [List.length_map];exact hl,?_,fun z hz=>?_⟩
  · obtain ⟨h1,h2,h3⟩:=hC
    refine ⟨rfl,by rw [List.length_map];exact h2,fun h0=>?_⟩
    rw [List.length_map] at h0
    obtain ⟨ad,rfl,h4⟩:=h3 h0
    refine ⟨ad,rfl,fun j y hy=>?_⟩
    rw [List.getElem?_map,Option.map_eq_some_iff] at hy
    obtain ⟨z,hz,rfl⟩:=hy
    obtain ⟨c,e1,e2,e3⟩:=h4 j z hz
    exact ⟨c,e1,e2,e3⟩
  · obtain ⟨y,_,rfl⟩:=List.mem_map.1 hz
    exact y.2
theorem slice_weight {fuel:Nat} {A:Option Addr} {len cap:Nat} {x:DataW H × List MemPlace} (h:DataW.trod enc Try.prog w base (fun _=>true) held fuel 50 [.slice A len cap]=some x):len=0 ∨ ∃ n r,n ∈ DataW.weights Try.prog 50 x.1∧len ≤ n∧r=n:=by
  rcases Go.Deep.open_slice Try.underlying50 h with ⟨h1,_⟩|⟨a,l,c,m,n,D,Pl,h1,_,_,_,_,rfl,_⟩
  · left
    simp at h1
    exact h1.2.1
  · right
    have hl:len=l:=by simp at h1;exact h1.2.1
    have hb:Try.prog.bytesOf 5=1:=by kernel_rfl
    refine ⟨_,_,by rw [DataW.weights,Try.underlying50];exact List.mem_cons_self,?_,rfl⟩
    rw [hb,Nat.mul_one,List.length_map,List.length_range]
    omega
theorem plan_sized {ts:List TypeId} {ds:List (DataW H)} {y0 y1 y2:DataW H × List MemPlace} (hsz:(DataW.weightsEach Try.prog (55 :: ts) (.agg [y0.1,y1.1,y2.1] :: ds)).all (· ≤ reachBytes)=true) :
    (∀ n,n ∈ DataW.weights Try.prog 50 y1.1 → n ≤ 140737488351232)∧(∀ n,n ∈ DataW.weights Try.prog 50 y2.1 → n ≤ 140737488351232):=by
  rw [List.all_eq_true] at hsz
  have key:∀ n,n ∈ DataW.weights Try.prog 50 y1.1 ∨ n ∈ DataW.weights Try.prog 50 y2.1 → n ≤ 140737488351232:=fun n hn=>by
    have hm:n ∈ DataW.weightsEach Try.prog (55 :: ts) (.agg [y0.1,y1.1,y2.1] :: ds):=by
      rw [DataW.weightsEach]
      refine List.mem_append_left _ ?_
      rw [DataW.weights,Try.underlying55]
      show n ∈ DataW.weightsEach Try.prog [5,50,50] [y0.1,y1.1,y2.1]
      rw [DataW.weightsEach,DataW.weightsEach,DataW.weightsEach]
      rcases hn with hn|hn
      · exact List.mem_append_right _ (List.mem_append_left _ hn)
      · exact List.mem_append_right _ (List.mem_append_right _ (List.mem_append_left _ hn))
    exact of_decide_eq_true (hsz n hm)
  exact ⟨fun n h=>key n (.inl h),fun n h=>key n (.inr h)⟩
set_option maxRecDepth 100000 in
theorem open_plan {r:Reach} {b0:Nat} {v:Value} {d:DataW H} {p:List MemPlace} {ts:List TypeId} {ds:List (DataW H)} (hv:Value.okWide Try.prog w r b0 55 v) (h:DataW.Trod enc Try.prog w base (fun _=>true) held 55 v d p) (hsz:(DataW.weightsEach Try.prog (55 :: ts) (d :: ds)).all (· ≤ reachBytes)=true) :
    ∃ (D:Int) (A1:Option Addr) (c1:Nat) (X:List Int) (A2:Option Addr) (c2:Nat) (Y:List Int),v=.agg #[.int .u8 D,.slice A1 X.length c1,.slice A2 Y.length c2]∧(Lit.int .u8 D).wf=true ∧
      (Kd.int .u8).C w A1 X.length X∧X.length ≤ c1∧(Kd.int .u8).C w A2 Y.length Y∧Y.length ≤ c2∧(∀ z ∈ X,(Lit.int .u8 z).wf=true)∧(∀ z ∈ Y,(Lit.int .u8 z).wf=true)∧X.length ≤ 140737488351232∧Y.length ≤ 140737488351232:=by
  obtain ⟨v0,v1,v2,y0,y1,y2,n,rfl,rfl,_,h0,h1,h2⟩:=open_agg3 Try.underlying55 (by kernel_rfl) (by kernel_rfl) hv h
  dsimp only at h0 h1 h2
  obtain ⟨D,eD,_,wD⟩:=DataW.trod_int Try.underlying5 h0
  obtain ⟨A1,c1,X,eX,l1,g1,m1⟩:=u8s_of_trod h1
  obtain ⟨A2,c2,Y,eY,l2,g2,m2⟩:=u8s_of_trod h2
  obtain rfl:v0=_:=by simpa using eD
  obtain rfl:v1=_:=by simpa using eX
  obtain rfl:v2=_:=by simpa using eY
  obtain ⟨s1,s2⟩:=plan_sized hsz
  refine ⟨D,A1,c1,X,A2,c2,Y,rfl,wD,g1,l1,g2,l2,m1,m2,?_,?_⟩
  · rcases slice_weight h1 with h|⟨n,_,hn,hl,_⟩
    · omega
    · exact Nat.le_trans hl (s1 n hn)
  · rcases slice_weight h2 with h|⟨n,_,hn,hl,_⟩
    · omega
    · exact Nat.le_trans hl (s2 n hn)
end
end Go.Proofs.Ytkonljiembcdlaa.RowT
