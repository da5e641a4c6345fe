import Derived.Test.YtkonljiembcdlaaPCx0
import Derived.Test.YtkonljiembcdlaaMyTiny
import Derived.Test.YtkonljiembcdlaaPCx1
import Derived.Test.YtkonljiembcdlaaPCx2
import Derived.Test.YtkonljiembcdlaaPCx3
import Derived.Test.YtkonljiembcdlaaPCx5
import Derived.Test.YtkonljiembcdlaaWMore
import Derived.Test.YtkonljiembcdlaaPCx4
namespace Go.Proofs.Ytkonljiembcdlaa.PC
open Go.Proofs.MyWords Go.RowKit Go.Proofs.YtkonljiembcdlaaW.PrintWords Go.Proofs.YtkonljiembcdlaaW.PrintLast Go.Proofs.YtkonljiembcdlaaW.PrintMore
attribute [local go_sem] max2_int min2_int max_two min_two max_three min_three max_four min_four   -- for this text's walks alone
set_option linter.unusedVariables false
set_option linter.unusedSimpArgs false
attribute [local go_sem] eqGuard_slices eqlnil23 neqnil23 eqlnil58 neqnil58
def bellpullref05_Less.l0:Nat → List Int → List Int → List Int → Bool → Int → Option (List Int × Bool)
  | 0,_,_,_,_,_=>none
  | k + 1,x0,x1,x6,x7,x8=>if x8 < (x0.length:Int) then (if 0 ≤ x8 then (if x8 < (x1.length:Int) then (if x6.length < 17592186044416 then ((some (x6 ++ [wrap64 ((rd x0 x8) - (rd x1 x8))]:List Int)).bind fun y416=>(if x7=true then (bellpullref05_Less.l0 k x0 x1 y416 (decide ((rd x0 x8) ≥ (rd x1 x8))) (wrap64 (x8 + 1))) else (bellpullref05_Less.l0 k x0 x1 y416 false (wrap64 (x8 + 1))))) else (none)) else (none)) else (none)) else (some (x6,x7))
def bellpullref05_Less.f (k:Nat) (l0:List Int) (l1:List Int):Option (List Int × Bool):=bellpullref05_Less.l0 k l0 l1 (([]:List Int)) true 0
def bellpullref05_Less.T5:Bool × List (List Nat × List Nat):=(true,[([],[]),([],[]),([],[]),([1,2],[1,2]),([3],[3]),([],[]),([],[]),([5,6],[5,6]),([7],[7]),([4,8],[4,8]),([9],[9]),([0,10],[0,10]),([11,11,0,1,2,3,4,5,6,7,8,9,10,11],[0,11])])
def bellpullref05_Less.B5:List Nat:=[0,0,0,6,14,0,0,96,224,510,1022,2047,4095]
theorem bellpullref05_Less.tab5:rtab .any (opsOf Try.f38 5)=bellpullref05_Less.T5:=by kernel_rfl
theorem bellpullref05_Less.bits5:waitsOk bellpullref05_Less.T5.2 bellpullref05_Less.B5=true:=by kernel_rfl
def bellpullref05_Less.T6:Bool × List (List Nat × List Nat):=(true,[([],[]),([0],[0]),([1],[1]),([1],[1]),([2,3,1],[1,2,3]),([4,1],[1,4]),([1],[1]),([1],[1]),([6,7,1],[1,6,7]),([8,1],[1,8]),([5,9,1],[1,5,9]),([1,10],[1,10]),([11,1,0,1,2,3,4,5,6,7,8,9,10,11],[0,11])])
def bellpullref05_Less.B6:List Nat:=[0,1,3,3,15,31,3,3,195,451,1023,2047,4095]
theorem bellpullref05_Less.tab6:rtab .any (opsOf Try.f38 6)=bellpullref05_Less.T6:=by kernel_rfl
theorem bellpullref05_Less.bits6:waitsOk bellpullref05_Less.T6.2 bellpullref05_Less.B6=true:=by kernel_rfl
set_option maxHeartbeats 8000000 in
set_option maxRecDepth 100000 in
theorem bellpullref05_Less.calls (k:Nat) (A0:Option Addr) (c0:Nat) (M:List Int) (A1:Option Addr) (c1:Nat) (O:List Int) (r1:List Int) (r2:Bool) (w:World) (e5:Kd.C (Kd.int .i64) w A0 M.length M) (e6:M.length ≤ c0) (e7:Kd.C (Kd.int .i64) w A1 O.length O) (e8:O.length ≤ c1) (h:bellpullref05_Less.f k M O=some (r1,r2)) :
    Calls Try.prog 38 #[.slice A0 M.length c0,.slice A1 O.length c1] w fun e w'=>∃ e9:Value,e=.returned (.tuple #[e9,.bool r2])∧Kd.R (Kd.int .i64) 3 w' w.heap.size (fun _=>True) e9 r1∧Below w.heap.size w w':=by
 have d3:=mk0 e5;have g3:=mk0 e6;clear e5 e6;have d4:=mk0 e7;have g4:=mk0 e8;clear e7 e8;have G:=mk0 (Below.refl w.heap.size w);have H:(bellpullref05_Less.l0 k M O (([]:List Int)) true 0)=some (r1,r2):=h;clear h;obtain ⟨d5,a2⟩:∃ y_:List Int,y_=(([]:List Int)):=⟨_,rfl⟩
 replace H:(bellpullref05_Less.l0 k M O d5 true 0)=some (r1,r2):=by first|(rw [a2];with_reducible exact H)|(have a8:=(Option.bind_some _ _).symm.trans H;rw [a2];with_reducible exact a8)|(have a8:=(Option.bind_some _ _).symm.trans H;with_reducible exact a8)|with_reducible exact H|(rw [a2];exact H)|exact H
 have d0:=mk0 a2;clear a2;have H':=mk0 H;clear H;go_enter Try.func38,Try.ntmps38;go_wp2_with (first|((with_reducible refine gate_dst (N:=9) rfl ?_);refine Kd.R_lit (Kd.int .i64) _ 3 ?hg (N:=9) ?hd (xs:=([]:List Int)) (inner:=[]) (ok:=fun _=>True) (okp:=fun _=>True) ?hr ?hp (fun _ hk=>hk) trivial (Below.refl _ _) (Nat.le_refl _) (by simp) ?_;(case hd=>rfl);(case hg=>rfl);(case hr=>first|(go_simp;done)|(go_simp;rfl));(case hp=>exact (Reps.none _ _));intro f9 w3 b5 hb hg_ e0;clear hg_ e0;(first|rw [← d0.1] at b5|(simp only [Int.reduceToNat] at b5;rw [← d0.1] at b5));have e1:=mk0 (Kd.R_lower b5 (below_size G.1));replace G:=bst G hb;clear hb b5))
 go_loopg [6,7,8] k (fun kq v6 v7 v8 w'=>∃ (X:List Int) (a9:Bool) (B:Int),v7=.bool a9∧v8=.int .i64 B∧Aside0 (bellpullref05_Less.l0 kq M O X a9 B=some (r1,r2))∧Aside0 (kq ≤ k)∧Aside0 (Kd.R (Kd.int .i64) 3 w' w.heap.size (fun _=>True) v6 X)∧Aside0 (Below w.heap.size w w'))
 case atStart=>exact ⟨(d5),(true),(0),(by first|rfl|(simp;done)|(simp [*];done)),(by first|rfl|(simp;done)|(simp [*];done)),H',⟨Nat.le_refl _⟩,⟨by exact e1.1⟩,⟨by exact G.1⟩⟩
 case round =>
  clear H';try clear c1
  try clear p2
  try clear c3
  obtain ⟨X,a9,B,rfl,rfl,HA,d1,T,G⟩:=hrel;cases gk with
  | zero=>exact absurd HA.1 (by simp [bellpullref05_Less.l0])
  | succ k1 =>
   have H:=HA.1;clear HA;simp only [bellpullref05_Less.l0] at H
   by_cases c5:B < (M.length:Int)
   ·
    rw [if_pos c5] at H;have c5b0:decide (B < (M.length:Int))=true:=decide_eq_true c5;clear c5
    by_cases c6:0 ≤ B
    ·
     rw [if_pos c6] at H;have c6b0:decide (0 ≤ B)=true:=decide_eq_true c6;clear c6
     by_cases c7:B < (O.length:Int)
     ·
      rw [if_pos c7] at H;have c7b0:decide (B < (O.length:Int))=true:=decide_eq_true c7;clear c7
      by_cases c8:X.length < 17592186044416
      ·
       rw [if_pos c8] at H;have d6:=mk0 c8;clear c8;obtain ⟨a7,a3⟩:∃ y_:List Int,y_=(X ++ [wrap64 ((rd M B) - (rd O B))]):=⟨_,rfl⟩
       replace H:(if a9=true then (bellpullref05_Less.l0 k1 M O a7 (decide ((rd M B) ≥ (rd O B))) (wrap64 (B + 1))) else (bellpullref05_Less.l0 k1 M O a7 false (wrap64 (B + 1))))=some (r1,r2):=by first|(rw [a3];with_reducible exact H)|(have a8:=(Option.bind_some _ _).symm.trans H;rw [a3];with_reducible exact a8)|(have a8:=(Option.bind_some _ _).symm.trans H;with_reducible exact a8)|with_reducible exact H|(rw [a3];exact H)|exact H
       have d2:=mk0 a3;clear a3
       by_cases c9:a9=true
       ·
        subst c9;have H1:(bellpullref05_Less.l0 k1 M O a7 (decide ((rd M B) ≥ (rd O B))) (wrap64 (B + 1)))=some (r1,r2):=by rw [if_pos rfl] at H;exact H
        clear H;have H:=H1;clear H1;have H':=mk0 H;clear H;try go_wp2
        replace T:=rdr T;replace G:=hdr G;have Y:0 ≤ (B:Int):=of_decide_eq_true (by assumption);have Z:B < (M.length:Int):=of_decide_eq_true (by assumption);obtain ⟨a4,b6,J⟩:=Kd.at_int d3.1 B Y Z;have E:=J;cases b6;replace J:=bd_ G J;replace Y:=eq_true Y;replace Z:=eq_true Z;have a0:0 ≤ (B:Int):=of_decide_eq_true (by assumption);have a1:B < (O.length:Int):=of_decide_eq_true (by assumption);obtain ⟨a5,b7,L⟩:=Kd.at_int d4.1 B a0 a1;have F:=L;cases b7;replace L:=bd_ G L;replace a0:=eq_true a0;replace a1:=eq_true a1;refine start_ (n:=13) (S:=fun w'=>w'.cell? (a4.add (B).toNat)=some (.int .i64 (rd M B))∧w'.cell? (a5.add (B).toNat)=some (.int .i64 (rd O B))) (ds:=[]) #[n_,n_,n_,n_,n_,n_,n_,n_,n_,n_,n_,n_,n_] (by kernel_rfl) rfl rfl ⟨(bd_ G E),(bd_ G F)⟩ (fun I=>?_);refine with_tabW bellpullref05_Less.tab5 bellpullref05_Less.bits5 (fun D a6=>?_);generalize wr.drew=g5 at T G J L I ⊢;refine pure_ (i:=0) (N:=some 16) (v:=?_) (a':=?_) #[y_,n_,n_,n_,n_,n_,n_,n_,n_,n_,n_,n_,n_] rfl rfl (any_of D.1 (by kernel_rfl)) (fun _ _ _ h=>h) (Or.inl ⟨by rfl,?_⟩) ?_ ?_;rotate_left
        ·
         intro w';go_simp;with_reducible rfl
        rotate_left
        ·
         simp only [Act.put,s0_,s1_,s2_,i64_w,i32_w];rfl
        refine pure_ (i:=1) (N:=some 17) (v:=?_) (a':=?_) #[y_,y_,n_,n_,n_,n_,n_,n_,n_,n_,n_,n_,n_] rfl rfl (any_of D.1 (by kernel_rfl)) (fun _ _ _ h=>h) (Or.inl ⟨by rfl,?_⟩) ?_ ?_;rotate_left
        ·
         intro w';go_simp;with_reducible rfl
        rotate_left
        ·
         simp only [Act.put,s0_,s1_,s2_,i64_w,i32_w];rfl
        refine pure_ (i:=2) (N:=some 18) (v:=?_) (a':=?_) #[y_,y_,y_,n_,n_,n_,n_,n_,n_,n_,n_,n_,n_] rfl rfl (any_of D.1 (by kernel_rfl)) (fun _ _ _ h=>h) (Or.inl ⟨by rfl,?_⟩) ?_ ?_;rotate_left
        ·
         intro w';go_simp;with_reducible rfl
        rotate_left
        ·
         simp only [Act.put,s0_,s1_,s2_,i64_w,i32_w];rfl
        refine pure_ (i:=3) (N:=some 19) (v:=?_) (a':=?_) #[y_,y_,y_,y_,n_,n_,n_,n_,n_,n_,n_,n_,n_] rfl rfl (any_of D.1 (by kernel_rfl)) (fun _ _ _ h=>h) (Or.inl ⟨by rfl,?_⟩) ?_ ?_;rotate_left
        ·
         intro w';go_simp;with_reducible rfl
        rotate_left
        ·
         simp only [Act.put,s0_,s1_,s2_,i64_w,i32_w];rfl
        refine pure_ (i:=5) (N:=some 21) (v:=?_) (a':=?_) #[y_,y_,y_,y_,n_,y_,n_,n_,n_,n_,n_,n_,n_] rfl rfl (any_of D.1 (by kernel_rfl)) (fun _ _ _ h=>h) (Or.inl ⟨by rfl,?_⟩) ?_ ?_;rotate_left
        ·
         intro w';go_simp;with_reducible rfl
        rotate_left
        ·
         simp only [Act.put,s0_,s1_,s2_,i64_w,i32_w];rfl
        refine pure_ (i:=6) (N:=some 22) (v:=?_) (a':=?_) #[y_,y_,y_,y_,n_,y_,y_,n_,n_,n_,n_,n_,n_] rfl rfl (any_of D.1 (by kernel_rfl)) (fun _ _ _ h=>h) (Or.inl ⟨by rfl,?_⟩) ?_ ?_;rotate_left
        ·
         intro w';go_simp;with_reducible rfl
        rotate_left
        ·
         simp only [Act.put,s0_,s1_,s2_,i64_w,i32_w];rfl
        refine pure_ (i:=7) (N:=some 23) (v:=?_) (a':=?_) #[y_,y_,y_,y_,n_,y_,y_,y_,n_,n_,n_,n_,n_] rfl rfl (any_of D.1 (by kernel_rfl)) (fun _ _ _ h=>h) (Or.inl ⟨by rfl,?_⟩) ?_ ?_;rotate_left
        ·
         intro w';go_simp;with_reducible rfl
        rotate_left
        ·
         simp only [Act.put,s0_,s1_,s2_,i64_w,i32_w];rfl
        refine take_ (i:=4) (N:=some 20) (v:=?_) (a':=?_) #[y_,y_,y_,y_,y_,y_,y_,y_,n_,n_,n_,n_,n_] rfl rfl (take_ofW D.1 a6.1 (by kernel_rfl)) (fun _ _ _ h=>h) (Or.inl ⟨by rfl,?_⟩) I ?_ ?_;rotate_left
        ·
         rintro w' ⟨s0,s1⟩;go_simp;with_reducible rfl
        rotate_left
        ·
         simp only [Act.put,s0_,s1_,s2_,i64_w,i32_w];rfl
        refine take_ (i:=8) (N:=some 24) (v:=?_) (a':=?_) #[y_,y_,y_,y_,y_,y_,y_,y_,y_,n_,n_,n_,n_] rfl rfl (take_ofW D.1 a6.1 (by kernel_rfl)) (fun _ _ _ h=>h) (Or.inl ⟨by rfl,?_⟩) I ?_ ?_;rotate_left
        ·
         rintro w' ⟨s0,s1⟩;go_simp;with_reducible rfl
        rotate_left
        ·
         simp only [Act.put,s0_,s1_,s2_,i64_w,i32_w];rfl
        refine pure_ (i:=9) (N:=some 25) (v:=?_) (a':=?_) #[y_,y_,y_,y_,y_,y_,y_,y_,y_,y_,n_,n_,n_] rfl rfl (any_of D.1 (by kernel_rfl)) (fun _ _ _ h=>h) (Or.inl ⟨by rfl,?_⟩) ?_ ?_;rotate_left
        ·
         intro w';go_simp;with_reducible rfl
        rotate_left
        ·
         simp only [Act.put,s0_,s1_,s2_,i64_w,i32_w];rfl
        refine one_ (i:=10) (N:=some 26) #[y_,y_,y_,y_,y_,y_,y_,y_,y_,y_,y_,n_,n_] rfl rfl (one_of D.1 (by kernel_rfl)) (by decide) (fun K hK=>?_);refine value_ (w1:=?_) (v:=?_) (by rfl) rfl ?_ ?_;rotate_left 2
        ·
         go_simp;constructor
         ·
          rfl
         ·
          rfl
        refine hK.out _ _ ⟨(World.cell?_alloc_lt _ _ _ (World.block_lt_of_cell? _ _ ((bd_ G E)))).trans ((bd_ G E)),(World.cell?_alloc_lt _ _ _ (World.block_lt_of_cell? _ _ ((bd_ G F)))).trans ((bd_ G F))⟩ (fun I=>?_);clear hK K;refine norm_ (a':=?_) ?_ ?_;rotate_left
        ·
         show Act.put _ (some 26) _=_;simp only [Act.put,s0_,s1_,s2_,i64_w,i32_w];rfl
        refine one_ (i:=11) (N:=some 27) #[y_,y_,y_,y_,y_,y_,y_,y_,y_,y_,y_,y_,n_] rfl rfl (one_of D.1 (by kernel_rfl)) (by decide) (fun K hK=>?_);refine Kd.R_append_step (Kd.int .i64) (w0:=w) w.heap.size (by rfl) (.tmp 16) (.tmp 26) 23 3 (.int .i64 0) 8 rfl Try.underlying23 info3 rfl (by decide) (by omega) u6 X (wrap64 ((rd M B) - (rd O B))) [.int .i64 (wrap64 ((rd M B) - (rd O B)))] (fun _=>True) (fun _=>False) rfl rfl ?aP (fun _ hk=>hk.elim) ?aF ?aO ?aB ?aS ?aL ?_;(case aP=>exact rfl);(case aB=>exact G.1);(case aF=>exact (fun _ _=>trivial));(case aO=>exact T.1);(case aS=>exact (below_size G.1));(case aL=>have:=d6.1;omega);intro f1 f7 ho hb hg hat;rw [← d2.1] at ho;have Q:=mk0 (ho);replace G:=mk0 (hb);clear T;clear ho hb hg hat;refine hK.out _ _ ⟨(bd_ G E),(bd_ G F)⟩ (fun I=>?_);clear hK K;refine norm_ (a':=?_) ?_ ?_;rotate_left
        ·
         show Act.put _ (some 27) _=_;simp only [Act.put,s0_,s1_,s2_,i64_w,i32_w];rfl
        refine pure_ (i:=12) (N:=some 6) (v:=?_) (a':=?_) #[y_,y_,y_,y_,y_,y_,y_,y_,y_,y_,y_,y_,y_] rfl rfl (any_of D.1 (by kernel_rfl)) (fun _ _ _ h=>h) (Or.inl ⟨by rfl,?_⟩) ?_ ?_;rotate_left
        ·
         intro w';go_simp;with_reducible rfl
        rotate_left
        ·
         simp only [Act.put,s0_,s1_,s2_,i64_w,i32_w];rfl
        refine done_ (done_of D.1 (by kernel_rfl)) ?_;try go_wp2
        replace Q:=rdr Q;replace G:=hdr G;have b8:0 ≤ (B:Int):=of_decide_eq_true (by assumption);have b9:B < (M.length:Int):=of_decide_eq_true (by assumption);obtain ⟨e3,f2,U⟩:=Kd.at_int d3.1 B b8 b9;have b1:=U;obtain rfl:a4=e3:=(by injection f2)
        replace U:=bd_ G U;replace b8:=eq_true b8;replace b9:=eq_true b9;have c2:0 ≤ (B:Int):=of_decide_eq_true (by assumption);have c4:B < (O.length:Int):=of_decide_eq_true (by assumption);obtain ⟨e4,f3,V⟩:=Kd.at_int d4.1 B c2 c4;have b2:=V;obtain rfl:a5=e4:=(by injection f3)
        replace V:=bd_ G V;replace c2:=eq_true c2;replace c4:=eq_true c4;refine start_ (n:=13) (S:=fun w'=>w'.cell? (a4.add (B).toNat)=some (.int .i64 (rd M B))∧w'.cell? (a5.add (B).toNat)=some (.int .i64 (rd O B))) (ds:=[]) #[n_,n_,n_,n_,n_,n_,n_,n_,n_,n_,n_,n_,n_] (by kernel_rfl) rfl rfl ⟨(bd_ G b1),(bd_ G b2)⟩ (fun I=>?_);refine with_tabW bellpullref05_Less.tab6 bellpullref05_Less.bits6 (fun D a6=>?_);generalize f7.drew=g6 at Q G U V I ⊢;refine pure_ (i:=0) (N:=some 28) (v:=?_) (a':=?_) #[y_,n_,n_,n_,n_,n_,n_,n_,n_,n_,n_,n_,n_] rfl rfl (any_of D.1 (by kernel_rfl)) (fun _ _ _ h=>h) (Or.inl ⟨by rfl,?_⟩) ?_ ?_;rotate_left
        ·
         intro w';go_simp;with_reducible rfl
        rotate_left
        ·
         simp only [Act.put,s0_,s1_,s2_,i64_w,i32_w];rfl
        refine pure_ (i:=1) (N:=some 29) (v:=?_) (a':=?_) #[y_,y_,n_,n_,n_,n_,n_,n_,n_,n_,n_,n_,n_] rfl rfl (any_of D.1 (by kernel_rfl)) (fun _ _ _ h=>h) (Or.inl ⟨by rfl,?_⟩) ?_ ?_;rotate_left
        ·
         intro w';go_simp;with_reducible rfl
        rotate_left
        ·
         simp only [Act.put,s0_,s1_,s2_,i64_w,i32_w];rfl
        refine pure_ (i:=2) (N:=some 30) (v:=?_) (a':=?_) #[y_,y_,y_,n_,n_,n_,n_,n_,n_,n_,n_,n_,n_] rfl rfl (any_of D.1 (by kernel_rfl)) (fun _ _ _ h=>h) (Or.inl ⟨by rfl,?_⟩) ?_ ?_;rotate_left
        ·
         intro w';go_simp;with_reducible rfl
        rotate_left
        ·
         simp only [Act.put,s0_,s1_,s2_,i64_w,i32_w];rfl
        refine pure_ (i:=3) (N:=some 31) (v:=?_) (a':=?_) #[y_,y_,y_,y_,n_,n_,n_,n_,n_,n_,n_,n_,n_] rfl rfl (any_of D.1 (by kernel_rfl)) (fun _ _ _ h=>h) (Or.inl ⟨by rfl,?_⟩) ?_ ?_;rotate_left
        ·
         intro w';go_simp;with_reducible rfl
        rotate_left
        ·
         simp only [Act.put,s0_,s1_,s2_,i64_w,i32_w];rfl
        refine pure_ (i:=4) (N:=some 32) (v:=?_) (a':=?_) #[y_,y_,y_,y_,y_,n_,n_,n_,n_,n_,n_,n_,n_] rfl rfl (any_of D.1 (by kernel_rfl)) (fun _ _ _ h=>h) (Or.inl ⟨by rfl,?_⟩) ?_ ?_;rotate_left
        ·
         intro w';go_simp;with_reducible rfl
        rotate_left
        ·
         simp only [Act.put,s0_,s1_,s2_,i64_w,i32_w];rfl
        refine pure_ (i:=6) (N:=some 34) (v:=?_) (a':=?_) #[y_,y_,y_,y_,y_,n_,y_,n_,n_,n_,n_,n_,n_] rfl rfl (any_of D.1 (by kernel_rfl)) (fun _ _ _ h=>h) (Or.inl ⟨by rfl,?_⟩) ?_ ?_;rotate_left
        ·
         intro w';go_simp;with_reducible rfl
        rotate_left
        ·
         simp only [Act.put,s0_,s1_,s2_,i64_w,i32_w];rfl
        refine pure_ (i:=7) (N:=some 35) (v:=?_) (a':=?_) #[y_,y_,y_,y_,y_,n_,y_,y_,n_,n_,n_,n_,n_] rfl rfl (any_of D.1 (by kernel_rfl)) (fun _ _ _ h=>h) (Or.inl ⟨by rfl,?_⟩) ?_ ?_;rotate_left
        ·
         intro w';go_simp;with_reducible rfl
        rotate_left
        ·
         simp only [Act.put,s0_,s1_,s2_,i64_w,i32_w];rfl
        refine pure_ (i:=8) (N:=some 36) (v:=?_) (a':=?_) #[y_,y_,y_,y_,y_,n_,y_,y_,y_,n_,n_,n_,n_] rfl rfl (any_of D.1 (by kernel_rfl)) (fun _ _ _ h=>h) (Or.inl ⟨by rfl,?_⟩) ?_ ?_;rotate_left
        ·
         intro w';go_simp;with_reducible rfl
        rotate_left
        ·
         simp only [Act.put,s0_,s1_,s2_,i64_w,i32_w];rfl
        refine take_ (i:=5) (N:=some 33) (v:=?_) (a':=?_) #[y_,y_,y_,y_,y_,y_,y_,y_,y_,n_,n_,n_,n_] rfl rfl (take_ofW D.1 a6.1 (by kernel_rfl)) (fun _ _ _ h=>h) (Or.inl ⟨by rfl,?_⟩) I ?_ ?_;rotate_left
        ·
         rintro w' ⟨s0,s1⟩;go_simp;with_reducible rfl
        rotate_left
        ·
         simp only [Act.put,s0_,s1_,s2_,i64_w,i32_w];rfl
        refine take_ (i:=9) (N:=some 37) (v:=?_) (a':=?_) #[y_,y_,y_,y_,y_,y_,y_,y_,y_,y_,n_,n_,n_] rfl rfl (take_ofW D.1 a6.1 (by kernel_rfl)) (fun _ _ _ h=>h) (Or.inl ⟨by rfl,?_⟩) I ?_ ?_;rotate_left
        ·
         rintro w' ⟨s0,s1⟩;go_simp;with_reducible rfl
        rotate_left
        ·
         simp only [Act.put,s0_,s1_,s2_,i64_w,i32_w];rfl
        refine pure_ (i:=10) (N:=some 38) (v:=?_) (a':=?_) #[y_,y_,y_,y_,y_,y_,y_,y_,y_,y_,y_,n_,n_] rfl rfl (any_of D.1 (by kernel_rfl)) (fun _ _ _ h=>h) (Or.inl ⟨by rfl,?_⟩) ?_ ?_;rotate_left
        ·
         intro w';go_simp;with_reducible rfl
        rotate_left
        ·
         simp only [Act.put,s0_,s1_,s2_,i64_w,i32_w];rfl
        refine pure_ (i:=11) (N:=some 39) (v:=?_) (a':=?_) #[y_,y_,y_,y_,y_,y_,y_,y_,y_,y_,y_,y_,n_] rfl rfl (any_of D.1 (by kernel_rfl)) (fun _ _ _ h=>h) (Or.inl ⟨by rfl,?_⟩) ?_ ?_;rotate_left
        ·
         intro w';go_simp;with_reducible rfl
        rotate_left
        ·
         simp only [Act.put,s0_,s1_,s2_,i64_w,i32_w];rfl
        refine pure_ (i:=12) (N:=some 7) (v:=?_) (a':=?_) #[y_,y_,y_,y_,y_,y_,y_,y_,y_,y_,y_,y_,y_] rfl rfl (any_of D.1 (by kernel_rfl)) (fun _ _ _ h=>h) (Or.inl ⟨by rfl,?_⟩) ?_ ?_;rotate_left
        ·
         intro w';go_simp;with_reducible rfl
        rotate_left
        ·
         simp only [Act.put,s0_,s1_,s2_,i64_w,i32_w];rfl
        refine done_ (done_of D.1 (by kernel_rfl)) ?_;try go_wp2
        go_roundg k1
        case measure=>have:=d1.1;omega
        case rel=>exact ⟨(a7),(decide ((rd M B) ≥ (rd O B))),(wrap64 (B + 1)),(by first|rfl|(simp;done)|(simp [*];done)),(by first|rfl|(simp;done)|(simp [*];done)),H',⟨by have:=d1.1;omega⟩,⟨by exact Q.1⟩,⟨by exact G.1⟩⟩
       ·
        replace c9:=Bool.eq_false_iff.mpr c9;subst c9;have H1:(bellpullref05_Less.l0 k1 M O a7 false (wrap64 (B + 1)))=some (r1,r2):=by rw [if_neg (show ¬ (false=true) by decide)] at H;exact H
        clear H;have H:=H1;clear H1;have H':=mk0 H;clear H;try go_wp2
        replace T:=rdr T;replace G:=hdr G;have Y:0 ≤ (B:Int):=of_decide_eq_true (by assumption);have Z:B < (M.length:Int):=of_decide_eq_true (by assumption);obtain ⟨a4,b6,J⟩:=Kd.at_int d3.1 B Y Z;have E:=J;cases b6;replace J:=bd_ G J;replace Y:=eq_true Y;replace Z:=eq_true Z;have a0:0 ≤ (B:Int):=of_decide_eq_true (by assumption);have a1:B < (O.length:Int):=of_decide_eq_true (by assumption);obtain ⟨a5,b7,L⟩:=Kd.at_int d4.1 B a0 a1;have F:=L;cases b7;replace L:=bd_ G L;replace a0:=eq_true a0;replace a1:=eq_true a1;refine start_ (n:=13) (S:=fun w'=>w'.cell? (a4.add (B).toNat)=some (.int .i64 (rd M B))∧w'.cell? (a5.add (B).toNat)=some (.int .i64 (rd O B))) (ds:=[]) #[n_,n_,n_,n_,n_,n_,n_,n_,n_,n_,n_,n_,n_] (by kernel_rfl) rfl rfl ⟨(bd_ G E),(bd_ G F)⟩ (fun I=>?_);refine with_tabW bellpullref05_Less.tab5 bellpullref05_Less.bits5 (fun D a6=>?_);generalize wr.drew=g7 at T G J L I ⊢;refine pure_ (i:=0) (N:=some 16) (v:=?_) (a':=?_) #[y_,n_,n_,n_,n_,n_,n_,n_,n_,n_,n_,n_,n_] rfl rfl (any_of D.1 (by kernel_rfl)) (fun _ _ _ h=>h) (Or.inl ⟨by rfl,?_⟩) ?_ ?_;rotate_left
        ·
         intro w';go_simp;with_reducible rfl
        rotate_left
        ·
         simp only [Act.put,s0_,s1_,s2_,i64_w,i32_w];rfl
        refine pure_ (i:=1) (N:=some 17) (v:=?_) (a':=?_) #[y_,y_,n_,n_,n_,n_,n_,n_,n_,n_,n_,n_,n_] rfl rfl (any_of D.1 (by kernel_rfl)) (fun _ _ _ h=>h) (Or.inl ⟨by rfl,?_⟩) ?_ ?_;rotate_left
        ·
         intro w';go_simp;with_reducible rfl
        rotate_left
        ·
         simp only [Act.put,s0_,s1_,s2_,i64_w,i32_w];rfl
        refine pure_ (i:=2) (N:=some 18) (v:=?_) (a':=?_) #[y_,y_,y_,n_,n_,n_,n_,n_,n_,n_,n_,n_,n_] rfl rfl (any_of D.1 (by kernel_rfl)) (fun _ _ _ h=>h) (Or.inl ⟨by rfl,?_⟩) ?_ ?_;rotate_left
        ·
         intro w';go_simp;with_reducible rfl
        rotate_left
        ·
         simp only [Act.put,s0_,s1_,s2_,i64_w,i32_w];rfl
        refine pure_ (i:=3) (N:=some 19) (v:=?_) (a':=?_) #[y_,y_,y_,y_,n_,n_,n_,n_,n_,n_,n_,n_,n_] rfl rfl (any_of D.1 (by kernel_rfl)) (fun _ _ _ h=>h) (Or.inl ⟨by rfl,?_⟩) ?_ ?_;rotate_left
        ·
         intro w';go_simp;with_reducible rfl
        rotate_left
        ·
         simp only [Act.put,s0_,s1_,s2_,i64_w,i32_w];rfl
        refine pure_ (i:=5) (N:=some 21) (v:=?_) (a':=?_) #[y_,y_,y_,y_,n_,y_,n_,n_,n_,n_,n_,n_,n_] rfl rfl (any_of D.1 (by kernel_rfl)) (fun _ _ _ h=>h) (Or.inl ⟨by rfl,?_⟩) ?_ ?_;rotate_left
        ·
         intro w';go_simp;with_reducible rfl
        rotate_left
        ·
         simp only [Act.put,s0_,s1_,s2_,i64_w,i32_w];rfl
        refine pure_ (i:=6) (N:=some 22) (v:=?_) (a':=?_) #[y_,y_,y_,y_,n_,y_,y_,n_,n_,n_,n_,n_,n_] rfl rfl (any_of D.1 (by kernel_rfl)) (fun _ _ _ h=>h) (Or.inl ⟨by rfl,?_⟩) ?_ ?_;rotate_left
        ·
         intro w';go_simp;with_reducible rfl
        rotate_left
        ·
         simp only [Act.put,s0_,s1_,s2_,i64_w,i32_w];rfl
        refine pure_ (i:=7) (N:=some 23) (v:=?_) (a':=?_) #[y_,y_,y_,y_,n_,y_,y_,y_,n_,n_,n_,n_,n_] rfl rfl (any_of D.1 (by kernel_rfl)) (fun _ _ _ h=>h) (Or.inl ⟨by rfl,?_⟩) ?_ ?_;rotate_left
        ·
         intro w';go_simp;with_reducible rfl
        rotate_left
        ·
         simp only [Act.put,s0_,s1_,s2_,i64_w,i32_w];rfl
        refine take_ (i:=4) (N:=some 20) (v:=?_) (a':=?_) #[y_,y_,y_,y_,y_,y_,y_,y_,n_,n_,n_,n_,n_] rfl rfl (take_ofW D.1 a6.1 (by kernel_rfl)) (fun _ _ _ h=>h) (Or.inl ⟨by rfl,?_⟩) I ?_ ?_;rotate_left
        ·
         rintro w' ⟨s0,s1⟩;go_simp;with_reducible rfl
        rotate_left
        ·
         simp only [Act.put,s0_,s1_,s2_,i64_w,i32_w];rfl
        refine take_ (i:=8) (N:=some 24) (v:=?_) (a':=?_) #[y_,y_,y_,y_,y_,y_,y_,y_,y_,n_,n_,n_,n_] rfl rfl (take_ofW D.1 a6.1 (by kernel_rfl)) (fun _ _ _ h=>h) (Or.inl ⟨by rfl,?_⟩) I ?_ ?_;rotate_left
        ·
         rintro w' ⟨s0,s1⟩;go_simp;with_reducible rfl
        rotate_left
        ·
         simp only [Act.put,s0_,s1_,s2_,i64_w,i32_w];rfl
        refine pure_ (i:=9) (N:=some 25) (v:=?_) (a':=?_) #[y_,y_,y_,y_,y_,y_,y_,y_,y_,y_,n_,n_,n_] rfl rfl (any_of D.1 (by kernel_rfl)) (fun _ _ _ h=>h) (Or.inl ⟨by rfl,?_⟩) ?_ ?_;rotate_left
        ·
         intro w';go_simp;with_reducible rfl
        rotate_left
        ·
         simp only [Act.put,s0_,s1_,s2_,i64_w,i32_w];rfl
        refine one_ (i:=10) (N:=some 26) #[y_,y_,y_,y_,y_,y_,y_,y_,y_,y_,y_,n_,n_] rfl rfl (one_of D.1 (by kernel_rfl)) (by decide) (fun K hK=>?_);refine value_ (w1:=?_) (v:=?_) (by rfl) rfl ?_ ?_;rotate_left 2
        ·
         go_simp;constructor
         ·
          rfl
         ·
          rfl
        refine hK.out _ _ ⟨(World.cell?_alloc_lt _ _ _ (World.block_lt_of_cell? _ _ ((bd_ G E)))).trans ((bd_ G E)),(World.cell?_alloc_lt _ _ _ (World.block_lt_of_cell? _ _ ((bd_ G F)))).trans ((bd_ G F))⟩ (fun I=>?_);clear hK K;refine norm_ (a':=?_) ?_ ?_;rotate_left
        ·
         show Act.put _ (some 26) _=_;simp only [Act.put,s0_,s1_,s2_,i64_w,i32_w];rfl
        refine one_ (i:=11) (N:=some 27) #[y_,y_,y_,y_,y_,y_,y_,y_,y_,y_,y_,y_,n_] rfl rfl (one_of D.1 (by kernel_rfl)) (by decide) (fun K hK=>?_);refine Kd.R_append_step (Kd.int .i64) (w0:=w) w.heap.size (by rfl) (.tmp 16) (.tmp 26) 23 3 (.int .i64 0) 8 rfl Try.underlying23 info3 rfl (by decide) (by omega) u6 X (wrap64 ((rd M B) - (rd O B))) [.int .i64 (wrap64 ((rd M B) - (rd O B)))] (fun _=>True) (fun _=>False) rfl rfl ?aP (fun _ hk=>hk.elim) ?aF ?aO ?aB ?aS ?aL ?_;(case aP=>exact rfl);(case aB=>exact G.1);(case aF=>exact (fun _ _=>trivial));(case aO=>exact T.1);(case aS=>exact (below_size G.1));(case aL=>have:=d6.1;omega);intro f1 f8 ho hb hg hat;rw [← d2.1] at ho;have Q:=mk0 (ho);replace G:=mk0 (hb);clear T;clear ho hb hg hat;refine hK.out _ _ ⟨(bd_ G E),(bd_ G F)⟩ (fun I=>?_);clear hK K;refine norm_ (a':=?_) ?_ ?_;rotate_left
        ·
         show Act.put _ (some 27) _=_;simp only [Act.put,s0_,s1_,s2_,i64_w,i32_w];rfl
        refine pure_ (i:=12) (N:=some 6) (v:=?_) (a':=?_) #[y_,y_,y_,y_,y_,y_,y_,y_,y_,y_,y_,y_,y_] rfl rfl (any_of D.1 (by kernel_rfl)) (fun _ _ _ h=>h) (Or.inl ⟨by rfl,?_⟩) ?_ ?_;rotate_left
        ·
         intro w';go_simp;with_reducible rfl
        rotate_left
        ·
         simp only [Act.put,s0_,s1_,s2_,i64_w,i32_w];rfl
        refine done_ (done_of D.1 (by kernel_rfl)) ?_;try go_wp2
        replace Q:=rdr Q;replace G:=hdr G;refine start_ (n:=13) (S:=fun w'=>True) (ds:=[]) #[n_,n_,n_,n_,n_,n_,n_,n_,n_,n_,n_,n_,n_] (by kernel_rfl) rfl rfl trivial (fun I=>?_);refine with_tabW bellpullref05_Less.tab6 bellpullref05_Less.bits6 (fun D a6=>?_);generalize f8.drew=g8 at Q G I ⊢;refine pure_ (i:=0) (N:=some 28) (v:=?_) (a':=?_) #[y_,n_,n_,n_,n_,n_,n_,n_,n_,n_,n_,n_,n_] rfl rfl (any_of D.1 (by kernel_rfl)) (fun _ _ _ h=>h) (Or.inl ⟨by rfl,?_⟩) ?_ ?_;rotate_left
        ·
         intro w';go_simp;with_reducible rfl
        rotate_left
        ·
         simp only [Act.put,s0_,s1_,s2_,i64_w,i32_w];rfl
        refine pure_ (i:=1) (N:=some 29) (v:=?_) (a':=?_) #[y_,y_,n_,n_,n_,n_,n_,n_,n_,n_,n_,n_,n_] rfl rfl (any_of D.1 (by kernel_rfl)) (fun _ _ _ h=>h) (Or.inl ⟨by rfl,?_⟩) ?_ ?_;rotate_left
        ·
         intro w';go_simp;with_reducible rfl
        rotate_left
        ·
         simp only [Act.put,s0_,s1_,s2_,i64_w,i32_w];rfl
        refine pure_ (i:=2) (N:=some 30) (v:=undef) (a':=?_) #[y_,y_,y_,n_,n_,n_,n_,n_,n_,n_,n_,n_,n_] rfl rfl (any_of D.1 (by kernel_rfl)) (fun _ _ _ h=>h) (Or.inr ⟨by rfl,rfl⟩) ?_ ?_;rotate_left
        ·
         simp only [Act.put,s0_,s1_,s2_,i64_w,i32_w];rfl
        refine pure_ (i:=3) (N:=some 31) (v:=undef) (a':=?_) #[y_,y_,y_,y_,n_,n_,n_,n_,n_,n_,n_,n_,n_] rfl rfl (any_of D.1 (by kernel_rfl)) (fun _ _ _ h=>h) (Or.inr ⟨by rfl,rfl⟩) ?_ ?_;rotate_left
        ·
         simp only [Act.put,s0_,s1_,s2_,i64_w,i32_w];rfl
        refine pure_ (i:=4) (N:=some 32) (v:=undef) (a':=?_) #[y_,y_,y_,y_,y_,n_,n_,n_,n_,n_,n_,n_,n_] rfl rfl (any_of D.1 (by kernel_rfl)) (fun _ _ _ h=>h) (Or.inr ⟨by rfl,rfl⟩) ?_ ?_;rotate_left
        ·
         simp only [Act.put,s0_,s1_,s2_,i64_w,i32_w];rfl
        refine pure_ (i:=5) (N:=some 33) (v:=undef) (a':=?_) #[y_,y_,y_,y_,y_,y_,n_,n_,n_,n_,n_,n_,n_] rfl rfl (any_of D.1 (by kernel_rfl)) (fun _ _ _ h=>h) (Or.inr ⟨by rfl,rfl⟩) ?_ ?_;rotate_left
        ·
         simp only [Act.put,s0_,s1_,s2_,i64_w,i32_w];rfl
        refine pure_ (i:=6) (N:=some 34) (v:=undef) (a':=?_) #[y_,y_,y_,y_,y_,y_,y_,n_,n_,n_,n_,n_,n_] rfl rfl (any_of D.1 (by kernel_rfl)) (fun _ _ _ h=>h) (Or.inr ⟨by rfl,rfl⟩) ?_ ?_;rotate_left
        ·
         simp only [Act.put,s0_,s1_,s2_,i64_w,i32_w];rfl
        refine pure_ (i:=7) (N:=some 35) (v:=undef) (a':=?_) #[y_,y_,y_,y_,y_,y_,y_,y_,n_,n_,n_,n_,n_] rfl rfl (any_of D.1 (by kernel_rfl)) (fun _ _ _ h=>h) (Or.inr ⟨by rfl,rfl⟩) ?_ ?_;rotate_left
        ·
         simp only [Act.put,s0_,s1_,s2_,i64_w,i32_w];rfl
        refine pure_ (i:=8) (N:=some 36) (v:=undef) (a':=?_) #[y_,y_,y_,y_,y_,y_,y_,y_,y_,n_,n_,n_,n_] rfl rfl (any_of D.1 (by kernel_rfl)) (fun _ _ _ h=>h) (Or.inr ⟨by rfl,rfl⟩) ?_ ?_;rotate_left
        ·
         simp only [Act.put,s0_,s1_,s2_,i64_w,i32_w];rfl
        refine pure_ (i:=9) (N:=some 37) (v:=undef) (a':=?_) #[y_,y_,y_,y_,y_,y_,y_,y_,y_,y_,n_,n_,n_] rfl rfl (any_of D.1 (by kernel_rfl)) (fun _ _ _ h=>h) (Or.inr ⟨by rfl,rfl⟩) ?_ ?_;rotate_left
        ·
         simp only [Act.put,s0_,s1_,s2_,i64_w,i32_w];rfl
        refine pure_ (i:=10) (N:=some 38) (v:=undef) (a':=?_) #[y_,y_,y_,y_,y_,y_,y_,y_,y_,y_,y_,n_,n_] rfl rfl (any_of D.1 (by kernel_rfl)) (fun _ _ _ h=>h) (Or.inr ⟨by rfl,rfl⟩) ?_ ?_;rotate_left
        ·
         simp only [Act.put,s0_,s1_,s2_,i64_w,i32_w];rfl
        refine pure_ (i:=11) (N:=some 39) (v:=?_) (a':=?_) #[y_,y_,y_,y_,y_,y_,y_,y_,y_,y_,y_,y_,n_] rfl rfl (any_of D.1 (by kernel_rfl)) (fun _ _ _ h=>h) (Or.inl ⟨by rfl,?_⟩) ?_ ?_;rotate_left
        ·
         intro w';go_simp;with_reducible rfl
        rotate_left
        ·
         simp only [Act.put,s0_,s1_,s2_,i64_w,i32_w];rfl
        refine pure_ (i:=12) (N:=some 7) (v:=?_) (a':=?_) #[y_,y_,y_,y_,y_,y_,y_,y_,y_,y_,y_,y_,y_] rfl rfl (any_of D.1 (by kernel_rfl)) (fun _ _ _ h=>h) (Or.inl ⟨by rfl,?_⟩) ?_ ?_;rotate_left
        ·
         intro w';go_simp;with_reducible rfl
        rotate_left
        ·
         simp only [Act.put,s0_,s1_,s2_,i64_w,i32_w];rfl
        refine done_ (done_of D.1 (by kernel_rfl)) ?_;try go_wp2
        go_roundg k1
        case measure=>have:=d1.1;omega
        case rel=>exact ⟨(a7),(false),(wrap64 (B + 1)),(by first|rfl|(simp;done)|(simp [*];done)),(by first|rfl|(simp;done)|(simp [*];done)),H',⟨by have:=d1.1;omega⟩,⟨by exact Q.1⟩,⟨by exact G.1⟩⟩
      ·
       rw [if_neg c8] at H;exact absurd H (by simp)
     ·
      rw [if_neg c7] at H;exact absurd H (by simp)
    ·
     rw [if_neg c6] at H;exact absurd H (by simp)
   ·
    rw [if_neg c5] at H;have c5b0:decide (B < (M.length:Int))=false:=decide_eq_false c5;clear c5;simp only [Option.some.injEq,Prod.mk.injEq] at H;obtain ⟨rfl,rfl⟩:=H;go_wp2;go_ret2;exact ⟨_,by first|rfl|(simp [errW_none,errW_some] <;> rfl)|(simp [*,errW_none,errW_some] <;> rfl),by exact T.1,by exact G.1⟩
end Go.Proofs.Ytkonljiembcdlaa.PC
namespace Go.Proofs.Ytkonljiembcdlaa.PC
open Go.Proofs.MyWords Go.RowKit Go.Proofs.YtkonljiembcdlaaW.PrintWords Go.Proofs.YtkonljiembcdlaaW.PrintLast Go.Proofs.YtkonljiembcdlaaW.PrintMore
attribute [local go_sem] max2_int min2_int max_two min_two max_three min_three max_four min_four   -- for this text's walks alone
set_option linter.unusedVariables false
set_option linter.unusedSimpArgs false
attribute [local go_sem] eqGuard_slices eqlnil23 neqnil23 eqlnil58 neqnil58
def bellpullref05_Total.l0:Nat → List Int → Int → Int → Option (Int)
  | 0,_,_,_=>none
  | k + 1,x0,x3,x4=>if x4 < (x0.length:Int) then (if 0 ≤ x4 then (bellpullref05_Total.l0 k x0 (wrap64 (x3 + (rd x0 x4))) (wrap64 (x4 + 1))) else (none)) else (some x3)
def bellpullref05_Total.f (k:Nat) (l0:List Int):Option (Int):=bellpullref05_Total.l0 k l0 0 0
set_option maxHeartbeats 8000000 in
set_option maxRecDepth 100000 in
theorem bellpullref05_Total.calls (k:Nat) (O:Option Addr) (Q:Nat) (D:List Int) (r:Int) (w:World) (I:Kd.C (Kd.int .i64) w O D.length D) (J:D.length ≤ Q) (h:bellpullref05_Total.f k D=some r) :
    Calls Try.prog 45 #[.slice O D.length Q] w fun e w'=>e=.returned (.int .i64 r)∧Drawn0 w w':=by
 have R:=mk0 I;have X:=mk0 J;clear I J;have H:(bellpullref05_Total.l0 k D 0 0)=some r:=h;clear h;have H':=mk0 H;clear H;go_enter Try.func45,Try.ntmps45;go_wp2
 go_loopg [3,4] k (fun kq U V w'=>∃ (E:Int) (B:Int),U=.int .i64 E∧V=.int .i64 B∧Aside0 (bellpullref05_Total.l0 kq D E B=some r)∧Aside0 (kq ≤ k)∧Drawn0 w w')
 case atStart=>exact ⟨(0),(0),(by first|rfl|(simp;done)|(simp [*];done)),(by first|rfl|(simp;done)|(simp [*];done)),H',⟨Nat.le_refl _⟩,by repeat (first|exact Drawn0.refl _|apply Drawn0.step)⟩
 case round =>
  clear H';obtain ⟨E,B,rfl,rfl,HA,L,⟨Y,rfl⟩⟩:=hrel;cases gk with
  | zero=>exact absurd HA.1 (by simp [bellpullref05_Total.l0])
  | succ k1 =>
   have H:=HA.1;clear HA;simp only [bellpullref05_Total.l0] at H
   by_cases c2:B < (D.length:Int)
   ·
    rw [if_pos c2] at H;have c2b0:decide (B < (D.length:Int))=true:=decide_eq_true c2;clear c2
    by_cases c3:0 ≤ B
    ·
     rw [if_pos c3] at H;have c3b0:decide (0 ≤ B)=true:=decide_eq_true c3;clear c3;have H':=mk0 H;clear H;have F:0 ≤ (B:Int):=of_decide_eq_true (by first|(with_reducible assumption)|assumption);have G:B < (D.length:Int):=of_decide_eq_true (by first|(with_reducible assumption)|assumption);obtain ⟨T,M,N⟩:=Kd.at_int R.1 B F G;cases M;replace F:=eq_true F;replace G:=eq_true G;go_wp2;go_roundg k1
     case measure=>have:=L.1;omega
     case rel=>exact ⟨(wrap64 (E + (rd D B))),(wrap64 (B + 1)),(by first|rfl|(simp;done)|(simp [*];done)),(by first|rfl|(simp;done)|(simp [*];done)),H',⟨by have:=L.1;omega⟩,by repeat (first|exact Drawn0.refl _|apply Drawn0.step)⟩
    ·
     rw [if_neg c3] at H;exact absurd H (by simp)
   ·
    rw [if_neg c2] at H;have c2b0:decide (B < (D.length:Int))=false:=decide_eq_false c2;clear c2;obtain rfl:=Option.some.inj H;go_wp2;go_ret;exact ⟨by first|rfl|(simp;done)|(simp [*];done),by repeat (first|exact Drawn0.refl _|apply Drawn0.step)⟩
end Go.Proofs.Ytkonljiembcdlaa.PC
namespace Go.Proofs.Ytkonljiembcdlaa.PC
open Go.Proofs.MyWords Go.RowKit Go.Proofs.YtkonljiembcdlaaW.PrintWords Go.Proofs.YtkonljiembcdlaaW.PrintLast Go.Proofs.YtkonljiembcdlaaW.PrintMore
attribute [local go_sem] max2_int min2_int max_two min_two max_three min_three max_four min_four   -- for this text's walks alone
set_option linter.unusedVariables false
set_option linter.unusedSimpArgs false
attribute [local go_sem] eqGuard_slices eqlnil23 neqnil23 eqlnil58 neqnil58
mutual
def bellpullref05_sums.l0:Nat → List Int → List (List Int) → Int → Option (Bool)
  | 0,_,_,_=>none
  | k + 1,x0,x1,x5=>if x5 < (x1.length:Int) then (if 0 ≤ x5 then ((bellpullref05_Total.f k (rd_L1 x1 x5)).bind fun t423=>(if t423=0 then (bellpullref05_sums.l0 k x0 x1 (wrap64 (x5 + 1))) else ((bellpullref05_Less.f k x0 (rd_L1 x1 x5)).bind fun bt425=>(if bt425.2=true then (if x5 ≤ (x1.length:Int) then ((bellpullref05_sums.f k bt425.1 (x1.drop (x5:Int).toNat)).bind fun t433=>(if t433=true then (some true) else (bellpullref05_sums.l0 k x0 x1 (wrap64 (x5 + 1))))) else (none)) else (bellpullref05_sums.l0 k x0 x1 (wrap64 (x5 + 1))))))) else (none)) else (some false)
def bellpullref05_sums.f:Nat → List Int → List (List Int) → Option (Bool)
  | 0,_,_=>none
  | k + 1,l0,l1=>(bellpullref05_Total.f k l0).bind fun t421=>(if t421=0 then (some true) else (bellpullref05_sums.l0 k l0 l1 0))
end
set_option maxHeartbeats 8000000 in
set_option maxRecDepth 100000 in
theorem bellpullref05_sums.calls (k:Nat):∀ (A0:Option Addr) (c0:Nat) (Z:List Int) (A1:Option Addr) (c1:Nat) (F:List (List Int)) (r:Bool) (w:World) (e8:Kd.C (Kd.int .i64) w A0 Z.length Z) (e9:Z.length ≤ c0) (f0:Kd.C (Kd.slice 3 (Kd.int .i64)) w A1 F.length F) (f1:F.length ≤ c1) (h:bellpullref05_sums.f k Z F=some r),
    Calls Try.prog 54 #[.slice A0 Z.length c0,.slice A1 F.length c1] w fun e w'=>e=.returned (.bool r)∧Below w.heap.size w w':=by
 induction k using Nat.strongRecOn with
 | _ k ih =>
 intro A0 c0 Z A1 c1 F r w e8 e9 f0 f1 h;cases k with
 | zero=>exact absurd h (by simp [bellpullref05_sums.f])
 | succ k =>
 simp only [bellpullref05_sums.f] at h;have d6:=mk0 e8;have d7:=mk0 e9;clear e8 e9;have a9:=mk0 f0;have g2:=mk0 f1;clear f0 f1;have E:=mk0 (Below.refl w.heap.size w);have H:((bellpullref05_Total.f k Z).bind fun a4=>(if a4=0 then (some true) else (bellpullref05_sums.l0 k Z F 0)))=some r:=h;clear h;replace H:=Option.bind_eq_some_iff.mp H;obtain ⟨a4,g3,H⟩:=H;(try dsimp only at H);have A3:=mk0 g3;clear g3
 by_cases c4:a4=0
 ·
  rw [if_pos c4] at H;have c4b0:(a4 == 0)=true:=beq_iff_eq.mpr c4;have c4b1:(a4 != 0)=false:=bne_eq_false_iff_eq.mpr c4;clear c4;obtain rfl:=Option.some.inj H;go_enter Try.func54,Try.ntmps54;go_wp2_with (first|((with_reducible refine gate_callee (f:=45) rfl ?_);refine goesL_ (some 9) rfl rfl Try.func45 (by kernel_rfl) rfl #[.slice A0 Z.length c0] rfl (by (try simp only [m0_,m1_,m2_]);first|done|rfl|(simp only [l0_,l1_];rfl)) ?_;(with_reducible refine (bellpullref05_Total.calls k _ _ Z a4 _ ?side1 ?side2 A3.1).mono ?_);(case side1=>repeat (first|exact d6.1|(with_reducible refine Kd.C_alloc ?_ _)|(with_reducible refine Kd.C_drewN ?_ _)|(with_reducible refine Kd.C_drew ?_)));(case side2=>exact d7.1);rintro e w' ⟨rfl,⟨nd,rfl⟩⟩;refine ⟨_,rfl,?_⟩));go_ret;exact ⟨by first|rfl|(simp [errW_none,errW_some] <;> rfl)|(simp [*,errW_none,errW_some] <;> rfl),by repeat (first|(with_reducible first|exact E.1|apply below_alloc|apply pw_below_drewN|apply below_drew1)|exact E.1)⟩
 ·
  rw [if_neg c4] at H;have c4b0:(a4 == 0)=false:=beq_eq_false_iff_ne.mpr c4;have c4b1:(a4 != 0)=true:=bne_iff_ne.mpr c4;have H':=mk0 H;clear H;go_enter Try.func54,Try.ntmps54;go_wp2_with (first|((with_reducible refine gate_callee (f:=45) rfl ?_);refine goesL_ (some 9) rfl rfl Try.func45 (by kernel_rfl) rfl #[.slice A0 Z.length c0] rfl (by (try simp only [m0_,m1_,m2_]);first|done|rfl|(simp only [l0_,l1_];rfl)) ?_;(with_reducible refine (bellpullref05_Total.calls k _ _ Z a4 _ ?side1 ?side2 A3.1).mono ?_);(case side1=>repeat (first|exact d6.1|(with_reducible refine Kd.C_alloc ?_ _)|(with_reducible refine Kd.C_drewN ?_ _)|(with_reducible refine Kd.C_drew ?_)));(case side2=>exact d7.1);rintro e w' ⟨rfl,⟨nd,rfl⟩⟩;refine ⟨_,rfl,?_⟩))
  go_loopg [5] k (fun kq v5 w'=>∃ (B:Int),v5=.int .i64 B∧Aside0 (bellpullref05_sums.l0 kq Z F B=some r)∧Aside0 (kq ≤ k)∧Aside0 (Below w.heap.size w w'))
  case atStart=>exact ⟨(0),(by first|rfl|(simp;done)|(simp [*];done)),H',⟨Nat.le_refl _⟩,⟨by repeat (first|(with_reducible first|exact E.1|apply below_alloc|apply pw_below_drewN|apply below_drew1)|exact E.1)⟩⟩
  case round =>
   clear H';try clear c1
   try clear p2
   try clear c4
   try clear c4b0
   try clear c4b1
   obtain ⟨B,rfl,HA,b4,E⟩:=hrel;cases gk with
   | zero=>exact absurd HA.1 (by simp [bellpullref05_sums.l0])
   | succ k1 =>
    have H:=HA.1;clear HA;simp only [bellpullref05_sums.l0] at H
    by_cases c5:B < (F.length:Int)
    ·
     rw [if_pos c5] at H;have c5b0:decide (B < (F.length:Int))=true:=decide_eq_true c5;clear c5
     by_cases c6:0 ≤ B
     ·
      rw [if_pos c6] at H;have c6b0:decide (0 ≤ B)=true:=decide_eq_true c6;clear c6;replace H:=Option.bind_eq_some_iff.mp H;obtain ⟨a5,g4,H⟩:=H;(try dsimp only at H);have A7:=mk0 g4;clear g4
      by_cases c8:a5=0
      ·
       rw [if_pos c8] at H;have c8b0:(a5 == 0)=true:=beq_iff_eq.mpr c8;have c8b1:(a5 != 0)=false:=bne_eq_false_iff_eq.mpr c8;clear c8;have H':=mk0 H;clear H;have Q:0 ≤ (B:Int):=of_decide_eq_true (by first|(with_reducible assumption)|assumption);have R:B < (F.length:Int):=of_decide_eq_true (by first|(with_reducible assumption)|assumption);obtain ⟨L,M,N,a6,D,I,J⟩:=at_L1 a9.1 B Q R;cases a6;replace D:=(E.1.cell (World.block_lt_of_cell? w _ D)).trans D;have V:=mk0 J;have X:=mk0 I;clear J I;replace Q:=eq_true Q;replace R:=eq_true R;go_wp2_with (first|((with_reducible refine gate_callee (f:=45) rfl ?_);refine goesL_ (some 21) rfl rfl Try.func45 (by kernel_rfl) rfl #[.slice M (rd_L1 F B).length N] rfl (by (try simp only [m0_,m1_,m2_]);first|done|rfl|(simp only [l0_,l1_];rfl)) ?_;(with_reducible refine (bellpullref05_Total.calls k1 _ _ (rd_L1 F B) a5 _ ?side1 ?side2 A7.1).mono ?_);(case side1=>repeat (first|exact (Kd.C_below V.1 E.1)|(with_reducible refine Kd.C_alloc ?_ _)|(with_reducible refine Kd.C_drewN ?_ _)|(with_reducible refine Kd.C_drew ?_)));(case side2=>exact X.1);rintro e w' ⟨rfl,⟨nd,rfl⟩⟩;refine ⟨_,rfl,?_⟩));go_roundg k1
       case measure=>have:=b4.1;omega
       case rel=>exact ⟨(wrap64 (B + 1)),(by first|rfl|(simp;done)|(simp [*];done)),H',⟨by have:=b4.1;omega⟩,⟨by repeat (first|(with_reducible first|exact E.1|apply below_alloc|apply pw_below_drewN|apply below_drew1)|exact E.1)⟩⟩
      ·
       rw [if_neg c8] at H;have c8b0:(a5 == 0)=false:=beq_eq_false_iff_ne.mpr c8;have c8b1:(a5 != 0)=true:=bne_iff_ne.mpr c8;replace H:=Option.bind_eq_some_iff.mp H;obtain ⟨⟨a7,g8⟩,g5,H⟩:=H;(try dsimp only at H);have A9:=mk0 g5;clear g5
       by_cases e2:g8=true
       ·
        subst e2;have H1:(if B ≤ (F.length:Int) then ((bellpullref05_sums.f k1 a7 (F.drop (B:Int).toNat)).bind fun b8=>(if b8=true then (some true) else (bellpullref05_sums.l0 k1 Z F (wrap64 (B + 1))))) else (none))=some r:=by rw [if_pos rfl] at H;exact H
        clear H;have H:=H1;clear H1;have c11b0:=eq_true (of_decide_eq_true (by first|(with_reducible assumption)|assumption):0 ≤ B)
        by_cases c12:B ≤ (F.length:Int)
        ·
         rw [if_pos c12] at H;have c12b0:=eq_true c12;have c12b1:decide (B ≤ (F.length:Int))=true:=decide_eq_true c12;clear c12;obtain ⟨Y,b0⟩:∃ y_:List (List Int),y_=(F.drop (B:Int).toNat):=⟨_,rfl⟩
         replace H:((bellpullref05_sums.f k1 a7 Y).bind fun b8=>(if b8=true then (some true) else (bellpullref05_sums.l0 k1 Z F (wrap64 (B + 1)))))=some r:=by first|(rw [b0];with_reducible exact H)|(have f2:=(Option.bind_some _ _).symm.trans H;rw [b0];with_reducible exact f2)|(have f2:=(Option.bind_some _ _).symm.trans H;with_reducible exact f2)|with_reducible exact H|(rw [b0];exact H)|exact H
         have b6:=mk0 b0;clear b0;replace H:=Option.bind_eq_some_iff.mp H;obtain ⟨b8,f3,H⟩:=H;(try dsimp only at H);have g6:=mk0 f3;clear f3
         by_cases e3:b8=true
         ·
          subst e3;have H1:(some true)=some r:=by rw [if_pos rfl] at H;exact H
          clear H;have H:=H1;clear H1;obtain rfl:=Option.some.inj H;have Q:0 ≤ (B:Int):=of_decide_eq_true (by first|(with_reducible assumption)|assumption);have R:B < (F.length:Int):=of_decide_eq_true (by first|(with_reducible assumption)|assumption);obtain ⟨L,M,N,a6,D,I,J⟩:=at_L1 a9.1 B Q R;cases a6;replace D:=(E.1.cell (World.block_lt_of_cell? w _ D)).trans D;have V:=mk0 J;have X:=mk0 I;clear J I;replace Q:=eq_true Q;replace R:=eq_true R;go_wp2_with (first|((with_reducible refine gate_callee (f:=45) rfl ?_);refine goesL_ (some 21) rfl rfl Try.func45 (by kernel_rfl) rfl #[.slice M (rd_L1 F B).length N] rfl (by (try simp only [m0_,m1_,m2_]);first|done|rfl|(simp only [l0_,l1_];rfl)) ?_;(with_reducible refine (bellpullref05_Total.calls k1 _ _ (rd_L1 F B) a5 _ ?side1 ?side2 A7.1).mono ?_);(case side1=>repeat (first|exact (Kd.C_below V.1 E.1)|(with_reducible refine Kd.C_alloc ?_ _)|(with_reducible refine Kd.C_drewN ?_ _)|(with_reducible refine Kd.C_drew ?_)));(case side2=>exact X.1);rintro e w' ⟨rfl,⟨nd,rfl⟩⟩;refine ⟨_,rfl,?_⟩;have a0:0 ≤ (B:Int):=of_decide_eq_true (by first|(with_reducible assumption)|assumption);have a1:B < (F.length:Int):=of_decide_eq_true (by first|(with_reducible assumption)|assumption);obtain ⟨b1,d8,d9,b9,G,T,U⟩:=at_L1 a9.1 B a0 a1;obtain rfl:L=b1:=(by injection b9);replace G:=(E.1.cell (World.block_lt_of_cell? w _ G)).trans G;have a2:=mk0 U;have a3:=mk0 T;clear U T;replace a0:=eq_true a0;replace a1:=eq_true a1;have ea_:=Option.some.inj (D.symm.trans G);injection ea_ with ea_ en_ ec_;subst ea_;subst ec_;clear en_)|((with_reducible refine gate_callee (f:=38) rfl ?_);refine goesL_ (some 29) rfl rfl Try.func38 (by kernel_rfl) rfl #[.slice A0 Z.length c0,.slice M (rd_L1 F B).length N] rfl (by (try simp only [m0_,m1_,m2_]);first|done|rfl|(simp only [l0_,l1_];rfl)) ?_;(with_reducible refine (bellpullref05_Less.calls k1 _ _ Z _ _ (rd_L1 F B) a7 true _ ?side1 ?side2 ?side3 ?side4 A9.1).mono ?_);(case side1=>repeat (first|exact (Kd.C_below d6.1 (by repeat (first|(with_reducible first|exact E.1|apply below_alloc|apply pw_below_drewN|apply below_drew1)|exact E.1)))|(with_reducible refine Kd.C_alloc ?_ _)|(with_reducible refine Kd.C_drewN ?_ _)|(with_reducible refine Kd.C_drew ?_)));(case side2=>exact d7.1);(case side3=>repeat (first|exact (Kd.C_below a2.1 (by repeat (first|(with_reducible first|exact E.1|apply below_alloc|apply pw_below_drewN|apply below_drew1)|exact E.1)))|(with_reducible refine Kd.C_alloc ?_ _)|(with_reducible refine Kd.C_drewN ?_ _)|(with_reducible refine Kd.C_drew ?_)));(case side4=>exact a3.1);rintro e j0 ⟨f4,rfl,b5,hb⟩;refine ⟨_,rfl,?_⟩;have O:=mk0 (Kd.R_lower b5 (below_size (by repeat (first|(with_reducible first|exact E.1|apply below_alloc|apply pw_below_drewN|apply below_drew1)|exact E.1))));replace E:=mk0 (below_step (by repeat (first|(with_reducible first|exact E.1|apply below_alloc|apply pw_below_drewN|apply below_drew1)|exact E.1)) hb);(try clear hb);(try clear b5);have f5:(B:Int) ≤ ((F.length:Int):Int):=of_decide_eq_true (by first|(with_reducible assumption)|assumption);obtain ⟨i0,e4,_,e5,_⟩:=info_parts info23;have b2:F.length ≤ c1:=g2.1;have f6:Kd.C (Kd.slice 3 (Kd.int .i64)) _ (some L) F.length F:=a9.1;have h0:(0:Int) ≤ (B:Int):=of_decide_eq_true (by first|(with_reducible assumption)|assumption);have f7:=cut_from (P:=Try.prog) 58 23 .i64 Try.underlying58 e4 1 e5 (some L) F.length c1 B h0 f5;have c2:=Kd.C_drop (m:=(B:Int).toNat) (c:=c1) f6 (by omega) b2;obtain ⟨h5,c7⟩:∃ AA,AA=(if c1=(B:Int).toNat then (some L) else ((some L):Option Addr).map (·.add ((B:Int).toNat * 1))):=⟨_,rfl⟩;obtain ⟨h6,e0⟩:∃ cc,cc=c1 - (B:Int).toNat:=⟨_,rfl⟩;have c9:Y.length=F.length - (B:Int).toNat:=(by rw [b6.1,l0_] <;> omega);rw [show (F).drop (B:Int).toNat=Y from b6.1.symm] at c2;replace c2:Kd.C (Kd.slice 3 (Kd.int .i64)) _ h5 Y.length Y:=(by rw [c7];exact c2);rw [← c9,← c7,← e0] at f7;have d0:=mk0 c2;have d1:=mk0 (show Y.length ≤ h6 from by rw [c9,e0];exact Nat.sub_le_sub_right b2 _);clear c2 f6 b2 e4 e5 e0;have i1:=mk0 c9;have i2:=mk0 c7;clear c9 c7;replace f5:=eq_true f5;obtain ⟨i3,i4,h1⟩:=Kd.R_slice O.1;subst h1)|(go_at_call 54;(with_reducible refine (ih k1 (by have:=b4.1;omega) _ _ a7 _ _ Y true _ ?side1 ?side2 ?side3 ?side4 g6.1).mono ?_);(case side1=>repeat (first|exact (Kd.R_reads' O.1).2.2|(with_reducible refine Kd.C_alloc ?_ _)|(with_reducible refine Kd.C_drewN ?_ _)|(with_reducible refine Kd.C_drew ?_)));(case side2=>exact (Kd.R_reads' O.1).2.1);(case side3=>repeat (first|exact (Kd.C_below d0.1 E.1)|(with_reducible refine Kd.C_alloc ?_ _)|(with_reducible refine Kd.C_drewN ?_ _)|(with_reducible refine Kd.C_drew ?_)));(case side4=>exact d1.1);rintro e j1 ⟨rfl,hb⟩;replace O:=mk0 (Kd.R_below (by (with_reducible repeat (first|apply Kd.R_alloc|apply Kd.R_drewN|apply Kd.R_drew));exact O.1) hb);replace E:=mk0 (below_step (by repeat (first|(with_reducible first|exact E.1|apply below_alloc|apply pw_below_drewN|apply below_drew1)|exact E.1)) hb);(try clear hb)))
          go_ret;exact ⟨by first|rfl|(simp [errW_none,errW_some] <;> rfl)|(simp [*,errW_none,errW_some] <;> rfl),by repeat (first|(with_reducible first|exact E.1|apply below_alloc|apply pw_below_drewN|apply below_drew1)|exact E.1)⟩
         ·
          replace e3:=Bool.eq_false_iff.mpr e3;subst e3;have H1:(bellpullref05_sums.l0 k1 Z F (wrap64 (B + 1)))=some r:=by rw [if_neg (show ¬ (false=true) by decide)] at H;exact H
          clear H;have H:=H1;clear H1;have H':=mk0 H;clear H;have Q:0 ≤ (B:Int):=of_decide_eq_true (by first|(with_reducible assumption)|assumption);have R:B < (F.length:Int):=of_decide_eq_true (by first|(with_reducible assumption)|assumption);obtain ⟨L,M,N,a6,D,I,J⟩:=at_L1 a9.1 B Q R;cases a6;replace D:=(E.1.cell (World.block_lt_of_cell? w _ D)).trans D;have V:=mk0 J;have X:=mk0 I;clear J I;replace Q:=eq_true Q;replace R:=eq_true R;go_wp2_with (first|((with_reducible refine gate_callee (f:=45) rfl ?_);refine goesL_ (some 21) rfl rfl Try.func45 (by kernel_rfl) rfl #[.slice M (rd_L1 F B).length N] rfl (by (try simp only [m0_,m1_,m2_]);first|done|rfl|(simp only [l0_,l1_];rfl)) ?_;(with_reducible refine (bellpullref05_Total.calls k1 _ _ (rd_L1 F B) a5 _ ?side1 ?side2 A7.1).mono ?_);(case side1=>repeat (first|exact (Kd.C_below V.1 E.1)|(with_reducible refine Kd.C_alloc ?_ _)|(with_reducible refine Kd.C_drewN ?_ _)|(with_reducible refine Kd.C_drew ?_)));(case side2=>exact X.1);rintro e w' ⟨rfl,⟨nd,rfl⟩⟩;refine ⟨_,rfl,?_⟩;have a0:0 ≤ (B:Int):=of_decide_eq_true (by first|(with_reducible assumption)|assumption);have a1:B < (F.length:Int):=of_decide_eq_true (by first|(with_reducible assumption)|assumption);obtain ⟨b1,d8,d9,b9,G,T,U⟩:=at_L1 a9.1 B a0 a1;obtain rfl:L=b1:=(by injection b9);replace G:=(E.1.cell (World.block_lt_of_cell? w _ G)).trans G;have a2:=mk0 U;have a3:=mk0 T;clear U T;replace a0:=eq_true a0;replace a1:=eq_true a1;have ea_:=Option.some.inj (D.symm.trans G);injection ea_ with ea_ en_ ec_;subst ea_;subst ec_;clear en_)|((with_reducible refine gate_callee (f:=38) rfl ?_);refine goesL_ (some 29) rfl rfl Try.func38 (by kernel_rfl) rfl #[.slice A0 Z.length c0,.slice M (rd_L1 F B).length N] rfl (by (try simp only [m0_,m1_,m2_]);first|done|rfl|(simp only [l0_,l1_];rfl)) ?_;(with_reducible refine (bellpullref05_Less.calls k1 _ _ Z _ _ (rd_L1 F B) a7 true _ ?side1 ?side2 ?side3 ?side4 A9.1).mono ?_);(case side1=>repeat (first|exact (Kd.C_below d6.1 (by repeat (first|(with_reducible first|exact E.1|apply below_alloc|apply pw_below_drewN|apply below_drew1)|exact E.1)))|(with_reducible refine Kd.C_alloc ?_ _)|(with_reducible refine Kd.C_drewN ?_ _)|(with_reducible refine Kd.C_drew ?_)));(case side2=>exact d7.1);(case side3=>repeat (first|exact (Kd.C_below a2.1 (by repeat (first|(with_reducible first|exact E.1|apply below_alloc|apply pw_below_drewN|apply below_drew1)|exact E.1)))|(with_reducible refine Kd.C_alloc ?_ _)|(with_reducible refine Kd.C_drewN ?_ _)|(with_reducible refine Kd.C_drew ?_)));(case side4=>exact a3.1);rintro e j2 ⟨f4,rfl,b5,hb⟩;refine ⟨_,rfl,?_⟩;have O:=mk0 (Kd.R_lower b5 (below_size (by repeat (first|(with_reducible first|exact E.1|apply below_alloc|apply pw_below_drewN|apply below_drew1)|exact E.1))));replace E:=mk0 (below_step (by repeat (first|(with_reducible first|exact E.1|apply below_alloc|apply pw_below_drewN|apply below_drew1)|exact E.1)) hb);(try clear hb);(try clear b5);have f8:(B:Int) ≤ ((F.length:Int):Int):=of_decide_eq_true (by first|(with_reducible assumption)|assumption);obtain ⟨i5,e6,_,e7,_⟩:=info_parts info23;have b3:F.length ≤ c1:=g2.1;have f9:Kd.C (Kd.slice 3 (Kd.int .i64)) _ (some L) F.length F:=a9.1;have h2:(0:Int) ≤ (B:Int):=of_decide_eq_true (by first|(with_reducible assumption)|assumption);have g0:=cut_from (P:=Try.prog) 58 23 .i64 Try.underlying58 e6 1 e7 (some L) F.length c1 B h2 f8;have c3:=Kd.C_drop (m:=(B:Int).toNat) (c:=c1) f9 (by omega) b3;obtain ⟨h7,d2⟩:∃ AA,AA=(if c1=(B:Int).toNat then (some L) else ((some L):Option Addr).map (·.add ((B:Int).toNat * 1))):=⟨_,rfl⟩;obtain ⟨h8,e1⟩:∃ cc,cc=c1 - (B:Int).toNat:=⟨_,rfl⟩;have d3:Y.length=F.length - (B:Int).toNat:=(by rw [b6.1,l0_] <;> omega);rw [show (F).drop (B:Int).toNat=Y from b6.1.symm] at c3;replace c3:Kd.C (Kd.slice 3 (Kd.int .i64)) _ h7 Y.length Y:=(by rw [d2];exact c3);rw [← d3,← d2,← e1] at g0;have d0:=mk0 c3;have d1:=mk0 (show Y.length ≤ h8 from by rw [d3,e1];exact Nat.sub_le_sub_right b3 _);clear c3 f9 b3 e6 e7 e1;have i6:=mk0 d3;have i7:=mk0 d2;clear d3 d2;replace f8:=eq_true f8;obtain ⟨i8,i9,h3⟩:=Kd.R_slice O.1;subst h3)|(go_at_call 54;(with_reducible refine (ih k1 (by have:=b4.1;omega) _ _ a7 _ _ Y false _ ?side1 ?side2 ?side3 ?side4 g6.1).mono ?_);(case side1=>repeat (first|exact (Kd.R_reads' O.1).2.2|(with_reducible refine Kd.C_alloc ?_ _)|(with_reducible refine Kd.C_drewN ?_ _)|(with_reducible refine Kd.C_drew ?_)));(case side2=>exact (Kd.R_reads' O.1).2.1);(case side3=>repeat (first|exact (Kd.C_below d0.1 E.1)|(with_reducible refine Kd.C_alloc ?_ _)|(with_reducible refine Kd.C_drewN ?_ _)|(with_reducible refine Kd.C_drew ?_)));(case side4=>exact d1.1);rintro e j3 ⟨rfl,hb⟩;replace O:=mk0 (Kd.R_below (by (with_reducible repeat (first|apply Kd.R_alloc|apply Kd.R_drewN|apply Kd.R_drew));exact O.1) hb);replace E:=mk0 (below_step (by repeat (first|(with_reducible first|exact E.1|apply below_alloc|apply pw_below_drewN|apply below_drew1)|exact E.1)) hb);(try clear hb)))
          go_roundg k1
          case measure=>have:=b4.1;omega
          case rel=>exact ⟨(wrap64 (B + 1)),(by first|rfl|(simp;done)|(simp [*];done)),H',⟨by have:=b4.1;omega⟩,⟨by exact E.1⟩⟩
        ·
         rw [if_neg c12] at H;exact absurd H (by simp)
       ·
        replace e2:=Bool.eq_false_iff.mpr e2;subst e2;have H1:(bellpullref05_sums.l0 k1 Z F (wrap64 (B + 1)))=some r:=by rw [if_neg (show ¬ (false=true) by decide)] at H;exact H
        clear H;have H:=H1;clear H1;have H':=mk0 H;clear H;have Q:0 ≤ (B:Int):=of_decide_eq_true (by first|(with_reducible assumption)|assumption);have R:B < (F.length:Int):=of_decide_eq_true (by first|(with_reducible assumption)|assumption);obtain ⟨L,M,N,a6,D,I,J⟩:=at_L1 a9.1 B Q R;cases a6;replace D:=(E.1.cell (World.block_lt_of_cell? w _ D)).trans D;have V:=mk0 J;have X:=mk0 I;clear J I;replace Q:=eq_true Q;replace R:=eq_true R;go_wp2_with (first|((with_reducible refine gate_callee (f:=45) rfl ?_);refine goesL_ (some 21) rfl rfl Try.func45 (by kernel_rfl) rfl #[.slice M (rd_L1 F B).length N] rfl (by (try simp only [m0_,m1_,m2_]);first|done|rfl|(simp only [l0_,l1_];rfl)) ?_;(with_reducible refine (bellpullref05_Total.calls k1 _ _ (rd_L1 F B) a5 _ ?side1 ?side2 A7.1).mono ?_);(case side1=>repeat (first|exact (Kd.C_below V.1 E.1)|(with_reducible refine Kd.C_alloc ?_ _)|(with_reducible refine Kd.C_drewN ?_ _)|(with_reducible refine Kd.C_drew ?_)));(case side2=>exact X.1);rintro e w' ⟨rfl,⟨nd,rfl⟩⟩;refine ⟨_,rfl,?_⟩;have a0:0 ≤ (B:Int):=of_decide_eq_true (by first|(with_reducible assumption)|assumption);have a1:B < (F.length:Int):=of_decide_eq_true (by first|(with_reducible assumption)|assumption);obtain ⟨b1,d8,d9,b9,G,T,U⟩:=at_L1 a9.1 B a0 a1;obtain rfl:L=b1:=(by injection b9);replace G:=(E.1.cell (World.block_lt_of_cell? w _ G)).trans G;have a2:=mk0 U;have a3:=mk0 T;clear U T;replace a0:=eq_true a0;replace a1:=eq_true a1;have ea_:=Option.some.inj (D.symm.trans G);injection ea_ with ea_ en_ ec_;subst ea_;subst ec_;clear en_)|((with_reducible refine gate_callee (f:=38) rfl ?_);refine goesL_ (some 29) rfl rfl Try.func38 (by kernel_rfl) rfl #[.slice A0 Z.length c0,.slice M (rd_L1 F B).length N] rfl (by (try simp only [m0_,m1_,m2_]);first|done|rfl|(simp only [l0_,l1_];rfl)) ?_;(with_reducible refine (bellpullref05_Less.calls k1 _ _ Z _ _ (rd_L1 F B) a7 false _ ?side1 ?side2 ?side3 ?side4 A9.1).mono ?_);(case side1=>repeat (first|exact (Kd.C_below d6.1 (by repeat (first|(with_reducible first|exact E.1|apply below_alloc|apply pw_below_drewN|apply below_drew1)|exact E.1)))|(with_reducible refine Kd.C_alloc ?_ _)|(with_reducible refine Kd.C_drewN ?_ _)|(with_reducible refine Kd.C_drew ?_)));(case side2=>exact d7.1);(case side3=>repeat (first|exact (Kd.C_below a2.1 (by repeat (first|(with_reducible first|exact E.1|apply below_alloc|apply pw_below_drewN|apply below_drew1)|exact E.1)))|(with_reducible refine Kd.C_alloc ?_ _)|(with_reducible refine Kd.C_drewN ?_ _)|(with_reducible refine Kd.C_drew ?_)));(case side4=>exact a3.1);rintro e j4 ⟨f4,rfl,b5,hb⟩;refine ⟨_,rfl,?_⟩;have O:=mk0 (Kd.R_lower b5 (below_size (by repeat (first|(with_reducible first|exact E.1|apply below_alloc|apply pw_below_drewN|apply below_drew1)|exact E.1))));replace E:=mk0 (below_step (by repeat (first|(with_reducible first|exact E.1|apply below_alloc|apply pw_below_drewN|apply below_drew1)|exact E.1)) hb);(try clear hb);(try clear b5)));go_roundg k1
        case measure=>have:=b4.1;omega
        case rel=>exact ⟨(wrap64 (B + 1)),(by first|rfl|(simp;done)|(simp [*];done)),H',⟨by have:=b4.1;omega⟩,⟨by exact E.1⟩⟩
     ·
      rw [if_neg c6] at H;exact absurd H (by simp)
    ·
     rw [if_neg c5] at H;have c5b0:decide (B < (F.length:Int))=false:=decide_eq_false c5;clear c5;obtain rfl:=Option.some.inj H;go_wp2;go_ret;exact ⟨by first|rfl|(simp [errW_none,errW_some] <;> rfl)|(simp [*,errW_none,errW_some] <;> rfl),by exact E.1⟩
end Go.Proofs.Ytkonljiembcdlaa.PC
namespace Go.Proofs.Ytkonljiembcdlaa.PC
open Go.Proofs.MyWords Go.RowKit Go.Proofs.YtkonljiembcdlaaW.PrintWords Go.Proofs.YtkonljiembcdlaaW.PrintLast Go.Proofs.YtkonljiembcdlaaW.PrintMore
attribute [local go_sem] max2_int min2_int max_two min_two max_three min_three max_four min_four   -- for this text's walks alone
set_option linter.unusedVariables false
set_option linter.unusedSimpArgs false
attribute [local go_sem] eqGuard_slices eqlnil23 neqnil23 eqlnil58 neqnil58
def bellpullref05_Has.l0:Nat → List (S60) → List Int → Int → Option (Bool)
  | 0,_,_,_=>none
  | k + 1,x0,x1,x5=>if x5 < (x0.length:Int) then (if 0 ≤ x5 then ((bellpullref05_Less.f k x1 ((rd_T60 x0 x5).f0)).bind fun bt435=>(if bt435.2=true then ((bellpullref05_sums.f k bt435.1 ((rd_T60 x0 x5).f1)).bind fun t440=>(if t440=true then (some true) else (bellpullref05_Has.l0 k x0 x1 (wrap64 (x5 + 1))))) else (bellpullref05_Has.l0 k x0 x1 (wrap64 (x5 + 1))))) else (none)) else (some false)
def bellpullref05_Has.f (k:Nat) (l0:List (S60)) (l1:List Int):Option (Bool):=bellpullref05_Has.l0 k l0 l1 0
set_option maxHeartbeats 8000000 in
set_option maxRecDepth 100000 in
theorem bellpullref05_Has.calls (k:Nat) (A0:Option Addr) (c0:Nat) (N:List (S60)) (A1:Option Addr) (c1:Nat) (l1:List Int) (r:Bool) (w:World) (e2:Kd.C k60 w A0 N.length N) (e3:N.length ≤ c0) (e4:Kd.C (Kd.int .i64) w A1 l1.length l1) (e5:l1.length ≤ c1) (h:bellpullref05_Has.f k N l1=some r) :
    Calls Try.prog 24 #[.slice A0 N.length c0,.slice A1 l1.length c1] w fun e w'=>e=.returned (.bool r)∧Below w.heap.size w w':=by
 have b6:=mk0 e2;have g2:=mk0 e3;clear e2 e3;have d3:=mk0 e4;have d4:=mk0 e5;clear e4 e5;have D:=mk0 (Below.refl w.heap.size w);have H:(bellpullref05_Has.l0 k N l1 0)=some r:=h;clear h;have H':=mk0 H;clear H;go_enter Try.func24,Try.ntmps24;go_wp2
 go_loopg [5] k (fun kq v5 w'=>∃ (B:Int),v5=.int .i64 B∧Aside0 (bellpullref05_Has.l0 kq N l1 B=some r)∧Aside0 (kq ≤ k)∧Aside0 (Below w.heap.size w w'))
 case atStart=>exact ⟨(0),(by first|rfl|(simp;done)|(simp [*];done)),H',⟨Nat.le_refl _⟩,⟨by exact D.1⟩⟩
 case round =>
  clear H';try clear c1
  try clear c2
  try clear p2
  obtain ⟨B,rfl,HA,c7,D⟩:=hrel;cases gk with
  | zero=>exact absurd HA.1 (by simp [bellpullref05_Has.l0])
  | succ k1 =>
   have H:=HA.1;clear HA;simp only [bellpullref05_Has.l0] at H
   by_cases c3:B < (N.length:Int)
   ·
    rw [if_pos c3] at H;have c3b0:decide (B < (N.length:Int))=true:=decide_eq_true c3;clear c3
    by_cases c4:0 ≤ B
    ·
     rw [if_pos c4] at H;have c4b0:decide (0 ≤ B)=true:=decide_eq_true c4;clear c4;replace H:=Option.bind_eq_some_iff.mp H;obtain ⟨⟨a6,e8⟩,e6,H⟩:=H;(try dsimp only at H);have A5:=mk0 e6;clear e6
     by_cases c6:e8=true
     ·
      subst c6;have H1:((bellpullref05_sums.f k1 a6 ((rd_T60 N B).f1)).bind fun b9=>(if b9=true then (some true) else (bellpullref05_Has.l0 k1 N l1 (wrap64 (B + 1)))))=some r:=by rw [if_pos rfl] at H;exact H
      clear H;have H:=H1;clear H1;replace H:=Option.bind_eq_some_iff.mp H;obtain ⟨b9,e7,H⟩:=H;(try dsimp only at H);have A7:=mk0 e7;clear e7
      by_cases c8:b9=true
      ·
       subst c8;have H1:(some true)=some r:=by rw [if_pos rfl] at H;exact H
       clear H;have H:=H1;clear H1;obtain rfl:=Option.some.inj H;have R:0 ≤ (B:Int):=of_decide_eq_true (by assumption);have T:B < (N.length:Int):=of_decide_eq_true (by assumption);obtain ⟨b0,a1,a2,b7,b8,b2,E,F,I,J,L,M⟩:=at_T60 b6.1 B R T;cases b2;replace E:=bd_ D E;replace F:=bd_ D F;have U:=mk0 J;have V:=mk0 I;clear J I;have b3:=mk0 M;have b4:=mk0 L;clear M L;replace R:=eq_true R;replace T:=eq_true T;go_wp2_with (first|((with_reducible refine gate_callee (f:=38) rfl ?_);refine goesL_ (some 21) rfl rfl Try.func38 (by kernel_rfl) rfl #[.slice A1 l1.length c1,.slice a1 ((rd_T60 N B).f0).length a2] rfl (by (try simp only [m0_,m1_,m2_]);first|done|rfl|(simp only [l0_,l1_];rfl)) ?_;(with_reducible refine (bellpullref05_Less.calls k1 _ _ l1 _ _ ((rd_T60 N B).f0) a6 true _ ?side1 ?side2 ?side3 ?side4 A5.1).mono ?_);(case side1=>repeat (first|exact (Kd.C_below d3.1 D.1)|(with_reducible refine Kd.C_alloc ?_ _)|(with_reducible refine Kd.C_drewN ?_ _)|(with_reducible refine Kd.C_drew ?_)));(case side2=>exact d4.1);(case side3=>repeat (first|exact (Kd.C_below U.1 D.1)|(with_reducible refine Kd.C_alloc ?_ _)|(with_reducible refine Kd.C_drewN ?_ _)|(with_reducible refine Kd.C_drew ?_)));(case side4=>exact V.1);rintro e w9 ⟨d5,rfl,a9,hb⟩;refine ⟨_,rfl,?_⟩;have G:=mk0 (Kd.R_lower a9 (below_size D.1));replace D:=bst D hb;(try clear hb);(try clear a9);have a4:0 ≤ (B:Int):=of_decide_eq_true (by assumption);have a5:B < (N.length:Int):=of_decide_eq_true (by assumption);obtain ⟨b5,d6,d7,d8,d9,c5,O,Q,X,Y,Z,a0⟩:=at_T60 b6.1 B a4 a5;obtain rfl:b0=b5:=(by injection c5);replace O:=bd_ D O;replace Q:=bd_ D Q;have d0:=mk0 Y;have d1:=mk0 X;clear Y X;have a7:=mk0 a0;have a8:=mk0 Z;clear a0 Z;replace a4:=eq_true a4;replace a5:=eq_true a5;obtain ⟨f8,f9,f2⟩:=Kd.R_slice G.1;subst f2)|(go_at_call 54;(with_reducible refine (bellpullref05_sums.calls k1 _ _ a6 _ _ ((rd_T60 N B).f1) true _ ?side1 ?side2 ?side3 ?side4 A7.1).mono ?_);(case side1=>repeat (first|exact (Kd.R_reads' G.1).2.2|(with_reducible refine Kd.C_alloc ?_ _)|(with_reducible refine Kd.C_drewN ?_ _)|(with_reducible refine Kd.C_drew ?_)));(case side2=>exact (Kd.R_reads' G.1).2.1);(case side3=>repeat (first|exact (Kd.C_below a7.1 D.1)|(with_reducible refine Kd.C_alloc ?_ _)|(with_reducible refine Kd.C_drewN ?_ _)|(with_reducible refine Kd.C_drew ?_)));(case side4=>exact a8.1);rintro e g3 ⟨rfl,hb⟩;replace G:=rbl G hb;replace D:=bst D hb;(try clear hb)));go_ret;exact ⟨by first|rfl|(simp [errW_none,errW_some] <;> rfl)|(simp [*,errW_none,errW_some] <;> rfl),by exact D.1⟩
      ·
       replace c8:=Bool.eq_false_iff.mpr c8;subst c8;have H1:(bellpullref05_Has.l0 k1 N l1 (wrap64 (B + 1)))=some r:=by rw [if_neg (show ¬ (false=true) by decide)] at H;exact H
       clear H;have H:=H1;clear H1;have H':=mk0 H;clear H;have R:0 ≤ (B:Int):=of_decide_eq_true (by assumption);have T:B < (N.length:Int):=of_decide_eq_true (by assumption);obtain ⟨b0,a1,a2,b7,b8,b2,E,F,I,J,L,M⟩:=at_T60 b6.1 B R T;cases b2;replace E:=bd_ D E;replace F:=bd_ D F;have U:=mk0 J;have V:=mk0 I;clear J I;have b3:=mk0 M;have b4:=mk0 L;clear M L;replace R:=eq_true R;replace T:=eq_true T;go_wp2_with (first|((with_reducible refine gate_callee (f:=38) rfl ?_);refine goesL_ (some 21) rfl rfl Try.func38 (by kernel_rfl) rfl #[.slice A1 l1.length c1,.slice a1 ((rd_T60 N B).f0).length a2] rfl (by (try simp only [m0_,m1_,m2_]);first|done|rfl|(simp only [l0_,l1_];rfl)) ?_;(with_reducible refine (bellpullref05_Less.calls k1 _ _ l1 _ _ ((rd_T60 N B).f0) a6 true _ ?side1 ?side2 ?side3 ?side4 A5.1).mono ?_);(case side1=>repeat (first|exact (Kd.C_below d3.1 D.1)|(with_reducible refine Kd.C_alloc ?_ _)|(with_reducible refine Kd.C_drewN ?_ _)|(with_reducible refine Kd.C_drew ?_)));(case side2=>exact d4.1);(case side3=>repeat (first|exact (Kd.C_below U.1 D.1)|(with_reducible refine Kd.C_alloc ?_ _)|(with_reducible refine Kd.C_drewN ?_ _)|(with_reducible refine Kd.C_drew ?_)));(case side4=>exact V.1);rintro e g4 ⟨d5,rfl,a9,hb⟩;refine ⟨_,rfl,?_⟩;have G:=mk0 (Kd.R_lower a9 (below_size D.1));replace D:=bst D hb;(try clear hb);(try clear a9);have a4:0 ≤ (B:Int):=of_decide_eq_true (by assumption);have a5:B < (N.length:Int):=of_decide_eq_true (by assumption);obtain ⟨b5,d6,d7,d8,d9,c5,O,Q,X,Y,Z,a0⟩:=at_T60 b6.1 B a4 a5;obtain rfl:b0=b5:=(by injection c5);replace O:=bd_ D O;replace Q:=bd_ D Q;have d0:=mk0 Y;have d1:=mk0 X;clear Y X;have a7:=mk0 a0;have a8:=mk0 Z;clear a0 Z;replace a4:=eq_true a4;replace a5:=eq_true a5;obtain ⟨g0,g1,f3⟩:=Kd.R_slice G.1;subst f3)|(go_at_call 54;(with_reducible refine (bellpullref05_sums.calls k1 _ _ a6 _ _ ((rd_T60 N B).f1) false _ ?side1 ?side2 ?side3 ?side4 A7.1).mono ?_);(case side1=>repeat (first|exact (Kd.R_reads' G.1).2.2|(with_reducible refine Kd.C_alloc ?_ _)|(with_reducible refine Kd.C_drewN ?_ _)|(with_reducible refine Kd.C_drew ?_)));(case side2=>exact (Kd.R_reads' G.1).2.1);(case side3=>repeat (first|exact (Kd.C_below a7.1 D.1)|(with_reducible refine Kd.C_alloc ?_ _)|(with_reducible refine Kd.C_drewN ?_ _)|(with_reducible refine Kd.C_drew ?_)));(case side4=>exact a8.1);rintro e g5 ⟨rfl,hb⟩;replace G:=rbl G hb;replace D:=bst D hb;(try clear hb)));go_roundg k1
       case measure=>have:=c7.1;omega
       case rel=>exact ⟨(wrap64 (B + 1)),(by first|rfl|(simp;done)|(simp [*];done)),H',⟨by have:=c7.1;omega⟩,⟨by exact D.1⟩⟩
     ·
      replace c6:=Bool.eq_false_iff.mpr c6;subst c6;have H1:(bellpullref05_Has.l0 k1 N l1 (wrap64 (B + 1)))=some r:=by rw [if_neg (show ¬ (false=true) by decide)] at H;exact H
      clear H;have H:=H1;clear H1;have H':=mk0 H;clear H;have R:0 ≤ (B:Int):=of_decide_eq_true (by assumption);have T:B < (N.length:Int):=of_decide_eq_true (by assumption);obtain ⟨b0,a1,a2,b7,b8,b2,E,F,I,J,L,M⟩:=at_T60 b6.1 B R T;cases b2;replace E:=bd_ D E;replace F:=bd_ D F;have U:=mk0 J;have V:=mk0 I;clear J I;have b3:=mk0 M;have b4:=mk0 L;clear M L;replace R:=eq_true R;replace T:=eq_true T;go_wp2_with (first|((with_reducible refine gate_callee (f:=38) rfl ?_);refine goesL_ (some 21) rfl rfl Try.func38 (by kernel_rfl) rfl #[.slice A1 l1.length c1,.slice a1 ((rd_T60 N B).f0).length a2] rfl (by (try simp only [m0_,m1_,m2_]);first|done|rfl|(simp only [l0_,l1_];rfl)) ?_;(with_reducible refine (bellpullref05_Less.calls k1 _ _ l1 _ _ ((rd_T60 N B).f0) a6 false _ ?side1 ?side2 ?side3 ?side4 A5.1).mono ?_);(case side1=>repeat (first|exact (Kd.C_below d3.1 D.1)|(with_reducible refine Kd.C_alloc ?_ _)|(with_reducible refine Kd.C_drewN ?_ _)|(with_reducible refine Kd.C_drew ?_)));(case side2=>exact d4.1);(case side3=>repeat (first|exact (Kd.C_below U.1 D.1)|(with_reducible refine Kd.C_alloc ?_ _)|(with_reducible refine Kd.C_drewN ?_ _)|(with_reducible refine Kd.C_drew ?_)));(case side4=>exact V.1);rintro e g6 ⟨d5,rfl,a9,hb⟩;refine ⟨_,rfl,?_⟩;have G:=mk0 (Kd.R_lower a9 (below_size D.1));replace D:=bst D hb;(try clear hb);(try clear a9)));go_roundg k1
      case measure=>have:=c7.1;omega
      case rel=>exact ⟨(wrap64 (B + 1)),(by first|rfl|(simp;done)|(simp [*];done)),H',⟨by have:=c7.1;omega⟩,⟨by exact D.1⟩⟩
    ·
     rw [if_neg c4] at H;exact absurd H (by simp)
   ·
    rw [if_neg c3] at H;have c3b0:decide (B < (N.length:Int))=false:=decide_eq_false c3;clear c3;obtain rfl:=Option.some.inj H;go_wp2;go_ret;exact ⟨by first|rfl|(simp [errW_none,errW_some] <;> rfl)|(simp [*,errW_none,errW_some] <;> rfl),by exact D.1⟩
end Go.Proofs.Ytkonljiembcdlaa.PC
namespace Go.Proofs.Ytkonljiembcdlaa.PC
open Go.Proofs.MyWords Go.RowKit Go.Proofs.YtkonljiembcdlaaW.PrintWords Go.Proofs.YtkonljiembcdlaaW.PrintLast Go.Proofs.YtkonljiembcdlaaW.PrintMore
attribute [local go_sem] max2_int min2_int max_two min_two max_three min_three max_four min_four   -- for this text's walks alone
set_option linter.unusedVariables false
set_option linter.unusedSimpArgs false
attribute [local go_sem] eqGuard_slices eqlnil23 neqnil23 eqlnil58 neqnil58
def nextV (d:Nat) (x:List Int) (p:Nat):List Int:=(List.range d).map fun k=>if p + k < x.length then Int.tmod (wrap64 (rd x ((p + k:Nat):Int))) 5 else 0
theorem nextV_succ (d:Nat) (x:List Int) (p:Nat):nextV (d + 1) x p=nextV d x p ++ [if p + d < x.length then Int.tmod (wrap64 (rd x ((p + d:Nat):Int))) 5 else 0]:=by
  unfold nextV;rw [List.range_succ,List.map_append];rfl
theorem mg_join {a b c:World} {g:Nat} (h:a.grownBy b (some g)) (k:b.grownBy c (some g)):a.grownBy c (some g) :=
  ⟨k.os.trans h.os,k.tape.trans h.tape,k.output.trans h.output,Nat.le_trans h.size k.size,fun i hi hn=>(k.block i (Nat.lt_of_lt_of_le hi h.size) hn).trans (h.block i hi hn)⟩
theorem mg_ofb {a b:World} (g:Nat) {B:Nat} (h:Below B a b) (hB:a.heap.size ≤ B):a.grownBy b (some g):=⟨h.os,h.tape,h.output,h.size,fun i hi _=>h.block i (by omega)⟩
theorem mg_snoc {a b c:World} {g:Nat} (h:a.grownBy b (some g)) (k:Below a.heap.size b c):a.grownBy c (some g) :=
  ⟨k.os.trans h.os,k.tape.trans h.tape,k.output.trans h.output,Nat.le_trans h.size k.size,fun i hi hn=>(k.block i hi).trans (h.block i hi hn)⟩
theorem mg_set {W w:World} {g:Nat} (h:W.grownBy w (some g)) (u:Value):W.grownBy (w.setCell ⟨g,0,none⟩ u) (some g) :=
  mg_join h ⟨rfl,rfl,rfl,by simp [World.setCell],fun i _ hi=>Below.heap_setCell _ _ _ _ (fun e=>hi (by rw [e]))⟩
theorem mg_below {W w:World} {g B:Nat} (h:W.grownBy w (some g)) (hg:B ≤ g) (hB:B ≤ W.heap.size):Below B W w :=
  ⟨h.os,h.tape,h.output,h.size,fun k hk=>h.block k (by omega) (fun e=>by injection e with e;omega)⟩
set_option maxHeartbeats 2000000 in
set_option maxRecDepth 100000 in
theorem made_next.calls (d p gd gat gx:Nat) (A:Option Addr) (c:Nat) (x:List Int) (w0 W:World) (hd:d ≤ 100) (hp:p ≤ 4611686018427387904) (hn1:gd ≠ gat) (hn2:gx ≠ gat) (hg0:w0.heap.size ≤ gat)
    (hbd:W.heap[gd]?=some (.cells #[.int .i64 (d:Int)] 3 (0,0))) (hba:W.heap[gat]?=some (.cells #[.int .i64 (p:Int)] 3 (0,0))) (hbx:W.heap[gx]?=some (.cells #[.slice A x.length c] 50 (0,0)))
    (hC:Kd.C (Kd.int .u8) w0 A x.length x) (hB:Below w0.heap.size w0 W) :
    Calls Try.prog 96 #[.pointer (some ⟨gd,0,none⟩),.pointer (some ⟨gat,0,none⟩),.pointer (some ⟨gx,0,none⟩)] W fun e w'=>∃ v,e=.returned v∧Kd.R (Kd.int .i64) 3 w' W.heap.size (fun _=>True) v (nextV d x p) ∧
      w'.heap[gat]?=some (.cells #[.int .i64 ((p + d:Nat):Int)] 3 (0,0))∧W.grownBy w' (some gat):=by
  have HD:=mk0 hd
  have HP:=mk0 hp
  have HN1:=mk0 hn1
  have HN2:=mk0 hn2
  have HG0:=mk0 hg0
  have HBD:=mk0 hbd
  have HBA:=mk0 hba
  have HBX:=mk0 hbx
  have HC:=mk0 hC
  have HB0:=mk0 hB
  have HL:=mk0 (show gat < W.heap.size from (Array.getElem?_eq_some_iff.1 hba).1)
  clear hd hp hn1 hn2 hg0 hbd hba hbx hC hB
  go_enter Try.func96,Try.ntmps96
  go_wp2_with (first
    | ((with_reducible refine gate_dst (N:=7) rfl ?_);refine Kd.R_lit (Kd.int .i64) _ 3 ?hg (N:=7) ?hd (xs:=([]:List Int)) (inner:=[]) (ok:=fun _=>True) (okp:=fun _=>True) ?hr ?hp (fun _ hk=>hk) trivial (Below.refl _ _) (Nat.le_refl _) (by simp) ?_;(case hd=>rfl);(case hg=>rfl);(case hr=>first|(go_simp;done)|(go_simp;rfl));(case hp=>exact (Reps.none _ _));intro v7 w2 ho3 hb hg_ hnew_;clear hg_ hnew_;have HO:=mk0 ho3;have HB1:=mk0 hb;clear hb ho3))
  go_loopw [4,5] (fun v4 v5 wr=>∃ (k:Nat),v5=.int .i64 (k:Int)∧Aside0 (k ≤ d)∧Aside0 (Kd.R (Kd.int .i64) 3 wr W.heap.size (fun _=>True) v4 (nextV k x p))∧Aside0 (wr.heap[gat]?=some (.cells #[.int .i64 ((p + k:Nat):Int)] 3 (0,0)))∧Aside0 (W.grownBy wr (some gat))) (fun _ v5 _=>d - (intOf v5).toNat)
  case atStart=>exact ⟨0,rfl,⟨Nat.zero_le _⟩,HO,⟨(HB1.out.block gat HL.out).trans HBA.out⟩,⟨mg_ofb gat HB1.out (Nat.le_refl _)⟩⟩
  case round =>
    obtain ⟨k,rfl,HK,HR,HA,HGR⟩:=hrel
    have HWD:=mk0 ((HGR.out.block gd (Array.getElem?_eq_some_iff.1 HBD.out).1 (fun e=>HN1.out (by injection e))).trans HBD.out)
    have HWX:=mk0 ((HGR.out.block gx (Array.getElem?_eq_some_iff.1 HBX.out).1 (fun e=>HN2.out (by injection e))).trans HBX.out)
    have HBW:=mk0 (HB0.out.trans (mg_below HGR.out HG0.out HB0.out.size))
    have hc0:wr.cell? ⟨gd,0,none⟩=some (.int .i64 (d:Int)):=(blk_cell HWD.out 0).trans rfl
    have hc1:wr.cell? ⟨gat,0,none⟩=some (.int .i64 ((p + k:Nat):Int)):=(blk_cell HA.out 0).trans rfl
    have hc2:wr.cell? ⟨gx,0,none⟩=some (.slice A x.length c):=(blk_cell HWX.out 0).trans rfl
    by_cases hlt:k < d
    · have hd1:decide ((k:Int) < (d:Int))=true:=decide_eq_true (by omega)
      have hd2:decide (k < d)=true:=decide_eq_true hlt
      have hwk:wrap64 ((k:Int) + 1)=((k + 1:Nat):Int):=by have:=HD.out;unfold wrap64;omega
      have hwp:wrap64 (((p + k:Nat):Int) + 1)=((p + (k + 1):Nat):Int):=by have:=HD.out;have:=HP.out;unfold wrap64;omega
      have hlk:(nextV k x p).length=k:=by unfold nextV;simp
      obtain ⟨y,hy⟩:∃ y:Int,y=(if p + k < x.length then Int.tmod (wrap64 (rd x ((p + k:Nat):Int))) 5 else 0):=⟨_,rfl⟩
      have HWK:=mk0 hwk
      have HWP:=mk0 hwp
      have HLK:=mk0 hlk
      have HY:=mk0 hy
      have HKD:=mk0 hlt
      clear hwk hwp hlk hlt
      obtain ⟨q,hq⟩:∃ q:Int,q=((p + k:Nat):Int):=⟨_,rfl⟩
      rw [← hq] at hc1
      have hf1:=blk_frozen HA.out 0
      by_cases hin:p + k < x.length
      · have q0:(0:Int) ≤ q:=by omega
        have q1:q < (x.length:Int):=by omega
        obtain ⟨ad,e,hx0⟩:=Kd.at_int HC.out q q0 q1
        cases e
        have hx1:=(HBW.out.cell (World.block_lt_of_cell? w0 _ hx0)).trans hx0
        have hd3:decide (q < (x.length:Int))=true:=decide_eq_true q1
        have p0:((0:Int) ≤ q)=True:=eq_true q0
        have p1:(q < (x.length:Int))=True:=eq_true q1
        have hyv:Int.tmod (wrap64 (rd x q)) 5=y:=by rw [hy,if_pos hin,hq]
        have HQ:=mk0 hq
        have HIN:=mk0 hin
        clear hx0 q0 q1 hy hq hin
        go_wp2_with (first
          | ((with_reducible refine gate_builtin (b:=.append) (xs:=#[.tmp 23,.tmp 25]) rfl ?_);at_builtin;refine Kd.R_append (Kd.int .i64) (w0:=wr) W.heap.size rfl (.tmp 23) (.tmp 25) 23 3 (.int .i64 0) 8 rfl Try.underlying23 info3 rfl (by decide) (by omega) u4 (nextV k x p) y [.int .i64 y] (fun _=>True) (fun _=>False) rfl (by first|rfl|(rw [← hyv];rfl)) ?aP (fun _ hk=>hk.elim) ?aF ?aO ?aB ?aS ?aL ?_;(case aP=>exact rfl);(case aB=>exact Below.refl _ _);(case aF=>exact (fun _ _=>trivial));(case aO=>exact HR.out);(case aS=>exact HGR.out.size);(case aL=>rw [HLK.out];have:=HD.out;have:=HKD.out;omega);intro v1 w1 ho hb hg hat;have HR1:=mk0 ho;have HA1:=mk0 ((hg.block gat (Array.getElem?_eq_some_iff.1 HA.out).1 (fun e=>by have:=Kd.R_base HR.out gat e.symm;have:=HL.out;omega)).trans HA.out);have HGR1:=mk0 (mg_snoc HGR.out hb);clear ho hb hg hat;have hc3:w1.cell? ⟨gat,0,none⟩=some (.int .i64 q):=(blk_cell HA1.out 0).trans (by rw [HQ.out];rfl);have hf3:=blk_frozen HA1.out 0))
        go_roundw
        case measure=>rw [HWK.out];simp only [intOf];have:=HKD.out;omega
        case rel =>
          rw [HWK.out]
          refine ⟨k + 1,rfl,⟨by have:=HKD.out;omega⟩,⟨?_⟩,⟨?_⟩,⟨mg_set HGR1.out _⟩⟩
          · rw [nextV_succ,← HY.out]
            exact Kd.R_mono (Kd.R_far (p:=⟨gat,0,none⟩) (Kd.R_bound HR1.out) (fun kk hk=>by have h1:=hk.2.1;have h2:=HL.out;show kk ≠ gat;omega) _) (fun _ _=>trivial)
          · rw [HQ.out,HWP.out];exact blk_put HA1.out 0 _ rfl
      · have hd3:decide (q < (x.length:Int))=false:=decide_eq_false (by omega)
        have hy0:y=0:=by rw [hy,if_neg hin]
        have HQ:=mk0 hq
        have HIN:=mk0 hin
        have HY0:=mk0 hy0
        clear hq hin hy hy0
        go_wp2_with (first
          | ((with_reducible refine gate_builtin (b:=.append) (xs:=#[.tmp 23,.tmp 25]) rfl ?_);at_builtin;refine Kd.R_append (Kd.int .i64) (w0:=wr) W.heap.size rfl (.tmp 23) (.tmp 25) 23 3 (.int .i64 0) 8 rfl Try.underlying23 info3 rfl (by decide) (by omega) u4 (nextV k x p) y [.int .i64 0] (fun _=>True) (fun _=>False) rfl rfl ?aP (fun _ hk=>hk.elim) ?aF ?aO ?aB ?aS ?aL ?_;(case aP=>rw [HY0.out];exact rfl);(case aB=>exact Below.refl _ _);(case aF=>exact (fun _ _=>trivial));(case aO=>exact HR.out);(case aS=>exact HGR.out.size);(case aL=>rw [HLK.out];have:=HD.out;have:=HKD.out;omega);intro v1 w1 ho hb hg hat;have HR1:=mk0 ho;have HA1:=mk0 ((hg.block gat (Array.getElem?_eq_some_iff.1 HA.out).1 (fun e=>by have:=Kd.R_base HR.out gat e.symm;have:=HL.out;omega)).trans HA.out);have HGR1:=mk0 (mg_snoc HGR.out hb);clear ho hb hg hat;have hc3:w1.cell? ⟨gat,0,none⟩=some (.int .i64 q):=(blk_cell HA1.out 0).trans (by rw [HQ.out];rfl);have hf3:=blk_frozen HA1.out 0))
        go_roundw
        case measure=>rw [HWK.out];simp only [intOf];have:=HKD.out;omega
        case rel =>
          rw [HWK.out]
          refine ⟨k + 1,rfl,⟨by have:=HKD.out;omega⟩,⟨?_⟩,⟨?_⟩,⟨mg_set HGR1.out _⟩⟩
          · rw [nextV_succ,← HY.out]
            exact Kd.R_mono (Kd.R_far (p:=⟨gat,0,none⟩) (Kd.R_bound HR1.out) (fun kk hk=>by have h1:=hk.2.1;have h2:=HL.out;show kk ≠ gat;omega) _) (fun _ _=>trivial)
          · rw [HQ.out,HWP.out];exact blk_put HA1.out 0 _ rfl
    · have hd1:decide ((k:Int) < (d:Int))=false:=decide_eq_false (by omega)
      have hd2:decide (k < d)=false:=decide_eq_false hlt
      have hkd:k=d:=by have:=HK.out;omega
      subst hkd
      go_wp2
      go_ret
      exact ⟨_,rfl,HR.out,HA.out,HGR.out⟩
def manyV (x:List Int) (p:Nat):Nat:=(Int.tmod (wrap64 (rd x (p:Int))) 3).toNat
def perV (d:Nat) (x:List Int) (q n:Nat):List (List Int):=(List.range n).map fun k=>nextV d x (q + d * k)
theorem perV_succ (d:Nat) (x:List Int) (q n:Nat):perV d x q (n + 1)=perV d x q n ++ [nextV d x (q + d * n)]:=by
  unfold perV;rw [List.range_succ,List.map_append];rfl
def madeG (d:Nat) (x:List Int):Nat → Nat → List S60
  | 0,_=>[]
  | m + 1,p=>if p < x.length then ⟨nextV d x (p + 1),perV d x (p + 1 + d) (manyV x p)⟩ :: madeG d x m (p + 1 + d + d * manyV x p) else []
def bellpulllaw05_made.f (a0:Int) (l1:List Int) (a2:Int):Option (List S60) :=
  if 0 ≤ a0∧a0 ≤ 3∧0 ≤ a2∧a2 ≤ 1000∧l1.length ≤ 4611686018427386000∧(l1.all fun z=>decide (0 ≤ z) && decide (z ≤ 255))=true then some (madeG a0.toNat l1 a2.toNat 0) else none
theorem manyV_le {x:List Int} (hx:∀ z,z ∈ x → 0 ≤ z∧z ≤ 255) {p:Nat} (hp:p < x.length):Int.tmod (wrap64 (rd x (p:Int))) 3=((manyV x p:Nat):Int)∧manyV x p ≤ 2:=by
  have hr:rd x (p:Int)=x[p]'hp:=by simp [rd,List.getD_eq_getElem?_getD,List.getElem?_eq_getElem hp]
  have h1:=hx _ (List.getElem_mem hp)
  have hw:wrap64 (rd x (p:Int))=rd x (p:Int):=by rw [hr];unfold wrap64;omega
  have ht:Int.tmod (rd x (p:Int)) 3=rd x (p:Int) % 3:=Int.tmod_eq_emod_of_nonneg (by rw [hr];exact h1.1)
  unfold manyV
  rw [hw,ht]
  omega
def mg_len:Value → Nat
  | .slice _ n _=>n
  | _=>0
theorem mg_ne {W:World} {g t e:Nat} {cs:Array Value} {v:Value} (hb:W.heap[g]?=some (.cells cs t (0,0))) (hty:∀ k,v.ownBlock=some k → ∃ cells,W.heap[k]?=some (.cells cells e (0,0))) (hte:t ≠ e):some g ≠ v.ownBlock:=fun h=>by
  obtain ⟨cells,hc⟩:=hty g h.symm
  rw [hc] at hb
  injection hb with hb
  injection hb with _ hb
  exact hte hb.symm
theorem mg_R {α:Type} {d:Kd α} {e:Nat} {w w1:World} {base:Nat} {ok:Nat → Prop} {v:Value} {xs:List α} {g:Nat} (h:d.R e w base ok v xs) (hg:w.grownBy w1 (some g)) (hok:∀ k,ok k → k ≠ g):d.R e w1 base ok v xs :=
  Kd.R_mono (Kd.R_move (Kd.R_bound h) (fun k hk=>hg.block k hk.2.2.1 (fun e=>hok k hk.1 (by injection e)))) (fun _ hk=>hk.1)
set_option maxHeartbeats 4000000 in
set_option maxRecDepth 100000 in
theorem bellpulllaw05_made.calls (a0:Int) (A1:Option Addr) (c1:Nat) (l1:List Int) (a2:Int) (r:List S60) (w:World) (hr1:Kd.C (Kd.int .u8) w A1 l1.length l1) (hc1:l1.length ≤ c1) (h:bellpulllaw05_made.f a0 l1 a2=some r) :
    Calls Try.prog 76 #[.int .i64 a0,.slice A1 l1.length c1,.int .i64 a2] w fun e w'=>∃ v0_:Value,e=.returned v0_∧Kd.R k60 60 w' w.heap.size (fun _=>True) v0_ r∧Below w.heap.size w w':=by
  unfold bellpulllaw05_made.f at h
  split at h
  case isFalse=>cases h
  rename_i hall
  obtain ⟨h0,h3,hm0,hm1,hlen,hx0⟩:=hall
  obtain rfl:=Option.some.inj h
  have hx:∀ z,z ∈ l1 → 0 ≤ z∧z ≤ 255:=fun z hz=>by
    have:=List.all_eq_true.1 hx0 z hz
    simp only [Bool.and_eq_true,decide_eq_true_eq] at this
    exact this
  obtain ⟨d,rfl⟩:∃ d:Nat,a0=(d:Int):=⟨a0.toNat,by omega⟩
  obtain ⟨most,rfl⟩:∃ m:Nat,a2=(m:Int):=⟨a2.toNat,by omega⟩
  rw [Int.toNat_natCast,Int.toNat_natCast]
  have HD:=mk0 (show d ≤ 3 by omega)
  have HM:=mk0 (show most ≤ 1000 by omega)
  have HLEN:=mk0 hlen
  have HX:=mk0 hx
  have HC:=mk0 hr1
  have HB:=mk0 (Below.refl w.heap.size w)
  have eg:∀ args w,(callFunc 96 args).run Try.prog w=.ok (.enter 96 args) w:=enters_of Try.func96 (by kernel_rfl) rfl
  clear h h0 h3 hm0 hm1 hlen hx0 hx hr1
  go_enter Try.func76,Try.ntmps76
  go_wp2_with (first
    | ((with_reducible refine gate_dst (N:=3) rfl ?_);refine box_event ?hg (N:=3) ?hd (cs:=#[.int .i64 (d:Int)]) (t:=3) ?hr ?_;(case hd=>rfl);(case hg=>rfl);(case hr=>first|(go_simp;done)|(go_simp;rfl));intro gd hg w1 hbox hb;have HBD:=mk0 hbox;have HGD:=mk0 hg;replace HB:=mk0 (HB.out.trans (hb.mono (Nat.le_refl _)));clear hb hbox hg)
    | ((with_reducible refine gate_dst (N:=4) rfl ?_);refine box_event ?hg (N:=4) ?hd (cs:=#[.slice A1 l1.length c1]) (t:=50) ?hr ?_;(case hd=>rfl);(case hg=>rfl);(case hr=>first|(go_simp;done)|(go_simp;rfl));intro gx hg w2 hbox hb;have HBX:=mk0 hbox;have HGX:=mk0 hg;replace HBD:=mk0 (blk_below HBD.out hb);replace HB:=mk0 (HB.out.trans (hb.mono HB.out.size));clear hb hbox hg)
    | ((with_reducible refine gate_dst (N:=14) rfl ?_);refine Kd.R_lit k60 _ 60 ?hg (N:=14) ?hd (xs:=([]:List S60)) (inner:=[]) (ok:=fun _=>True) (okp:=fun _=>True) ?hr ?hp (fun _ hk=>hk) trivial (Below.refl _ _) (Nat.le_refl _) (by simp) ?_;(case hd=>rfl);(case hg=>rfl);(case hr=>first|(go_simp;done)|(go_simp;rfl));(case hp=>exact (Reps.none _ _));intro v7 w3 ho3 hb hg_ hnew_;have HO:=mk0 (Kd.R_lower ho3 HB.out.size);replace HBD:=mk0 (blk_below HBD.out hb);replace HBX:=mk0 (blk_below HBX.out hb);replace HB:=mk0 (HB.out.trans (hb.mono HB.out.size));clear hb ho3 hg_ hnew_)
    | ((with_reducible refine gate_dst (N:=8) rfl ?_);refine box_event ?hg (N:=8) ?hd (cs:=#[.int .i64 0]) (t:=3) ?hr ?_;(case hd=>rfl);(case hg=>rfl);(case hr=>first|(go_simp;done)|(go_simp;rfl));intro gat hg w4 hbox hb;have HBA:=mk0 hbox;have HGA:=mk0 hg;have HNE:=mk0 (show gd ≠ gat∧gx ≠ gat from ⟨by have:=(Array.getElem?_eq_some_iff.1 HBD.out).1;omega,by have:=(Array.getElem?_eq_some_iff.1 HBX.out).1;omega⟩);have HGW:=mk0 (show w.heap.size ≤ gat from by have:=HB.out.size;omega);replace HO:=mk0 (Kd.R_below (Kd.R_mono (Kd.R_bound HO.out) (ok':=fun k=>k ≠ gat) (fun k hk=>by have:=hk.2.2.1;omega)) hb);replace HBD:=mk0 (blk_below HBD.out hb);replace HBX:=mk0 (blk_below HBX.out hb);replace HB:=mk0 (HB.out.trans (hb.mono HB.out.size));clear hb hbox hg;have hc8:w4.cell? ⟨gat,0,none⟩=some (.int .i64 0):=(blk_cell HBA.out 0).trans rfl;have hf8:=blk_frozen HBA.out 0))
  go_loopw [7] (fun v7 wr=>∃ (o:List S60) (p:Nat) (A:Option Addr) (c:Nat),v7=.slice A o.length c∧Aside0 (o ++ madeG d l1 (most - o.length) p=madeG d l1 most 0)∧Aside0 (o.length ≤ most)∧Aside0 (p ≤ l1.length + 9)∧Aside0 (Kd.R k60 60 wr w.heap.size (fun k=>k ≠ gat) (.slice A o.length c) o) ∧
      Aside0 (wr.heap[gd]?=some (.cells #[.int .i64 (d:Int)] 3 (0,0)))∧Aside0 (wr.heap[gx]?=some (.cells #[.slice A1 l1.length c1] 50 (0,0)))∧Aside0 (wr.heap[gat]?=some (.cells #[.int .i64 (p:Int)] 3 (0,0)))∧Aside0 (Below w.heap.size w wr)) (fun v7 _=>most - mg_len v7)
  case atStart =>
    obtain ⟨A,c,rfl⟩:=Kd.R_slice HO.out
    refine ⟨[],0,A,c,rfl,⟨by simp⟩,⟨Nat.zero_le _⟩,⟨Nat.zero_le _⟩,⟨Kd.R_far (p:=⟨gat,0,none⟩) HO.out (fun _ hk=>hk) _⟩,⟨blk_far HBD.out HNE.out.1 _⟩,⟨blk_far HBX.out HNE.out.2 _⟩,⟨blk_put HBA.out 0 _ rfl⟩,⟨below_set HB.out HGW.out⟩⟩
  case round =>
    clear HO HBD HBX HBA HB hc8 hf8 HGD HGX HGA
    obtain ⟨o,p,A,c,rfl,HREL,HOL,HP,HO,HBD,HBX,HBA,HB⟩:=hrel
    have hcx:wr.cell? ⟨gx,0,none⟩=some (.slice A1 l1.length c1):=(blk_cell HBX.out 0).trans rfl
    by_cases hl:o.length < most
    · have hd1:decide ((o.length:Int) < (most:Int))=true:=decide_eq_true (by omega)
      have hd2:decide (o.length < most)=true:=decide_eq_true hl
      by_cases hp:p < l1.length
      · obtain ⟨q,hq⟩:∃ q:Int,q=(p:Int):=⟨_,rfl⟩
        have hca:wr.cell? ⟨gat,0,none⟩=some (.int .i64 q):=(blk_cell HBA.out 0).trans (by rw [hq];rfl)
        have hfa:=blk_frozen HBA.out 0
        have hd3:decide (q < (l1.length:Int))=true:=decide_eq_true (by omega)
        have q0:(0:Int) ≤ q:=by omega
        have q1:q < (l1.length:Int):=by omega
        obtain ⟨ad,e,hx0⟩:=Kd.at_int HC.out q q0 q1
        cases e
        have hx1:=(HB.out.cell (World.block_lt_of_cell? w _ hx0)).trans hx0
        have p0:((0:Int) ≤ q)=True:=eq_true q0
        have p1:(q < (l1.length:Int))=True:=eq_true q1
        obtain ⟨hmv,hm2⟩:=manyV_le HX.out hp
        rw [← hq] at hmv
        obtain ⟨n,hn⟩:∃ n:Nat,n=manyV l1 p:=⟨_,rfl⟩
        rw [← hn] at hmv hm2
        have hwq:wrap64 (q + 1)=((p + 1:Nat):Int):=by have:=HLEN.out;unfold wrap64;omega
        have HN:=mk0 hn
        have HQ:=mk0 hq
        have HPL:=mk0 hp
        have HLM:=mk0 hl
        have HN2:=mk0 hm2
        have HWQ:=mk0 hwq
        have hga:=(Array.getElem?_eq_some_iff.1 HBA.out).1
        have HGLT:=mk0 hga
        clear hx0 q0 q1 hq hp hl hn hm2 hwq hga
        have HO1:=mk0 (Kd.R_far (p:=⟨gat,0,none⟩) HO.out (fun _ hk=>hk) (.int .i64 (wrap64 (q + 1))))
        have HBD1:=mk0 (blk_far HBD.out HNE.out.1 (p:=⟨gat,0,none⟩) (.int .i64 (wrap64 (q + 1))))
        have HBX1:=mk0 (blk_far HBX.out HNE.out.2 (p:=⟨gat,0,none⟩) (.int .i64 (wrap64 (q + 1))))
        have HBA1:Aside0 ((wr.setCell ⟨gat,0,none⟩ (.int .i64 (wrap64 (q + 1)))).heap[gat]?=some (.cells #[.int .i64 ((p + 1:Nat):Int)] 3 (0,0))):=⟨by rw [HWQ.out];exact blk_put HBA.out 0 _ rfl⟩
        have HB1:Aside0 (Below w.heap.size w (wr.setCell ⟨gat,0,none⟩ (.int .i64 (wrap64 (q + 1))))):=⟨below_set HB.out HGW.out⟩
        clear HO HBD HBX HBA HB
        go_wp2_with (fail)
        generalize (wr.setCell ⟨gat,0,none⟩ (.int .i64 (wrap64 (q + 1))))=W1 at HO1 HBD1 HBX1 HBA1 HB1 ⊢;(with_reducible refine (made_next.calls d (p + 1) gd gat gx _ c1 l1 w W1 ?s1 ?s2 HNE.out.1 HNE.out.2 HGW.out HBD1.out HBA1.out HBX1.out HC.out HB1.out).mono ?_);(case s1=>have:=HD.out;omega);(case s2=>have:=HLEN.out;have:=HPL.out;omega);rintro e W2 ⟨vf,rfl,hR,hA,hG⟩;have HF:=mk0 (Kd.R_mono (Kd.R_bound hR) (ok':=fun k=>k ≠ gat) (fun k hk=>by have:=hk.2.1;have:=(Array.getElem?_eq_some_iff.1 HBA1.out).1;omega));have HO:=mk0 (mg_R HO1.out hG (fun _ hk=>hk));have HBD:=mk0 ((hG.block gd (Array.getElem?_eq_some_iff.1 HBD1.out).1 (fun e=>HNE.out.1 (by injection e))).trans HBD1.out);have HBX:=mk0 ((hG.block gx (Array.getElem?_eq_some_iff.1 HBX1.out).1 (fun e=>HNE.out.2 (by injection e))).trans HBX1.out);have HBA:=mk0 hA;have HB:=mk0 (HB1.out.trans (mg_below hG HGW.out HB1.out.size));replace HF:=mk0 (Kd.R_lower HF.out HB1.out.size);clear hR hA hG HO1 HBD1 HBX1 HBA1 HB1;obtain ⟨Af,cf,ef⟩:=Kd.R_slice HF.out;subst ef
        go_wp2_with (first
          | ((with_reducible refine gate_dst (N:=11) rfl ?_);refine box_event ?hg (N:=11) ?hd (cs:=#[.slice none 0 0,.slice none 0 0]) (t:=60) ?hr ?_;(case hd=>rfl);(case hg=>rfl);(case hr=>first|(go_simp;done)|(go_simp;rfl));intro gl hg w6 hbox hb;have HBL:=mk0 hbox;have HNL:=mk0 (show gd ≠ gl∧gx ≠ gl∧gat ≠ gl from ⟨by have:=(Array.getElem?_eq_some_iff.1 HBD.out).1;omega,by have:=(Array.getElem?_eq_some_iff.1 HBX.out).1;omega,by have:=(Array.getElem?_eq_some_iff.1 HBA.out).1;omega⟩);have HGL:=mk0 (show w.heap.size ≤ gl from by have:=HB.out.size;omega);replace HO:=mk0 (Kd.R_below (Kd.R_elderB HO.out gl (Nat.le_of_eq hg.symm)) hb);replace HF:=mk0 (Kd.R_below HF.out hb);replace HBD:=mk0 (blk_below HBD.out hb);replace HBX:=mk0 (blk_below HBX.out hb);replace HBA:=mk0 (blk_below HBA.out hb);replace HB:=mk0 (HB.out.trans (hb.mono HB.out.size));clear hb hbox hg;have hcl0:w6.cell? ⟨gl,0,none⟩=some (.slice none 0 0):=(blk_cell HBL.out 0).trans rfl;have hcl1:w6.cell? ⟨gl,1,none⟩=some (.slice none 0 0):=(blk_cell HBL.out 1).trans rfl;have hfl0:=blk_frozen HBL.out 0;have hfl1:=blk_frozen HBL.out 1))
        obtain ⟨F,hF⟩:∃ F:List Int,F=nextV d l1 (p + 1):=⟨_,rfl⟩
        rw [← hF] at HF
        have HFF:=mk0 hF
        rw [← hF]
        clear hF
        go_loopw [12] (fun v12 wi=>∃ (k:Nat) (u:Value),v12=.int .i64 (k:Int)∧Aside0 (k ≤ n)∧Aside0 (Kd.R k60 60 wi w.heap.size (fun z=>(z ≠ gat∧z ≠ gl)∧some z ≠ u.ownBlock) (.slice A o.length c) o)∧Aside0 (Kd.R (Kd.int .i64) 3 wi w.heap.size (fun z=>z ≠ gat) (.slice Af F.length cf) F) ∧
            Aside0 (Kd.R (Kd.slice 3 (Kd.int .i64)) 23 wi w.heap.size (fun z=>z ≠ gat) u (perV d l1 (p + 1 + d) k))∧Aside0 (wi.heap[gl]?=some (.cells #[.slice Af F.length cf,u] 60 (0,0))) ∧
            Aside0 (wi.heap[gd]?=some (.cells #[.int .i64 (d:Int)] 3 (0,0)))∧Aside0 (wi.heap[gx]?=some (.cells #[.slice (some ad) l1.length c1] 50 (0,0)))∧Aside0 (wi.heap[gat]?=some (.cells #[.int .i64 ((p + 1 + d + d * k:Nat):Int)] 3 (0,0)))∧Aside0 (Below w.heap.size w wi)) (fun v12 _=>n - (intOf v12).toNat)
        case atStart =>
          exact ⟨0,.slice none 0 0,rfl,⟨Nat.zero_le _⟩,⟨Kd.R_mono (Kd.R_far (p:=⟨gl,1,none⟩) (Kd.R_far (p:=⟨gl,0,none⟩) HO.out (fun _ hk=>hk.2) _) (fun _ hk=>hk.2) _) (fun _ hk=>⟨hk,by simp [Value.ownBlock]⟩)⟩,
            ⟨Kd.R_mono (Kd.R_far (p:=⟨gl,1,none⟩) (Kd.R_far (p:=⟨gl,0,none⟩) (Kd.R_types HF.out HBL.out (by decide)) (fun _ hk=>hk.2) _) (fun _ hk=>hk.2) _) (fun _ hk=>hk.1)⟩,⟨Kd.R_nil _ _ _ _ _⟩,
            ⟨by refine blk_put (cs:=#[.slice Af F.length cf,.slice none 0 0]) ?_ 1 _ rfl;exact blk_put HBL.out 0 _ rfl⟩,⟨blk_far (blk_far HBD.out HNL.out.1 _) HNL.out.1 _⟩,⟨blk_far (blk_far HBX.out HNL.out.2.1 _) HNL.out.2.1 _⟩,⟨blk_far (blk_far HBA.out HNL.out.2.2 _) HNL.out.2.2 _⟩,⟨below_set (below_set HB.out HGL.out) HGL.out⟩⟩
        case round =>
          clear HO HF HBL HBD HBX HBA HB hcl0 hcl1 hfl0 hfl1
          obtain ⟨k,u,rfl,HK,HO,HF,HS,HBL,HBD,HBX,HBA,HB⟩:=hrel
          have hcl0:wr.cell? ⟨gl,0,none⟩=some (.slice Af F.length cf):=(blk_cell HBL.out 0).trans rfl
          have hcl1:wr.cell? ⟨gl,1,none⟩=some u:=(blk_cell HBL.out 1).trans rfl
          by_cases hkn:k < n
          · have hd5:decide ((k:Int) < (n:Int))=true:=decide_eq_true (by omega)
            have hd6:decide (k < n)=true:=decide_eq_true hkn
            have hwk:wrap64 ((k:Int) + 1)=((k + 1:Nat):Int):=by have:=HN2.out;unfold wrap64;omega
            have HWK:=mk0 hwk
            have HKN:=mk0 hkn
            have hmul:d * k ≤ 6:=Nat.le_trans (Nat.mul_le_mul HD.out (show k ≤ 2 by have:=HN2.out;omega)) (by decide)
            have HMU:=mk0 hmul
            obtain ⟨p2,hp2⟩:∃ p2:Nat,p2=p + 1 + d + d * k:=⟨_,rfl⟩
            rw [← hp2] at HBA
            have HP2:=mk0 hp2
            have hpl:(perV d l1 (p + 1 + d) k).length=k:=by unfold perV;simp
            have HPV:=mk0 hpl
            clear hwk hkn hmul hp2 hpl
            go_wp2_with (fail)
            (with_reducible refine (made_next.calls d p2 gd gat gx _ c1 l1 w wr ?s1 ?s2 HNE.out.1 HNE.out.2 HGW.out HBD.out HBA.out HBX.out HC.out HB.out).mono ?_)
            case s1=>have:=HD.out;omega
            case s2=>rw [HP2.out];have:=HLEN.out;have:=HPL.out;have:=HMU.out;have:=HD.out;omega
            rintro e W2 ⟨vn,rfl,hR,hA,hG⟩
            have HV:=mk0 (Kd.R_lower (Kd.R_mono (Kd.R_bound hR) (ok':=fun k=>k ≠ gat) (fun z hk=>by have:=hk.2.1;have:=(Array.getElem?_eq_some_iff.1 HBA.out).1;omega)) HB.out.size)
            replace HO:=mk0 (mg_R HO.out hG (fun _ hk=>hk.1.1))
            replace HF:=mk0 (mg_R HF.out hG (fun _ hk=>hk))
            replace HS:=mk0 (mg_R HS.out hG (fun _ hk=>hk))
            replace HBL:=mk0 ((hG.block gl (Array.getElem?_eq_some_iff.1 HBL.out).1 (fun e=>HNL.out.2.2 (by injection e with e;exact e.symm))).trans HBL.out)
            replace HBD:=mk0 ((hG.block gd (Array.getElem?_eq_some_iff.1 HBD.out).1 (fun e=>HNE.out.1 (by injection e))).trans HBD.out)
            replace HBX:=mk0 ((hG.block gx (Array.getElem?_eq_some_iff.1 HBX.out).1 (fun e=>HNE.out.2 (by injection e))).trans HBX.out)
            replace HB:=mk0 (HB.out.trans (mg_below hG HGW.out HB.out.size))
            replace HBA:=mk0 hA
            clear hR hA hG hcl0 hcl1
            obtain ⟨V,hV⟩:∃ V:List Int,V=nextV d l1 p2:=⟨_,rfl⟩
            rw [← hV] at HV
            have HVV:=mk0 hV
            clear hV
            obtain ⟨An,cn,en⟩:=Kd.R_slice HV.out
            subst en
            go_wp2_with (first
              | ((with_reducible refine gate_builtin (b:=.append) (xs:=#[.tmp 44,.tmp 47]) rfl ?_);at_builtin;refine Kd.R_append (Kd.slice 3 (Kd.int .i64)) (w0:=w) w.heap.size rfl (.tmp 44) (.tmp 47) 58 23 (.slice none 0 0) 24 rfl Try.underlying58 info23 rfl (by decide) (by omega) u (perV d l1 (p + 1 + d) k) V [.slice An V.length cn] (fun z=>z ≠ gat) (fun z=>z ≠ gat∧some z ≠ u.ownBlock) rfl rfl ?aP (fun _ hk=>hk) ?aF ?aO ?aB ?aS ?aL ?_;(case aP=>exact Kd.M_row (Kd.R_apart' HV.out (Kd.R_typed HS.out) (by decide)));(case aF=>exact fun z hk=>Kd.freshB HBA.out z hk);(case aO=>exact HS.out);(case aB=>exact HB.out);(case aS=>exact below_size HB.out);(case aL=>rw [HPV.out];have:=HKN.out;have:=HN2.out;omega);intro u1 w9 ho hb hg hat;replace HO:=mk0 (Kd.R_after (ok:=fun z=>z ≠ gat∧z ≠ gl) HO.out hg hat);replace HF:=mk0 (Kd.R_over' HF.out (Kd.R_typed HS.out) (by decide) hg);replace HBL:=mk0 (blk_grown HBL.out hg (mg_ne HBL.out (Kd.R_typed HS.out) (by decide)));replace HBD:=mk0 (blk_grown HBD.out hg (mg_ne HBD.out (Kd.R_typed HS.out) (by decide)));replace HBX:=mk0 (blk_grown HBX.out hg (mg_ne HBX.out (Kd.R_typed HS.out) (by decide)));replace HBA:=mk0 (blk_grown HBA.out hg (mg_ne HBA.out (Kd.R_typed HS.out) (by decide)));obtain ⟨P2,hP2⟩:∃ P2:List (List Int),P2=perV d l1 (p + 1 + d) k ++ [V]:=⟨_,rfl⟩;rw [← hP2] at ho;have HP3:=mk0 hP2;replace HS:=mk0 ho;replace HB:=mk0 hb;clear ho hb hg hat hP2;obtain ⟨A8,c8,e8⟩:=Kd.R_slice HS.out;subst e8;have hcl0:w9.cell? ⟨gl,0,none⟩=some (.slice Af F.length cf):=(blk_cell HBL.out 0).trans rfl;have hcl1:w9.cell? ⟨gl,1,none⟩=some u:=(blk_cell HBL.out 1).trans rfl;have hfl0:=blk_frozen HBL.out 0;have hfl1:=blk_frozen HBL.out 1))
            go_roundw
            case measure=>rw [HWK.out];simp only [intOf];have:=HKN.out;omega
            case rel =>
              rw [HWK.out]
              refine ⟨k + 1,.slice A8 P2.length c8,rfl,⟨by have:=HKN.out;omega⟩,⟨Kd.R_far (p:=⟨gl,1,none⟩) HO.out (fun _ hk=>hk.1.2) _⟩,⟨Kd.R_mono (Kd.R_far (p:=⟨gl,1,none⟩) (Kd.R_types HF.out HBL.out (by decide)) (fun _ hk=>hk.2) _) (fun _ hk=>hk.1)⟩,⟨?_⟩,⟨blk_put HBL.out 1 _ rfl⟩,⟨blk_far HBD.out HNL.out.1 _⟩,⟨blk_far HBX.out HNL.out.2.1 _⟩,⟨?_⟩,⟨below_set HB.out HGL.out⟩⟩
              · rw [perV_succ,← HP2.out,← HVV.out,← HP3.out]
                exact Kd.R_mono (Kd.R_far (p:=⟨gl,1,none⟩) (Kd.R_types HS.out HBL.out (by decide)) (fun _ hk=>hk.2) _) (fun _ hk=>hk.1)
              · rw [show p + 1 + d + d * (k + 1)=p2 + d from by rw [HP2.out,Nat.mul_succ];omega]
                exact blk_far HBA.out HNL.out.2.2 _
          · have hd5:decide ((k:Int) < (n:Int))=false:=decide_eq_false (by omega)
            have hd6:decide (k < n)=false:=decide_eq_false hkn
            obtain rfl:k=n:=by have:=HK.out;omega
            obtain ⟨Au,cu,rfl⟩:=Kd.R_slice HS.out
            obtain ⟨P,hP⟩:∃ P:List (List Int),P=perV d l1 (p + 1 + d) k:=⟨_,rfl⟩
            rw [← hP] at HS hcl1 HBL HO
            have HPP:=mk0 hP
            clear hP hkn
            go_wp2_with (first
              | ((with_reducible refine gate_builtin (b:=.append) (xs:=#[.tmp 50,.tmp 52]) rfl ?_);at_builtin;refine Kd.R_append k60 (w0:=w) w.heap.size rfl (.tmp 50) (.tmp 52) 22 60 (.agg #[(.slice none 0 0),(.slice none 0 0)]) 48 rfl Try.underlying22 info60 rfl (by decide) (by omega) (.slice A o.length c) o (⟨F,P⟩:S60) [.slice Af F.length cf,.slice Au P.length cu] (fun z=>z ≠ gat) (fun z=>z ≠ gat∧some z ≠ (.slice A o.length c:Value).ownBlock) rfl rfl ?aP (fun _ hk=>hk) ?aF ?aO ?aB ?aS ?aL ?_;(case aP=>exact k60_mkM _ _ _ (⟨F,P⟩:S60) (Kd.R_apart' HF.out (Kd.R_typed HO.out) (by decide)) (Kd.R_apart' HS.out (Kd.R_typed HO.out) (by decide)));(case aF=>exact fun z hk=>Kd.freshB HBA.out z hk);(case aO=>exact Kd.R_mono HO.out (fun _ h=>h.1.1));(case aB=>exact HB.out);(case aS=>exact below_size HB.out);(case aL=>have:=HLM.out;have:=HM.out;omega);intro u2 w10 ho hb hg hat;replace HBD:=mk0 (blk_grown HBD.out hg (mg_ne HBD.out (Kd.R_typed HO.out) (by decide)));replace HBX:=mk0 (blk_grown HBX.out hg (mg_ne HBX.out (Kd.R_typed HO.out) (by decide)));replace HBA:=mk0 (blk_grown HBA.out hg (mg_ne HBA.out (Kd.R_typed HO.out) (by decide)));replace HO:=mk0 ho;replace HB:=mk0 hb;clear ho hb hg hat;obtain ⟨A9,c9,e9⟩:=Kd.R_slice HO.out;subst e9))
            go_roundw
            case measure=>simp only [mg_len];have:=HLM.out;omega
            case rel =>
              refine ⟨o ++ [⟨F,P⟩],p + 1 + d + d * k,A9,c9,by simp,⟨?_⟩,⟨by rw [List.length_append,List.length_singleton];have:=HLM.out;omega⟩,⟨?_⟩,HO,HBD,HBX,HBA,HB⟩
              · have h1:=HREL.out
                obtain ⟨m,hm⟩:∃ m,most - o.length=m + 1:=⟨most - o.length - 1,by have:=HLM.out;omega⟩
                rw [hm,madeG,if_pos HPL.out,← HN.out,← HFF.out,← HPP.out] at h1
                rw [List.length_append,List.length_singleton,show most - (o.length + 1)=m by omega,List.append_assoc]
                exact h1
              · have hmul:d * k ≤ 6:=Nat.le_trans (Nat.mul_le_mul HD.out (show k ≤ 2 from HN2.out)) (by decide)
                have:=HD.out;have:=HPL.out;omega
      · obtain ⟨q,hq⟩:∃ q:Int,q=(p:Int):=⟨_,rfl⟩
        have hca:wr.cell? ⟨gat,0,none⟩=some (.int .i64 q):=(blk_cell HBA.out 0).trans (by rw [hq];rfl)
        have hd3:decide (q < (l1.length:Int))=false:=decide_eq_false (by omega)
        have e1:madeG d l1 (most - o.length) p=[]:=by
          obtain ⟨m,hm⟩:∃ m,most - o.length=m + 1:=⟨most - o.length - 1,by omega⟩
          rw [hm,madeG,if_neg hp]
        have HE:=mk0 e1
        clear hq hp hl e1
        go_wp2
        go_ret
        refine ⟨_,rfl,?_,HB.out⟩
        rw [← HREL.out,HE.out,List.append_nil]
        exact Kd.R_mono HO.out (fun _ _=>trivial)
    · have hd1:decide ((o.length:Int) < (most:Int))=false:=decide_eq_false (by omega)
      have hd2:decide (o.length < most)=false:=decide_eq_false hl
      have e1:madeG d l1 (most - o.length) p=[]:=by rw [show most - o.length=0 by omega,madeG]
      have HE:=mk0 e1
      clear hl e1
      go_wp2
      go_ret
      refine ⟨_,rfl,?_,HB.out⟩
      rw [← HREL.out,HE.out,List.append_nil]
      exact Kd.R_mono HO.out (fun _ _=>trivial)
end Go.Proofs.Ytkonljiembcdlaa.PC
namespace Go.Proofs.Ytkonljiembcdlaa.PC
open Go.Proofs.MyWords Go.RowKit Go.Proofs.YtkonljiembcdlaaW.PrintWords Go.Proofs.YtkonljiembcdlaaW.PrintLast Go.Proofs.YtkonljiembcdlaaW.PrintMore
attribute [local go_sem] max2_int min2_int max_two min_two max_three min_three max_four min_four   -- for this text's walks alone
set_option linter.unusedVariables false
set_option linter.unusedSimpArgs false
attribute [local go_sem] eqGuard_slices eqlnil23 neqnil23 eqlnil58 neqnil58
def bellpulllaw05_Plan_sets.f (a0_0:Int) (l0_1:List Int) (l0_2:List Int) (a1:Int):Option (Int × (List (S60)) × (List (S60))):=(bellpulllaw05_made.f (wrap64 ((Int.tmod (wrap64 (a0_0)) 3) + 1)) l0_1 a1).bind fun t778=>((bellpulllaw05_made.f (wrap64 ((Int.tmod (wrap64 (a0_0)) 3) + 1)) l0_2 a1).bind fun t781=>(some (wrap64 ((Int.tmod (wrap64 (a0_0)) 3) + 1),t778,t781)))
def bellpulllaw05_Plan_sets.T2:Bool × List (List Nat × List Nat):=(true,[([],[]),([],[]),([],[]),([2],[2]),([],[]),([1,3,4],[1,3,4]),([],[]),([],[]),([7],[7]),([],[]),([6,8,9,5],[6,8,9]),([0,10,0],[0]),([5,11,0,1,2,3,4,5,11],[5]),([10,12,0,1,2,3,4,5,6,7,8,9,10,11,12],[10])])
def bellpulllaw05_Plan_sets.B2:List Nat:=[0,0,0,4,0,30,0,0,128,0,1022,2047,4095,8191]
theorem bellpulllaw05_Plan_sets.tab2:rtab .any (opsOf Try.f33 2)=bellpulllaw05_Plan_sets.T2:=by kernel_rfl
theorem bellpulllaw05_Plan_sets.bits2:waitsOk bellpulllaw05_Plan_sets.T2.2 bellpulllaw05_Plan_sets.B2=true:=by kernel_rfl
set_option maxHeartbeats 8000000 in
set_option maxRecDepth 100000 in
theorem bellpulllaw05_Plan_sets.calls (D:Int) (M:Option Addr) (O:Nat) (F:List Int) (Q:Option Addr) (T:Nat) (G:List Int) (X:Int) (r1:Int) (r2:List (S60)) (r3:List (S60)) (w:World) (a0:Kd.C (Kd.int .u8) w M F.length F) (a2:F.length ≤ O) (a3:Kd.C (Kd.int .u8) w Q G.length G) (a4:G.length ≤ T) (h:bellpulllaw05_Plan_sets.f D F G X=some (r1,r2,r3)) :
    Calls Try.prog 33 #[.agg #[.int .u8 D,.slice M F.length O,.slice Q G.length T],.int .i64 X] w fun e w'=>∃ a5 a6:Value,e=.returned (.tuple #[.int .i64 r1,a5,a6])∧Kd.R k60 60 w' w.heap.size (fun k_=>some k_ ≠ (a6:Value).ownBlock) a5 r2∧Kd.R k60 60 w' w.heap.size (fun k_=>some k_ ≠ (a5:Value).ownBlock) a6 r3∧Below w.heap.size w w':=by
 have c8:=Try.underlying55;have a9:=mk0 a0;have b0:=mk0 a2;clear a0 a2;have b1:=mk0 a3;have b2:=mk0 a4;clear a3 a4;have I:=mk0 (Below.refl w.heap.size w);have H:((bellpulllaw05_made.f (wrap64 ((Int.tmod (wrap64 (D)) 3) + 1)) F X).bind fun Y=>((bellpulllaw05_made.f (wrap64 ((Int.tmod (wrap64 (D)) 3) + 1)) G X).bind fun Z=>(some (wrap64 ((Int.tmod (wrap64 (D)) 3) + 1),Y,Z))))=some (r1,r2,r3):=h;clear h;replace H:=Option.bind_eq_some_iff.mp H;obtain ⟨Y,b6,H⟩:=H;(try dsimp only at H);have A3:=mk0 b6;clear b6;replace H:=Option.bind_eq_some_iff.mp H;obtain ⟨Z,b7,H⟩:=H;(try dsimp only at H);have A4:=mk0 b7;clear b7;simp only [Option.some.injEq,Prod.mk.injEq] at H;obtain ⟨rfl,rfl,rfl⟩:=H;go_enter Try.func33,Try.ntmps33;try go_wp2_with (first|((with_reducible refine gate_dst (N:=2) rfl ?_);refine box_event ?hg (N:=2) ?hd (cs:=#[.int .u8 D,.slice M F.length O,.slice Q G.length T]) (t:=55) ?hr ?_;(case hd=>rfl);(case hg=>rfl);(case hr=>first|(go_simp;done)|(go_simp;rfl));intro V hg w5 a7 hb;have B:=mk0 (a7);have b3:=szw hg I;have b4:=b3;replace I:=bst I hb;clear hb a7 hg;have c2:=q0_ B;have c3:=q1_ B;have c4:=q2_ B;have c5:=blk_frozen B.1 0;have c6:=blk_frozen B.1 1;have c7:=blk_frozen B.1 2))
 replace B:=bdr B;replace I:=hdr I;refine start_ (n:=14) (S:=fun w'=>w'.cell? ⟨V,0,none⟩=some (.int .u8 D)∧w'.cell? ⟨V,1,none⟩=some (.slice M F.length O)∧w'.cell? ⟨V,2,none⟩=some (.slice Q G.length T)) (ds:=[]) #[n_,n_,n_,n_,n_,n_,n_,n_,n_,n_,n_,n_,n_,n_] (by kernel_rfl) rfl rfl ⟨q0_ B,q1_ B,q2_ B⟩ (fun J=>?_);refine with_tabW bellpulllaw05_Plan_sets.tab2 bellpulllaw05_Plan_sets.bits2 (fun E b8=>?_);generalize w5.drew=w7 at B I J ⊢;refine pure_ (i:=0) (N:=some 13) (v:=?_) (a':=?_) #[y_,n_,n_,n_,n_,n_,n_,n_,n_,n_,n_,n_,n_,n_] rfl rfl (any_of E.1 (by kernel_rfl)) (fun _ _ _ h=>h) (Or.inl ⟨by rfl,?_⟩) ?_ ?_;rotate_left
 ·
  intro w';go_simp;with_reducible rfl
 rotate_left
 ·
  simp only [Act.put,s0_,s1_,s2_,i64_w,i32_w];rfl
 refine pure_ (i:=1) (N:=some 14) (v:=?_) (a':=?_) #[y_,y_,n_,n_,n_,n_,n_,n_,n_,n_,n_,n_,n_,n_] rfl rfl (any_of E.1 (by kernel_rfl)) (fun _ _ _ h=>h) (Or.inl ⟨by rfl,?_⟩) ?_ ?_;rotate_left
 ·
  intro w';go_simp;with_reducible rfl
 rotate_left
 ·
  simp only [Act.put,s0_,s1_,s2_,i64_w,i32_w];rfl
 refine pure_ (i:=2) (N:=some 15) (v:=?_) (a':=?_) #[y_,y_,y_,n_,n_,n_,n_,n_,n_,n_,n_,n_,n_,n_] rfl rfl (any_of E.1 (by kernel_rfl)) (fun _ _ _ h=>h) (Or.inl ⟨by rfl,?_⟩) ?_ ?_;rotate_left
 ·
  intro w';go_simp;with_reducible rfl
 rotate_left
 ·
  simp only [Act.put,s0_,s1_,s2_,i64_w,i32_w];rfl
 refine pure_ (i:=4) (N:=some 17) (v:=?_) (a':=?_) #[y_,y_,y_,n_,y_,n_,n_,n_,n_,n_,n_,n_,n_,n_] rfl rfl (any_of E.1 (by kernel_rfl)) (fun _ _ _ h=>h) (Or.inl ⟨by rfl,?_⟩) ?_ ?_;rotate_left
 ·
  intro w';go_simp;with_reducible rfl
 rotate_left
 ·
  simp only [Act.put,s0_,s1_,s2_,i64_w,i32_w];rfl
 refine pure_ (i:=6) (N:=some 19) (v:=?_) (a':=?_) #[y_,y_,y_,n_,y_,n_,y_,n_,n_,n_,n_,n_,n_,n_] rfl rfl (any_of E.1 (by kernel_rfl)) (fun _ _ _ h=>h) (Or.inl ⟨by rfl,?_⟩) ?_ ?_;rotate_left
 ·
  intro w';go_simp;with_reducible rfl
 rotate_left
 ·
  simp only [Act.put,s0_,s1_,s2_,i64_w,i32_w];rfl
 refine pure_ (i:=7) (N:=some 20) (v:=?_) (a':=?_) #[y_,y_,y_,n_,y_,n_,y_,y_,n_,n_,n_,n_,n_,n_] rfl rfl (any_of E.1 (by kernel_rfl)) (fun _ _ _ h=>h) (Or.inl ⟨by rfl,?_⟩) ?_ ?_;rotate_left
 ·
  intro w';go_simp;with_reducible rfl
 rotate_left
 ·
  simp only [Act.put,s0_,s1_,s2_,i64_w,i32_w];rfl
 refine pure_ (i:=9) (N:=some 22) (v:=?_) (a':=?_) #[y_,y_,y_,n_,y_,n_,y_,y_,n_,y_,n_,n_,n_,n_] rfl rfl (any_of E.1 (by kernel_rfl)) (fun _ _ _ h=>h) (Or.inl ⟨by rfl,?_⟩) ?_ ?_;rotate_left
 ·
  intro w';go_simp;with_reducible rfl
 rotate_left
 ·
  simp only [Act.put,s0_,s1_,s2_,i64_w,i32_w];rfl
 refine take_ (i:=3) (N:=some 16) (v:=?_) (a':=?_) #[y_,y_,y_,y_,y_,n_,y_,y_,n_,y_,n_,n_,n_,n_] rfl rfl (take_ofW E.1 b8.1 (by kernel_rfl)) (fun _ _ _ h=>h) (Or.inl ⟨by rfl,?_⟩) J ?_ ?_;rotate_left
 ·
  rintro w' ⟨s0,s1,s2⟩;go_simp;with_reducible rfl
 rotate_left
 ·
  simp only [Act.put,s0_,s1_,s2_,i64_w,i32_w];rfl
 refine take_ (i:=8) (N:=some 21) (v:=?_) (a':=?_) #[y_,y_,y_,y_,y_,n_,y_,y_,y_,y_,n_,n_,n_,n_] rfl rfl (take_ofW E.1 b8.1 (by kernel_rfl)) (fun _ _ _ h=>h) (Or.inl ⟨by rfl,?_⟩) J ?_ ?_;rotate_left
 ·
  rintro w' ⟨s0,s1,s2⟩;go_simp;with_reducible rfl
 rotate_left
 ·
  simp only [Act.put,s0_,s1_,s2_,i64_w,i32_w];rfl
 refine one_ (i:=5) (N:=some 18) #[y_,y_,y_,y_,y_,y_,y_,y_,y_,y_,n_,n_,n_,n_] rfl rfl (one_of E.1 (by kernel_rfl)) (by decide) (fun K hK=>?_);refine goes_ Try.func76 (by kernel_rfl) rfl #[.int .i64 (wrap64 ((Int.tmod (wrap64 (D)) 3) + 1)),.slice M F.length O,.int .i64 X] (by rfl) rfl rfl (by (try simp only [m0_,m1_,m2_]);first|done|rfl|(simp only [l0_,l1_];rfl)) ?_;with_reducible refine (bellpulllaw05_made.calls (wrap64 ((Int.tmod (wrap64 (D)) 3) + 1)) _ _ F X Y _ ?side1 ?side2 A3.1).mono ?_
 (case side1=>repeat (first|exact (Kd.C_below a9.1 I.1)|(with_reducible refine Kd.C_alloc ?_ _)|(with_reducible refine Kd.C_drewN ?_ _)|(with_reducible refine Kd.C_drew ?_)));(case side2=>exact b0.1);rintro e w8 ⟨d5,rfl,U,hb⟩;refine ⟨_,rfl,?_⟩;have L:=mk0 (Kd.R_lower U (below_size I.1));replace B:=bkb B hb;replace I:=bst I hb;(try clear hb);(try clear U);refine hK.out _ _ ⟨q0_ B,q1_ B,q2_ B⟩ (fun J=>?_);clear hK K;refine norm_ (a':=?_) ?_ ?_;rotate_left
 ·
  show Act.put _ (some 18) _=_;simp only [Act.put,s0_,s1_,s2_,i64_w,i32_w];rfl
 refine one_ (i:=10) (N:=some 23) #[y_,y_,y_,y_,y_,y_,y_,y_,y_,y_,y_,n_,n_,n_] rfl rfl (one_of E.1 (by kernel_rfl)) (by decide) (fun K hK=>?_);refine goes_ Try.func76 (by kernel_rfl) rfl #[.int .i64 (wrap64 ((Int.tmod (wrap64 (D)) 3) + 1)),.slice Q G.length T,.int .i64 X] (by rfl) rfl rfl (by (try simp only [m0_,m1_,m2_]);first|done|rfl|(simp only [l0_,l1_];rfl)) ?_;with_reducible refine (bellpulllaw05_made.calls (wrap64 ((Int.tmod (wrap64 (D)) 3) + 1)) _ _ G X Z _ ?side1 ?side2 A4.1).mono ?_
 (case side1=>repeat (first|exact (Kd.C_below b1.1 I.1)|(with_reducible refine Kd.C_alloc ?_ _)|(with_reducible refine Kd.C_drewN ?_ _)|(with_reducible refine Kd.C_drew ?_)));(case side2=>exact b2.1);rintro e w9 ⟨d6,rfl,U,hb⟩;refine ⟨_,rfl,?_⟩;have b5:=mk0 (Kd.R_lower (Kd.R_new' U (Kd.R_lt L.1)) (below_size I.1));replace L:=mk0 (Kd.R_elder' L.1 (Kd.R_base U) hb);replace B:=bkb B hb;replace I:=bst I hb;(try clear hb);(try clear U);refine hK.out _ _ ⟨q0_ B,q1_ B,q2_ B⟩ (fun J=>?_);clear hK K;refine norm_ (a':=?_) ?_ ?_;rotate_left
 ·
  show Act.put _ (some 23) _=_;simp only [Act.put,s0_,s1_,s2_,i64_w,i32_w];rfl
 refine pure_ (i:=11) (N:=some 4) (v:=?_) (a':=?_) #[y_,y_,y_,y_,y_,y_,y_,y_,y_,y_,y_,y_,n_,n_] rfl rfl (any_of E.1 (by kernel_rfl)) (fun _ _ _ h=>h) (Or.inl ⟨by rfl,?_⟩) ?_ ?_;rotate_left
 ·
  intro w';go_simp;with_reducible rfl
 rotate_left
 ·
  simp only [Act.put,s0_,s1_,s2_,i64_w,i32_w];rfl
 refine pure_ (i:=12) (N:=some 5) (v:=?_) (a':=?_) #[y_,y_,y_,y_,y_,y_,y_,y_,y_,y_,y_,y_,y_,n_] rfl rfl (any_of E.1 (by kernel_rfl)) (fun _ _ _ h=>h) (Or.inl ⟨by rfl,?_⟩) ?_ ?_;rotate_left
 ·
  intro w';go_simp;with_reducible rfl
 rotate_left
 ·
  simp only [Act.put,s0_,s1_,s2_,i64_w,i32_w];rfl
 refine pure_ (i:=13) (N:=some 6) (v:=?_) (a':=?_) #[y_,y_,y_,y_,y_,y_,y_,y_,y_,y_,y_,y_,y_,y_] rfl rfl (any_of E.1 (by kernel_rfl)) (fun _ _ _ h=>h) (Or.inl ⟨by rfl,?_⟩) ?_ ?_;rotate_left
 ·
  intro w';go_simp;with_reducible rfl
 rotate_left
 ·
  simp only [Act.put,s0_,s1_,s2_,i64_w,i32_w];rfl
 refine done_ (done_of E.1 (by kernel_rfl)) ?_;try go_wp2
 go_ret3;exact ⟨_,_,by first|rfl|(simp [errW_none,errW_some] <;> rfl)|(simp [*,errW_none,errW_some] <;> rfl),by (with_reducible repeat (first|apply Kd.R_alloc|apply Kd.R_drewN|apply Kd.R_drew));exact Kd.R_mono L.1 (fun _ hk=>hk.2),by (with_reducible repeat (first|apply Kd.R_alloc|apply Kd.R_drewN|apply Kd.R_drew));exact Kd.R_mono b5.1 (fun _ hk=>hk.2),by repeat (first|(with_reducible first|exact I.1|apply below_alloc|apply pw_below_drewN|apply below_drew1|refine below_set ?_ b4.1)|exact I.1)⟩
end Go.Proofs.Ytkonljiembcdlaa.PC
namespace Go.Proofs.Ytkonljiembcdlaa.PC
open Go.Proofs.MyWords Go.RowKit Go.Proofs.YtkonljiembcdlaaW.PrintWords Go.Proofs.YtkonljiembcdlaaW.PrintLast Go.Proofs.YtkonljiembcdlaaW.PrintMore
attribute [local go_sem] max2_int min2_int max_two min_two max_three min_three max_four min_four   -- for this text's walks alone
set_option linter.unusedVariables false
set_option linter.unusedSimpArgs false
attribute [local go_sem] eqGuard_slices eqlnil23 neqnil23 eqlnil58 neqnil58
def count_Sum.f (k:Nat) (a0:Int) (l1:List (S60)) (l2:List (S60)):Option ((List (S60)) × Int):=(count_check.f k a0 (([l1,l2]:List (List (S60))))).bind fun t838=>(if t838=0 then ((count_sum.f k l1 l2).bind fun t839=>((count_full.f k a0 t839).bind fun bt842=>(some (bt842.1,bt842.2)))) else (some (([]:List (S60)),t838)))
set_option maxHeartbeats 8000000 in
set_option maxRecDepth 100000 in
theorem count_Sum.calls (k:Nat) (Y:Int) (C:Nat → Prop) (A1:Option Addr) (c1:Nat) (M:List (S60)) (D:Nat → Prop) (A2:Option Addr) (c2:Nat) (O:List (S60)) (r1:List (S60)) (r2:Int) (w:World) (d0:Kd.V k60 60 w w.heap.size (fun k_=>C k_) (.slice A1 M.length c1) M) (d1:Kd.V k60 60 w w.heap.size (fun k_=>D k_) (.slice A2 O.length c2) O) (h:count_Sum.f k Y M O=some (r1,r2)) :
    Calls Try.prog 36 #[.int .i64 Y,.slice A1 M.length c1,.slice A2 O.length c2] w fun e w'=>∃ b3:Value,e=.returned (.tuple #[b3,.int .i64 r2])∧Kd.V k60 60 w' w.heap.size (fun k_=>((C k_ ∨ D k_) ∨ w.heap.size ≤ k_)) b3 r1∧Below w.heap.size w w':=by
 have E:=mk0 (show Kd.V k60 60 w w.heap.size (fun k_=>((C k_ ∨ D k_) ∨ w.heap.size ≤ k_)) (.slice A1 M.length c1) M from Kd.V_mono d0 (fun k_ hk=>.inl (.inl hk)));have F:=mk0 (show Kd.V k60 60 w w.heap.size (fun k_=>((C k_ ∨ D k_) ∨ w.heap.size ≤ k_)) (.slice A2 O.length c2) O from Kd.V_mono d1 (fun k_ hk=>.inl (.inr hk)));have I:=mk0 (Below.refl w.heap.size w);have H:((count_check.f k Y (([M,O]:List (List (S60))))).bind fun G=>(if G=0 then ((count_sum.f k M O).bind fun T=>((count_full.f k Y T).bind fun U=>(some (U.1,U.2)))) else (some (([]:List (S60)),G))))=some (r1,r2):=h;clear h;obtain ⟨Q,X⟩:∃ y_:List (List (S60)),y_=(([M,O]:List (List (S60)))):=⟨_,rfl⟩
 replace H:((count_check.f k Y Q).bind fun G=>(if G=0 then ((count_sum.f k M O).bind fun T=>((count_full.f k Y T).bind fun U=>(some (U.1,U.2)))) else (some (([]:List (S60)),G))))=some (r1,r2):=by first|(rw [X];with_reducible exact H)|(have a9:=(Option.bind_some _ _).symm.trans H;rw [X];with_reducible exact a9)|(have a9:=(Option.bind_some _ _).symm.trans H;with_reducible exact a9)|with_reducible exact H|(rw [X];exact H)|exact H
 have Z:=mk0 X;clear X;replace H:=Option.bind_eq_some_iff.mp H;obtain ⟨G,b4,H⟩:=H;(try dsimp only at H);have A4:=mk0 b4;clear b4
 by_cases c5:G=0
 ·
  rw [if_pos c5] at H;have c5b0:(G == 0)=true:=beq_iff_eq.mpr c5;have c5b1:(G != 0)=false:=bne_eq_false_iff_eq.mpr c5;clear c5;replace H:=Option.bind_eq_some_iff.mp H;obtain ⟨T,b5,H⟩:=H;(try dsimp only at H);have A6:=mk0 b5;clear b5;replace H:=Option.bind_eq_some_iff.mp H;obtain ⟨⟨b7,b8⟩,b6,H⟩:=H;(try dsimp only at H);have A7:=mk0 b6;clear b6;simp only [Option.some.injEq,Prod.mk.injEq] at H;obtain ⟨rfl,rfl⟩:=H;go_enter Try.func36,Try.ntmps36;go_wp2_with (first|((with_reducible refine gate_dst (N:=12) rfl ?_);refine Kd.N_lit (Kd.slice 60 k60) _ 22 ?hg (N':=12) ?hd (xs:=([M,O]:List (List (S60)))) (inner:=[.slice A1 M.length c1,.slice A2 O.length c2]) (ok:=(fun k_=>((C k_ ∨ D k_) ∨ w.heap.size ≤ k_))) (okp:=(fun k_=>((C k_ ∨ D k_) ∨ w.heap.size ≤ k_))) ?hr ?hp (fun _ hk=>hk) ((show ∀ k_,w.heap.size ≤ k_ → (fun k_=>((C k_ ∨ D k_) ∨ w.heap.size ≤ k_)) k_ from fun k_ hk=>(.inr (Nat.le_trans (below_size I.1) hk))) _ (Nat.le_refl _)) (Below.refl _ _) (Nat.le_refl _) (by simp) ?_;(case hd=>rfl);(case hg=>rfl);(case hr=>first|(go_simp;done)|(go_simp;rfl));(case hp=>exact (Reps.one (show Kd.FK (Kd.slice 60 k60) _ _ M [.slice A1 M.length c1] from (Kd.FK_slice_mk (Kd.V_reads' (Kd.V_mono (e:=0) (base:=0) (ok':=(fun k_=>((C k_ ∨ D k_) ∨ w.heap.size ≤ k_))) (E.1) (fun k_ hk=>hk))).2.1 (Kd.V_F (Kd.V_mono (e:=0) (base:=0) (ok':=(fun k_=>((C k_ ∨ D k_) ∨ w.heap.size ≤ k_))) (E.1) (fun k_ hk=>hk))))) (Reps.one (show Kd.FK (Kd.slice 60 k60) _ _ O [.slice A2 O.length c2] from (Kd.FK_slice_mk (Kd.V_reads' (Kd.V_mono (e:=0) (base:=0) (ok':=(fun k_=>((C k_ ∨ D k_) ∨ w.heap.size ≤ k_))) (F.1) (fun k_ hk=>hk))).2.1 (Kd.V_F (Kd.V_mono (e:=0) (base:=0) (ok':=(fun k_=>((C k_ ∨ D k_) ∨ w.heap.size ≤ k_))) (F.1) (fun k_ hk=>hk))))) (Reps.none _ _))));intro b9 w8 R hb hg_ a2;clear hg_ a2;(first|rw [← Z.1] at R|(simp only [Int.reduceToNat] at R;rw [← Z.1] at R));have B:=mk0 (Kd.N_lower R (below_size I.1));replace E:=mk0 (Kd.V_elder' E.1 (by first|exact Kd.N_base R|exact Kd.S_base R|exact Kd.R_base R) hb);replace F:=mk0 (Kd.V_elder' F.1 (by first|exact Kd.N_base R|exact Kd.S_base R|exact Kd.R_base R) hb);replace I:=bst I hb;clear hb R;obtain ⟨a3,a4,c0⟩:=Kd.N_slice B.1;subst c0)|((with_reducible refine gate_callee (f:=51) rfl ?_);refine goesL_ (some 13) rfl rfl Try.func51 (by kernel_rfl) rfl #[.int .i64 Y,.slice a3 Q.length a4] rfl (by (try simp only [m0_,m1_,m2_]);first|done|rfl|(simp only [l0_,l1_];rfl)) ?_;(with_reducible refine (count_check.calls k Y _ _ Q G _ ?side1 ?side2 A4.1).mono ?_);(case side1=>repeat (first|exact (Kd.N_reads' B.1).2.2|(with_reducible refine Kd.C_alloc ?_ _)|(with_reducible refine Kd.C_drewN ?_ _)|(with_reducible refine Kd.C_drew ?_)));(case side2=>exact (Kd.N_reads' B.1).2.1);rintro e d7 ⟨rfl,hb⟩;refine ⟨_,rfl,?_⟩;replace E:=mk0 (Kd.V_below E.1 hb);replace F:=mk0 (Kd.V_below F.1 hb);replace B:=mk0 (Kd.N_below B.1 hb);replace I:=bst I hb;(try clear hb);(try clear hk))|((with_reducible refine gate_callee (f:=67) rfl ?_);refine goesL_ (some 20) rfl rfl Try.func67 (by kernel_rfl) rfl #[.slice A1 M.length c1,.slice A2 O.length c2] rfl (by (try simp only [m0_,m1_,m2_]);first|done|rfl|(simp only [l0_,l1_];rfl)) ?_;(with_reducible refine (count_sum.calls k _ _ M _ _ O T _ ?side1 ?side2 ?side3 ?side4 A6.1).mono ?_);(case side1=>repeat (first|exact (Kd.V_reads' E.1).2.2|(with_reducible refine Kd.C_alloc ?_ _)|(with_reducible refine Kd.C_drewN ?_ _)|(with_reducible refine Kd.C_drew ?_)));(case side2=>exact (Kd.V_reads' E.1).2.1);(case side3=>repeat (first|exact (Kd.V_reads' F.1).2.2|(with_reducible refine Kd.C_alloc ?_ _)|(with_reducible refine Kd.C_drewN ?_ _)|(with_reducible refine Kd.C_drew ?_)));(case side4=>exact (Kd.V_reads' F.1).2.1);rintro e d8 ⟨d5,rfl,L,hb⟩;refine ⟨_,rfl,?_⟩;have a1:=mk0 (Kd.N_lower (Kd.N_mono (ok':=fun k_=>((C k_ ∨ D k_) ∨ w.heap.size ≤ k_)∧some k_ ≠ (.slice a3 Q.length a4:Value).ownBlock) L (fun k_ hk_=>⟨(.inr (Nat.le_trans (below_size I.1) hk_)),(Kd.fresh' (Kd.N_lt B.1) k_ hk_)⟩)) (below_size I.1));replace E:=mk0 (Kd.V_elder' E.1 (by first|exact Kd.N_base L|exact Kd.S_base L|exact Kd.R_base L) hb);replace F:=mk0 (Kd.V_elder' F.1 (by first|exact Kd.N_base L|exact Kd.S_base L|exact Kd.R_base L) hb);replace B:=mk0 (Kd.N_elder' B.1 (by first|exact Kd.N_base L|exact Kd.S_base L|exact Kd.R_base L) hb);replace I:=bst I hb;(try clear hb);(try clear hk);(try clear L);obtain ⟨c3,c4,c6⟩:=Kd.N_slice a1.1;subst c6)|((with_reducible refine gate_callee (f:=80) rfl ?_);refine goesL_ (some 21) rfl rfl Try.func80 (by kernel_rfl) rfl #[.int .i64 Y,.slice c3 T.length c4] rfl (by (try simp only [m0_,m1_,m2_]);first|done|rfl|(simp only [l0_,l1_];rfl)) ?_;(with_reducible refine (count_full.calls k Y (fun k_=>(((C k_ ∨ D k_) ∨ w.heap.size ≤ k_)∧some k_ ≠ (.slice a3 Q.length a4:Value).ownBlock)) _ _ T b7 b8 _ ?side1 A7.1).mono ?_);(case side1=>exact Kd.N_V (a1.1));rintro e d9 ⟨d6,rfl,L,hb⟩;refine ⟨_,rfl,?_⟩;have b2:=mk0 (Kd.V_lower (Kd.V_mono (ok':=fun k_=>((C k_ ∨ D k_) ∨ w.heap.size ≤ k_)∧some k_ ≠ (.slice a3 Q.length a4:Value).ownBlock) L (fun k_ hk_=>⟨Or.elim hk_ (fun hs_=>hs_.1) (fun hn_=>(.inr (Nat.le_trans (below_size I.1) hn_))),Or.elim hk_ (fun hs_=>hs_.2) (fun hn_=>(Kd.fresh' (Kd.N_lt B.1) k_ hn_))⟩)) (below_size I.1));replace E:=mk0 (Kd.V_below E.1 hb);replace F:=mk0 (Kd.V_below F.1 hb);replace B:=mk0 (Kd.N_below B.1 hb);replace a1:=mk0 (Kd.N_below a1.1 hb);replace I:=bst I hb;(try clear hb);(try clear hk);(try clear L)))
  go_ret2;exact ⟨_,by first|rfl|(simp [errW_none,errW_some] <;> rfl)|(simp [*,errW_none,errW_some] <;> rfl),by exact Kd.V_mono b2.1 (fun _ hk=>hk.1),by exact I.1⟩
 ·
  rw [if_neg c5] at H;have c5b0:(G == 0)=false:=beq_eq_false_iff_ne.mpr c5;have c5b1:(G != 0)=true:=bne_iff_ne.mpr c5;simp only [Option.some.injEq,Prod.mk.injEq] at H;obtain ⟨rfl,rfl⟩:=H;go_enter Try.func36,Try.ntmps36;go_wp2_with (first|((with_reducible refine gate_dst (N:=12) rfl ?_);refine Kd.N_lit (Kd.slice 60 k60) _ 22 ?hg (N':=12) ?hd (xs:=([M,O]:List (List (S60)))) (inner:=[.slice A1 M.length c1,.slice A2 O.length c2]) (ok:=(fun k_=>((C k_ ∨ D k_) ∨ w.heap.size ≤ k_))) (okp:=(fun k_=>((C k_ ∨ D k_) ∨ w.heap.size ≤ k_))) ?hr ?hp (fun _ hk=>hk) ((show ∀ k_,w.heap.size ≤ k_ → (fun k_=>((C k_ ∨ D k_) ∨ w.heap.size ≤ k_)) k_ from fun k_ hk=>(.inr (Nat.le_trans (below_size I.1) hk))) _ (Nat.le_refl _)) (Below.refl _ _) (Nat.le_refl _) (by simp) ?_;(case hd=>rfl);(case hg=>rfl);(case hr=>first|(go_simp;done)|(go_simp;rfl));(case hp=>exact (Reps.one (show Kd.FK (Kd.slice 60 k60) _ _ M [.slice A1 M.length c1] from (Kd.FK_slice_mk (Kd.V_reads' (Kd.V_mono (e:=0) (base:=0) (ok':=(fun k_=>((C k_ ∨ D k_) ∨ w.heap.size ≤ k_))) (E.1) (fun k_ hk=>hk))).2.1 (Kd.V_F (Kd.V_mono (e:=0) (base:=0) (ok':=(fun k_=>((C k_ ∨ D k_) ∨ w.heap.size ≤ k_))) (E.1) (fun k_ hk=>hk))))) (Reps.one (show Kd.FK (Kd.slice 60 k60) _ _ O [.slice A2 O.length c2] from (Kd.FK_slice_mk (Kd.V_reads' (Kd.V_mono (e:=0) (base:=0) (ok':=(fun k_=>((C k_ ∨ D k_) ∨ w.heap.size ≤ k_))) (F.1) (fun k_ hk=>hk))).2.1 (Kd.V_F (Kd.V_mono (e:=0) (base:=0) (ok':=(fun k_=>((C k_ ∨ D k_) ∨ w.heap.size ≤ k_))) (F.1) (fun k_ hk=>hk))))) (Reps.none _ _))));intro b9 e0 J hb hg_ a2;clear hg_ a2;(first|rw [← Z.1] at J|(simp only [Int.reduceToNat] at J;rw [← Z.1] at J));have B:=mk0 (Kd.N_lower J (below_size I.1));replace E:=mk0 (Kd.V_elder' E.1 (by first|exact Kd.N_base J|exact Kd.S_base J|exact Kd.R_base J) hb);replace F:=mk0 (Kd.V_elder' F.1 (by first|exact Kd.N_base J|exact Kd.S_base J|exact Kd.R_base J) hb);replace I:=bst I hb;clear hb J;obtain ⟨c7,c8,c9⟩:=Kd.N_slice B.1;subst c9)|((with_reducible refine gate_callee (f:=51) rfl ?_);refine goesL_ (some 13) rfl rfl Try.func51 (by kernel_rfl) rfl #[.int .i64 Y,.slice c7 Q.length c8] rfl (by (try simp only [m0_,m1_,m2_]);first|done|rfl|(simp only [l0_,l1_];rfl)) ?_;(with_reducible refine (count_check.calls k Y _ _ Q G _ ?side1 ?side2 A4.1).mono ?_);(case side1=>repeat (first|exact (Kd.N_reads' B.1).2.2|(with_reducible refine Kd.C_alloc ?_ _)|(with_reducible refine Kd.C_drewN ?_ _)|(with_reducible refine Kd.C_drew ?_)));(case side2=>exact (Kd.N_reads' B.1).2.1);rintro e e1 ⟨rfl,hb⟩;refine ⟨_,rfl,?_⟩;replace E:=mk0 (Kd.V_below E.1 hb);replace F:=mk0 (Kd.V_below F.1 hb);replace B:=mk0 (Kd.N_below B.1 hb);replace I:=bst I hb;(try clear hb);(try clear hk)));go_ret2;exact ⟨_,by first|rfl|(simp [errW_none,errW_some] <;> rfl)|(simp [*,errW_none,errW_some] <;> rfl),Kd.N_V (base:=0) (by first|exact Kd.R_nil _ _ _ _ _|exact Kd.N_nil _ _ _ _ _|exact Kd.V_nil _ _ _ _ _|exact Kd.Q_nil _ _ _ _ _|exact Kd.S_nil _ _ _ _ _),by exact I.1⟩
end Go.Proofs.Ytkonljiembcdlaa.PC
namespace Go.Proofs.Ytkonljiembcdlaa.PC
open Go.Proofs.MyWords Go.RowKit Go.Proofs.YtkonljiembcdlaaW.PrintWords Go.Proofs.YtkonljiembcdlaaW.PrintLast Go.Proofs.YtkonljiembcdlaaW.PrintMore
attribute [local go_sem] max2_int min2_int max_two min_two max_three min_three max_four min_four   -- for this text's walks alone
set_option linter.unusedVariables false
set_option linter.unusedSimpArgs false
attribute [local go_sem] eqGuard_slices eqlnil23 neqnil23 eqlnil58 neqnil58
mutual
def bellpullref05_All.l0:Nat → Int → Int → List (List Int) → Int → Option ((List (List Int)))
  | 0,_,_,_,_=>none
  | k + 1,x0,x1,x5,x6=>if x6 ≤ x1 then ((bellpullref05_All.f k (wrap64 (x0 - 1)) (wrap64 (x1 - x6))).bind fun t855=>(bellpullref05_All.l1 k x0 x1 x5 x6 t855 0)) else (some x5)
def bellpullref05_All.l1:Nat → Int → Int → List (List Int) → Int → List (List Int) → Int → Option ((List (List Int)))
  | 0,_,_,_,_,_,_=>none
  | k + 1,x0,x1,x5,x6,x7,x8=>if x8 < (x7.length:Int) then ((some (([x6]:List Int):List Int)).bind fun y858=>(if 0 ≤ x8 then (if y858.length + (rd_L1 x7 x8).length < 17592186044416 then (if x5.length < 5864062014805 then (bellpullref05_All.l1 k x0 x1 (x5 ++ [(y858 ++ (rd_L1 x7 x8))]) x6 x7 (wrap64 (x8 + 1))) else (none)) else (none)) else (none))) else (bellpullref05_All.l0 k x0 x1 x5 (wrap64 (x6 + 1)))
def bellpullref05_All.f:Nat → Int → Int → Option ((List (List Int)))
  | 0,_,_=>none
  | k + 1,a0,a1=>if a0=1 then (some (([(([a1]:List Int))]:List (List Int)))) else (bellpullref05_All.l0 k a0 a1 (([]:List (List Int))) 0)
end
set_option maxHeartbeats 8000000 in
set_option maxRecDepth 100000 in
theorem bellpullref05_All.calls (k:Nat):∀ (R:Int) (L:Int) (r:List (List Int)) (w:World) (h:bellpullref05_All.f k R L=some r),
    Calls Try.prog 37 #[.int .i64 R,.int .i64 L] w fun e w'=>∃ f3:Value,e=.returned (f3)∧Kd.N (Kd.slice 3 (Kd.int .i64)) 23 w' w.heap.size (fun k_=>(w.heap.size ≤ k_)) f3 r∧Below w.heap.size w w':=by
 induction k using Nat.strongRecOn with
 | _ k ih =>
 intro R L r w h;cases k with
 | zero=>exact absurd h (by simp [bellpullref05_All.f])
 | succ k =>
 simp only [bellpullref05_All.f] at h;have B:=mk0 (Below.refl w.heap.size w);have H:(if R=1 then (some (([(([L]:List Int))]:List (List Int)))) else (bellpullref05_All.l0 k R L (([]:List (List Int))) 0))=some r:=h;clear h
 by_cases c3:R=1
 ·
  rw [if_pos c3] at H;have c3b0:(R == 1)=true:=beq_iff_eq.mpr c3;have c3b1:(R != 1)=false:=bne_eq_false_iff_eq.mpr c3;clear c3;obtain ⟨a7,Z⟩:∃ y_:List Int,y_=(([L]:List Int)):=⟨_,rfl⟩
  replace H:(some (([a7]:List (List Int))))=some r:=by first|(rw [Z];with_reducible exact H)|(have F:=(Option.bind_some _ _).symm.trans H;rw [Z];with_reducible exact F)|(have F:=(Option.bind_some _ _).symm.trans H;with_reducible exact F)|with_reducible exact H|(rw [Z];exact H)|exact H
  have d0:=mk0 Z;clear Z;obtain ⟨f6,a2⟩:∃ y_:List (List Int),y_=(([a7]:List (List Int))):=⟨_,rfl⟩
  replace H:(some f6)=some r:=by first|(rw [a2];with_reducible exact H)|(have F:=(Option.bind_some _ _).symm.trans H;rw [a2];with_reducible exact F)|(have F:=(Option.bind_some _ _).symm.trans H;with_reducible exact F)|with_reducible exact H|(rw [a2];exact H)|exact H
  have d1:=mk0 a2;clear a2;obtain rfl:=Option.some.inj H;go_enter Try.func37,Try.ntmps37;go_wp2_with (first|((with_reducible refine gate_dst (N:=12) rfl ?_);refine Kd.R_lit (Kd.int .i64) _ 3 ?hg (N:=12) ?hd (xs:=([L]:List Int)) (inner:=[.int .i64 L]) (ok:=fun _=>True) (okp:=fun _=>True) ?hr ?hp (fun _ hk=>hk) trivial (Below.refl _ _) (Nat.le_refl _) (by simp) ?_;(case hd=>rfl);(case hg=>rfl);(case hr=>first|(go_simp;done)|(go_simp;rfl));(case hp=>exact (Reps.one (show Kd.M (Kd.int .i64) _ _ _ L [.int .i64 L] from rfl) (Reps.none _ _)));intro h0 w4 c2 hb hg_ O;clear hg_ O;(first|rw [← d0.1] at c2|(simp only [Int.reduceToNat] at c2;rw [← d0.1] at c2));have b1:=mk0 (Kd.R_lower (Kd.R_newM (M:=fun k_=>(w.heap.size ≤ k_)) c2 (below_size B.1) (fun k_ h_=>h_)) (below_size B.1));replace B:=bst B hb;clear hb c2;obtain ⟨f4,f5,g5⟩:=Kd.R_slice b1.1;subst g5)|((with_reducible refine gate_dst (N:=13) rfl ?_);refine Kd.N_lit (Kd.slice 3 (Kd.int .i64)) _ 23 ?hg (N':=13) ?hd (xs:=([a7]:List (List Int))) (inner:=[.slice f4 a7.length f5]) (ok:=(fun k_=>(w.heap.size ≤ k_))) (okp:=(fun k_=>(w.heap.size ≤ k_))) ?hr ?hp (fun _ hk=>hk) ((show ∀ k_,w4.heap.size ≤ k_ → (fun k_=>(w.heap.size ≤ k_)) k_ from fun k_ hk=>(Nat.le_trans (below_size B.1) hk)) _ (Nat.le_refl _)) (Below.refl _ _) (Nat.le_refl _) (by simp) ?_;(case hd=>rfl);(case hg=>rfl);(case hr=>first|(go_simp;done)|(go_simp;rfl));(case hp=>exact (Reps.one (show Kd.FK (Kd.slice 3 (Kd.int .i64)) _ _ a7 [.slice f4 a7.length f5] from (Kd.FK_slice_mk (Kd.R_reads' (Kd.R_mono (ok':=(fun k_=>(w.heap.size ≤ k_))) (b1.1) (fun k_ hk=>hk.1))).2.1 (Kd.R_F (Kd.R_mono (ok':=(fun k_=>(w.heap.size ≤ k_))) (b1.1) (fun k_ hk=>hk.1))))) (Reps.none _ _)));intro h2 w7 c4 hb hg_ O;clear hg_ O;(first|rw [← d1.1] at c4|(simp only [Int.reduceToNat] at c4;rw [← d1.1] at c4));have e4:=mk0 (Kd.N_lower c4 (below_size B.1));replace B:=bst B hb;clear b1;clear hb c4));go_ret;exact ⟨_,by first|rfl|(simp [errW_none,errW_some] <;> rfl)|(simp [*,errW_none,errW_some] <;> rfl),by exact e4.1,by exact B.1⟩
 ·
  rw [if_neg c3] at H;have c3b0:(R == 1)=false:=beq_eq_false_iff_ne.mpr c3;have c3b1:(R != 1)=true:=bne_iff_ne.mpr c3;obtain ⟨d8,a3⟩:∃ y_:List (List Int),y_=(([]:List (List Int))):=⟨_,rfl⟩
  replace H:(bellpullref05_All.l0 k R L d8 0)=some r:=by first|(rw [a3];with_reducible exact H)|(have F:=(Option.bind_some _ _).symm.trans H;rw [a3];with_reducible exact F)|(have F:=(Option.bind_some _ _).symm.trans H;with_reducible exact F)|with_reducible exact H|(rw [a3];exact H)|exact H
  have d2:=mk0 a3;clear a3;have H':=mk0 H;clear H;go_enter Try.func37,Try.ntmps37;go_wp2_with (first|((with_reducible refine gate_dst (N:=14) rfl ?_);refine Kd.N_lit (Kd.slice 3 (Kd.int .i64)) _ 23 ?hg (N':=14) ?hd (xs:=([]:List (List Int))) (inner:=[]) (ok:=(fun k_=>(w.heap.size ≤ k_))) (okp:=(fun k_=>(w.heap.size ≤ k_))) ?hr ?hp (fun _ hk=>hk) ((show ∀ k_,w.heap.size ≤ k_ → (fun k_=>(w.heap.size ≤ k_)) k_ from fun k_ hk=>(Nat.le_trans (below_size B.1) hk)) _ (Nat.le_refl _)) (Below.refl _ _) (Nat.le_refl _) (by simp) ?_;(case hd=>rfl);(case hg=>rfl);(case hr=>first|(go_simp;done)|(go_simp;rfl));(case hp=>exact (Reps.none _ _));intro h3 w9 b3 hb hg_ O;clear hg_ O;(first|rw [← d2.1] at b3|(simp only [Int.reduceToNat] at b3;rw [← d2.1] at b3));have e5:=mk0 (Kd.N_lower b3 (below_size B.1));replace B:=bst B hb;clear hb b3))
  go_loopg [5,6] k (fun kq v5 v6 w'=>∃ (b8:List (List Int)) (E:Int),v6=.int .i64 E∧Aside0 (bellpullref05_All.l0 kq R L b8 E=some r)∧Aside0 (kq ≤ k)∧Aside0 (Kd.N (Kd.slice 3 (Kd.int .i64)) 23 w' w.heap.size (fun k_=>(w.heap.size ≤ k_)) v5 b8)∧Aside0 (Below w.heap.size w w'))
  case atStart=>exact ⟨(d8),(0),(by first|rfl|(simp;done)|(simp [*];done)),H',⟨Nat.le_refl _⟩,⟨by exact e5.1⟩,⟨by exact B.1⟩⟩
  case round =>
   clear H';try clear p2
   try clear c3
   try clear c3b0
   try clear c3b1
   obtain ⟨b8,E,rfl,HA,c5,G,B⟩:=hrel;cases gk with
   | zero=>exact absurd HA.1 (by simp [bellpullref05_All.l0])
   | succ k1 =>
    have H:=HA.1;clear HA;simp only [bellpullref05_All.l0] at H
    by_cases c11:E ≤ L
    ·
     rw [if_pos c11] at H;have c11b0:decide (E ≤ L)=true:=decide_eq_true c11;clear c11;replace H:=Option.bind_eq_some_iff.mp H;obtain ⟨C,d9,H⟩:=H;(try dsimp only at H);have g6:=mk0 d9;clear d9;have H':=mk0 H;clear H;go_wp2_with (first|((with_reducible refine gate_callee (f:=37) rfl ?_);refine goesL_ (some 25) rfl rfl Try.func37 (by kernel_rfl) rfl #[.int .i64 (wrap64 (R - 1)),.int .i64 (wrap64 (L - E))] rfl (by (try simp only [m0_,m1_,m2_]);first|done|rfl|(simp only [l0_,l1_];rfl)) ?_;(with_reducible refine (ih k1 (by have:=c5.1;omega) (wrap64 (R - 1)) (wrap64 (L - E)) C _ g6.1).mono ?_);rintro e i1 ⟨e0,rfl,c6,hb⟩;refine ⟨_,rfl,?_⟩;have e7:=mk0 (Kd.N_lower (Kd.N_mono (ok':=fun k_=>(w.heap.size ≤ k_)∧some k_ ≠ (u5:Value).ownBlock) c6 (fun k_ hk_=>⟨(Nat.le_trans (below_size B.1) hk_),(Kd.fresh' (Kd.N_lt G.1) k_ hk_)⟩)) (below_size B.1));replace G:=mk0 (Kd.N_elder' G.1 (by first|exact Kd.N_base c6|exact Kd.S_base c6|exact Kd.R_base c6) hb);replace B:=bst B hb;(try clear hb);(try clear c6)))
     go_loopg [5,8] k1 (fun kq v5 v8 w'=>∃ (J:List (List Int)) (D:Int),v8=.int .i64 D∧Aside0 (bellpullref05_All.l1 kq R L J E C D=some r)∧Aside0 (kq ≤ k1)∧Aside0 (Kd.N (Kd.slice 3 (Kd.int .i64)) 23 w' w.heap.size (fun k_=>(w.heap.size ≤ k_)∧some k_ ≠ (e0:Value).ownBlock) v5 J)∧Aside0 (Kd.N (Kd.slice 3 (Kd.int .i64)) 23 w' w.heap.size (fun k_=>(w.heap.size ≤ k_)∧some k_ ≠ (v5:Value).ownBlock) e0 C)∧Aside0 (Below w.heap.size w w'))
     case atStart=>exact ⟨(b8),(0),(by first|rfl|(simp;done)|(simp [*];done)),H',⟨Nat.le_refl _⟩,⟨by exact G.1⟩,⟨by exact e7.1⟩,⟨by exact B.1⟩⟩
     case round =>
      clear H';try clear c1
      try clear p2
      try clear c3
      try clear c3b0
      try clear c3b1
      try clear p6
      try clear c11
      try clear c11b0
      try clear p2
      obtain ⟨J,D,rfl,HA,d3,G,I,B⟩:=hrel;cases gk with
      | zero=>exact absurd HA.1 (by simp [bellpullref05_All.l1])
      | succ k2 =>
       have H:=HA.1;clear HA;simp only [bellpullref05_All.l1] at H
       by_cases c14:D < (C.length:Int)
       ·
        rw [if_pos c14] at H;have c14b0:decide (D < (C.length:Int))=true:=decide_eq_true c14;clear c14;obtain ⟨b4,a4⟩:∃ y_:List Int,y_=(([E]:List Int)):=⟨_,rfl⟩
        replace H:(if 0 ≤ D then (if b4.length + (rd_L1 C D).length < 17592186044416 then (if J.length < 5864062014805 then (bellpullref05_All.l1 k2 R L (J ++ [(b4 ++ (rd_L1 C D))]) E C (wrap64 (D + 1))) else (none)) else (none)) else (none))=some r:=by first|(rw [a4];with_reducible exact H)|(have F:=(Option.bind_some _ _).symm.trans H;rw [a4];with_reducible exact F)|(have F:=(Option.bind_some _ _).symm.trans H;with_reducible exact F)|with_reducible exact H|(rw [a4];exact H)|exact H
        have d4:=mk0 a4;clear a4
        by_cases c15:0 ≤ D
        ·
         rw [if_pos c15] at H;have c15b0:decide (0 ≤ D)=true:=decide_eq_true c15;clear c15
         by_cases c16:b4.length + (rd_L1 C D).length < 17592186044416
         ·
          rw [if_pos c16] at H;have e8:=mk0 c16;clear c16;obtain ⟨a8,a5⟩:∃ y_:List Int,y_=(b4 ++ (rd_L1 C D)):=⟨_,rfl⟩
          replace H:(if J.length < 5864062014805 then (bellpullref05_All.l1 k2 R L (J ++ [a8]) E C (wrap64 (D + 1))) else (none))=some r:=by first|(rw [a5];with_reducible exact H)|(have F:=(Option.bind_some _ _).symm.trans H;rw [a5];with_reducible exact F)|(have F:=(Option.bind_some _ _).symm.trans H;with_reducible exact F)|with_reducible exact H|(rw [a5];exact H)|exact H
          have e9:=mk0 a5;clear a5
          by_cases c17:J.length < 5864062014805
          ·
           rw [if_pos c17] at H;have f0:=mk0 c17;clear c17;obtain ⟨e1,a6⟩:∃ y_:List (List Int),y_=(J ++ [a8]):=⟨_,rfl⟩
           replace H:(bellpullref05_All.l1 k2 R L e1 E C (wrap64 (D + 1)))=some r:=by first|(rw [a6];with_reducible exact H)|(have F:=(Option.bind_some _ _).symm.trans H;rw [a6];with_reducible exact F)|(have F:=(Option.bind_some _ _).symm.trans H;with_reducible exact F)|with_reducible exact H|(rw [a6];exact H)|exact H
           have f1:=mk0 a6;clear a6;have H':=mk0 H;clear H;obtain ⟨h6,X,f7⟩:=Kd.N_slice I.1;subst f7;go_wp2_with (first|((with_reducible refine gate_dst (N:=34) rfl ?_);refine Kd.R_lit (Kd.int .i64) _ 3 ?hg (N:=34) ?hd (xs:=([E]:List Int)) (inner:=[.int .i64 E]) (ok:=fun _=>True) (okp:=fun _=>True) ?hr ?hp (fun _ hk=>hk) trivial (Below.refl _ _) (Nat.le_refl _) (by simp) ?_;(case hd=>rfl);(case hg=>rfl);(case hr=>first|(go_simp;done)|(go_simp;rfl));(case hp=>exact (Reps.one (show Kd.M (Kd.int .i64) _ _ _ E [.int .i64 E] from rfl) (Reps.none _ _)));intro f8 i2 Y hb hg_ O;clear hg_ O;(first|rw [← d4.1] at Y|(simp only [Int.reduceToNat] at Y;rw [← d4.1] at Y));have d5:=mk0 (Kd.R_lower (Kd.R_newM (M:=fun k_=>(w.heap.size ≤ k_)) Y (below_size B.1) (fun k_ h_=>h_)) (below_size B.1));replace G:=mk0 (Kd.N_elder' G.1 (Kd.R_base Y) hb);replace I:=mk0 (Kd.N_elder' I.1 (Kd.R_base Y) hb);replace B:=bst B hb;clear hb Y;have b9:0 ≤ (D:Int):=of_decide_eq_true (by assumption);have c0:D < (C.length:Int):=of_decide_eq_true (by assumption);obtain ⟨Q,g7,g8,f9,d7,b5,b6⟩:=at_L1 (Kd.N_reads' I.1).2.2 D b9 c0;cases f9;obtain ⟨g9,e2,e3,c7⟩:=Kd.N_get I.1 [] D b9 (by first|exact c0|exact of_decide_eq_true (by assumption)|(have e_:=(Kd.N_reads' I.1).1;omega));obtain ⟨g2,g3,rfl,a9,b0⟩:=Kd.FK_slice_open e3;have T:=c7 0 _ rfl;rw [Nat.add_zero,show ((Kd.slice 3 (Kd.int .i64))).sz=1 from rfl,Nat.mul_one] at T;replace T:=Option.some.inj (T.symm.trans d7);injection T with hva_ hvn_ hvc_;rw [hva_] at b0;rw [hvc_] at a9;have U:=mk0 (show Kd.V (Kd.int .i64) 3 _ w.heap.size _ _ (rd_L1 C D) from Kd.V_mk a9 b0);clear hva_ hvn_ hvc_ b0 a9;clear c7 e2;have b7:=mk0 b6;have g4:=mk0 b5;clear b6 b5;replace b9:=eq_true b9;replace c0:=eq_true c0)|((with_reducible refine gate_builtin (b:=.append) (xs:=#[.tmp 34,.tmp 38]) rfl ?_);at_builtin;refine Kd.R_append_rows (Kd.int .i64) (w0:=w) w.heap.size rfl (.tmp 34) (.tmp 38) 23 3 (.int .i64 0) 8 rfl Try.underlying23 info3 rfl (by decide) (by omega) f8 b4 (rd_L1 C D) _ _ _ (fun k_=>(w.heap.size ≤ k_)) (fun _=>False) rfl rfl ?aO ?aR (fun _ _ h=>h) (fun _ h=>h.elim) ?aF ?aB ?aS ?aL ?_;(case aR=>repeat (first|exact (by repeat (first|(with_reducible exact b7.1)|(with_reducible refine Kd.C_alloc ?_ _)|(with_reducible refine Kd.C_drewN ?_ _)|(with_reducible refine Kd.C_drew ?_)|exact b7.1))|(with_reducible refine Kd.C_alloc ?_ _)|(with_reducible refine Kd.C_drewN ?_ _)|(with_reducible refine Kd.C_drew ?_)));(case aB=>exact (by exact B.1));(case aF=>exact (fun k_ hk=>(Nat.le_trans (below_size (by exact B.1)) hk)));(case aO=>exact (by exact Kd.R_mono d5.1 (fun _ hk=>hk.1)));(case aS=>exact (below_size (by exact B.1)));(case aL=>have:=e8.1;omega);intro h7 i3 ho hb hg hat;rw [← e9.1] at ho;have b2:=mk0 (ho);replace G:=mk0 (Kd.N_afterv (ok:=(fun k_=>(w.heap.size ≤ k_)∧some k_ ≠ (.slice (some Q) C.length X:Value).ownBlock)) (by exact G.1) hg hat);replace I:=mk0 (Kd.N_afterv (ok:=(fun k_=>(w.heap.size ≤ k_)∧some k_ ≠ (u5:Value).ownBlock)) (by exact I.1) hg hat);replace U:=mk0 (Kd.V_afterv (ok:=(fun k_=>(w.heap.size ≤ k_)∧some k_ ≠ (u5:Value).ownBlock∧some k_ ≠ (.slice (some Q) C.length X:Value).ownBlock)) (by exact Kd.V_mono U.1 (fun _ hk=>⟨⟨hk.1.1.1,⟨hk.1.1.2,hk.2⟩⟩,hk.1.2⟩)) hg hat);replace B:=mk0 (hb);clear d5;clear ho hb hg hat;obtain ⟨c8,c9,g0⟩:=Kd.R_slice b2.1;subst g0)|((with_reducible refine gate_builtin (b:=.append) (xs:=#[.tmp 32,.tmp 40]) rfl ?_);at_builtin;refine Kd.N_append (Kd.slice 3 (Kd.int .i64)) (w0:=w) w.heap.size rfl (.tmp 32) (.tmp 40) 58 23 (.slice none 0 0) 24 rfl Try.underlying58 info23 rfl (by decide) (by omega) u5 J a8 [.slice c8 a8.length c9] (fun k_=>(w.heap.size ≤ k_)∧some k_ ≠ (.slice (some Q) C.length X:Value).ownBlock) (fun k_=>((fun k_=>(w.heap.size ≤ k_)∧some k_ ≠ (.slice (some Q) C.length X:Value).ownBlock)) k_∧some k_ ≠ (u5:Value).ownBlock) rfl rfl ?aP (fun _ hk=>hk) ?aF ?aO ?aB ?aS ?aL ?_;(case aP=>exact (Kd.FK_slice_mk (Kd.R_reads' (Kd.R_mono (ok':=(fun k_=>((fun k_=>(w.heap.size ≤ k_)∧some k_ ≠ (.slice (some Q) C.length X:Value).ownBlock)) k_∧some k_ ≠ (u5:Value).ownBlock)) (Kd.R_apart' (Kd.R_apart' (b2.1) (Kd.N_typed I.1) (by decide)) (Kd.N_typed G.1) (by decide)) (fun k_ hk=>⟨⟨hk.1.1,hk.1.2⟩,hk.2⟩))).2.1 (Kd.R_F (Kd.R_mono (ok':=(fun k_=>((fun k_=>(w.heap.size ≤ k_)∧some k_ ≠ (.slice (some Q) C.length X:Value).ownBlock)) k_∧some k_ ≠ (u5:Value).ownBlock)) (Kd.R_apart' (Kd.R_apart' (b2.1) (Kd.N_typed I.1) (by decide)) (Kd.N_typed G.1) (by decide)) (fun k_ hk=>⟨⟨hk.1.1,hk.1.2⟩,hk.2⟩)))));(case aB=>exact (by exact B.1));(case aF=>exact (fun k_ hk=>⟨(Nat.le_trans (below_size (by exact B.1)) hk),Kd.fresh' (Kd.N_lt (by exact I.1)) k_ hk⟩));(case aO=>exact (by exact Kd.N_mono G.1 (fun _ hk=>⟨hk.1.1,hk.1.2⟩)));(case aS=>exact (below_size (by exact B.1)));(case aL=>have:=f0.1;omega);intro h8 i4 ho hb hg hat;rw [← f1.1] at ho;have f2:=mk0 (ho);replace I:=mk0 (Kd.N_afterv (ok:=(fun k_=>(w.heap.size ≤ k_)∧some k_ ≠ (.slice c8 a8.length c9:Value).ownBlock)) (by exact Kd.N_mono I.1 (fun _ hk=>⟨⟨hk.1.1,hk.2⟩,hk.1.2⟩)) hg hat);replace U:=mk0 (Kd.V_afterv (ok:=(fun k_=>(w.heap.size ≤ k_)∧some k_ ≠ (.slice (some Q) C.length X:Value).ownBlock∧some k_ ≠ (.slice c8 a8.length c9:Value).ownBlock)) (by exact Kd.V_mono U.1 (fun _ hk=>⟨⟨hk.1.1,⟨hk.1.2.2,hk.2⟩⟩,hk.1.2.1⟩)) hg hat);replace B:=mk0 (hb);clear G;clear b2;clear ho hb hg hat))
           go_roundg k2
           case measure=>have:=c5.1;have:=d3.1;omega
           case rel=>exact ⟨(e1),(wrap64 (D + 1)),(by first|rfl|(simp;done)|(simp [*];done)),H',⟨by have:=c5.1;have:=d3.1;omega⟩,⟨by exact f2.1⟩,⟨by exact Kd.N_mono I.1 (fun _ hk=>⟨hk.1.1,hk.2⟩)⟩,⟨by exact B.1⟩⟩
          ·
           rw [if_neg c17] at H;exact absurd H (by simp)
         ·
          rw [if_neg c16] at H;exact absurd H (by simp)
        ·
         rw [if_neg c15] at H;exact absurd H (by simp)
       ·
        rw [if_neg c14] at H;have c14b0:decide (D < (C.length:Int))=false:=decide_eq_false c14;clear c14;have H':=mk0 H;clear H;obtain ⟨h9,i0,g1⟩:=Kd.N_slice I.1;subst g1;go_wp2;go_roundg k2
        case measure=>have:=c5.1;have:=d3.1;omega
        case rel=>exact ⟨(J),(wrap64 (E + 1)),(by first|rfl|(simp;done)|(simp [*];done)),H',⟨by have:=c5.1;have:=d3.1;omega⟩,⟨by exact Kd.N_mono G.1 (fun _ hk=>hk.1)⟩,⟨by exact B.1⟩⟩
    ·
     rw [if_neg c11] at H;have c11b0:decide (E ≤ L)=false:=decide_eq_false c11;clear c11;obtain rfl:=Option.some.inj H;go_wp2;go_ret;exact ⟨_,by first|rfl|(simp [errW_none,errW_some] <;> rfl)|(simp [*,errW_none,errW_some] <;> rfl),by exact G.1,by exact B.1⟩
end Go.Proofs.Ytkonljiembcdlaa.PC
namespace Go.Proofs.Ytkonljiembcdlaa.PC
open Go.Proofs.MyWords Go.RowKit Go.Proofs.YtkonljiembcdlaaW.PrintWords Go.Proofs.YtkonljiembcdlaaW.PrintLast Go.Proofs.YtkonljiembcdlaaW.PrintMore
attribute [local go_sem] max2_int min2_int max_two min_two max_three min_three max_four min_four   -- for this text's walks alone
set_option linter.unusedVariables false
set_option linter.unusedSimpArgs false
attribute [local go_sem] eqGuard_slices eqlnil23 neqnil23 eqlnil58 neqnil58
mutual
def bellpulllaw05_CountSum.j0:Nat → Int → List (S60) → List (S60) → List (S60) → Bool → Option (Bool)
  | 0,_,_,_,_,_=>none
  | k + 1,x3,x4,x5,x6,x37=>if x37=true then (none) else (bellpulllaw05_CountSum.l0 k x3 x4 x5 x6 0)
def bellpulllaw05_CountSum.l0:Nat → Int → List (S60) → List (S60) → List (S60) → Int → Option (Bool)
  | 0,_,_,_,_,_=>none
  | k + 1,x3,x4,x5,x6,x8=>if x8 ≤ 6 then ((bellpullref05_All.f k x3 x8).bind fun t881=>(bellpulllaw05_CountSum.l1 k x3 x4 x5 x6 x8 t881 0)) else (some true)
def bellpulllaw05_CountSum.l1:Nat → Int → List (S60) → List (S60) → List (S60) → Int → List (List Int) → Int → Option (Bool)
  | 0,_,_,_,_,_,_,_=>none
  | k + 1,x3,x4,x5,x6,x8,x9,x10=>if x10 < (x9.length:Int) then (bellpulllaw05_CountSum.l2 k x3 x4 x5 x6 x8 x9 x10 false 0) else (bellpulllaw05_CountSum.l0 k x3 x4 x5 x6 (wrap64 (x8 + 1)))
def bellpulllaw05_CountSum.l2:Nat → Int → List (S60) → List (S60) → List (S60) → Int → List (List Int) → Int → Bool → Int → Option (Bool)
  | 0,_,_,_,_,_,_,_,_,_=>none
  | k + 1,x3,x4,x5,x6,x8,x9,x10,x11,x12=>if x12 ≤ x8 then (bellpulllaw05_CountSum.j4 k x3 x4 x5 x6 x8 x9 x10 x11 x12 (!x11)) else (bellpulllaw05_CountSum.j4 k x3 x4 x5 x6 x8 x9 x10 x11 x12 false)
def bellpulllaw05_CountSum.j4:Nat → Int → List (S60) → List (S60) → List (S60) → Int → List (List Int) → Int → Bool → Int → Bool → Option (Bool)
  | 0,_,_,_,_,_,_,_,_,_,_=>none
  | k + 1,x3,x4,x5,x6,x8,x9,x10,x11,x12,x57=>if x57=true then ((bellpullref05_All.f k x3 x12).bind fun t887=>(bellpulllaw05_CountSum.l3 k x3 x4 x5 x6 x8 x9 x10 x11 x12 t887 0)) else (if 0 ≤ x10 then (if x10 < (x9.length:Int) then ((count_Has.f k x3 x6 (rd_L1 x9 x10)).bind fun bt885=>(if bt885.2=0 then (if bt885.1=true then (if x11=true then (bellpulllaw05_CountSum.l1 k x3 x4 x5 x6 x8 x9 (wrap64 (x10 + 1))) else (none)) else (if x11=true then (none) else (bellpulllaw05_CountSum.l1 k x3 x4 x5 x6 x8 x9 (wrap64 (x10 + 1))))) else (none))) else (none)) else (none))
def bellpulllaw05_CountSum.l3:Nat → Int → List (S60) → List (S60) → List (S60) → Int → List (List Int) → Int → Bool → Int → List (List Int) → Int → Option (Bool)
  | 0,_,_,_,_,_,_,_,_,_,_,_=>none
  | k + 1,x3,x4,x5,x6,x8,x9,x10,x11,x12,x13,x14=>if x14 < (x13.length:Int) then (bellpulllaw05_CountSum.j6 k x3 x4 x5 x6 x8 x9 x10 x11 x12 x13 x14 (!x11)) else (bellpulllaw05_CountSum.j6 k x3 x4 x5 x6 x8 x9 x10 x11 x12 x13 x14 false)
def bellpulllaw05_CountSum.j6:Nat → Int → List (S60) → List (S60) → List (S60) → Int → List (List Int) → Int → Bool → Int → List (List Int) → Int → Bool → Option (Bool)
  | 0,_,_,_,_,_,_,_,_,_,_,_,_=>none
  | k + 1,x3,x4,x5,x6,x8,x9,x10,x11,x12,x13,x14,x70=>if x70=true then (if 0 ≤ x10 then (if x10 < (x9.length:Int) then (if 0 ≤ x14 then (if x14 < (x13.length:Int) then ((bellpullref05_Less.f k (rd_L1 x9 x10) (rd_L1 x13 x14)).bind fun bt892=>(if bt892.2=true then ((bellpullref05_Has.f k x4 (rd_L1 x13 x14)).bind fun t897=>(if t897=true then ((bellpullref05_Has.f k x5 bt892.1).bind fun t898=>(bellpulllaw05_CountSum.l3 k x3 x4 x5 x6 x8 x9 x10 t898 x12 x13 (wrap64 (x14 + 1)))) else (bellpulllaw05_CountSum.l3 k x3 x4 x5 x6 x8 x9 x10 false x12 x13 (wrap64 (x14 + 1))))) else (bellpulllaw05_CountSum.l3 k x3 x4 x5 x6 x8 x9 x10 false x12 x13 (wrap64 (x14 + 1))))) else (none)) else (none)) else (none)) else (none)) else (bellpulllaw05_CountSum.l2 k x3 x4 x5 x6 x8 x9 x10 x11 (wrap64 (x12 + 1)))
end
def bellpulllaw05_CountSum.f (k:Nat) (a0_0:Int) (l0_1:List Int) (l0_2:List Int):Option (Bool):=(bellpulllaw05_Plan_sets.f a0_0 l0_1 l0_2 2).bind fun bt869=>((count_Sum.f k bt869.1 bt869.2.1 bt869.2.2).bind fun bt876=>(if bt876.2=0 then ((bellpulllaw05_lives.f k).bind fun t880=>(bellpulllaw05_CountSum.j0 k bt869.1 bt869.2.1 bt869.2.2 bt876.1 (!t880))) else (none)))
def bellpulllaw05_CountSum.T20:Bool × List (List Nat × List Nat):=(true,[([],[]),([],[]),([0,1],[0,1]),([2],[2]),([],[]),([],[]),([4,5],[4,5]),([6],[6]),([3,7],[3,7]),([8],[8]),([9],[9]),([9],[9]),([10,8,0,1,2,3,4,5,6,7,8,9,10],[10]),([11,12,0,1,2,3,4,5,6,7,8,9,10,11,12],[11])])
def bellpulllaw05_CountSum.B20:List Nat:=[0,0,3,7,0,0,48,112,255,511,1023,1023,2047,8191]
theorem bellpulllaw05_CountSum.tab20:rtab .any (opsOf Try.f10 20)=bellpulllaw05_CountSum.T20:=by kernel_rfl
theorem bellpulllaw05_CountSum.bits20:waitsOk bellpulllaw05_CountSum.T20.2 bellpulllaw05_CountSum.B20=true:=by kernel_rfl
set_option maxHeartbeats 8000000 in
set_option maxRecDepth 100000 in
theorem bellpulllaw05_CountSum.calls (k:Nat) (d1:Int) (d5:Option Addr) (d6:Nat) (b3:List Int) (d7:Option Addr) (d8:Nat) (b4:List Int) (r:Bool) (w:World) (p5:Kd.C (Kd.int .u8) w d5 b3.length b3) (p6:b3.length ≤ d6) (p7:Kd.C (Kd.int .u8) w d7 b4.length b4) (p8:b4.length ≤ d8) (h:bellpulllaw05_CountSum.f k d1 b3 b4=some r) :
    Calls Try.prog 10 #[.agg #[.int .u8 d1,.slice d5 b3.length d6,.slice d7 b4.length d8]] w fun e w'=>e=.returned (.bool r)∧Below w.heap.size w w':=by
 have y8:=Try.underlying55;have t5:=mk0 p5;have t6:=mk0 p6;clear p5 p6;have t7:=mk0 p7;have t8:=mk0 p8;clear p7 p8;have Z:=mk0 (Below.refl w.heap.size w);have H:((bellpulllaw05_Plan_sets.f d1 b3 b4 2).bind fun j8=>((count_Sum.f k j8.1 j8.2.1 j8.2.2).bind fun p9=>(if p9.2=0 then ((bellpulllaw05_lives.f k).bind fun o2=>(bellpulllaw05_CountSum.j0 k j8.1 j8.2.1 j8.2.2 p9.1 (!o2))) else (none))))=some r:=h;clear h;replace H:=Option.bind_eq_some_iff.mp H;obtain ⟨⟨a0,G,I⟩,u4,H⟩:=H;(try dsimp only at H);have A2:=mk0 u4;clear u4;replace H:=Option.bind_eq_some_iff.mp H;obtain ⟨⟨a1,o3⟩,u5,H⟩:=H;(try dsimp only at H);have A3:=mk0 u5;clear u5;have r4:=mk0 H;clear H;go_enter Try.func10,Try.ntmps10;go_upto_region 3 with (first|((with_reducible refine gate_dst (N:=1) rfl ?_);refine box_event ?hg (N:=1) ?hd (cs:=#[.int .u8 d1,.slice d5 b3.length d6,.slice d7 b4.length d8]) (t:=55) ?hr ?_;(case hd=>rfl);(case hg=>rfl);(case hr=>first|(go_simp;done)|(go_simp;rfl));intro J hg w5 r5 hb;have D:=mk0 (r5);have t9:=szw hg Z;have b2:=t9;replace Z:=bst Z hb;clear hb r5 hg;have g4:=q0_ D;have g5:=q1_ D;have g6:=q2_ D;have g7:=blk_frozen D.1 0;have g8:=blk_frozen D.1 1;have g9:=blk_frozen D.1 2)|((with_reducible refine gate_callee (f:=33) rfl ?_);refine goesL_ (some 21) rfl rfl Try.func33 (by kernel_rfl) rfl #[.agg #[.int .u8 d1,.slice d5 b3.length d6,.slice d7 b4.length d8],.int .i64 2] rfl (by (try simp only [m0_,m1_,m2_]);first|done|rfl|(simp only [l0_,l1_];rfl)) ?_;(with_reducible refine (bellpulllaw05_Plan_sets.calls d1 _ _ b3 _ _ b4 2 a0 G I _ ?side1 ?side2 ?side3 ?side4 A2.1).mono ?_);(case side1=>repeat (first|exact (Kd.C_below t5.1 Z.1)|(with_reducible refine Kd.C_alloc ?_ _)|(with_reducible refine Kd.C_drewN ?_ _)|(with_reducible refine Kd.C_drew ?_)));(case side2=>exact t6.1);(case side3=>repeat (first|exact (Kd.C_below t7.1 Z.1)|(with_reducible refine Kd.C_alloc ?_ _)|(with_reducible refine Kd.C_drewN ?_ _)|(with_reducible refine Kd.C_drew ?_)));(case side4=>exact t8.1);rintro e w7 ⟨v0,v1,rfl,X,u6,hb⟩;refine ⟨_,rfl,?_⟩;have h9:=mk0 (Kd.N_lower (Kd.N_mono (ok':=fun k_=>some k_ ≠ (v1:Value).ownBlock∧k_ ≠ J) (Kd.R_N (Kd.R_bound X)) (fun k_ hk_=>⟨hk_.1,(Kd.freshB (g:=J) (o:=.cells #[.int .u8 d1,.slice d5 b3.length d6,.slice d7 b4.length d8] 55 (0,0)) D.1 k_ hk_.2.1)⟩)) (below_size Z.1));have i0:=mk0 (Kd.N_lower (Kd.N_mono (ok':=fun k_=>some k_ ≠ (v0:Value).ownBlock∧k_ ≠ J) (Kd.R_N (Kd.R_bound u6)) (fun k_ hk_=>⟨hk_.1,(Kd.freshB (g:=J) (o:=.cells #[.int .u8 d1,.slice d5 b3.length d6,.slice d7 b4.length d8] 55 (0,0)) D.1 k_ hk_.2.1)⟩)) (below_size Z.1));replace D:=bkb D hb;replace Z:=bst Z hb;(try clear hb);(try clear X);(try clear u6);obtain ⟨c7,c8,x6⟩:=Kd.N_slice h9.1;subst x6;obtain ⟨c9,d0,x7⟩:=Kd.N_slice i0.1;subst x7)|((with_reducible refine gate_callee (f:=36) rfl ?_);refine goesL_ (some 29) rfl rfl Try.func36 (by kernel_rfl) rfl #[.int .i64 a0,.slice c7 G.length c8,.slice c9 I.length d0] rfl (by (try simp only [m0_,m1_,m2_]);first|done|rfl|(simp only [l0_,l1_];rfl)) ?_;(with_reducible refine (count_Sum.calls k a0 (fun k_=>(some k_ ≠ (.slice c9 I.length d0:Value).ownBlock∧k_ ≠ J)) _ _ G (fun k_=>(some k_ ≠ (.slice c7 G.length c8:Value).ownBlock∧k_ ≠ J)) _ _ I a1 o3 _ ?side1 ?side2 A3.1).mono ?_);(case side1=>exact Kd.N_V (h9.1));(case side2=>exact Kd.N_V (i0.1));rintro e A8 ⟨l5,rfl,X,hb⟩;refine ⟨_,rfl,?_⟩;have o4:=mk0 (Kd.V_lower (Kd.V_mono (ok':=fun k_=>k_ ≠ J) X (fun k_ hk_=>Or.elim hk_ (fun hs_=>Or.elim hs_ (fun hs_=>hs_.2) (fun hs_=>hs_.2)) (fun hn_=>(Kd.freshB (g:=J) (o:=.cells #[.int .u8 d1,.slice d5 b3.length d6,.slice d7 b4.length d8] 55 (0,0)) D.1 k_ hn_)))) (below_size Z.1));replace h9:=mk0 (Kd.N_below h9.1 hb);replace i0:=mk0 (Kd.N_below i0.1 hb);replace D:=bkb D hb;replace Z:=bst Z hb;(try clear hb);(try clear X)))
 (try simp only [Act.put,s0_,s1_,s2_])
 go_cut [37] (fun x8 wc=>∃ (kq:Nat) (m4:Bool),x8=.bool m4∧Aside0 (bellpulllaw05_CountSum.j0 kq a0 G I a1 m4=some r)∧Aside0 (kq ≤ k)∧Aside0 (Kd.N k60 60 wc w.heap.size (fun k_=>some k_ ≠ ((.slice c9 I.length d0):Value).ownBlock∧k_ ≠ J) (.slice c7 G.length c8) G)∧Aside0 (Kd.N k60 60 wc w.heap.size (fun k_=>some k_ ≠ ((.slice c7 G.length c8):Value).ownBlock∧k_ ≠ J) (.slice c9 I.length d0) I)∧Aside0 (Kd.V k60 60 wc w.heap.size (fun k_=>k_ ≠ J) l5 a1)∧Aside0 (wc.heap[J]?=some (.cells #[.int .u8 d1,(.slice d5 b3.length d6),(.slice d7 b4.length d8)] 55 (0,0)))∧Aside0 (Below w.heap.size w wc))
 case first =>
  have H:=r4.1;clear r4
  by_cases c11:o3=0
  ·
   rw [if_pos c11] at H;have c11b0:(o3 == 0)=true:=beq_iff_eq.mpr c11;have c11b1:(o3 != 0)=false:=bne_eq_false_iff_eq.mpr c11;clear c11;(first|rw [c11b0]|(simp only [i64_w,i32_w];rw [c11b0])|skip);replace H:=Option.bind_eq_some_iff.mp H;obtain ⟨o2,r6,H⟩:=H;(try dsimp only at H);have x9:=mk0 r6;clear r6;have H':=mk0 H;clear H;go_wp2_with (first|(go_at_call 22;(with_reducible refine (bellpulllaw05_lives.calls k  o2 _ x9.1).mono ?_);rintro e A9 ⟨rfl,hb⟩;replace h9:=mk0 (Kd.N_below h9.1 hb);replace i0:=mk0 (Kd.N_below i0.1 hb);replace o4:=mk0 (Kd.V_below o4.1 hb);replace D:=bkb D hb;replace Z:=bst Z hb;(try clear hb)));go_meet
   case rel=>exact ⟨_,(!o2),(by first|rfl|(simp;done)|(simp [*];done)),H',⟨by first|omega|exact Nat.le_refl _⟩,⟨by exact h9.1⟩,⟨by exact i0.1⟩,⟨by exact o4.1⟩,⟨by exact D.1⟩,⟨by repeat (first|(with_reducible first|exact Z.1|apply below_alloc|apply pw_below_drewN|apply below_drew1|refine below_set ?_ b2.1)|exact Z.1)⟩⟩
  ·
   rw [if_neg c11] at H;exact absurd H (by simp)
 case rest =>
  clear r4;try clear c1
  try clear p2
  try clear c3
  try clear c10
  try clear c11
  try clear c11b0
  try clear c11b1
  try clear g4
  try clear g5
  try clear g6
  try clear g7
  try clear g8
  try clear g9
  obtain ⟨kq,m4,rfl,HA,e9,O,Q,R,D,Z⟩:=hcut;cases kq with
  | zero=>exact absurd HA.1 (by simp [bellpulllaw05_CountSum.j0])
  | succ kj3 =>
   have H:=HA.1;clear HA;simp only [bellpulllaw05_CountSum.j0] at H
   by_cases j9:m4=true
   ·
    subst j9;have H1:(none)=some r:=by rw [if_pos rfl] at H;exact H
    clear H;have H:=H1;clear H1;exact absurd H (by simp)
   ·
    replace j9:=Bool.eq_false_iff.mpr j9;subst j9;have H1:(bellpulllaw05_CountSum.l0 kj3 a0 G I a1 0)=some r:=by rw [if_neg (show ¬ (false=true) by decide)] at H;exact H
    clear H;have H:=H1;clear H1;have H':=mk0 H;clear H;go_wp2
    go_loopg [8] kj3 (fun kq v8 w'=>∃ (a4:Int),v8=.int .i64 a4∧Aside0 (bellpulllaw05_CountSum.l0 kq a0 G I a1 a4=some r)∧Aside0 (kq ≤ kj3)∧Aside0 (Kd.N k60 60 w' w.heap.size (fun k_=>some k_ ≠ ((.slice c9 I.length d0):Value).ownBlock∧k_ ≠ J) (.slice c7 G.length c8) G)∧Aside0 (Kd.N k60 60 w' w.heap.size (fun k_=>some k_ ≠ ((.slice c7 G.length c8):Value).ownBlock∧k_ ≠ J) (.slice c9 I.length d0) I)∧Aside0 (Kd.V k60 60 w' w.heap.size (fun k_=>k_ ≠ J) l5 a1)∧Aside0 (w'.heap[J]?=some (.cells #[.int .u8 d1,(.slice d5 b3.length d6),(.slice d7 b4.length d8)] 55 (0,0)))∧Aside0 (Below w.heap.size w w'))
    case atStart=>exact ⟨(0),(by first|rfl|(simp;done)|(simp [*];done)),H',⟨Nat.le_refl _⟩,⟨by exact O.1⟩,⟨by exact Q.1⟩,⟨by exact R.1⟩,⟨by exact D.1⟩,⟨by repeat (first|(with_reducible first|exact Z.1|apply below_alloc|apply pw_below_drewN|apply below_drew1|refine below_set ?_ b2.1)|exact Z.1)⟩⟩
    case round =>
     clear H';try clear c1
     try clear p2
     try clear c3
     try clear c10
     try clear c11
     try clear c11b0
     try clear c11b1
     try clear j9
     try clear g4
     try clear g5
     try clear g6
     try clear g7
     try clear g8
     try clear g9
     try clear p2
     obtain ⟨a4,rfl,HA,f0,O,Q,R,D,Z⟩:=hrel;cases gk with
     | zero=>exact absurd HA.1 (by simp [bellpulllaw05_CountSum.l0])
     | succ k2 =>
      have H:=HA.1;clear HA;simp only [bellpulllaw05_CountSum.l0] at H
      by_cases c15:a4 ≤ 6
      ·
       rw [if_pos c15] at H;have c15b0:decide (a4 ≤ 6)=true:=decide_eq_true c15;clear c15;replace H:=Option.bind_eq_some_iff.mp H;obtain ⟨F,r7,H⟩:=H;(try dsimp only at H);have y0:=mk0 r7;clear r7;have H':=mk0 H;clear H;go_wp2_with (first|((with_reducible refine gate_callee (f:=37) rfl ?_);refine goesL_ (some 44) rfl rfl Try.func37 (by kernel_rfl) rfl #[.int .i64 a0,.int .i64 a4] rfl (by (try simp only [m0_,m1_,m2_]);first|done|rfl|(simp only [l0_,l1_];rfl)) ?_;(with_reducible refine (bellpullref05_All.calls k2 a0 a4 F _ y0.1).mono ?_);rintro e B0 ⟨o5,rfl,X,hb⟩;refine ⟨_,rfl,?_⟩;have u0:=mk0 (Kd.N_lower (Kd.N_mono (ok':=fun k_=>some k_ ≠ (.slice c7 G.length c8:Value).ownBlock∧some k_ ≠ (.slice c9 I.length d0:Value).ownBlock∧k_ ≠ J) X (fun k_ hk_=>⟨(Kd.fresh' (Kd.N_lt O.1) k_ hk_),(Kd.fresh' (Kd.N_lt Q.1) k_ hk_),(Kd.freshB (g:=J) (o:=.cells #[.int .u8 d1,.slice d5 b3.length d6,.slice d7 b4.length d8] 55 (0,0)) D.1 k_ hk_)⟩)) (below_size Z.1));replace O:=mk0 (Kd.N_elder' O.1 (by first|exact Kd.N_base X|exact Kd.S_base X|exact Kd.R_base X) hb);replace Q:=mk0 (Kd.N_elder' Q.1 (by first|exact Kd.N_base X|exact Kd.S_base X|exact Kd.R_base X) hb);replace R:=mk0 (Kd.V_elder' R.1 (by first|exact Kd.N_base X|exact Kd.S_base X|exact Kd.R_base X) hb);replace D:=bkb D hb;replace Z:=bst Z hb;(try clear hb);(try clear X)))
       go_loopg [10] k2 (fun kq y1 w'=>∃ (B:Int),y1=.int .i64 B∧Aside0 (bellpulllaw05_CountSum.l1 kq a0 G I a1 a4 F B=some r)∧Aside0 (kq ≤ k2)∧Aside0 (Kd.N k60 60 w' w.heap.size (fun k_=>some k_ ≠ ((.slice c9 I.length d0):Value).ownBlock∧some k_ ≠ (o5:Value).ownBlock∧k_ ≠ J) (.slice c7 G.length c8) G)∧Aside0 (Kd.N k60 60 w' w.heap.size (fun k_=>some k_ ≠ ((.slice c7 G.length c8):Value).ownBlock∧some k_ ≠ (o5:Value).ownBlock∧k_ ≠ J) (.slice c9 I.length d0) I)∧Aside0 (Kd.V k60 60 w' w.heap.size (fun k_=>some k_ ≠ (o5:Value).ownBlock∧k_ ≠ J) l5 a1)∧Aside0 (Kd.N (Kd.slice 3 (Kd.int .i64)) 23 w' w.heap.size (fun k_=>some k_ ≠ ((.slice c7 G.length c8):Value).ownBlock∧some k_ ≠ ((.slice c9 I.length d0):Value).ownBlock∧k_ ≠ J) o5 F)∧Aside0 (w'.heap[J]?=some (.cells #[.int .u8 d1,(.slice d5 b3.length d6),(.slice d7 b4.length d8)] 55 (0,0)))∧Aside0 (Below w.heap.size w w'))
       case atStart=>exact ⟨(0),(by first|rfl|(simp;done)|(simp [*];done)),H',⟨Nat.le_refl _⟩,⟨by exact Kd.N_mono O.1 (fun _ hk=>⟨hk.1.1,⟨hk.2,hk.1.2⟩⟩)⟩,⟨by exact Kd.N_mono Q.1 (fun _ hk=>⟨hk.1.1,⟨hk.2,hk.1.2⟩⟩)⟩,⟨by exact Kd.V_mono R.1 (fun _ hk=>⟨hk.2,hk.1⟩)⟩,⟨by exact u0.1⟩,⟨by exact D.1⟩,⟨by repeat (first|(with_reducible first|exact Z.1|apply below_alloc|apply pw_below_drewN|apply below_drew1|refine below_set ?_ b2.1)|exact Z.1)⟩⟩
       case round =>
        clear H';try clear c1
        try clear p2
        try clear c3
        try clear c10
        try clear c11
        try clear c11b0
        try clear c11b1
        try clear j9
        try clear c15
        try clear c15b0
        try clear g4
        try clear g5
        try clear g6
        try clear g7
        try clear g8
        try clear g9
        try clear p2
        obtain ⟨B,rfl,HA,f1,O,Q,R,L,D,Z⟩:=hrel;cases gk with
        | zero=>exact absurd HA.1 (by simp [bellpulllaw05_CountSum.l1])
        | succ k3 =>
         have H:=HA.1;clear HA;simp only [bellpulllaw05_CountSum.l1] at H
         by_cases c18:B < (F.length:Int)
         ·
          rw [if_pos c18] at H;have c18b0:decide (B < (F.length:Int))=true:=decide_eq_true c18;clear c18;have H':=mk0 H;clear H;obtain ⟨c6,b5,v2⟩:=Kd.N_slice L.1;subst v2;go_wp2
          go_loopg [11,12] k3 (fun kq r8 y2 w'=>∃ (d2:Bool) (a7:Int),r8=.bool d2∧y2=.int .i64 a7∧Aside0 (bellpulllaw05_CountSum.l2 kq a0 G I a1 a4 F B d2 a7=some r)∧Aside0 (kq ≤ k3)∧Aside0 (Kd.N k60 60 w' w.heap.size (fun k_=>some k_ ≠ ((.slice c9 I.length d0):Value).ownBlock∧some k_ ≠ ((.slice c6 F.length b5):Value).ownBlock∧k_ ≠ J) (.slice c7 G.length c8) G)∧Aside0 (Kd.N k60 60 w' w.heap.size (fun k_=>some k_ ≠ ((.slice c7 G.length c8):Value).ownBlock∧some k_ ≠ ((.slice c6 F.length b5):Value).ownBlock∧k_ ≠ J) (.slice c9 I.length d0) I)∧Aside0 (Kd.V k60 60 w' w.heap.size (fun k_=>some k_ ≠ ((.slice c6 F.length b5):Value).ownBlock∧k_ ≠ J) l5 a1)∧Aside0 (Kd.N (Kd.slice 3 (Kd.int .i64)) 23 w' w.heap.size (fun k_=>some k_ ≠ ((.slice c7 G.length c8):Value).ownBlock∧some k_ ≠ ((.slice c9 I.length d0):Value).ownBlock∧k_ ≠ J) (.slice c6 F.length b5) F)∧Aside0 (w'.heap[J]?=some (.cells #[.int .u8 d1,(.slice d5 b3.length d6),(.slice d7 b4.length d8)] 55 (0,0)))∧Aside0 (Below w.heap.size w w'))
          case atStart=>exact ⟨(false),(0),(by first|rfl|(simp;done)|(simp [*];done)),(by first|rfl|(simp;done)|(simp [*];done)),H',⟨Nat.le_refl _⟩,⟨by exact O.1⟩,⟨by exact Q.1⟩,⟨by exact R.1⟩,⟨by exact L.1⟩,⟨by exact D.1⟩,⟨by repeat (first|(with_reducible first|exact Z.1|apply below_alloc|apply pw_below_drewN|apply below_drew1|refine below_set ?_ b2.1)|exact Z.1)⟩⟩
          case round =>
           clear H';try clear c1
           try clear p2
           try clear c3
           try clear c10
           try clear c11
           try clear c11b0
           try clear c11b1
           try clear j9
           try clear c15
           try clear c15b0
           try clear c18
           try clear c18b0
           try clear g4
           try clear g5
           try clear g6
           try clear g7
           try clear g8
           try clear g9
           try clear p2
           obtain ⟨d2,a7,rfl,rfl,HA,g3,O,Q,R,L,D,Z⟩:=hrel;cases gk with
           | zero=>exact absurd HA.1 (by simp [bellpulllaw05_CountSum.l2])
           | succ k4 =>
            have H:=HA.1;clear HA;simp only [bellpulllaw05_CountSum.l2] at H;have p0:=mk0 H;clear H;go_upto_region 14 with (fail)
            go_cut [57] (fun y3 wc=>∃ (kq:Nat) (l6:Bool),y3=.bool l6∧Aside0 (bellpulllaw05_CountSum.j4 kq a0 G I a1 a4 F B d2 a7 l6=some r)∧Aside0 (kq ≤ k4)∧Aside0 (Kd.N k60 60 wc w.heap.size (fun k_=>some k_ ≠ ((.slice c9 I.length d0):Value).ownBlock∧some k_ ≠ ((.slice c6 F.length b5):Value).ownBlock∧k_ ≠ J) (.slice c7 G.length c8) G)∧Aside0 (Kd.N k60 60 wc w.heap.size (fun k_=>some k_ ≠ ((.slice c7 G.length c8):Value).ownBlock∧some k_ ≠ ((.slice c6 F.length b5):Value).ownBlock∧k_ ≠ J) (.slice c9 I.length d0) I)∧Aside0 (Kd.V k60 60 wc w.heap.size (fun k_=>some k_ ≠ ((.slice c6 F.length b5):Value).ownBlock∧k_ ≠ J) l5 a1)∧Aside0 (Kd.N (Kd.slice 3 (Kd.int .i64)) 23 wc w.heap.size (fun k_=>some k_ ≠ ((.slice c7 G.length c8):Value).ownBlock∧some k_ ≠ ((.slice c9 I.length d0):Value).ownBlock∧k_ ≠ J) (.slice c6 F.length b5) F)∧Aside0 (wc.heap[J]?=some (.cells #[.int .u8 d1,(.slice d5 b3.length d6),(.slice d7 b4.length d8)] 55 (0,0)))∧Aside0 (Below w.heap.size w wc))
            case first =>
             have H:=p0.1;clear p0
             by_cases c21:a7 ≤ a4
             ·
              rw [if_pos c21] at H;have c21b0:decide (a7 ≤ a4)=true:=decide_eq_true c21;clear c21;(first|rw [c21b0]|(simp only [i64_w,i32_w];rw [c21b0])|skip);have H':=mk0 H;clear H;go_wp2;go_meet
              case rel=>exact ⟨_,(!d2),(by first|rfl|(simp;done)|(simp [*];done)),H',⟨by have:=e9.1;have:=f0.1;have:=f1.1;have:=g3.1;first|omega|exact Nat.le_refl _⟩,⟨by exact O.1⟩,⟨by exact Q.1⟩,⟨by exact R.1⟩,⟨by exact L.1⟩,⟨by exact D.1⟩,⟨by repeat (first|(with_reducible first|exact Z.1|apply below_alloc|apply pw_below_drewN|apply below_drew1|refine below_set ?_ b2.1)|exact Z.1)⟩⟩
             ·
              rw [if_neg c21] at H;have c21b0:decide (a7 ≤ a4)=false:=decide_eq_false c21;clear c21;(first|rw [c21b0]|(simp only [i64_w,i32_w];rw [c21b0])|skip);have H':=mk0 H;clear H;go_wp2;go_meet
              case rel=>exact ⟨_,(false),(by first|rfl|(simp;done)|(simp [*];done)),H',⟨by have:=e9.1;have:=f0.1;have:=f1.1;have:=g3.1;first|omega|exact Nat.le_refl _⟩,⟨by exact O.1⟩,⟨by exact Q.1⟩,⟨by exact R.1⟩,⟨by exact L.1⟩,⟨by exact D.1⟩,⟨by repeat (first|(with_reducible first|exact Z.1|apply below_alloc|apply pw_below_drewN|apply below_drew1|refine below_set ?_ b2.1)|exact Z.1)⟩⟩
            case rest =>
             clear p0;try clear c1
             try clear c2
             try clear p2
             try clear c3
             try clear c10
             try clear c11
             try clear c11b0
             try clear c11b1
             try clear j9
             try clear c15
             try clear c15b0
             try clear c18
             try clear c18b0
             try clear c21
             try clear c21b0
             try clear g4
             try clear g5
             try clear g6
             try clear g7
             try clear g8
             try clear g9
             try clear p2
             obtain ⟨kq,l6,rfl,HA,e3,O,Q,R,L,D,Z⟩:=hcut;cases kq with
             | zero=>exact absurd HA.1 (by simp [bellpulllaw05_CountSum.j4])
             | succ kj19 =>
              have H:=HA.1;clear HA;simp only [bellpulllaw05_CountSum.j4] at H
              by_cases n7:l6=true
              ·
               subst n7;have H1:((bellpullref05_All.f kj19 a0 a7).bind fun Y=>(bellpulllaw05_CountSum.l3 kj19 a0 G I a1 a4 F B d2 a7 Y 0))=some r:=by rw [if_pos rfl] at H;exact H
               clear H;have H:=H1;clear H1;replace H:=Option.bind_eq_some_iff.mp H;obtain ⟨Y,r9,H⟩:=H;(try dsimp only at H);have y4:=mk0 r9;clear r9;have H':=mk0 H;clear H;go_wp2_with (first|((with_reducible refine gate_callee (f:=37) rfl ?_);refine goesL_ (some 62) rfl rfl Try.func37 (by kernel_rfl) rfl #[.int .i64 a0,.int .i64 a7] rfl (by (try simp only [m0_,m1_,m2_]);first|done|rfl|(simp only [l0_,l1_];rfl)) ?_;(with_reducible refine (bellpullref05_All.calls kj19 a0 a7 Y _ y4.1).mono ?_);rintro e B1 ⟨h0,rfl,X,hb⟩;refine ⟨_,rfl,?_⟩;have u1:=mk0 (Kd.N_lower (Kd.N_mono (ok':=fun k_=>some k_ ≠ (.slice c7 G.length c8:Value).ownBlock∧some k_ ≠ (.slice c9 I.length d0:Value).ownBlock∧some k_ ≠ (.slice c6 F.length b5:Value).ownBlock∧k_ ≠ J) X (fun k_ hk_=>⟨(Kd.fresh' (Kd.N_lt O.1) k_ hk_),(Kd.fresh' (Kd.N_lt Q.1) k_ hk_),(Kd.fresh' (Kd.N_lt L.1) k_ hk_),(Kd.freshB (g:=J) (o:=.cells #[.int .u8 d1,.slice d5 b3.length d6,.slice d7 b4.length d8] 55 (0,0)) D.1 k_ hk_)⟩)) (below_size Z.1));replace O:=mk0 (Kd.N_elder' O.1 (by first|exact Kd.N_base X|exact Kd.S_base X|exact Kd.R_base X) hb);replace Q:=mk0 (Kd.N_elder' Q.1 (by first|exact Kd.N_base X|exact Kd.S_base X|exact Kd.R_base X) hb);replace R:=mk0 (Kd.V_elder' R.1 (by first|exact Kd.N_base X|exact Kd.S_base X|exact Kd.R_base X) hb);replace L:=mk0 (Kd.N_elder' L.1 (by first|exact Kd.N_base X|exact Kd.S_base X|exact Kd.R_base X) hb);replace D:=bkb D hb;replace Z:=bst Z hb;(try clear hb);(try clear X)))
               go_loopg [11,14] kj19 (fun kq r8 y5 w'=>∃ (i1:Bool) (E:Int),r8=.bool i1∧y5=.int .i64 E∧Aside0 (bellpulllaw05_CountSum.l3 kq a0 G I a1 a4 F B i1 a7 Y E=some r)∧Aside0 (kq ≤ kj19)∧Aside0 (Kd.N k60 60 w' w.heap.size (fun k_=>some k_ ≠ ((.slice c9 I.length d0):Value).ownBlock∧some k_ ≠ ((.slice c6 F.length b5):Value).ownBlock∧some k_ ≠ (h0:Value).ownBlock∧k_ ≠ J) (.slice c7 G.length c8) G)∧Aside0 (Kd.N k60 60 w' w.heap.size (fun k_=>some k_ ≠ ((.slice c7 G.length c8):Value).ownBlock∧some k_ ≠ ((.slice c6 F.length b5):Value).ownBlock∧some k_ ≠ (h0:Value).ownBlock∧k_ ≠ J) (.slice c9 I.length d0) I)∧Aside0 (Kd.V k60 60 w' w.heap.size (fun k_=>some k_ ≠ ((.slice c6 F.length b5):Value).ownBlock∧some k_ ≠ (h0:Value).ownBlock∧k_ ≠ J) l5 a1)∧Aside0 (Kd.N (Kd.slice 3 (Kd.int .i64)) 23 w' w.heap.size (fun k_=>some k_ ≠ ((.slice c7 G.length c8):Value).ownBlock∧some k_ ≠ ((.slice c9 I.length d0):Value).ownBlock∧some k_ ≠ (h0:Value).ownBlock∧k_ ≠ J) (.slice c6 F.length b5) F)∧Aside0 (Kd.N (Kd.slice 3 (Kd.int .i64)) 23 w' w.heap.size (fun k_=>some k_ ≠ ((.slice c7 G.length c8):Value).ownBlock∧some k_ ≠ ((.slice c9 I.length d0):Value).ownBlock∧some k_ ≠ ((.slice c6 F.length b5):Value).ownBlock∧k_ ≠ J) h0 Y)∧Aside0 (w'.heap[J]?=some (.cells #[.int .u8 d1,(.slice d5 b3.length d6),(.slice d7 b4.length d8)] 55 (0,0)))∧Aside0 (Below w.heap.size w w'))
               case atStart=>exact ⟨(d2),(0),(by first|rfl|(simp;done)|(simp [*];done)),(by first|rfl|(simp;done)|(simp [*];done)),H',⟨Nat.le_refl _⟩,⟨by exact Kd.N_mono O.1 (fun _ hk=>⟨hk.1.1,⟨hk.1.2.1,⟨hk.2,hk.1.2.2⟩⟩⟩)⟩,⟨by exact Kd.N_mono Q.1 (fun _ hk=>⟨hk.1.1,⟨hk.1.2.1,⟨hk.2,hk.1.2.2⟩⟩⟩)⟩,⟨by exact Kd.V_mono R.1 (fun _ hk=>⟨hk.1.1,⟨hk.2,hk.1.2⟩⟩)⟩,⟨by exact Kd.N_mono L.1 (fun _ hk=>⟨hk.1.1,⟨hk.1.2.1,⟨hk.2,hk.1.2.2⟩⟩⟩)⟩,⟨by exact u1.1⟩,⟨by exact D.1⟩,⟨by repeat (first|(with_reducible first|exact Z.1|apply below_alloc|apply pw_below_drewN|apply below_drew1|refine below_set ?_ b2.1)|exact Z.1)⟩⟩
               case round =>
                clear H';try clear c1
                try clear c2
                try clear p2
                try clear c3
                try clear c10
                try clear c11
                try clear c11b0
                try clear c11b1
                try clear j9
                try clear c15
                try clear c15b0
                try clear c18
                try clear c18b0
                try clear c21
                try clear c21b0
                try clear n7
                try clear g4
                try clear g5
                try clear g6
                try clear g7
                try clear g8
                try clear g9
                try clear p2
                obtain ⟨i1,E,rfl,rfl,HA,l4,O,Q,R,L,M,D,Z⟩:=hrel;cases gk with
                | zero=>exact absurd HA.1 (by simp [bellpulllaw05_CountSum.l3])
                | succ k6 =>
                 have H:=HA.1;clear HA;simp only [bellpulllaw05_CountSum.l3] at H;have p1:=mk0 H;clear H;go_upto_region 18 with (fail)
                 go_cut [70] (fun y6 wc=>∃ (kq:Nat) (l7:Bool),y6=.bool l7∧Aside0 (bellpulllaw05_CountSum.j6 kq a0 G I a1 a4 F B i1 a7 Y E l7=some r)∧Aside0 (kq ≤ k6)∧Aside0 (Kd.N k60 60 wc w.heap.size (fun k_=>some k_ ≠ ((.slice c9 I.length d0):Value).ownBlock∧some k_ ≠ ((.slice c6 F.length b5):Value).ownBlock∧some k_ ≠ (h0:Value).ownBlock∧k_ ≠ J) (.slice c7 G.length c8) G)∧Aside0 (Kd.N k60 60 wc w.heap.size (fun k_=>some k_ ≠ ((.slice c7 G.length c8):Value).ownBlock∧some k_ ≠ ((.slice c6 F.length b5):Value).ownBlock∧some k_ ≠ (h0:Value).ownBlock∧k_ ≠ J) (.slice c9 I.length d0) I)∧Aside0 (Kd.V k60 60 wc w.heap.size (fun k_=>some k_ ≠ ((.slice c6 F.length b5):Value).ownBlock∧some k_ ≠ (h0:Value).ownBlock∧k_ ≠ J) l5 a1)∧Aside0 (Kd.N (Kd.slice 3 (Kd.int .i64)) 23 wc w.heap.size (fun k_=>some k_ ≠ ((.slice c7 G.length c8):Value).ownBlock∧some k_ ≠ ((.slice c9 I.length d0):Value).ownBlock∧some k_ ≠ (h0:Value).ownBlock∧k_ ≠ J) (.slice c6 F.length b5) F)∧Aside0 (Kd.N (Kd.slice 3 (Kd.int .i64)) 23 wc w.heap.size (fun k_=>some k_ ≠ ((.slice c7 G.length c8):Value).ownBlock∧some k_ ≠ ((.slice c9 I.length d0):Value).ownBlock∧some k_ ≠ ((.slice c6 F.length b5):Value).ownBlock∧k_ ≠ J) h0 Y)∧Aside0 (wc.heap[J]?=some (.cells #[.int .u8 d1,(.slice d5 b3.length d6),(.slice d7 b4.length d8)] 55 (0,0)))∧Aside0 (Below w.heap.size w wc))
                 case first =>
                  have H:=p1.1;clear p1
                  by_cases c26:E < (Y.length:Int)
                  ·
                   rw [if_pos c26] at H;have c26b0:decide (E < (Y.length:Int))=true:=decide_eq_true c26;clear c26;(first|rw [c26b0]|(simp only [i64_w,i32_w];rw [c26b0])|skip);have H':=mk0 H;clear H;obtain ⟨z2,z3,v3⟩:=Kd.N_slice M.1;subst v3;go_wp2;go_meet
                   case rel=>exact ⟨_,(!i1),(by first|rfl|(simp;done)|(simp [*];done)),H',⟨by have:=e9.1;have:=f0.1;have:=f1.1;have:=g3.1;have:=e3.1;have:=l4.1;first|omega|exact Nat.le_refl _⟩,⟨by exact O.1⟩,⟨by exact Q.1⟩,⟨by exact R.1⟩,⟨by exact L.1⟩,⟨by exact M.1⟩,⟨by exact D.1⟩,⟨by repeat (first|(with_reducible first|exact Z.1|apply below_alloc|apply pw_below_drewN|apply below_drew1|refine below_set ?_ b2.1)|exact Z.1)⟩⟩
                  ·
                   rw [if_neg c26] at H;have c26b0:decide (E < (Y.length:Int))=false:=decide_eq_false c26;clear c26;(first|rw [c26b0]|(simp only [i64_w,i32_w];rw [c26b0])|skip);have H':=mk0 H;clear H;obtain ⟨z4,z5,v4⟩:=Kd.N_slice M.1;subst v4;go_wp2;go_meet
                   case rel=>exact ⟨_,(false),(by first|rfl|(simp;done)|(simp [*];done)),H',⟨by have:=e9.1;have:=f0.1;have:=f1.1;have:=g3.1;have:=e3.1;have:=l4.1;first|omega|exact Nat.le_refl _⟩,⟨by exact O.1⟩,⟨by exact Q.1⟩,⟨by exact R.1⟩,⟨by exact L.1⟩,⟨by exact M.1⟩,⟨by exact D.1⟩,⟨by repeat (first|(with_reducible first|exact Z.1|apply below_alloc|apply pw_below_drewN|apply below_drew1|refine below_set ?_ b2.1)|exact Z.1)⟩⟩
                 case rest =>
                  clear p1;try clear c1
                  try clear c2
                  try clear p2
                  try clear c3
                  try clear c10
                  try clear c11
                  try clear c11b0
                  try clear c11b1
                  try clear j9
                  try clear c15
                  try clear c15b0
                  try clear c18
                  try clear c18b0
                  try clear c21
                  try clear c21b0
                  try clear n7
                  try clear c26
                  try clear c26b0
                  try clear g4
                  try clear g5
                  try clear g6
                  try clear g7
                  try clear g8
                  try clear g9
                  try clear p2
                  obtain ⟨kq,l7,rfl,HA,i7,O,Q,R,L,M,D,Z⟩:=hcut;cases kq with
                  | zero=>exact absurd HA.1 (by simp [bellpulllaw05_CountSum.j6])
                  | succ kj24 =>
                   have H:=HA.1;clear HA;simp only [bellpulllaw05_CountSum.j6] at H
                   by_cases q0:l7=true
                   ·
                    subst q0;have H1:(if 0 ≤ B then (if B < (F.length:Int) then (if 0 ≤ E then (if E < (Y.length:Int) then ((bellpullref05_Less.f kj24 (rd_L1 F B) (rd_L1 Y E)).bind fun q1=>(if q1.2=true then ((bellpullref05_Has.f kj24 G (rd_L1 Y E)).bind fun m5=>(if m5=true then ((bellpullref05_Has.f kj24 I q1.1).bind fun i8=>(bellpulllaw05_CountSum.l3 kj24 a0 G I a1 a4 F B i8 a7 Y (wrap64 (E + 1)))) else (bellpulllaw05_CountSum.l3 kj24 a0 G I a1 a4 F B false a7 Y (wrap64 (E + 1))))) else (bellpulllaw05_CountSum.l3 kj24 a0 G I a1 a4 F B false a7 Y (wrap64 (E + 1))))) else (none)) else (none)) else (none)) else (none))=some r:=by rw [if_pos rfl] at H;exact H
                    clear H;have H:=H1;clear H1
                    by_cases c30:0 ≤ B
                    ·
                     rw [if_pos c30] at H;have c30b0:decide (0 ≤ B)=true:=decide_eq_true c30;clear c30
                     by_cases c31:B < (F.length:Int)
                     ·
                      rw [if_pos c31] at H;have c31b0:decide (B < (F.length:Int))=true:=decide_eq_true c31;clear c31
                      by_cases c32:0 ≤ E
                      ·
                       rw [if_pos c32] at H;have c32b0:decide (0 ≤ E)=true:=decide_eq_true c32;clear c32
                       by_cases c33:E < (Y.length:Int)
                       ·
                        rw [if_pos c33] at H;have c33b0:decide (E < (Y.length:Int))=true:=decide_eq_true c33;clear c33;replace H:=Option.bind_eq_some_iff.mp H;obtain ⟨⟨l9,v5⟩,s2,H⟩:=H;(try dsimp only at H);have s3:=mk0 s2;clear s2
                        by_cases q2:v5=true
                        ·
                         subst q2;have H1:((bellpullref05_Has.f kj24 G (rd_L1 Y E)).bind fun m5=>(if m5=true then ((bellpullref05_Has.f kj24 I l9).bind fun i8=>(bellpulllaw05_CountSum.l3 kj24 a0 G I a1 a4 F B i8 a7 Y (wrap64 (E + 1)))) else (bellpulllaw05_CountSum.l3 kj24 a0 G I a1 a4 F B false a7 Y (wrap64 (E + 1)))))=some r:=by rw [if_pos rfl] at H;exact H
                         clear H;have H:=H1;clear H1;replace H:=Option.bind_eq_some_iff.mp H;obtain ⟨m5,s4,H⟩:=H;(try dsimp only at H);have u7:=mk0 s4;clear s4
                         by_cases q3:m5=true
                         ·
                          subst q3;have H1:((bellpullref05_Has.f kj24 I l9).bind fun i8=>(bellpulllaw05_CountSum.l3 kj24 a0 G I a1 a4 F B i8 a7 Y (wrap64 (E + 1))))=some r:=by rw [if_pos rfl] at H;exact H
                          clear H;have H:=H1;clear H1;replace H:=Option.bind_eq_some_iff.mp H;obtain ⟨i8,s5,H⟩:=H;(try dsimp only at H);have y7:=mk0 s5;clear s5;have H':=mk0 H;clear H;try go_wp2
                          replace O:=mk0 (Kd.N_drew O.1);replace Q:=mk0 (Kd.N_drew Q.1);replace R:=mk0 (Kd.V_drew R.1);replace L:=mk0 (Kd.N_drew L.1);replace M:=mk0 (Kd.N_drew M.1);replace D:=bdr D;replace Z:=hdr Z;have e4:0 ≤ (B:Int):=of_decide_eq_true (by assumption);have e5:B < (F.length:Int):=of_decide_eq_true (by assumption);obtain ⟨l8,f7,f8,m6,b6,d9,e0⟩:=at_L1 (Kd.N_reads' L.1).2.2 B e4 e5;cases m6;obtain ⟨q4,i9,j1,f9⟩:=Kd.N_get L.1 [] B e4 (by first|exact e5|exact of_decide_eq_true (by assumption)|(have e_:=(Kd.N_reads' L.1).1;omega));obtain ⟨n8,n9,rfl,b7,b8⟩:=Kd.FK_slice_open j1;have a8:=f9 0 _ rfl;rw [Nat.add_zero,show ((Kd.slice 3 (Kd.int .i64))).sz=1 from rfl,Nat.mul_one] at a8;replace a8:=Option.some.inj (a8.symm.trans b6);injection a8 with hva_ hvn_ hvc_;rw [hva_] at b8;rw [hvc_] at b7;have a5:=mk0 (show Kd.V (Kd.int .i64) 3 _ w.heap.size _ _ (rd_L1 F B) from Kd.V_mk b7 b8);clear hva_ hvn_ hvc_ b8 b7;clear f9 i9;have T:=mk0 e0;have h1:=mk0 d9;clear e0 d9;replace e4:=eq_true e4;replace e5:=eq_true e5;obtain ⟨z6,z7,s6⟩:=Kd.N_slice M.1;(first|subst s6|(injection s6 with f1_ f2_ f3_;have f4_:=f1_.symm;have o8:=f3_.symm;clear f1_ f2_ f3_;subst f4_;subst o8));have e6:0 ≤ (E:Int):=of_decide_eq_true (by assumption);have e7:E < (Y.length:Int):=of_decide_eq_true (by assumption);obtain ⟨i2,g0,g1,m7,b9,e1,e2⟩:=at_L1 (Kd.N_reads' M.1).2.2 E e6 e7;cases m7;obtain ⟨q5,j2,j3,g2⟩:=Kd.N_get M.1 [] E e6 (by first|exact e7|exact of_decide_eq_true (by assumption)|(have e_:=(Kd.N_reads' M.1).1;omega));obtain ⟨o0,o1,rfl,c0,c4⟩:=Kd.FK_slice_open j3;have a9:=g2 0 _ rfl;rw [Nat.add_zero,show ((Kd.slice 3 (Kd.int .i64))).sz=1 from rfl,Nat.mul_one] at a9;replace a9:=Option.some.inj (a9.symm.trans b9);injection a9 with hva_ hvn_ hvc_;rw [hva_] at c4;rw [hvc_] at c0;have a6:=mk0 (show Kd.V (Kd.int .i64) 3 _ w.heap.size _ _ (rd_L1 Y E) from Kd.V_mk c0 c4);clear hva_ hvn_ hvc_ c4 c0;clear g2 j2;have U:=mk0 e2;have h2:=mk0 e1;clear e2 e1;replace e6:=eq_true e6;replace e7:=eq_true e7;refine start_ (n:=14) (S:=fun w'=>w'.cell? (l8.add (B).toNat)=some (.slice f7 (rd_L1 F B).length f8)∧w'.cell? (i2.add (E).toNat)=some (.slice g0 (rd_L1 Y E).length g1)) (ds:=[]) #[n_,n_,n_,n_,n_,n_,n_,n_,n_,n_,n_,n_,n_,n_] (by kernel_rfl) rfl rfl ⟨b6,b9⟩ (fun a2=>?_);refine with_tabW bellpulllaw05_CountSum.tab20 bellpulllaw05_CountSum.bits20 (fun a3 m3=>?_);generalize wc.drew=B2 at O Q R L M D Z a5 a6 T U b6 b9 a2 ⊢;refine pure_ (i:=0) (N:=some 74) (v:=?_) (a':=?_) #[y_,n_,n_,n_,n_,n_,n_,n_,n_,n_,n_,n_,n_,n_] rfl rfl (any_of a3.1 (by kernel_rfl)) (fun _ _ _ h=>h) (Or.inl ⟨by rfl,?_⟩) ?_ ?_;rotate_left
                          ·
                           intro w';go_simp;with_reducible rfl
                          rotate_left
                          ·
                           simp only [Act.put,s0_,s1_,s2_,i64_w,i32_w];rfl
                          refine pure_ (i:=1) (N:=some 75) (v:=?_) (a':=?_) #[y_,y_,n_,n_,n_,n_,n_,n_,n_,n_,n_,n_,n_,n_] rfl rfl (any_of a3.1 (by kernel_rfl)) (fun _ _ _ h=>h) (Or.inl ⟨by rfl,?_⟩) ?_ ?_;rotate_left
                          ·
                           intro w';go_simp;with_reducible rfl
                          rotate_left
                          ·
                           simp only [Act.put,s0_,s1_,s2_,i64_w,i32_w];rfl
                          refine pure_ (i:=2) (N:=some 76) (v:=?_) (a':=?_) #[y_,y_,y_,n_,n_,n_,n_,n_,n_,n_,n_,n_,n_,n_] rfl rfl (any_of a3.1 (by kernel_rfl)) (fun _ _ _ h=>h) (Or.inl ⟨by rfl,?_⟩) ?_ ?_;rotate_left
                          ·
                           intro w';go_simp;with_reducible rfl
                          rotate_left
                          ·
                           simp only [Act.put,s0_,s1_,s2_,i64_w,i32_w];rfl
                          refine pure_ (i:=4) (N:=some 78) (v:=?_) (a':=?_) #[y_,y_,y_,n_,y_,n_,n_,n_,n_,n_,n_,n_,n_,n_] rfl rfl (any_of a3.1 (by kernel_rfl)) (fun _ _ _ h=>h) (Or.inl ⟨by rfl,?_⟩) ?_ ?_;rotate_left
                          ·
                           intro w';go_simp;with_reducible rfl
                          rotate_left
                          ·
                           simp only [Act.put,s0_,s1_,s2_,i64_w,i32_w];rfl
                          refine pure_ (i:=5) (N:=some 79) (v:=?_) (a':=?_) #[y_,y_,y_,n_,y_,y_,n_,n_,n_,n_,n_,n_,n_,n_] rfl rfl (any_of a3.1 (by kernel_rfl)) (fun _ _ _ h=>h) (Or.inl ⟨by rfl,?_⟩) ?_ ?_;rotate_left
                          ·
                           intro w';go_simp;with_reducible rfl
                          rotate_left
                          ·
                           simp only [Act.put,s0_,s1_,s2_,i64_w,i32_w];rfl
                          refine pure_ (i:=6) (N:=some 80) (v:=?_) (a':=?_) #[y_,y_,y_,n_,y_,y_,y_,n_,n_,n_,n_,n_,n_,n_] rfl rfl (any_of a3.1 (by kernel_rfl)) (fun _ _ _ h=>h) (Or.inl ⟨by rfl,?_⟩) ?_ ?_;rotate_left
                          ·
                           intro w';go_simp;with_reducible rfl
                          rotate_left
                          ·
                           simp only [Act.put,s0_,s1_,s2_,i64_w,i32_w];rfl
                          refine take_ (i:=3) (N:=some 77) (v:=?_) (a':=?_) #[y_,y_,y_,y_,y_,y_,y_,n_,n_,n_,n_,n_,n_,n_] rfl rfl (take_ofW a3.1 m3.1 (by kernel_rfl)) (fun _ _ _ h=>h) (Or.inl ⟨by rfl,?_⟩) a2 ?_ ?_;rotate_left
                          ·
                           rintro w' ⟨s0,s1⟩;go_simp;with_reducible rfl
                          rotate_left
                          ·
                           simp only [Act.put,s0_,s1_,s2_,i64_w,i32_w];rfl
                          refine take_ (i:=7) (N:=some 81) (v:=?_) (a':=?_) #[y_,y_,y_,y_,y_,y_,y_,y_,n_,n_,n_,n_,n_,n_] rfl rfl (take_ofW a3.1 m3.1 (by kernel_rfl)) (fun _ _ _ h=>h) (Or.inl ⟨by rfl,?_⟩) a2 ?_ ?_;rotate_left
                          ·
                           rintro w' ⟨s0,s1⟩;go_simp;with_reducible rfl
                          rotate_left
                          ·
                           simp only [Act.put,s0_,s1_,s2_,i64_w,i32_w];rfl
                          refine one_ (i:=8) (N:=some 82) #[y_,y_,y_,y_,y_,y_,y_,y_,y_,n_,n_,n_,n_,n_] rfl rfl (one_of a3.1 (by kernel_rfl)) (by decide) (fun K hK=>?_);refine goes_ Try.func38 (by kernel_rfl) rfl #[.slice f7 (rd_L1 F B).length f8,.slice g0 (rd_L1 Y E).length g1] (by rfl) rfl rfl (by (try simp only [m0_,m1_,m2_]);first|done|rfl|(simp only [l0_,l1_];rfl)) ?_;with_reducible refine (bellpullref05_Less.calls kj24 _ _ (rd_L1 F B) _ _ (rd_L1 Y E) l9 true _ ?side1 ?side2 ?side3 ?side4 s3.1).mono ?_
                          (case side1=>repeat (first|exact (by repeat (first|(with_reducible exact T.1)|(with_reducible refine Kd.C_alloc ?_ _)|(with_reducible refine Kd.C_drewN ?_ _)|(with_reducible refine Kd.C_drew ?_)|exact T.1))|(with_reducible refine Kd.C_alloc ?_ _)|(with_reducible refine Kd.C_drewN ?_ _)|(with_reducible refine Kd.C_drew ?_)));(case side2=>exact h1.1);(case side3=>repeat (first|exact (by repeat (first|(with_reducible exact U.1)|(with_reducible refine Kd.C_alloc ?_ _)|(with_reducible refine Kd.C_drewN ?_ _)|(with_reducible refine Kd.C_drew ?_)|exact U.1))|(with_reducible refine Kd.C_alloc ?_ _)|(with_reducible refine Kd.C_drewN ?_ _)|(with_reducible refine Kd.C_drew ?_)));(case side4=>exact h2.1);rintro e B3 ⟨s9,rfl,X,hb⟩;have m8:=(hb.cell (World.block_lt_of_cell? _ _ (a2.1))).trans (a2.1);have m9:=(hb.cell (World.block_lt_of_cell? _ _ (a2.2))).trans (a2.2);refine ⟨_,rfl,?_⟩;have e8:=mk0 (Kd.R_lower X (below_size Z.1));replace O:=mk0 (Kd.N_elder' O.1 (Kd.R_base X) hb);replace Q:=mk0 (Kd.N_elder' Q.1 (Kd.R_base X) hb);replace R:=mk0 (Kd.V_elder' R.1 (Kd.R_base X) hb);replace L:=mk0 (Kd.N_elder' L.1 (Kd.R_base X) hb);replace M:=mk0 (Kd.N_elder' M.1 (Kd.R_base X) hb);replace a5:=mk0 (Kd.V_elder' (by exact a5.1) (Kd.R_base X) hb);replace a6:=mk0 (Kd.V_elder' (by exact a6.1) (Kd.R_base X) hb);replace D:=bkb D hb;replace T:=mk0 (Kd.C_below (by repeat (first|(with_reducible exact T.1)|(with_reducible refine Kd.C_alloc ?_ _)|(with_reducible refine Kd.C_drewN ?_ _)|(with_reducible refine Kd.C_drew ?_)|exact T.1)) hb);replace U:=mk0 (Kd.C_below (by repeat (first|(with_reducible exact U.1)|(with_reducible refine Kd.C_alloc ?_ _)|(with_reducible refine Kd.C_drewN ?_ _)|(with_reducible refine Kd.C_drew ?_)|exact U.1)) hb);replace Z:=bst Z hb;(try clear hb);(try clear X);refine hK.out _ _ ⟨m8,m9⟩ (fun a2=>?_);clear hK K;refine norm_ (a':=?_) ?_ ?_;rotate_left
                          ·
                           show Act.put _ (some 82) _=_;simp only [Act.put,s0_,s1_,s2_,i64_w,i32_w];rfl
                          refine pure_ (i:=9) (N:=some 73) (v:=?_) (a':=?_) #[y_,y_,y_,y_,y_,y_,y_,y_,y_,y_,n_,n_,n_,n_] rfl rfl (any_of a3.1 (by kernel_rfl)) (fun _ _ _ h=>h) (Or.inl ⟨by rfl,?_⟩) ?_ ?_;rotate_left
                          ·
                           intro w';go_simp;with_reducible rfl
                          rotate_left
                          ·
                           simp only [Act.put,s0_,s1_,s2_,i64_w,i32_w];rfl
                          refine pure_ (i:=10) (N:=some 83) (v:=?_) (a':=?_) #[y_,y_,y_,y_,y_,y_,y_,y_,y_,y_,y_,n_,n_,n_] rfl rfl (any_of a3.1 (by kernel_rfl)) (fun _ _ _ h=>h) (Or.inl ⟨by rfl,?_⟩) ?_ ?_;rotate_left
                          ·
                           intro w';go_simp;with_reducible rfl
                          rotate_left
                          ·
                           simp only [Act.put,s0_,s1_,s2_,i64_w,i32_w];rfl
                          refine pure_ (i:=11) (N:=some 84) (v:=?_) (a':=?_) #[y_,y_,y_,y_,y_,y_,y_,y_,y_,y_,y_,y_,n_,n_] rfl rfl (any_of a3.1 (by kernel_rfl)) (fun _ _ _ h=>h) (Or.inl ⟨by rfl,?_⟩) ?_ ?_;rotate_left
                          ·
                           intro w';go_simp;with_reducible rfl
                          rotate_left
                          ·
                           simp only [Act.put,s0_,s1_,s2_,i64_w,i32_w];rfl
                          refine pure_ (i:=12) (N:=some 15) (v:=?_) (a':=?_) #[y_,y_,y_,y_,y_,y_,y_,y_,y_,y_,y_,y_,y_,n_] rfl rfl (any_of a3.1 (by kernel_rfl)) (fun _ _ _ h=>h) (Or.inl ⟨by rfl,?_⟩) ?_ ?_;rotate_left
                          ·
                           intro w';go_simp;with_reducible rfl
                          rotate_left
                          ·
                           simp only [Act.put,s0_,s1_,s2_,i64_w,i32_w];rfl
                          refine pure_ (i:=13) (N:=some 16) (v:=?_) (a':=?_) #[y_,y_,y_,y_,y_,y_,y_,y_,y_,y_,y_,y_,y_,y_] rfl rfl (any_of a3.1 (by kernel_rfl)) (fun _ _ _ h=>h) (Or.inl ⟨by rfl,?_⟩) ?_ ?_;rotate_left
                          ·
                           intro w';go_simp;with_reducible rfl
                          rotate_left
                          ·
                           simp only [Act.put,s0_,s1_,s2_,i64_w,i32_w];rfl
                          refine done_ (done_of a3.1 (by kernel_rfl)) ?_;have i3:0 ≤ (E:Int):=of_decide_eq_true (by assumption);have i4:E < (Y.length:Int):=of_decide_eq_true (by assumption);obtain ⟨o6,t0,t1,p3,h3,h4,h5⟩:=at_L1 (Kd.N_reads' M.1).2.2 E i3 i4;obtain rfl:i2=o6:=(by injection p3)
                          (try (have hx_held_:=Option.some.inj (a2.2.symm.trans h3);injection hx_held_ with ea_ en_ ec_;subst ea_;subst ec_;clear en_))
                          obtain ⟨u2,n0,n1,j5⟩:=Kd.N_get M.1 [] E i3 (by first|exact i4|exact of_decide_eq_true (by assumption)|(have e_:=(Kd.N_reads' M.1).1;omega));obtain ⟨r0,r1,rfl,f2,f3⟩:=Kd.FK_slice_open n1;have d3:=j5 0 _ rfl;rw [Nat.add_zero,show ((Kd.slice 3 (Kd.int .i64))).sz=1 from rfl,Nat.mul_one] at d3;replace d3:=Option.some.inj (d3.symm.trans h3);injection d3 with hva_ hvn_ hvc_;rw [hva_] at f3;rw [hvc_] at f2;have f4:=mk0 (show Kd.V (Kd.int .i64) 3 _ w.heap.size _ _ (rd_L1 Y E) from Kd.V_mk f2 f3);clear hva_ hvn_ hvc_ f3 f2;clear j5 n0;have b0:=mk0 h5;have m0:=mk0 h4;clear h5 h4;replace i3:=eq_true i3;replace i4:=eq_true i4;try go_wp2_with (first|(go_at_call 24;(with_reducible refine (bellpullref05_Has.calls kj24 _ _ G _ _ (rd_L1 Y E) true _ ?side1 ?side2 ?side3 ?side4 u7.1).mono ?_);(case side1=>repeat (first|exact (Kd.N_reads' O.1).2.2|(with_reducible refine Kd.C_alloc ?_ _)|(with_reducible refine Kd.C_drewN ?_ _)|(with_reducible refine Kd.C_drew ?_)));(case side2=>exact (Kd.N_reads' O.1).2.1);(case side3=>repeat (first|exact (by repeat (first|(with_reducible exact b0.1)|(with_reducible refine Kd.C_alloc ?_ _)|(with_reducible refine Kd.C_drewN ?_ _)|(with_reducible refine Kd.C_drew ?_)|exact b0.1))|(with_reducible refine Kd.C_alloc ?_ _)|(with_reducible refine Kd.C_drewN ?_ _)|(with_reducible refine Kd.C_drew ?_)));(case side4=>exact m0.1);rintro e B4 ⟨rfl,hb⟩;replace O:=mk0 (Kd.N_below O.1 hb);replace Q:=mk0 (Kd.N_below Q.1 hb);replace R:=mk0 (Kd.V_below R.1 hb);replace L:=mk0 (Kd.N_below L.1 hb);replace M:=mk0 (Kd.N_below M.1 hb);replace a5:=mk0 (Kd.V_below (by exact a5.1) hb);replace a6:=mk0 (Kd.V_below (by exact a6.1) hb);replace e8:=rbl e8 hb;replace f4:=mk0 (Kd.V_below (by exact f4.1) hb);replace D:=bkb D hb;replace T:=mk0 (Kd.C_below (by repeat (first|(with_reducible exact T.1)|(with_reducible refine Kd.C_alloc ?_ _)|(with_reducible refine Kd.C_drewN ?_ _)|(with_reducible refine Kd.C_drew ?_)|exact T.1)) hb);replace U:=mk0 (Kd.C_below (by repeat (first|(with_reducible exact U.1)|(with_reducible refine Kd.C_alloc ?_ _)|(with_reducible refine Kd.C_drewN ?_ _)|(with_reducible refine Kd.C_drew ?_)|exact U.1)) hb);replace b0:=mk0 (Kd.C_below (by repeat (first|(with_reducible exact b0.1)|(with_reducible refine Kd.C_alloc ?_ _)|(with_reducible refine Kd.C_drewN ?_ _)|(with_reducible refine Kd.C_drew ?_)|exact b0.1)) hb);replace Z:=bst Z hb;(try clear hb);obtain ⟨z8,z9,v6⟩:=Kd.R_slice e8.1;subst v6)|(go_at_call 24;(with_reducible refine (bellpullref05_Has.calls kj24 _ _ I _ _ l9 i8 _ ?side1 ?side2 ?side3 ?side4 y7.1).mono ?_);(case side1=>repeat (first|exact (Kd.N_reads' Q.1).2.2|(with_reducible refine Kd.C_alloc ?_ _)|(with_reducible refine Kd.C_drewN ?_ _)|(with_reducible refine Kd.C_drew ?_)));(case side2=>exact (Kd.N_reads' Q.1).2.1);(case side3=>repeat (first|exact (Kd.R_reads' e8.1).2.2|(with_reducible refine Kd.C_alloc ?_ _)|(with_reducible refine Kd.C_drewN ?_ _)|(with_reducible refine Kd.C_drew ?_)));(case side4=>exact (Kd.R_reads' e8.1).2.1);rintro e B5 ⟨rfl,hb⟩;replace O:=mk0 (Kd.N_below O.1 hb);replace Q:=mk0 (Kd.N_below Q.1 hb);replace R:=mk0 (Kd.V_below R.1 hb);replace L:=mk0 (Kd.N_below L.1 hb);replace M:=mk0 (Kd.N_below M.1 hb);replace a5:=mk0 (Kd.V_below (by exact a5.1) hb);replace a6:=mk0 (Kd.V_below (by exact a6.1) hb);replace e8:=rbl e8 hb;replace f4:=mk0 (Kd.V_below (by exact f4.1) hb);replace D:=bkb D hb;replace T:=mk0 (Kd.C_below (by repeat (first|(with_reducible exact T.1)|(with_reducible refine Kd.C_alloc ?_ _)|(with_reducible refine Kd.C_drewN ?_ _)|(with_reducible refine Kd.C_drew ?_)|exact T.1)) hb);replace U:=mk0 (Kd.C_below (by repeat (first|(with_reducible exact U.1)|(with_reducible refine Kd.C_alloc ?_ _)|(with_reducible refine Kd.C_drewN ?_ _)|(with_reducible refine Kd.C_drew ?_)|exact U.1)) hb);replace b0:=mk0 (Kd.C_below (by repeat (first|(with_reducible exact b0.1)|(with_reducible refine Kd.C_alloc ?_ _)|(with_reducible refine Kd.C_drewN ?_ _)|(with_reducible refine Kd.C_drew ?_)|exact b0.1)) hb);replace Z:=bst Z hb;(try clear hb)))
                          go_roundg kj24
                          case measure=>have:=e9.1;have:=f0.1;have:=f1.1;have:=g3.1;have:=e3.1;have:=l4.1;have:=i7.1;omega
                          case rel=>exact ⟨(i8),(wrap64 (E + 1)),(by first|rfl|(simp;done)|(simp [*];done)),(by first|rfl|(simp;done)|(simp [*];done)),H',⟨by have:=e9.1;have:=f0.1;have:=f1.1;have:=g3.1;have:=e3.1;have:=l4.1;have:=i7.1;omega⟩,⟨by exact Kd.N_mono O.1 (fun _ hk=>⟨hk.1.1,⟨hk.1.2.1,⟨hk.1.2.2.1,hk.1.2.2.2⟩⟩⟩)⟩,⟨by exact Kd.N_mono Q.1 (fun _ hk=>⟨hk.1.1,⟨hk.1.2.1,⟨hk.1.2.2.1,hk.1.2.2.2⟩⟩⟩)⟩,⟨by exact Kd.V_mono R.1 (fun _ hk=>⟨hk.1.1,⟨hk.1.2.1,hk.1.2.2⟩⟩)⟩,⟨by exact Kd.N_mono L.1 (fun _ hk=>⟨hk.1.1,⟨hk.1.2.1,⟨hk.1.2.2.1,hk.1.2.2.2⟩⟩⟩)⟩,⟨by exact Kd.N_mono M.1 (fun _ hk=>⟨hk.1.1,⟨hk.1.2.1,⟨hk.1.2.2.1,hk.1.2.2.2⟩⟩⟩)⟩,⟨by exact D.1⟩,⟨by repeat (first|(with_reducible first|exact Z.1|apply below_alloc|apply pw_below_drewN|apply below_drew1|refine below_set ?_ b2.1)|exact Z.1)⟩⟩
                         ·
                          replace q3:=Bool.eq_false_iff.mpr q3;subst q3;have H1:(bellpulllaw05_CountSum.l3 kj24 a0 G I a1 a4 F B false a7 Y (wrap64 (E + 1)))=some r:=by rw [if_neg (show ¬ (false=true) by decide)] at H;exact H
                          clear H;have H:=H1;clear H1;have H':=mk0 H;clear H;try go_wp2
                          replace O:=mk0 (Kd.N_drew O.1);replace Q:=mk0 (Kd.N_drew Q.1);replace R:=mk0 (Kd.V_drew R.1);replace L:=mk0 (Kd.N_drew L.1);replace M:=mk0 (Kd.N_drew M.1);replace D:=bdr D;replace Z:=hdr Z;have e4:0 ≤ (B:Int):=of_decide_eq_true (by assumption);have e5:B < (F.length:Int):=of_decide_eq_true (by assumption);obtain ⟨l8,f7,f8,m6,b6,d9,e0⟩:=at_L1 (Kd.N_reads' L.1).2.2 B e4 e5;cases m6;obtain ⟨q4,i9,j1,f9⟩:=Kd.N_get L.1 [] B e4 (by first|exact e5|exact of_decide_eq_true (by assumption)|(have e_:=(Kd.N_reads' L.1).1;omega));obtain ⟨n8,n9,rfl,b7,b8⟩:=Kd.FK_slice_open j1;have a8:=f9 0 _ rfl;rw [Nat.add_zero,show ((Kd.slice 3 (Kd.int .i64))).sz=1 from rfl,Nat.mul_one] at a8;replace a8:=Option.some.inj (a8.symm.trans b6);injection a8 with hva_ hvn_ hvc_;rw [hva_] at b8;rw [hvc_] at b7;have a5:=mk0 (show Kd.V (Kd.int .i64) 3 _ w.heap.size _ _ (rd_L1 F B) from Kd.V_mk b7 b8);clear hva_ hvn_ hvc_ b8 b7;clear f9 i9;have T:=mk0 e0;have h1:=mk0 d9;clear e0 d9;replace e4:=eq_true e4;replace e5:=eq_true e5;obtain ⟨A0,A1,t2⟩:=Kd.N_slice M.1;(first|subst t2|(injection t2 with f1_ f2_ f3_;have f4_:=f1_.symm;have o8:=f3_.symm;clear f1_ f2_ f3_;subst f4_;subst o8));have e6:0 ≤ (E:Int):=of_decide_eq_true (by assumption);have e7:E < (Y.length:Int):=of_decide_eq_true (by assumption);obtain ⟨i2,g0,g1,m7,b9,e1,e2⟩:=at_L1 (Kd.N_reads' M.1).2.2 E e6 e7;cases m7;obtain ⟨q5,j2,j3,g2⟩:=Kd.N_get M.1 [] E e6 (by first|exact e7|exact of_decide_eq_true (by assumption)|(have e_:=(Kd.N_reads' M.1).1;omega));obtain ⟨o0,o1,rfl,c0,c4⟩:=Kd.FK_slice_open j3;have a9:=g2 0 _ rfl;rw [Nat.add_zero,show ((Kd.slice 3 (Kd.int .i64))).sz=1 from rfl,Nat.mul_one] at a9;replace a9:=Option.some.inj (a9.symm.trans b9);injection a9 with hva_ hvn_ hvc_;rw [hva_] at c4;rw [hvc_] at c0;have a6:=mk0 (show Kd.V (Kd.int .i64) 3 _ w.heap.size _ _ (rd_L1 Y E) from Kd.V_mk c0 c4);clear hva_ hvn_ hvc_ c4 c0;clear g2 j2;have U:=mk0 e2;have h2:=mk0 e1;clear e2 e1;replace e6:=eq_true e6;replace e7:=eq_true e7;refine start_ (n:=14) (S:=fun w'=>w'.cell? (l8.add (B).toNat)=some (.slice f7 (rd_L1 F B).length f8)∧w'.cell? (i2.add (E).toNat)=some (.slice g0 (rd_L1 Y E).length g1)) (ds:=[]) #[n_,n_,n_,n_,n_,n_,n_,n_,n_,n_,n_,n_,n_,n_] (by kernel_rfl) rfl rfl ⟨b6,b9⟩ (fun a2=>?_);refine with_tabW bellpulllaw05_CountSum.tab20 bellpulllaw05_CountSum.bits20 (fun a3 m3=>?_);generalize wc.drew=B6 at O Q R L M D Z a5 a6 T U b6 b9 a2 ⊢;refine pure_ (i:=0) (N:=some 74) (v:=?_) (a':=?_) #[y_,n_,n_,n_,n_,n_,n_,n_,n_,n_,n_,n_,n_,n_] rfl rfl (any_of a3.1 (by kernel_rfl)) (fun _ _ _ h=>h) (Or.inl ⟨by rfl,?_⟩) ?_ ?_;rotate_left
                          ·
                           intro w';go_simp;with_reducible rfl
                          rotate_left
                          ·
                           simp only [Act.put,s0_,s1_,s2_,i64_w,i32_w];rfl
                          refine pure_ (i:=1) (N:=some 75) (v:=?_) (a':=?_) #[y_,y_,n_,n_,n_,n_,n_,n_,n_,n_,n_,n_,n_,n_] rfl rfl (any_of a3.1 (by kernel_rfl)) (fun _ _ _ h=>h) (Or.inl ⟨by rfl,?_⟩) ?_ ?_;rotate_left
                          ·
                           intro w';go_simp;with_reducible rfl
                          rotate_left
                          ·
                           simp only [Act.put,s0_,s1_,s2_,i64_w,i32_w];rfl
                          refine pure_ (i:=2) (N:=some 76) (v:=?_) (a':=?_) #[y_,y_,y_,n_,n_,n_,n_,n_,n_,n_,n_,n_,n_,n_] rfl rfl (any_of a3.1 (by kernel_rfl)) (fun _ _ _ h=>h) (Or.inl ⟨by rfl,?_⟩) ?_ ?_;rotate_left
                          ·
                           intro w';go_simp;with_reducible rfl
                          rotate_left
                          ·
                           simp only [Act.put,s0_,s1_,s2_,i64_w,i32_w];rfl
                          refine pure_ (i:=4) (N:=some 78) (v:=?_) (a':=?_) #[y_,y_,y_,n_,y_,n_,n_,n_,n_,n_,n_,n_,n_,n_] rfl rfl (any_of a3.1 (by kernel_rfl)) (fun _ _ _ h=>h) (Or.inl ⟨by rfl,?_⟩) ?_ ?_;rotate_left
                          ·
                           intro w';go_simp;with_reducible rfl
                          rotate_left
                          ·
                           simp only [Act.put,s0_,s1_,s2_,i64_w,i32_w];rfl
                          refine pure_ (i:=5) (N:=some 79) (v:=?_) (a':=?_) #[y_,y_,y_,n_,y_,y_,n_,n_,n_,n_,n_,n_,n_,n_] rfl rfl (any_of a3.1 (by kernel_rfl)) (fun _ _ _ h=>h) (Or.inl ⟨by rfl,?_⟩) ?_ ?_;rotate_left
                          ·
                           intro w';go_simp;with_reducible rfl
                          rotate_left
                          ·
                           simp only [Act.put,s0_,s1_,s2_,i64_w,i32_w];rfl
                          refine pure_ (i:=6) (N:=some 80) (v:=?_) (a':=?_) #[y_,y_,y_,n_,y_,y_,y_,n_,n_,n_,n_,n_,n_,n_] rfl rfl (any_of a3.1 (by kernel_rfl)) (fun _ _ _ h=>h) (Or.inl ⟨by rfl,?_⟩) ?_ ?_;rotate_left
                          ·
                           intro w';go_simp;with_reducible rfl
                          rotate_left
                          ·
                           simp only [Act.put,s0_,s1_,s2_,i64_w,i32_w];rfl
                          refine take_ (i:=3) (N:=some 77) (v:=?_) (a':=?_) #[y_,y_,y_,y_,y_,y_,y_,n_,n_,n_,n_,n_,n_,n_] rfl rfl (take_ofW a3.1 m3.1 (by kernel_rfl)) (fun _ _ _ h=>h) (Or.inl ⟨by rfl,?_⟩) a2 ?_ ?_;rotate_left
                          ·
                           rintro w' ⟨s0,s1⟩;go_simp;with_reducible rfl
                          rotate_left
                          ·
                           simp only [Act.put,s0_,s1_,s2_,i64_w,i32_w];rfl
                          refine take_ (i:=7) (N:=some 81) (v:=?_) (a':=?_) #[y_,y_,y_,y_,y_,y_,y_,y_,n_,n_,n_,n_,n_,n_] rfl rfl (take_ofW a3.1 m3.1 (by kernel_rfl)) (fun _ _ _ h=>h) (Or.inl ⟨by rfl,?_⟩) a2 ?_ ?_;rotate_left
                          ·
                           rintro w' ⟨s0,s1⟩;go_simp;with_reducible rfl
                          rotate_left
                          ·
                           simp only [Act.put,s0_,s1_,s2_,i64_w,i32_w];rfl
                          refine one_ (i:=8) (N:=some 82) #[y_,y_,y_,y_,y_,y_,y_,y_,y_,n_,n_,n_,n_,n_] rfl rfl (one_of a3.1 (by kernel_rfl)) (by decide) (fun K hK=>?_);refine goes_ Try.func38 (by kernel_rfl) rfl #[.slice f7 (rd_L1 F B).length f8,.slice g0 (rd_L1 Y E).length g1] (by rfl) rfl rfl (by (try simp only [m0_,m1_,m2_]);first|done|rfl|(simp only [l0_,l1_];rfl)) ?_;with_reducible refine (bellpullref05_Less.calls kj24 _ _ (rd_L1 F B) _ _ (rd_L1 Y E) l9 true _ ?side1 ?side2 ?side3 ?side4 s3.1).mono ?_
                          (case side1=>repeat (first|exact (by repeat (first|(with_reducible exact T.1)|(with_reducible refine Kd.C_alloc ?_ _)|(with_reducible refine Kd.C_drewN ?_ _)|(with_reducible refine Kd.C_drew ?_)|exact T.1))|(with_reducible refine Kd.C_alloc ?_ _)|(with_reducible refine Kd.C_drewN ?_ _)|(with_reducible refine Kd.C_drew ?_)));(case side2=>exact h1.1);(case side3=>repeat (first|exact (by repeat (first|(with_reducible exact U.1)|(with_reducible refine Kd.C_alloc ?_ _)|(with_reducible refine Kd.C_drewN ?_ _)|(with_reducible refine Kd.C_drew ?_)|exact U.1))|(with_reducible refine Kd.C_alloc ?_ _)|(with_reducible refine Kd.C_drewN ?_ _)|(with_reducible refine Kd.C_drew ?_)));(case side4=>exact h2.1);rintro e B7 ⟨s9,rfl,X,hb⟩;have m8:=(hb.cell (World.block_lt_of_cell? _ _ (a2.1))).trans (a2.1);have m9:=(hb.cell (World.block_lt_of_cell? _ _ (a2.2))).trans (a2.2);refine ⟨_,rfl,?_⟩;have e8:=mk0 (Kd.R_lower X (below_size Z.1));replace O:=mk0 (Kd.N_elder' O.1 (Kd.R_base X) hb);replace Q:=mk0 (Kd.N_elder' Q.1 (Kd.R_base X) hb);replace R:=mk0 (Kd.V_elder' R.1 (Kd.R_base X) hb);replace L:=mk0 (Kd.N_elder' L.1 (Kd.R_base X) hb);replace M:=mk0 (Kd.N_elder' M.1 (Kd.R_base X) hb);replace a5:=mk0 (Kd.V_elder' (by exact a5.1) (Kd.R_base X) hb);replace a6:=mk0 (Kd.V_elder' (by exact a6.1) (Kd.R_base X) hb);replace D:=bkb D hb;replace T:=mk0 (Kd.C_below (by repeat (first|(with_reducible exact T.1)|(with_reducible refine Kd.C_alloc ?_ _)|(with_reducible refine Kd.C_drewN ?_ _)|(with_reducible refine Kd.C_drew ?_)|exact T.1)) hb);replace U:=mk0 (Kd.C_below (by repeat (first|(with_reducible exact U.1)|(with_reducible refine Kd.C_alloc ?_ _)|(with_reducible refine Kd.C_drewN ?_ _)|(with_reducible refine Kd.C_drew ?_)|exact U.1)) hb);replace Z:=bst Z hb;(try clear hb);(try clear X);refine hK.out _ _ ⟨m8,m9⟩ (fun a2=>?_);clear hK K;refine norm_ (a':=?_) ?_ ?_;rotate_left
                          ·
                           show Act.put _ (some 82) _=_;simp only [Act.put,s0_,s1_,s2_,i64_w,i32_w];rfl
                          refine pure_ (i:=9) (N:=some 73) (v:=?_) (a':=?_) #[y_,y_,y_,y_,y_,y_,y_,y_,y_,y_,n_,n_,n_,n_] rfl rfl (any_of a3.1 (by kernel_rfl)) (fun _ _ _ h=>h) (Or.inl ⟨by rfl,?_⟩) ?_ ?_;rotate_left
                          ·
                           intro w';go_simp;with_reducible rfl
                          rotate_left
                          ·
                           simp only [Act.put,s0_,s1_,s2_,i64_w,i32_w];rfl
                          refine pure_ (i:=10) (N:=some 83) (v:=?_) (a':=?_) #[y_,y_,y_,y_,y_,y_,y_,y_,y_,y_,y_,n_,n_,n_] rfl rfl (any_of a3.1 (by kernel_rfl)) (fun _ _ _ h=>h) (Or.inl ⟨by rfl,?_⟩) ?_ ?_;rotate_left
                          ·
                           intro w';go_simp;with_reducible rfl
                          rotate_left
                          ·
                           simp only [Act.put,s0_,s1_,s2_,i64_w,i32_w];rfl
                          refine pure_ (i:=11) (N:=some 84) (v:=?_) (a':=?_) #[y_,y_,y_,y_,y_,y_,y_,y_,y_,y_,y_,y_,n_,n_] rfl rfl (any_of a3.1 (by kernel_rfl)) (fun _ _ _ h=>h) (Or.inl ⟨by rfl,?_⟩) ?_ ?_;rotate_left
                          ·
                           intro w';go_simp;with_reducible rfl
                          rotate_left
                          ·
                           simp only [Act.put,s0_,s1_,s2_,i64_w,i32_w];rfl
                          refine pure_ (i:=12) (N:=some 15) (v:=?_) (a':=?_) #[y_,y_,y_,y_,y_,y_,y_,y_,y_,y_,y_,y_,y_,n_] rfl rfl (any_of a3.1 (by kernel_rfl)) (fun _ _ _ h=>h) (Or.inl ⟨by rfl,?_⟩) ?_ ?_;rotate_left
                          ·
                           intro w';go_simp;with_reducible rfl
                          rotate_left
                          ·
                           simp only [Act.put,s0_,s1_,s2_,i64_w,i32_w];rfl
                          refine pure_ (i:=13) (N:=some 16) (v:=?_) (a':=?_) #[y_,y_,y_,y_,y_,y_,y_,y_,y_,y_,y_,y_,y_,y_] rfl rfl (any_of a3.1 (by kernel_rfl)) (fun _ _ _ h=>h) (Or.inl ⟨by rfl,?_⟩) ?_ ?_;rotate_left
                          ·
                           intro w';go_simp;with_reducible rfl
                          rotate_left
                          ·
                           simp only [Act.put,s0_,s1_,s2_,i64_w,i32_w];rfl
                          refine done_ (done_of a3.1 (by kernel_rfl)) ?_;have i3:0 ≤ (E:Int):=of_decide_eq_true (by assumption);have i4:E < (Y.length:Int):=of_decide_eq_true (by assumption);obtain ⟨o6,t0,t1,p3,h3,h4,h5⟩:=at_L1 (Kd.N_reads' M.1).2.2 E i3 i4;obtain rfl:i2=o6:=(by injection p3)
                          (try (have hx_held_:=Option.some.inj (a2.2.symm.trans h3);injection hx_held_ with ea_ en_ ec_;subst ea_;subst ec_;clear en_))
                          obtain ⟨u2,n0,n1,j5⟩:=Kd.N_get M.1 [] E i3 (by first|exact i4|exact of_decide_eq_true (by assumption)|(have e_:=(Kd.N_reads' M.1).1;omega));obtain ⟨r0,r1,rfl,f2,f3⟩:=Kd.FK_slice_open n1;have d3:=j5 0 _ rfl;rw [Nat.add_zero,show ((Kd.slice 3 (Kd.int .i64))).sz=1 from rfl,Nat.mul_one] at d3;replace d3:=Option.some.inj (d3.symm.trans h3);injection d3 with hva_ hvn_ hvc_;rw [hva_] at f3;rw [hvc_] at f2;have f4:=mk0 (show Kd.V (Kd.int .i64) 3 _ w.heap.size _ _ (rd_L1 Y E) from Kd.V_mk f2 f3);clear hva_ hvn_ hvc_ f3 f2;clear j5 n0;have b0:=mk0 h5;have m0:=mk0 h4;clear h5 h4;replace i3:=eq_true i3;replace i4:=eq_true i4;try go_wp2_with (first|(go_at_call 24;(with_reducible refine (bellpullref05_Has.calls kj24 _ _ G _ _ (rd_L1 Y E) false _ ?side1 ?side2 ?side3 ?side4 u7.1).mono ?_);(case side1=>repeat (first|exact (Kd.N_reads' O.1).2.2|(with_reducible refine Kd.C_alloc ?_ _)|(with_reducible refine Kd.C_drewN ?_ _)|(with_reducible refine Kd.C_drew ?_)));(case side2=>exact (Kd.N_reads' O.1).2.1);(case side3=>repeat (first|exact (by repeat (first|(with_reducible exact b0.1)|(with_reducible refine Kd.C_alloc ?_ _)|(with_reducible refine Kd.C_drewN ?_ _)|(with_reducible refine Kd.C_drew ?_)|exact b0.1))|(with_reducible refine Kd.C_alloc ?_ _)|(with_reducible refine Kd.C_drewN ?_ _)|(with_reducible refine Kd.C_drew ?_)));(case side4=>exact m0.1);rintro e B8 ⟨rfl,hb⟩;replace O:=mk0 (Kd.N_below O.1 hb);replace Q:=mk0 (Kd.N_below Q.1 hb);replace R:=mk0 (Kd.V_below R.1 hb);replace L:=mk0 (Kd.N_below L.1 hb);replace M:=mk0 (Kd.N_below M.1 hb);replace a5:=mk0 (Kd.V_below (by exact a5.1) hb);replace a6:=mk0 (Kd.V_below (by exact a6.1) hb);replace e8:=rbl e8 hb;replace f4:=mk0 (Kd.V_below (by exact f4.1) hb);replace D:=bkb D hb;replace T:=mk0 (Kd.C_below (by repeat (first|(with_reducible exact T.1)|(with_reducible refine Kd.C_alloc ?_ _)|(with_reducible refine Kd.C_drewN ?_ _)|(with_reducible refine Kd.C_drew ?_)|exact T.1)) hb);replace U:=mk0 (Kd.C_below (by repeat (first|(with_reducible exact U.1)|(with_reducible refine Kd.C_alloc ?_ _)|(with_reducible refine Kd.C_drewN ?_ _)|(with_reducible refine Kd.C_drew ?_)|exact U.1)) hb);replace b0:=mk0 (Kd.C_below (by repeat (first|(with_reducible exact b0.1)|(with_reducible refine Kd.C_alloc ?_ _)|(with_reducible refine Kd.C_drewN ?_ _)|(with_reducible refine Kd.C_drew ?_)|exact b0.1)) hb);replace Z:=bst Z hb;(try clear hb)))
                          go_roundg kj24
                          case measure=>have:=e9.1;have:=f0.1;have:=f1.1;have:=g3.1;have:=e3.1;have:=l4.1;have:=i7.1;omega
                          case rel=>exact ⟨(false),(wrap64 (E + 1)),(by first|rfl|(simp;done)|(simp [*];done)),(by first|rfl|(simp;done)|(simp [*];done)),H',⟨by have:=e9.1;have:=f0.1;have:=f1.1;have:=g3.1;have:=e3.1;have:=l4.1;have:=i7.1;omega⟩,⟨by exact Kd.N_mono O.1 (fun _ hk=>⟨hk.1.1,⟨hk.1.2.1,⟨hk.1.2.2.1,hk.1.2.2.2⟩⟩⟩)⟩,⟨by exact Kd.N_mono Q.1 (fun _ hk=>⟨hk.1.1,⟨hk.1.2.1,⟨hk.1.2.2.1,hk.1.2.2.2⟩⟩⟩)⟩,⟨by exact Kd.V_mono R.1 (fun _ hk=>⟨hk.1.1,⟨hk.1.2.1,hk.1.2.2⟩⟩)⟩,⟨by exact Kd.N_mono L.1 (fun _ hk=>⟨hk.1.1,⟨hk.1.2.1,⟨hk.1.2.2.1,hk.1.2.2.2⟩⟩⟩)⟩,⟨by exact Kd.N_mono M.1 (fun _ hk=>⟨hk.1.1,⟨hk.1.2.1,⟨hk.1.2.2.1,hk.1.2.2.2⟩⟩⟩)⟩,⟨by exact D.1⟩,⟨by repeat (first|(with_reducible first|exact Z.1|apply below_alloc|apply pw_below_drewN|apply below_drew1|refine below_set ?_ b2.1)|exact Z.1)⟩⟩
                        ·
                         replace q2:=Bool.eq_false_iff.mpr q2;subst q2;have H1:(bellpulllaw05_CountSum.l3 kj24 a0 G I a1 a4 F B false a7 Y (wrap64 (E + 1)))=some r:=by rw [if_neg (show ¬ (false=true) by decide)] at H;exact H
                         clear H;have H:=H1;clear H1;have H':=mk0 H;clear H;try go_wp2
                         replace O:=mk0 (Kd.N_drew O.1);replace Q:=mk0 (Kd.N_drew Q.1);replace R:=mk0 (Kd.V_drew R.1);replace L:=mk0 (Kd.N_drew L.1);replace M:=mk0 (Kd.N_drew M.1);replace D:=bdr D;replace Z:=hdr Z;have e4:0 ≤ (B:Int):=of_decide_eq_true (by assumption);have e5:B < (F.length:Int):=of_decide_eq_true (by assumption);obtain ⟨l8,f7,f8,m6,b6,d9,e0⟩:=at_L1 (Kd.N_reads' L.1).2.2 B e4 e5;cases m6;obtain ⟨q4,i9,j1,f9⟩:=Kd.N_get L.1 [] B e4 (by first|exact e5|exact of_decide_eq_true (by assumption)|(have e_:=(Kd.N_reads' L.1).1;omega));obtain ⟨n8,n9,rfl,b7,b8⟩:=Kd.FK_slice_open j1;have a8:=f9 0 _ rfl;rw [Nat.add_zero,show ((Kd.slice 3 (Kd.int .i64))).sz=1 from rfl,Nat.mul_one] at a8;replace a8:=Option.some.inj (a8.symm.trans b6);injection a8 with hva_ hvn_ hvc_;rw [hva_] at b8;rw [hvc_] at b7;have a5:=mk0 (show Kd.V (Kd.int .i64) 3 _ w.heap.size _ _ (rd_L1 F B) from Kd.V_mk b7 b8);clear hva_ hvn_ hvc_ b8 b7;clear f9 i9;have T:=mk0 e0;have h1:=mk0 d9;clear e0 d9;replace e4:=eq_true e4;replace e5:=eq_true e5;obtain ⟨A4,A5,t3⟩:=Kd.N_slice M.1;(first|subst t3|(injection t3 with f1_ f2_ f3_;have f4_:=f1_.symm;have o8:=f3_.symm;clear f1_ f2_ f3_;subst f4_;subst o8));have e6:0 ≤ (E:Int):=of_decide_eq_true (by assumption);have e7:E < (Y.length:Int):=of_decide_eq_true (by assumption);obtain ⟨i2,g0,g1,m7,b9,e1,e2⟩:=at_L1 (Kd.N_reads' M.1).2.2 E e6 e7;cases m7;obtain ⟨q5,j2,j3,g2⟩:=Kd.N_get M.1 [] E e6 (by first|exact e7|exact of_decide_eq_true (by assumption)|(have e_:=(Kd.N_reads' M.1).1;omega));obtain ⟨o0,o1,rfl,c0,c4⟩:=Kd.FK_slice_open j3;have a9:=g2 0 _ rfl;rw [Nat.add_zero,show ((Kd.slice 3 (Kd.int .i64))).sz=1 from rfl,Nat.mul_one] at a9;replace a9:=Option.some.inj (a9.symm.trans b9);injection a9 with hva_ hvn_ hvc_;rw [hva_] at c4;rw [hvc_] at c0;have a6:=mk0 (show Kd.V (Kd.int .i64) 3 _ w.heap.size _ _ (rd_L1 Y E) from Kd.V_mk c0 c4);clear hva_ hvn_ hvc_ c4 c0;clear g2 j2;have U:=mk0 e2;have h2:=mk0 e1;clear e2 e1;replace e6:=eq_true e6;replace e7:=eq_true e7;refine start_ (n:=14) (S:=fun w'=>w'.cell? (l8.add (B).toNat)=some (.slice f7 (rd_L1 F B).length f8)∧w'.cell? (i2.add (E).toNat)=some (.slice g0 (rd_L1 Y E).length g1)) (ds:=[]) #[n_,n_,n_,n_,n_,n_,n_,n_,n_,n_,n_,n_,n_,n_] (by kernel_rfl) rfl rfl ⟨b6,b9⟩ (fun a2=>?_);refine with_tabW bellpulllaw05_CountSum.tab20 bellpulllaw05_CountSum.bits20 (fun a3 m3=>?_);generalize wc.drew=B9 at O Q R L M D Z a5 a6 T U b6 b9 a2 ⊢;refine pure_ (i:=0) (N:=some 74) (v:=?_) (a':=?_) #[y_,n_,n_,n_,n_,n_,n_,n_,n_,n_,n_,n_,n_,n_] rfl rfl (any_of a3.1 (by kernel_rfl)) (fun _ _ _ h=>h) (Or.inl ⟨by rfl,?_⟩) ?_ ?_;rotate_left
                         ·
                          intro w';go_simp;with_reducible rfl
                         rotate_left
                         ·
                          simp only [Act.put,s0_,s1_,s2_,i64_w,i32_w];rfl
                         refine pure_ (i:=1) (N:=some 75) (v:=?_) (a':=?_) #[y_,y_,n_,n_,n_,n_,n_,n_,n_,n_,n_,n_,n_,n_] rfl rfl (any_of a3.1 (by kernel_rfl)) (fun _ _ _ h=>h) (Or.inl ⟨by rfl,?_⟩) ?_ ?_;rotate_left
                         ·
                          intro w';go_simp;with_reducible rfl
                         rotate_left
                         ·
                          simp only [Act.put,s0_,s1_,s2_,i64_w,i32_w];rfl
                         refine pure_ (i:=2) (N:=some 76) (v:=?_) (a':=?_) #[y_,y_,y_,n_,n_,n_,n_,n_,n_,n_,n_,n_,n_,n_] rfl rfl (any_of a3.1 (by kernel_rfl)) (fun _ _ _ h=>h) (Or.inl ⟨by rfl,?_⟩) ?_ ?_;rotate_left
                         ·
                          intro w';go_simp;with_reducible rfl
                         rotate_left
                         ·
                          simp only [Act.put,s0_,s1_,s2_,i64_w,i32_w];rfl
                         refine pure_ (i:=4) (N:=some 78) (v:=?_) (a':=?_) #[y_,y_,y_,n_,y_,n_,n_,n_,n_,n_,n_,n_,n_,n_] rfl rfl (any_of a3.1 (by kernel_rfl)) (fun _ _ _ h=>h) (Or.inl ⟨by rfl,?_⟩) ?_ ?_;rotate_left
                         ·
                          intro w';go_simp;with_reducible rfl
                         rotate_left
                         ·
                          simp only [Act.put,s0_,s1_,s2_,i64_w,i32_w];rfl
                         refine pure_ (i:=5) (N:=some 79) (v:=?_) (a':=?_) #[y_,y_,y_,n_,y_,y_,n_,n_,n_,n_,n_,n_,n_,n_] rfl rfl (any_of a3.1 (by kernel_rfl)) (fun _ _ _ h=>h) (Or.inl ⟨by rfl,?_⟩) ?_ ?_;rotate_left
                         ·
                          intro w';go_simp;with_reducible rfl
                         rotate_left
                         ·
                          simp only [Act.put,s0_,s1_,s2_,i64_w,i32_w];rfl
                         refine pure_ (i:=6) (N:=some 80) (v:=?_) (a':=?_) #[y_,y_,y_,n_,y_,y_,y_,n_,n_,n_,n_,n_,n_,n_] rfl rfl (any_of a3.1 (by kernel_rfl)) (fun _ _ _ h=>h) (Or.inl ⟨by rfl,?_⟩) ?_ ?_;rotate_left
                         ·
                          intro w';go_simp;with_reducible rfl
                         rotate_left
                         ·
                          simp only [Act.put,s0_,s1_,s2_,i64_w,i32_w];rfl
                         refine take_ (i:=3) (N:=some 77) (v:=?_) (a':=?_) #[y_,y_,y_,y_,y_,y_,y_,n_,n_,n_,n_,n_,n_,n_] rfl rfl (take_ofW a3.1 m3.1 (by kernel_rfl)) (fun _ _ _ h=>h) (Or.inl ⟨by rfl,?_⟩) a2 ?_ ?_;rotate_left
                         ·
                          rintro w' ⟨s0,s1⟩;go_simp;with_reducible rfl
                         rotate_left
                         ·
                          simp only [Act.put,s0_,s1_,s2_,i64_w,i32_w];rfl
                         refine take_ (i:=7) (N:=some 81) (v:=?_) (a':=?_) #[y_,y_,y_,y_,y_,y_,y_,y_,n_,n_,n_,n_,n_,n_] rfl rfl (take_ofW a3.1 m3.1 (by kernel_rfl)) (fun _ _ _ h=>h) (Or.inl ⟨by rfl,?_⟩) a2 ?_ ?_;rotate_left
                         ·
                          rintro w' ⟨s0,s1⟩;go_simp;with_reducible rfl
                         rotate_left
                         ·
                          simp only [Act.put,s0_,s1_,s2_,i64_w,i32_w];rfl
                         refine one_ (i:=8) (N:=some 82) #[y_,y_,y_,y_,y_,y_,y_,y_,y_,n_,n_,n_,n_,n_] rfl rfl (one_of a3.1 (by kernel_rfl)) (by decide) (fun K hK=>?_);refine goes_ Try.func38 (by kernel_rfl) rfl #[.slice f7 (rd_L1 F B).length f8,.slice g0 (rd_L1 Y E).length g1] (by rfl) rfl rfl (by (try simp only [m0_,m1_,m2_]);first|done|rfl|(simp only [l0_,l1_];rfl)) ?_;with_reducible refine (bellpullref05_Less.calls kj24 _ _ (rd_L1 F B) _ _ (rd_L1 Y E) l9 false _ ?side1 ?side2 ?side3 ?side4 s3.1).mono ?_
                         (case side1=>repeat (first|exact (by repeat (first|(with_reducible exact T.1)|(with_reducible refine Kd.C_alloc ?_ _)|(with_reducible refine Kd.C_drewN ?_ _)|(with_reducible refine Kd.C_drew ?_)|exact T.1))|(with_reducible refine Kd.C_alloc ?_ _)|(with_reducible refine Kd.C_drewN ?_ _)|(with_reducible refine Kd.C_drew ?_)));(case side2=>exact h1.1);(case side3=>repeat (first|exact (by repeat (first|(with_reducible exact U.1)|(with_reducible refine Kd.C_alloc ?_ _)|(with_reducible refine Kd.C_drewN ?_ _)|(with_reducible refine Kd.C_drew ?_)|exact U.1))|(with_reducible refine Kd.C_alloc ?_ _)|(with_reducible refine Kd.C_drewN ?_ _)|(with_reducible refine Kd.C_drew ?_)));(case side4=>exact h2.1);rintro e C0 ⟨s9,rfl,X,hb⟩;have m8:=(hb.cell (World.block_lt_of_cell? _ _ (a2.1))).trans (a2.1);have m9:=(hb.cell (World.block_lt_of_cell? _ _ (a2.2))).trans (a2.2);refine ⟨_,rfl,?_⟩;have e8:=mk0 (Kd.R_lower X (below_size Z.1));replace O:=mk0 (Kd.N_elder' O.1 (Kd.R_base X) hb);replace Q:=mk0 (Kd.N_elder' Q.1 (Kd.R_base X) hb);replace R:=mk0 (Kd.V_elder' R.1 (Kd.R_base X) hb);replace L:=mk0 (Kd.N_elder' L.1 (Kd.R_base X) hb);replace M:=mk0 (Kd.N_elder' M.1 (Kd.R_base X) hb);replace a5:=mk0 (Kd.V_elder' (by exact a5.1) (Kd.R_base X) hb);replace a6:=mk0 (Kd.V_elder' (by exact a6.1) (Kd.R_base X) hb);replace D:=bkb D hb;replace T:=mk0 (Kd.C_below (by repeat (first|(with_reducible exact T.1)|(with_reducible refine Kd.C_alloc ?_ _)|(with_reducible refine Kd.C_drewN ?_ _)|(with_reducible refine Kd.C_drew ?_)|exact T.1)) hb);replace U:=mk0 (Kd.C_below (by repeat (first|(with_reducible exact U.1)|(with_reducible refine Kd.C_alloc ?_ _)|(with_reducible refine Kd.C_drewN ?_ _)|(with_reducible refine Kd.C_drew ?_)|exact U.1)) hb);replace Z:=bst Z hb;(try clear hb);(try clear X);refine hK.out _ _ ⟨m8,m9⟩ (fun a2=>?_);clear hK K;refine norm_ (a':=?_) ?_ ?_;rotate_left
                         ·
                          show Act.put _ (some 82) _=_;simp only [Act.put,s0_,s1_,s2_,i64_w,i32_w];rfl
                         refine pure_ (i:=9) (N:=some 73) (v:=?_) (a':=?_) #[y_,y_,y_,y_,y_,y_,y_,y_,y_,y_,n_,n_,n_,n_] rfl rfl (any_of a3.1 (by kernel_rfl)) (fun _ _ _ h=>h) (Or.inl ⟨by rfl,?_⟩) ?_ ?_;rotate_left
                         ·
                          intro w';go_simp;with_reducible rfl
                         rotate_left
                         ·
                          simp only [Act.put,s0_,s1_,s2_,i64_w,i32_w];rfl
                         refine pure_ (i:=10) (N:=some 83) (v:=?_) (a':=?_) #[y_,y_,y_,y_,y_,y_,y_,y_,y_,y_,y_,n_,n_,n_] rfl rfl (any_of a3.1 (by kernel_rfl)) (fun _ _ _ h=>h) (Or.inl ⟨by rfl,?_⟩) ?_ ?_;rotate_left
                         ·
                          intro w';go_simp;with_reducible rfl
                         rotate_left
                         ·
                          simp only [Act.put,s0_,s1_,s2_,i64_w,i32_w];rfl
                         refine pure_ (i:=11) (N:=some 84) (v:=?_) (a':=?_) #[y_,y_,y_,y_,y_,y_,y_,y_,y_,y_,y_,y_,n_,n_] rfl rfl (any_of a3.1 (by kernel_rfl)) (fun _ _ _ h=>h) (Or.inl ⟨by rfl,?_⟩) ?_ ?_;rotate_left
                         ·
                          intro w';go_simp;with_reducible rfl
                         rotate_left
                         ·
                          simp only [Act.put,s0_,s1_,s2_,i64_w,i32_w];rfl
                         refine pure_ (i:=12) (N:=some 15) (v:=?_) (a':=?_) #[y_,y_,y_,y_,y_,y_,y_,y_,y_,y_,y_,y_,y_,n_] rfl rfl (any_of a3.1 (by kernel_rfl)) (fun _ _ _ h=>h) (Or.inl ⟨by rfl,?_⟩) ?_ ?_;rotate_left
                         ·
                          intro w';go_simp;with_reducible rfl
                         rotate_left
                         ·
                          simp only [Act.put,s0_,s1_,s2_,i64_w,i32_w];rfl
                         refine pure_ (i:=13) (N:=some 16) (v:=?_) (a':=?_) #[y_,y_,y_,y_,y_,y_,y_,y_,y_,y_,y_,y_,y_,y_] rfl rfl (any_of a3.1 (by kernel_rfl)) (fun _ _ _ h=>h) (Or.inl ⟨by rfl,?_⟩) ?_ ?_;rotate_left
                         ·
                          intro w';go_simp;with_reducible rfl
                         rotate_left
                         ·
                          simp only [Act.put,s0_,s1_,s2_,i64_w,i32_w];rfl
                         refine done_ (done_of a3.1 (by kernel_rfl)) ?_;try go_wp2
                         go_roundg kj24
                         case measure=>have:=e9.1;have:=f0.1;have:=f1.1;have:=g3.1;have:=e3.1;have:=l4.1;have:=i7.1;omega
                         case rel=>exact ⟨(false),(wrap64 (E + 1)),(by first|rfl|(simp;done)|(simp [*];done)),(by first|rfl|(simp;done)|(simp [*];done)),H',⟨by have:=e9.1;have:=f0.1;have:=f1.1;have:=g3.1;have:=e3.1;have:=l4.1;have:=i7.1;omega⟩,⟨by exact Kd.N_mono O.1 (fun _ hk=>⟨hk.1.1,⟨hk.1.2.1,⟨hk.1.2.2.1,hk.1.2.2.2⟩⟩⟩)⟩,⟨by exact Kd.N_mono Q.1 (fun _ hk=>⟨hk.1.1,⟨hk.1.2.1,⟨hk.1.2.2.1,hk.1.2.2.2⟩⟩⟩)⟩,⟨by exact Kd.V_mono R.1 (fun _ hk=>⟨hk.1.1,⟨hk.1.2.1,hk.1.2.2⟩⟩)⟩,⟨by exact Kd.N_mono L.1 (fun _ hk=>⟨hk.1.1,⟨hk.1.2.1,⟨hk.1.2.2.1,hk.1.2.2.2⟩⟩⟩)⟩,⟨by exact Kd.N_mono M.1 (fun _ hk=>⟨hk.1.1,⟨hk.1.2.1,⟨hk.1.2.2.1,hk.1.2.2.2⟩⟩⟩)⟩,⟨by exact D.1⟩,⟨by repeat (first|(with_reducible first|exact Z.1|apply below_alloc|apply pw_below_drewN|apply below_drew1|refine below_set ?_ b2.1)|exact Z.1)⟩⟩
                       ·
                        rw [if_neg c33] at H;exact absurd H (by simp)
                      ·
                       rw [if_neg c32] at H;exact absurd H (by simp)
                     ·
                      rw [if_neg c31] at H;exact absurd H (by simp)
                    ·
                     rw [if_neg c30] at H;exact absurd H (by simp)
                   ·
                    replace q0:=Bool.eq_false_iff.mpr q0;subst q0;have H1:(bellpulllaw05_CountSum.l2 kj24 a0 G I a1 a4 F B i1 (wrap64 (a7 + 1)))=some r:=by rw [if_neg (show ¬ (false=true) by decide)] at H;exact H
                    clear H;have H:=H1;clear H1;have H':=mk0 H;clear H;go_wp2;go_roundg kj24
                    case measure=>have:=e9.1;have:=f0.1;have:=f1.1;have:=g3.1;have:=e3.1;have:=l4.1;have:=i7.1;omega
                    case rel=>exact ⟨(i1),(wrap64 (a7 + 1)),(by first|rfl|(simp;done)|(simp [*];done)),(by first|rfl|(simp;done)|(simp [*];done)),H',⟨by have:=e9.1;have:=f0.1;have:=f1.1;have:=g3.1;have:=e3.1;have:=l4.1;have:=i7.1;omega⟩,⟨by exact Kd.N_mono O.1 (fun _ hk=>⟨hk.1,⟨hk.2.1,hk.2.2.2⟩⟩)⟩,⟨by exact Kd.N_mono Q.1 (fun _ hk=>⟨hk.1,⟨hk.2.1,hk.2.2.2⟩⟩)⟩,⟨by exact Kd.V_mono R.1 (fun _ hk=>⟨hk.1,hk.2.2⟩)⟩,⟨by exact Kd.N_mono L.1 (fun _ hk=>⟨hk.1,⟨hk.2.1,hk.2.2.2⟩⟩)⟩,⟨by exact D.1⟩,⟨by repeat (first|(with_reducible first|exact Z.1|apply below_alloc|apply pw_below_drewN|apply below_drew1|refine below_set ?_ b2.1)|exact Z.1)⟩⟩
              ·
               replace n7:=Bool.eq_false_iff.mpr n7;subst n7;have H1:(if 0 ≤ B then (if B < (F.length:Int) then ((count_Has.f kj19 a0 a1 (rd_L1 F B)).bind fun q6=>(if q6.2=0 then (if q6.1=true then (if d2=true then (bellpulllaw05_CountSum.l1 kj19 a0 G I a1 a4 F (wrap64 (B + 1))) else (none)) else (if d2=true then (none) else (bellpulllaw05_CountSum.l1 kj19 a0 G I a1 a4 F (wrap64 (B + 1))))) else (none))) else (none)) else (none))=some r:=by rw [if_neg (show ¬ (false=true) by decide)] at H;exact H
               clear H;have H:=H1;clear H1
               by_cases c52:0 ≤ B
               ·
                rw [if_pos c52] at H;have c52b0:decide (0 ≤ B)=true:=decide_eq_true c52;clear c52
                by_cases c53:B < (F.length:Int)
                ·
                 rw [if_pos c53] at H;have c53b0:decide (B < (F.length:Int))=true:=decide_eq_true c53;clear c53;replace H:=Option.bind_eq_some_iff.mp H;obtain ⟨⟨v7,n2⟩,t4,H⟩:=H;(try dsimp only at H);have u9:=mk0 t4;clear t4
                 by_cases c55:n2=0
                 ·
                  rw [if_pos c55] at H;have c55b0:(n2 == 0)=true:=beq_iff_eq.mpr c55;have c55b1:(n2 != 0)=false:=bne_eq_false_iff_eq.mpr c55;clear c55
                  by_cases q7:v7=true
                  ·
                   subst q7;have H1:(if d2=true then (bellpulllaw05_CountSum.l1 kj19 a0 G I a1 a4 F (wrap64 (B + 1))) else (none))=some r:=by rw [if_pos rfl] at H;exact H
                   clear H;have H:=H1;clear H1
                   by_cases q8:d2=true
                   ·
                    subst q8;have H1:(bellpulllaw05_CountSum.l1 kj19 a0 G I a1 a4 F (wrap64 (B + 1)))=some r:=by rw [if_pos rfl] at H;exact H
                    clear H;have H:=H1;clear H1;have H':=mk0 H;clear H;have i5:0 ≤ (B:Int):=of_decide_eq_true (by assumption);have i6:B < (F.length:Int):=of_decide_eq_true (by assumption);obtain ⟨o7,n3,n4,p4,m1,h6,h7⟩:=at_L1 (Kd.N_reads' L.1).2.2 B i5 i6;cases p4;obtain ⟨u3,n5,n6,j7⟩:=Kd.N_get L.1 [] B i5 (by first|exact i6|exact of_decide_eq_true (by assumption)|(have e_:=(Kd.N_reads' L.1).1;omega));obtain ⟨r2,r3,rfl,f5,f6⟩:=Kd.FK_slice_open n6;have d4:=j7 0 _ rfl;rw [Nat.add_zero,show ((Kd.slice 3 (Kd.int .i64))).sz=1 from rfl,Nat.mul_one] at d4;replace d4:=Option.some.inj (d4.symm.trans m1);injection d4 with hva_ hvn_ hvc_;rw [hva_] at f6;rw [hvc_] at f5;have h8:=mk0 (show Kd.V (Kd.int .i64) 3 _ w.heap.size _ _ (rd_L1 F B) from Kd.V_mk f5 f6);clear hva_ hvn_ hvc_ f6 f5;clear j7 n5;have c5:=mk0 h7;have m2:=mk0 h6;clear h7 h6;replace i5:=eq_true i5;replace i6:=eq_true i6;obtain ⟨v9,x0,x1⟩:=Kd.V_slice R.1;subst x1;go_wp2_with (first|((with_reducible refine gate_callee (f:=23) rfl ?_);refine goesL_ (some 106) rfl rfl Try.func23 (by kernel_rfl) rfl #[.int .i64 a0,.slice v9 a1.length x0,.slice n3 (rd_L1 F B).length n4] rfl (by (try simp only [m0_,m1_,m2_]);first|done|rfl|(simp only [l0_,l1_];rfl)) ?_;(with_reducible refine (count_Has.calls kj19 a0 (fun k_=>(some k_ ≠ (.slice (some o7) F.length b5:Value).ownBlock∧k_ ≠ J)) _ _ a1 _ _ (rd_L1 F B) true n2 _ ?side1 ?side2 ?side3 u9.1).mono ?_);(case side1=>exact R.1);(case side2=>repeat (first|exact (by repeat (first|(with_reducible exact c5.1)|(with_reducible refine Kd.C_alloc ?_ _)|(with_reducible refine Kd.C_drewN ?_ _)|(with_reducible refine Kd.C_drew ?_)|exact c5.1))|(with_reducible refine Kd.C_alloc ?_ _)|(with_reducible refine Kd.C_drewN ?_ _)|(with_reducible refine Kd.C_drew ?_)));(case side3=>exact m2.1);rintro e C1 ⟨rfl,hb⟩;refine ⟨_,rfl,?_⟩;replace O:=mk0 (Kd.N_below O.1 hb);replace Q:=mk0 (Kd.N_below Q.1 hb);replace R:=mk0 (Kd.V_below R.1 hb);replace L:=mk0 (Kd.N_below L.1 hb);replace h8:=mk0 (Kd.V_below (by exact h8.1) hb);replace D:=bkb D hb;replace c5:=mk0 (Kd.C_below (by repeat (first|(with_reducible exact c5.1)|(with_reducible refine Kd.C_alloc ?_ _)|(with_reducible refine Kd.C_drewN ?_ _)|(with_reducible refine Kd.C_drew ?_)|exact c5.1)) hb);replace Z:=bst Z hb;(try clear hb)));go_roundg kj19
                    case measure=>have:=e9.1;have:=f0.1;have:=f1.1;have:=g3.1;have:=e3.1;omega
                    case rel=>exact ⟨(wrap64 (B + 1)),(by first|rfl|(simp;done)|(simp [*];done)),H',⟨by have:=e9.1;have:=f0.1;have:=f1.1;have:=g3.1;have:=e3.1;omega⟩,⟨by exact O.1⟩,⟨by exact Q.1⟩,⟨by exact R.1⟩,⟨by exact L.1⟩,⟨by exact D.1⟩,⟨by repeat (first|(with_reducible first|exact Z.1|apply below_alloc|apply pw_below_drewN|apply below_drew1|refine below_set ?_ b2.1)|exact Z.1)⟩⟩
                   ·
                    replace q8:=Bool.eq_false_iff.mpr q8;subst q8;have H1:(none)=some r:=by rw [if_neg (show ¬ (false=true) by decide)] at H;exact H
                    clear H;have H:=H1;clear H1;exact absurd H (by simp)
                  ·
                   replace q7:=Bool.eq_false_iff.mpr q7;subst q7;have H1:(if d2=true then (none) else (bellpulllaw05_CountSum.l1 kj19 a0 G I a1 a4 F (wrap64 (B + 1))))=some r:=by rw [if_neg (show ¬ (false=true) by decide)] at H;exact H
                   clear H;have H:=H1;clear H1
                   by_cases q9:d2=true
                   ·
                    subst q9;have H1:(none)=some r:=by rw [if_pos rfl] at H;exact H
                    clear H;have H:=H1;clear H1;exact absurd H (by simp)
                   ·
                    replace q9:=Bool.eq_false_iff.mpr q9;subst q9;have H1:(bellpulllaw05_CountSum.l1 kj19 a0 G I a1 a4 F (wrap64 (B + 1)))=some r:=by rw [if_neg (show ¬ (false=true) by decide)] at H;exact H
                    clear H;have H:=H1;clear H1;have H':=mk0 H;clear H;have i5:0 ≤ (B:Int):=of_decide_eq_true (by assumption);have i6:B < (F.length:Int):=of_decide_eq_true (by assumption);obtain ⟨o7,n3,n4,p4,m1,h6,h7⟩:=at_L1 (Kd.N_reads' L.1).2.2 B i5 i6;cases p4;obtain ⟨u3,n5,n6,j7⟩:=Kd.N_get L.1 [] B i5 (by first|exact i6|exact of_decide_eq_true (by assumption)|(have e_:=(Kd.N_reads' L.1).1;omega));obtain ⟨r2,r3,rfl,f5,f6⟩:=Kd.FK_slice_open n6;have d4:=j7 0 _ rfl;rw [Nat.add_zero,show ((Kd.slice 3 (Kd.int .i64))).sz=1 from rfl,Nat.mul_one] at d4;replace d4:=Option.some.inj (d4.symm.trans m1);injection d4 with hva_ hvn_ hvc_;rw [hva_] at f6;rw [hvc_] at f5;have h8:=mk0 (show Kd.V (Kd.int .i64) 3 _ w.heap.size _ _ (rd_L1 F B) from Kd.V_mk f5 f6);clear hva_ hvn_ hvc_ f6 f5;clear j7 n5;have c5:=mk0 h7;have m2:=mk0 h6;clear h7 h6;replace i5:=eq_true i5;replace i6:=eq_true i6;obtain ⟨x2,x3,x4⟩:=Kd.V_slice R.1;subst x4;go_wp2_with (first|((with_reducible refine gate_callee (f:=23) rfl ?_);refine goesL_ (some 106) rfl rfl Try.func23 (by kernel_rfl) rfl #[.int .i64 a0,.slice x2 a1.length x3,.slice n3 (rd_L1 F B).length n4] rfl (by (try simp only [m0_,m1_,m2_]);first|done|rfl|(simp only [l0_,l1_];rfl)) ?_;(with_reducible refine (count_Has.calls kj19 a0 (fun k_=>(some k_ ≠ (.slice (some o7) F.length b5:Value).ownBlock∧k_ ≠ J)) _ _ a1 _ _ (rd_L1 F B) false n2 _ ?side1 ?side2 ?side3 u9.1).mono ?_);(case side1=>exact R.1);(case side2=>repeat (first|exact (by repeat (first|(with_reducible exact c5.1)|(with_reducible refine Kd.C_alloc ?_ _)|(with_reducible refine Kd.C_drewN ?_ _)|(with_reducible refine Kd.C_drew ?_)|exact c5.1))|(with_reducible refine Kd.C_alloc ?_ _)|(with_reducible refine Kd.C_drewN ?_ _)|(with_reducible refine Kd.C_drew ?_)));(case side3=>exact m2.1);rintro e C2 ⟨rfl,hb⟩;refine ⟨_,rfl,?_⟩;replace O:=mk0 (Kd.N_below O.1 hb);replace Q:=mk0 (Kd.N_below Q.1 hb);replace R:=mk0 (Kd.V_below R.1 hb);replace L:=mk0 (Kd.N_below L.1 hb);replace h8:=mk0 (Kd.V_below (by exact h8.1) hb);replace D:=bkb D hb;replace c5:=mk0 (Kd.C_below (by repeat (first|(with_reducible exact c5.1)|(with_reducible refine Kd.C_alloc ?_ _)|(with_reducible refine Kd.C_drewN ?_ _)|(with_reducible refine Kd.C_drew ?_)|exact c5.1)) hb);replace Z:=bst Z hb;(try clear hb)));go_roundg kj19
                    case measure=>have:=e9.1;have:=f0.1;have:=f1.1;have:=g3.1;have:=e3.1;omega
                    case rel=>exact ⟨(wrap64 (B + 1)),(by first|rfl|(simp;done)|(simp [*];done)),H',⟨by have:=e9.1;have:=f0.1;have:=f1.1;have:=g3.1;have:=e3.1;omega⟩,⟨by exact O.1⟩,⟨by exact Q.1⟩,⟨by exact R.1⟩,⟨by exact L.1⟩,⟨by exact D.1⟩,⟨by repeat (first|(with_reducible first|exact Z.1|apply below_alloc|apply pw_below_drewN|apply below_drew1|refine below_set ?_ b2.1)|exact Z.1)⟩⟩
                 ·
                  rw [if_neg c55] at H;exact absurd H (by simp)
                ·
                 rw [if_neg c53] at H;exact absurd H (by simp)
               ·
                rw [if_neg c52] at H;exact absurd H (by simp)
         ·
          rw [if_neg c18] at H;have c18b0:decide (B < (F.length:Int))=false:=decide_eq_false c18;clear c18;have H':=mk0 H;clear H;obtain ⟨A6,A7,x5⟩:=Kd.N_slice L.1;subst x5;go_wp2;go_roundg k3
          case measure=>have:=e9.1;have:=f0.1;have:=f1.1;omega
          case rel=>exact ⟨(wrap64 (a4 + 1)),(by first|rfl|(simp;done)|(simp [*];done)),H',⟨by have:=e9.1;have:=f0.1;have:=f1.1;omega⟩,⟨by exact Kd.N_mono O.1 (fun _ hk=>⟨hk.1,hk.2.2⟩)⟩,⟨by exact Kd.N_mono Q.1 (fun _ hk=>⟨hk.1,hk.2.2⟩)⟩,⟨by exact Kd.V_mono R.1 (fun _ hk=>hk.2)⟩,⟨by exact D.1⟩,⟨by repeat (first|(with_reducible first|exact Z.1|apply below_alloc|apply pw_below_drewN|apply below_drew1|refine below_set ?_ b2.1)|exact Z.1)⟩⟩
      ·
       rw [if_neg c15] at H;have c15b0:decide (a4 ≤ 6)=false:=decide_eq_false c15;clear c15;obtain rfl:=Option.some.inj H;go_wp2;go_ret;exact ⟨by first|rfl|(simp [errW_none,errW_some] <;> rfl)|(simp [*,errW_none,errW_some] <;> rfl),by repeat (first|(with_reducible first|exact Z.1|apply below_alloc|apply pw_below_drewN|apply below_drew1|refine below_set ?_ b2.1)|exact Z.1)⟩
end Go.Proofs.Ytkonljiembcdlaa.PC
/- Small tools for statements of the form 'with enough rounds the answer is r'. -/
set_option linter.unusedVariables false
set_option linter.unusedSimpArgs false
namespace Go.Proofs.Ytkonljiembcdlaa.Pure
open Go.RowKit Go.Proofs.YtkonljiembcdlaaW.PrintWords
theorem wrap_id {x:Int} (h0:-9223372036854775808 ≤ x) (h1:x ≤ 9223372036854775807):wrap64 x=x:=by
  unfold wrap64;omega
section
variable {α β:Type} {g a b:Nat → Option α} {r:α}
theorem Ev.rounds (h:Ev g r):∃ k,g k=some r:=by
  obtain ⟨K,hK⟩:=h
  exact ⟨K,hK K (Nat.le_refl _)⟩
theorem Ev.succ (h:Ev (fun k=>g (k + 1)) r):Ev g r:=Ev.step (fun _=>rfl) h
theorem Ev.pos {c:Prop} [Decidable c] (hc:c) (h:Ev a r):Ev (fun k=>if c then a k else b k) r:=by
  simpa only [if_pos hc] using h
theorem Ev.neg {c:Prop} [Decidable c] (hc:¬ c) (h:Ev b r):Ev (fun k=>if c then a k else b k) r:=by
  simpa only [if_neg hc] using h
theorem Ev.bindc {o:Option β} {f:Nat → β → Option α} {x:β} (ho:o=some x) (h:Ev (fun k=>f k x) r):Ev (fun k=>o.bind (f k)) r:=by
  subst ho;simpa only [Option.bind_some] using h
end
theorem rd_app (pre:List Int) (x:Int) (t:List Int):rd (pre ++ x :: t) (pre.length:Int)=x:=by
  simp [rd,List.getD_eq_getElem?_getD]
theorem rd_nat (l:List Int) (j:Nat) (h:j < l.length):rd l (j:Int)=l[j]:=by
  simp [rd,List.getD_eq_getElem?_getD,List.getElem?_eq_getElem h]
theorem wf_u8 {a:Int} (h:(Lit.int .u8 a).wf=true):0 ≤ a∧a ≤ 255:=by
  simp only [Lit.wf,Bool.and_eq_true,decide_eq_true_eq] at h
  exact h
end Go.Proofs.Ytkonljiembcdlaa.Pure
/- Sums of periods, in plain Lean. -/
set_option linter.unusedVariables false
namespace Go.Proofs.Ytkonljiembcdlaa.Sem
abbrev Vec:=List Int
def addV:Vec → Vec → Vec
  | x :: v,y :: w=>(x + y) :: addV v w
  | _,_=>[]
def subV:Vec → Vec → Vec
  | x :: v,y :: w=>(x - y) :: subV v w
  | _,_=>[]
def zeroN (d:Nat):Vec:=List.replicate d 0
def nnV (v:Vec):Prop:=∀ x,x ∈ v → 0 ≤ x
instance (v:Vec):Decidable (nnV v):=by unfold nnV;infer_instance
theorem addV_comm:∀ v w:Vec,addV v w=addV w v
  | [],[]=>rfl
  | [],y :: w=>rfl
  | x :: v,[]=>rfl
  | x :: v,y :: w=>by rw [addV,addV,addV_comm v w,Int.add_comm]
theorem addV_assoc:∀ v w u:Vec,addV (addV v w) u=addV v (addV w u)
  | [],w,u=>by simp [addV]
  | x :: v,[],u=>by simp [addV]
  | x :: v,y :: w,[]=>by simp [addV]
  | x :: v,y :: w,z :: u=>by rw [addV,addV,addV,addV,addV_assoc v w u,Int.add_assoc]
theorem addV_swap (v w u:Vec):addV (addV v w) u=addV (addV v u) w:=by
  rw [addV_assoc,addV_comm w u,← addV_assoc]
theorem addV_len {d:Nat}:∀ {v w:Vec},v.length=d → w.length=d → (addV v w).length=d:=by
  induction d with
  | zero=>intro v w hv hw;rw [List.length_eq_zero_iff.1 hv,List.length_eq_zero_iff.1 hw];rfl
  | succ d ih =>
    intro v w hv hw
    match v,w,hv,hw with
    | x :: v,y :: w,hv,hw=>simp at hv hw;simp [addV,ih hv hw]
theorem subV_len {d:Nat}:∀ {v w:Vec},v.length=d → w.length=d → (subV v w).length=d:=by
  induction d with
  | zero=>intro v w hv hw;rw [List.length_eq_zero_iff.1 hv,List.length_eq_zero_iff.1 hw];rfl
  | succ d ih =>
    intro v w hv hw
    match v,w,hv,hw with
    | x :: v,y :: w,hv,hw=>simp at hv hw;simp [subV,ih hv hw]
theorem zeroN_len (d:Nat):(zeroN d).length=d:=List.length_replicate
theorem zeroN_mem {d:Nat} {x:Int} (h:x ∈ zeroN d):x=0:=List.eq_of_mem_replicate h
theorem zeroN_succ (d:Nat):zeroN (d + 1)=0 :: zeroN d:=rfl
theorem eq_zeroN:∀ {v:Vec} {d:Nat},v.length=d → (∀ x,x ∈ v → x=0) → v=zeroN d
  | v,d,h,hz=>List.eq_replicate_iff.2 ⟨h,hz⟩
theorem addV_zero:∀ {v:Vec} {d:Nat},v.length=d → addV v (zeroN d)=v
  | [],0,_=>rfl
  | x :: v,d + 1,h=>by
    simp at h
    rw [zeroN_succ,addV,addV_zero h,Int.add_zero]
theorem subV_add:∀ {v w:Vec},v.length=w.length → addV (subV v w) w=v
  | [],[],_=>rfl
  | x :: v,y :: w,h=>by
    simp at h
    rw [subV,addV,subV_add h,Int.sub_add_cancel]
theorem addV_sub:∀ {v w:Vec},v.length=w.length → subV (addV v w) w=v
  | [],[],_=>rfl
  | x :: v,y :: w,h=>by
    simp at h
    rw [addV,subV,addV_sub h,Int.add_sub_cancel]
theorem sum_addV:∀ {v w:Vec},v.length=w.length → (addV v w).sum=v.sum + w.sum
  | [],[],_=>rfl
  | x :: v,y :: w,h=>by
    simp at h
    rw [addV,List.sum_cons,List.sum_cons,List.sum_cons,sum_addV h]
    omega
theorem sum_subV {v w:Vec} (h:v.length=w.length):(subV v w).sum=v.sum - w.sum:=by
  have h1:=sum_addV (v:=subV v w) (w:=w) (by rw [subV_len h rfl])
  rw [subV_add h] at h1
  omega
theorem sum_zeroN:∀ d,(zeroN d).sum=0
  | 0=>rfl
  | d + 1=>by rw [zeroN_succ,List.sum_cons,sum_zeroN d];rfl
theorem nn_addV:∀ {v w:Vec},nnV v → nnV w → nnV (addV v w)
  | [],w,_,_=>by intro x hx;simp [addV] at hx
  | x :: v,[],_,_=>by intro x hx;simp [addV] at hx
  | x :: v,y :: w,hv,hw=>by
    intro z hz
    rw [addV] at hz
    rcases List.mem_cons.1 hz with rfl|hz
    · have:=hv x (by simp)
      have:=hw y (by simp)
      omega
    · exact nn_addV (fun a ha=>hv a (by simp [ha])) (fun a ha=>hw a (by simp [ha])) z hz
theorem sum_nn:∀ {v:Vec},nnV v → 0 ≤ v.sum
  | [],_=>by simp
  | x :: v,h=>by
    rw [List.sum_cons]
    have:=h x (by simp)
    have:=sum_nn (v:=v) (fun a ha=>h a (by simp [ha]))
    omega
theorem zero_of_sum:∀ {v:Vec},nnV v → v.sum=0 → ∀ x,x ∈ v → x=0
  | [],_,_=>by simp
  | x :: v,h,hs=>by
    rw [List.sum_cons] at hs
    have h1:=h x (by simp)
    have h2:=sum_nn (v:=v) (fun a ha=>h a (by simp [ha]))
    intro y hy
    rcases List.mem_cons.1 hy with rfl|hy
    · omega
    · exact zero_of_sum (fun a ha=>h a (by simp [ha])) (by omega) y hy
theorem mem_le_sum:∀ {v:Vec},nnV v → ∀ x,x ∈ v → x ≤ v.sum
  | [],_,x,hx=>by simp at hx
  | y :: v,h,x,hx=>by
    rw [List.sum_cons]
    have h1:=h y (by simp)
    have h2:=sum_nn (v:=v) (fun a ha=>h a (by simp [ha]))
    rcases List.mem_cons.1 hx with rfl|hx
    · omega
    · have:=mem_le_sum (v:=v) (fun a ha=>h a (by simp [ha])) x hx
      omega
theorem nn_zeroN (d:Nat):nnV (zeroN d):=fun x hx=>by rw [zeroN_mem hx];decide
inductive Comb (d:Nat) (ps:List Vec):Vec → Prop
  | zero:Comb d ps (zeroN d)
  | add {p w}:p ∈ ps → Comb d ps w → Comb d ps (addV w p)
def okD (d:Nat) (ps:List Vec):Prop:=∀ p,p ∈ ps → p.length=d∧nnV p
section
variable {d:Nat} {ps:List Vec}
theorem Comb.len (hp:okD d ps) {v:Vec} (h:Comb d ps v):v.length=d:=by
  induction h with
  | zero=>exact zeroN_len d
  | add h1 _ ih=>exact addV_len ih (hp _ h1).1
theorem Comb.nn (hp:okD d ps) {v:Vec} (h:Comb d ps v):nnV v:=by
  induction h with
  | zero=>exact nn_zeroN d
  | add h1 _ ih=>exact nn_addV ih (hp _ h1).2
theorem Comb.mono {qs:List Vec} (hs:∀ p,p ∈ ps → p ∈ qs) {v:Vec} (h:Comb d ps v):Comb d qs v:=by
  induction h with
  | zero=>exact .zero
  | add h1 _ ih=>exact .add (hs _ h1) ih
theorem Comb.plus (hp:okD d ps) {v w:Vec} (h:Comb d ps v) (k:Comb d ps w):Comb d ps (addV v w):=by
  induction k with
  | zero=>rw [addV_zero (h.len hp)];exact h
  | add h1 _ ih=>rw [← addV_assoc];exact .add h1 ih
theorem comb_nil {v:Vec}:Comb d [] v ↔ v=zeroN d :=
  ⟨fun h=>by cases h with
    | zero=>rfl
    | add h1 _=>simp at h1,fun h=>h ▸ .zero⟩
theorem comb_cons {p v:Vec}:Comb d (p :: ps) v ↔ Comb d ps v ∨ ∃ w,Comb d (p :: ps) w∧v=addV w p:=by
  constructor
  · intro h
    induction h with
    | zero=>exact .inl .zero
    | @add q w h1 h2 ih =>
      rcases List.mem_cons.1 h1 with rfl|h1
      · exact .inr ⟨w,h2,rfl⟩
      · rcases ih with ih|⟨u,hu,rfl⟩
        · exact .inl (.add h1 ih)
        · exact .inr ⟨addV u q,.add (by simp [h1]) hu,addV_swap _ _ _⟩
  · rintro (h|⟨w,h,rfl⟩)
    · exact h.mono (fun q hq=>by simp [hq])
    · exact .add (by simp) h
theorem comb_sub {p v:Vec} (hp:okD d (p :: ps)) (hv:v.length=d):Comb d (p :: ps) v ↔ Comb d ps v ∨ Comb d (p :: ps) (subV v p):=by
  have hl:v.length=p.length:=hv.trans (hp p (by simp)).1.symm
  rw [comb_cons]
  constructor
  · rintro (h|⟨w,h,rfl⟩)
    · exact .inl h
    · rw [addV_sub ((h.len hp).trans (hp p (by simp)).1.symm)]
      exact .inr h
  · rintro (h|h)
    · exact .inl h
    · exact .inr ⟨_,h,(subV_add hl).symm⟩
theorem comb_skip {p:Vec} (hz:p=zeroN d) (hp:okD d ps) {v:Vec}:Comb d (p :: ps) v ↔ Comb d ps v:=by
  constructor
  · intro h
    induction h with
    | zero=>exact .zero
    | add h1 _ ih =>
      rcases List.mem_cons.1 h1 with rfl|h1
      · rw [hz,addV_zero (ih.len hp)];exact ih
      · exact .add h1 ih
  · exact fun h=>h.mono (fun q hq=>by simp [hq])
theorem comb_filter (hp:okD d ps) (f:Vec → Bool) (hf:∀ p,p ∈ ps → f p=false → p=zeroN d) {v:Vec}:Comb d (ps.filter f) v ↔ Comb d ps v:=by
  constructor
  · exact fun h=>h.mono (fun q hq=>(List.mem_filter.1 hq).1)
  · intro h
    have ho:okD d (ps.filter f):=fun q hq=>hp q (List.mem_filter.1 hq).1
    induction h with
    | zero=>exact .zero
    | @add p w h1 _ ih =>
      cases hb:f p with
      | true=>exact .add (List.mem_filter.2 ⟨h1,hb⟩) ih
      | false=>rw [hf p h1 hb,addV_zero (ih.len ho)];exact ih
end
end Go.Proofs.Ytkonljiembcdlaa.Sem
/- Differences of vectors, and sums of periods, as the program and the reference take them, in plain Lean. -/
set_option linter.unusedVariables false
set_option linter.unusedSimpArgs false
namespace Go.Proofs.Ytkonljiembcdlaa.Pure
open Go.RowKit Go.Proofs.MyWords Go.Proofs.YtkonljiembcdlaaW.PrintWords Go.Proofs.YtkonljiembcdlaaW.PrintLast Go.Proofs.YtkonljiembcdlaaW.PrintMore Go.Proofs.Ytkonljiembcdlaa.PC Go.Proofs.Ytkonljiembcdlaa.Sem
theorem getD_app {α:Type} (pre:List α) (x:α) (t:List α) (d:α):(pre ++ x :: t).getD ((pre.length:Int)).toNat d=x:=by
  simp [List.getD_eq_getElem?_getD]
theorem rdL1_app (pre:List (List Int)) (x:List Int) (t:List (List Int)):rd_L1 (pre ++ x :: t) (pre.length:Int)=x:=getD_app _ _ _ _
theorem rdL4_app (pre:List (List S60)) (x:List S60) (t:List (List S60)):rd_L4 (pre ++ x :: t) (pre.length:Int)=x:=getD_app _ _ _ _
theorem rdT60_app (pre:List S60) (x:S60) (t:List S60):rd_T60 (pre ++ x :: t) (pre.length:Int)=x:=getD_app _ _ _ _
theorem wsucc {n:Nat} (h:n < 4611686018427387904):wrap64 ((n:Int) + 1)=((n + 1:Nat):Int):=by rw [wrap_id (by omega) (by omega)];omega
theorem len_snoc {α:Type} (pre:List α) (x:α):pre.length + 1=(pre ++ [x]).length:=by simp
theorem app_snoc {α:Type} (pre:List α) (x:α) (t:List α):pre ++ x :: t=(pre ++ [x]) ++ t:=by simp
theorem lt_app {α:Type} (pre:List α) (x:α) (t:List α):(pre.length:Int) < ((pre ++ x :: t).length:Int):=by simp;omega
theorem set_app {α:Type} (pre:List α) (x y:α) (t:List α):(pre ++ x :: t).set ((pre.length:Int)).toNat y=pre ++ y :: t:=by simp
def inB (m:Int) (v:List Int):Prop:=∀ x,x ∈ v → 0 ≤ x∧x ≤ m
theorem inB.nn {m:Int} {v:List Int} (h:inB m v):nnV v:=fun x hx=>(h x hx).1
theorem outside_iff (v:List Int) (m:Int):(v.any fun x=>decide (x < 0) || decide (m < x))=true ↔ ¬ inB m v:=by
  rw [List.any_eq_true]
  constructor
  · rintro ⟨x,hx,h⟩ hi
    have:=hi x hx
    simp at h
    omega
  · intro h
    apply Classical.byContradiction
    intro h2
    refine h (fun x hx=>?_)
    apply Classical.byContradiction
    intro h3
    exact h2 ⟨x,hx,by simp;omega⟩
theorem less_go (m:Int):∀ (v2 w2 v1 w1 o1:List Int),v1.length=w1.length → o1.length=v1.length → v2.length=w2.length → inB 1000000 v2 → inB 1000000 w2 → (v1 ++ v2).length < 1000000 →
    Ev (fun k=>count_less.l0 k (v1 ++ v2) (w1 ++ w2) (o1 ++ List.replicate v2.length 0) ((v1 ++ v2).length:Int) (v1.length:Int)) (o1 ++ subV v2 w2,!((o1 ++ subV v2 w2).any fun x=>decide (x < 0) || decide (60 < x)))
  | [],[],v1,w1,o1,h1,h2,h3,b1,b2,hl=>by
    refine Ev.succ ?_
    simp only [count_less.l0]
    refine Ev.neg (by simp) ?_
    refine Ev.bindc (x:=(o1 ++ subV [] []).any fun x=>decide (x < 0) || decide (60 < x)) (by simp [count_outside.f,subV]) ?_
    simp [subV]
    exact Ev.now _
  | x :: v2,y :: w2,v1,w1,o1,h1,h2,h3,b1,b2,hl=>by
    have hlen:(v1 ++ x :: v2).length=v1.length + (v2.length + 1):=by simp
    have ih:=less_go m v2 w2 (v1 ++ [x]) (w1 ++ [y]) (o1 ++ [x - y]) (by simp [h1]) (by simp [h2]) (by simpa using h3) (fun z hz=>b1 z (by simp [hz])) (fun z hz=>b2 z (by simp [hz])) (by simp at hl ⊢;omega)
    have bx:=b1 x (by simp)
    have by':=b2 y (by simp)
    refine Ev.succ ?_
    simp only [count_less.l0]
    refine Ev.pos (by simp;omega) (Ev.pos (by omega) (Ev.pos (by simp;omega) (Ev.pos (by simp;omega) (Ev.pos (by simp;omega) ?_))))
    rw [rd_app v1 x v2,show (v1.length:Int)=(w1.length:Int) by omega,rd_app w1 y w2,← h1,wrap_id (by omega) (by omega),wsucc (by simp at hl;omega)]
    rw [← app_snoc,← app_snoc] at ih
    have e:(o1 ++ List.replicate (x :: v2).length 0).set ((v1.length:Int)).toNat (x - y)=o1 ++ [x - y] ++ List.replicate v2.length 0:=by
      rw [← h2,List.length_cons,List.replicate_succ,set_app];simp
    rw [e,len_snoc v1 x,subV]
    rw [List.append_assoc o1 [x - y] (subV v2 w2)] at ih
    exact ih
theorem less_ev {v w:List Int} (h:v.length=w.length) (hv:inB 1000000 v) (hw:inB 1000000 w) (hl:v.length < 1000000):Ev (fun k=>count_less.f k v w) (subV v w,!((subV v w).any fun x=>decide (x < 0) || decide (60 < x))):=by
  have:=less_go 0 v w [] [] [] rfl rfl h hv hw hl
  simp only [List.nil_append,List.length_nil] at this
  unfold count_less.f
  refine Ev.pos (by omega) (Ev.pos (by omega) ?_)
  rw [Int.toNat_natCast]
  exact this
theorem less_ok {m:Int} {v w:List Int} (h:v.length=w.length) (hv:inB 60 v) (hw:inB 1000000 w) (hl:v.length < 1000000):Ev (fun k=>count_less.f k v w) (subV v w,decide (nnV (subV v w))):=by
  have h1:=less_ev h (fun x hx=>⟨(hv x hx).1,by have:=hv x hx;omega⟩) hw hl
  have le60:∀ (v w:List Int),inB 60 v → nnV w → ∀ x,x ∈ subV v w → x ≤ 60:=fun v=>by
    induction v with
    | nil=>intro w _ _ x hx;simp [subV] at hx
    | cons a v ih =>
      intro w hv hw x hx
      match w,hw,hx with
      | b :: w,hw,hx =>
        rw [subV] at hx
        rcases List.mem_cons.1 hx with rfl|hx
        · have:=hv a (by simp)
          have:=hw b (by simp)
          omega
        · exact ih w (fun z hz=>hv z (by simp [hz])) (fun z hz=>hw z (by simp [hz])) x hx
  have e:(!((subV v w).any fun x=>decide (x < 0) || decide (60 < x)))=decide (nnV (subV v w)):=by
    rw [Bool.eq_iff_iff,decide_eq_true_iff,Bool.not_eq_true',← Bool.not_eq_true,outside_iff]
    constructor
    · intro h x hx
      exact (Classical.byContradiction h x hx).1
    · exact fun h hn=>hn (fun x hx=>⟨h x hx,le60 v w hv hw.nn x hx⟩)
  rw [← e]
  exact h1
theorem refLess_go:∀ (v2 w2 v1 w1 o1:List Int) (ok:Bool),v1.length=w1.length → v2.length=w2.length → inB 1000000 v2 → inB 1000000 w2 → (v1 ++ v2).length < 1000000 → o1.length=v1.length →
    Ev (fun k=>bellpullref05_Less.l0 k (v1 ++ v2) (w1 ++ w2) o1 ok (v1.length:Int)) (o1 ++ subV v2 w2,ok && decide (nnV (subV v2 w2)))
  | [],[],v1,w1,o1,ok,h1,h3,b1,b2,hl,ho=>by
    refine Ev.succ ?_
    simp only [bellpullref05_Less.l0]
    refine Ev.neg (by simp) ?_
    have:decide (nnV (subV [] []))=true:=decide_eq_true (fun x hx=>by simp [subV] at hx)
    rw [this]
    simp [subV]
    exact Ev.now _
  | x :: v2,y :: w2,v1,w1,o1,ok,h1,h3,b1,b2,hl,ho=>by
    have ih:∀ ok:Bool,Ev (fun k=>bellpullref05_Less.l0 k (v1 ++ x :: v2) (w1 ++ y :: w2) (o1 ++ [x - y]) ok ((v1.length + 1:Nat):Int)) (o1 ++ (x - y) :: subV v2 w2,ok && decide (nnV (subV v2 w2))):=fun ok=>by
      have:=refLess_go v2 w2 (v1 ++ [x]) (w1 ++ [y]) (o1 ++ [x - y]) ok (by simp [h1]) (by simpa using h3) (fun z hz=>b1 z (by simp [hz])) (fun z hz=>b2 z (by simp [hz])) (by simp at hl ⊢;omega) (by simp [ho])
      rw [← app_snoc,← app_snoc,← len_snoc,List.append_assoc o1] at this
      exact this
    have bx:=b1 x (by simp)
    have by':=b2 y (by simp)
    have e:decide (nnV (subV (x :: v2) (y :: w2)))=(decide (x ≥ y) && decide (nnV (subV v2 w2))):=by
      rw [Bool.eq_iff_iff,Bool.and_eq_true,decide_eq_true_iff,decide_eq_true_iff,decide_eq_true_iff,subV]
      constructor
      · exact fun h=>⟨by have:=h (x - y) (by simp);omega,fun z hz=>h z (by simp [hz])⟩
      · rintro ⟨h,h2⟩ z hz
        rcases List.mem_cons.1 hz with rfl|hz
        · omega
        · exact h2 z hz
    refine Ev.succ ?_
    simp only [bellpullref05_Less.l0]
    refine Ev.pos (by simp;omega) (Ev.pos (by omega) (Ev.pos (by simp;omega) (Ev.pos (by simp at hl;omega) ?_)))
    rw [rd_app v1 x v2,show (v1.length:Int)=(w1.length:Int) by omega,rd_app w1 y w2,← h1,wrap_id (by omega) (by omega),wsucc (by simp at hl;omega)]
    simp only [Option.bind_some]
    rw [e,subV]
    cases ok with
    | true =>
      refine Ev.pos rfl ?_
      rw [Bool.true_and]
      exact ih _
    | false =>
      refine Ev.neg (by simp) ?_
      rw [Bool.false_and]
      have:=ih false
      rw [Bool.false_and] at this
      exact this
theorem refLess_ev {v w:List Int} (h:v.length=w.length) (hv:inB 1000000 v) (hw:inB 1000000 w) (hl:v.length < 1000000):Ev (fun k=>bellpullref05_Less.f k v w) (subV v w,decide (nnV (subV v w))):=by
  have:=refLess_go v w [] [] [] true rfl h hv hw hl rfl
  simp only [List.nil_append,List.length_nil,Bool.true_and] at this
  exact this
theorem refTotal_go:∀ (v2 v1:List Int) (s:Int),inB 1000000 v2 → 0 ≤ s → s ≤ 1000000 * v1.length → (v1 ++ v2).length < 1000000 → Ev (fun k=>bellpullref05_Total.l0 k (v1 ++ v2) s (v1.length:Int)) (s + v2.sum)
  | [],v1,s,_,h0,h1,hl=>by
    refine Ev.succ ?_
    simp only [bellpullref05_Total.l0]
    refine Ev.neg (by simp) ?_
    simp
    exact Ev.now _
  | x :: v2,v1,s,hb,h0,h1,hl=>by
    have bx:=hb x (by simp)
    have ih:=refTotal_go v2 (v1 ++ [x]) (s + x) (fun z hz=>hb z (by simp [hz])) (by omega) (by simp;omega) (by simp at hl ⊢;omega)
    rw [← app_snoc,← len_snoc] at ih
    refine Ev.succ ?_
    simp only [bellpullref05_Total.l0]
    refine Ev.pos (by simp;omega) (Ev.pos (by omega) ?_)
    have hl2:v1.length < 1000000:=by simp at hl;omega
    rw [rd_app,wrap_id (x:=s + x) (by omega) (by omega),wsucc (by omega),List.sum_cons,← Int.add_assoc]
    exact ih
theorem refTotal_ev {v:List Int} (hv:inB 1000000 v) (hl:v.length < 1000000):Ev (fun k=>bellpullref05_Total.f k v) v.sum:=by
  have:=refTotal_go v [] 0 hv (by omega) (by simp) hl
  simp only [List.nil_append,List.length_nil,Int.zero_add] at this
  exact this
end Go.Proofs.Ytkonljiembcdlaa.Pure
/- Has, of the program and of the reference, in plain Lean. -/
set_option linter.unusedVariables false
set_option linter.unusedSimpArgs false
namespace Go.Proofs.Ytkonljiembcdlaa.Pure
open Go.RowKit Go.Proofs.MyWords Go.Proofs.YtkonljiembcdlaaW.PrintWords Go.Proofs.YtkonljiembcdlaaW.PrintLast Go.Proofs.YtkonljiembcdlaaW.PrintMore Go.Proofs.Ytkonljiembcdlaa.PC Go.Proofs.Ytkonljiembcdlaa.Sem
def okV (d:Nat) (m:Int) (v:List Int):Prop:=v.length=d∧inB m v
theorem okV.mono {d:Nat} {m n:Int} {v:List Int} (h:okV d m v) (hm:m ≤ n):okV d n v:=⟨h.1,fun x hx=>⟨(h.2 x hx).1,by have:=h.2 x hx;omega⟩⟩
def okP (d:Nat) (ps:List (List Int)):Prop:=∀ p,p ∈ ps → okV d 1000000 p
theorem okP.okD {d:Nat} {ps:List (List Int)} (h:okP d ps):okD d ps:=fun p hp=>⟨(h p hp).1,(h p hp).2.nn⟩
theorem okP.tail {d:Nat} {p:List Int} {ps:List (List Int)} (h:okP d (p :: ps)):okP d ps:=fun q hq=>h q (by simp [hq])
theorem sub60 {d:Nat} {v w:List Int} (hv:okV d 60 v) (hw:okV d 1000000 w) (h:nnV (subV v w)):okV d 60 (subV v w):=by
  refine ⟨subV_len hv.1 hw.1,fun x hx=>⟨h x hx,?_⟩⟩
  have:∀ (v w:List Int),inB 60 v → nnV w → ∀ x,x ∈ subV v w → x ≤ 60:=fun v=>by
    induction v with
    | nil=>intro w _ _ x hx;simp [subV] at hx
    | cons a v ih =>
      intro w hv hw x hx
      match w,hw,hx with
      | b :: w,hw,hx =>
        rw [subV] at hx
        rcases List.mem_cons.1 hx with rfl|hx
        · have:=hv a (by simp)
          have:=hw b (by simp)
          omega
        · exact ih w (fun z hz=>hv z (by simp [hz])) (fun z hz=>hw z (by simp [hz])) x hx
  exact this v w hv.2 hw.2.nn x hx
theorem zeroV_iff (v:List Int):zeroV v=true ↔ ∀ x,x ∈ v → x=0:=by
  unfold zeroV
  rw [Bool.not_eq_true',← Bool.not_eq_true,List.any_eq_true]
  constructor
  · intro h x hx
    apply Classical.byContradiction
    intro h2
    exact h ⟨x,hx,by simp [h2]⟩
  · rintro h ⟨x,hx,h2⟩
    rw [h x hx] at h2
    simp at h2
theorem zero_f (v:List Int):count_zero.f v=some (zeroV v):=rfl
theorem pos_of_nz {p:List Int} (hn:nnV p) (h:zeroV p=false):0 < p.sum:=by
  have:=sum_nn hn
  rcases Int.lt_or_eq_of_le this with h1|h1
  · exact h1
  · have:=(zeroV_iff p).2 (zero_of_sum hn h1.symm)
    rw [h] at this
    cases this
theorem made_nil (v:List Int):Ev (fun k=>count_made.f k v []) (zeroV v):=by
  refine Ev.succ ?_
  simp only [count_made.f,zero_f,Option.bind_some]
  cases h:zeroV v with
  | true=>exact Ev.pos rfl (Ev.now _)
  | false=>exact Ev.neg (by simp) (Ev.pos (by simp) (Ev.now _))
theorem made_ev (d:Nat) (hd:d < 1000000):∀ (ps:List (List Int)),okP d ps → (∀ p,p ∈ ps → zeroV p=false) → ∀ v,okV d 60 v → ∃ b,Ev (fun k=>count_made.f k v ps) b∧(b=true ↔ Comb d ps v)
  | [],_,_,v,hv=>⟨_,made_nil v,by
      rw [zeroV_iff,comb_nil]
      exact ⟨eq_zeroN hv.1,fun h x hx=>by rw [h] at hx;exact zeroN_mem hx⟩⟩
  | p :: ps,hp,hz,v,hv=>by
    have IH:=made_ev d hd ps hp.tail (fun q hq=>hz q (by simp [hq]))
    have pp:0 < p.sum:=pos_of_nz (hp p (by simp)).2.nn (hz p (by simp))
    have loop:∀ (n:Nat) (v:List Int),v.sum.toNat < n → okV d 60 v → ∃ b,Ev (fun k=>count_made.l0 k v (p :: ps) true) b∧(b=true ↔ Comb d (p :: ps) v):=fun n=>by
      induction n with
      | zero=>intro v h _;omega
      | succ n ih =>
        intro v hn hv
        have hl:v.length=p.length:=hv.1.trans (hp p (by simp)).1.symm
        have hle:=less_ok (m:=0) hl hv.2 (hp p (by simp)).2 (by rw [hv.1];exact hd)
        obtain ⟨b1,e1,i1⟩:=IH v hv
        have hc:=comb_sub hp.okD (v:=v) hv.1
        cases b1 with
        | true =>
          refine ⟨true,?_,⟨fun _=>hc.2 (.inl (i1.1 rfl)),fun _=>rfl⟩⟩
          refine Ev.succ ?_
          simp only [count_made.l0]
          refine Ev.pos trivial (Ev.pos (by simp <;> omega) (Ev.bind e1 (Ev.pos rfl (Ev.now _))))
        | false =>
          have hno:¬ Comb d ps v:=fun h=>by have:=i1.2 h;cases this
          have rd0:rd_L1 (p :: ps) 0=p:=rfl
          have start:∀ b,Ev (fun k=>count_made.l0 k (subV v p) (p :: ps) (decide (nnV (subV v p)))) b → Ev (fun k=>count_made.l0 k v (p :: ps) true) b:=fun b hb=>by
            refine Ev.succ ?_
            simp only [count_made.l0]
            refine Ev.pos trivial (Ev.pos (by simp <;> omega) (Ev.bind e1 (Ev.neg (by simp) (Ev.pos (by simp <;> omega) ?_))))
            rw [rd0]
            exact Ev.bind hle hb
          by_cases hnn:nnV (subV v p)
          · have hs:=sub60 hv (hp p (by simp)) hnn
            have hsum:=sum_subV hl
            have:=sum_nn hs.2.nn
            have:=sum_nn hv.2.nn
            obtain ⟨b,e2,i2⟩:=ih (subV v p) (by omega) hs
            refine ⟨b,start b (by rw [decide_eq_true hnn];exact e2),?_⟩
            rw [i2,hc]
            exact ⟨.inr,fun h=>h.resolve_left hno⟩
          · refine ⟨false,start false (by rw [decide_eq_false hnn];refine Ev.succ ?_;simp only [count_made.l0];exact Ev.neg (by simp) (Ev.now _)),⟨fun h=>(by cases h),fun h=>?_⟩⟩
            rcases hc.1 h with h|h
            · exact absurd h hno
            · exact absurd (h.nn hp.okD) hnn
    cases hzv:zeroV v with
    | true =>
      have:v=zeroN d:=eq_zeroN hv.1 ((zeroV_iff v).1 hzv)
      refine ⟨true,?_,⟨fun _=>this ▸ .zero,fun _=>rfl⟩⟩
      refine Ev.succ ?_
      simp only [count_made.f,zero_f,Option.bind_some,hzv]
      exact Ev.pos trivial (Ev.now _)
    | false =>
      obtain ⟨b,e,i⟩:=loop (v.sum.toNat + 1) v (by omega) hv
      refine ⟨b,?_,i⟩
      refine Ev.succ ?_
      simp only [count_made.f,zero_f,Option.bind_some,hzv]
      exact Ev.neg (by simp) (Ev.neg (by simp <;> omega) e)
def InL (d:Nat) (b:List Int) (ps:List (List Int)) (v:List Int):Prop:=∃ w,Comb d ps w∧v=addV b w
def InS (d:Nat) (set:List S60) (v:List Int):Prop:=∃ l,l ∈ set∧InL d l.f0 l.f1 v
def okL (d:Nat) (l:S60):Prop:=okV d 1000000 l.f0∧okP d l.f1∧l.f1.length ≤ 1000000
theorem inL_sub {d:Nat} {b:List Int} {ps:List (List Int)} (hb:okV d 1000000 b) (hp:okP d ps) {v:List Int} (hv:v.length=d):InL d b ps v ↔ nnV (subV v b)∧Comb d ps (subV v b):=by
  constructor
  · rintro ⟨w,hw,rfl⟩
    have hl:=hw.len hp.okD
    rw [addV_comm,addV_sub (hl.trans hb.1.symm)]
    exact ⟨hw.nn hp.okD,hw⟩
  · rintro ⟨_,h⟩
    exact ⟨_,h,by rw [addV_comm,subV_add (hv.trans hb.1.symm)]⟩
theorem in_ev {d:Nat} (hd:d < 1000000) {l:S60} (hl:okL d l) {v:List Int} (hv:okV d 60 v):∃ b,Ev (fun k=>count_in.f k l.f0 l.f1 v) b∧(b=true ↔ InL d l.f0 l.f1 v):=by
  obtain ⟨hb,hp,hn⟩:=hl
  have hle:=less_ok (m:=0) (hv.1.trans hb.1.symm) hv.2 hb.2 (by rw [hv.1];exact hd)
  have hi:=inL_sub hb hp hv.1
  have start:∀ b,Ev (fun k=>if decide (nnV (subV v l.f0))=true then count_made.f k (subV v l.f0) (l.f1.filter fun x=>!zeroV x) else some false) b → Ev (fun k=>count_in.f k l.f0 l.f1 v) b:=fun b h=>by
    unfold count_in.f
    exact Ev.pos (by omega) (Ev.bind hle h)
  by_cases hnn:nnV (subV v l.f0)
  · have hz:∀ p,p ∈ (l.f1.filter fun x=>!zeroV x) → zeroV p=false:=fun p h=>by simpa using (List.mem_filter.1 h).2
    obtain ⟨b,e,i⟩:=made_ev d hd (l.f1.filter fun x=>!zeroV x) (fun p h=>hp p (List.mem_filter.1 h).1) hz _ (sub60 hv hb hnn)
    refine ⟨b,start b (Ev.pos (decide_eq_true hnn) e),?_⟩
    rw [i,hi,comb_filter hp.okD (fun x=>!zeroV x) (fun p h hf=>eq_zeroN (hp p h).1 ((zeroV_iff p).1 (by simpa using hf)))]
    exact ⟨fun h=>⟨hnn,h⟩,fun h=>h.2⟩
  · exact ⟨false,start false (Ev.neg (by simpa using hnn) (Ev.now _)),⟨fun h=>(by cases h),fun h=>absurd (hi.1 h).1 hnn⟩⟩
theorem has_go {d:Nat} (hd:d < 1000000) {v:List Int} (hv:okV d 60 v):∀ set:List S60,(∀ l,l ∈ set → okL d l) → ∃ b,Ev (fun k=>count_has.g k v set) b∧(b=true ↔ InS d set v)
  | [],_=>⟨false,Ev.now _,⟨fun h=>(by cases h),fun ⟨l,h,_⟩=>by simp at h⟩⟩
  | l :: set,h=>by
    obtain ⟨b,e,i⟩:=in_ev hd (h l (by simp)) hv
    obtain ⟨c,f,j⟩:=has_go hd hv set (fun x hx=>h x (by simp [hx]))
    refine ⟨b || c,Ev.bind e (Ev.bind f (Ev.now _)),?_⟩
    rw [Bool.or_eq_true,i,j]
    constructor
    · rintro (h|⟨x,hx,h⟩)
      · exact ⟨l,by simp,h⟩
      · exact ⟨x,by simp [hx],h⟩
    · rintro ⟨x,hx,h2⟩
      rcases List.mem_cons.1 hx with rfl|hx
      · exact .inl h2
      · exact .inr ⟨x,hx,h2⟩
theorem has_ev {d:Nat} (hd:d < 1000000) {v:List Int} (hv:okV d 60 v) {set:List S60} (h:∀ l,l ∈ set → okL d l):∃ b,Ev (fun k=>count_has.f k set v) b∧(b=true ↔ InS d set v):=has_go hd hv set h
theorem refSums_ev (d:Nat) (hd:d < 1000000):∀ (n:Nat) (v:List Int) (ps:List (List Int)),v.sum.toNat < n → okV d 1000000 v → okP d ps → ps.length < 1000000 → ∃ b,Ev (fun k=>bellpullref05_sums.f k v ps) b∧(b=true ↔ Comb d ps v)
  | 0,v,ps,hn,_,_,_=>by omega
  | n + 1,v,ps,hn,hv,hp,hlen=>by
    have IH:=refSums_ev d hd n
    have tv:=refTotal_ev hv.2 (by rw [hv.1];exact hd)
    by_cases h0:v.sum=0
    · have:v=zeroN d:=eq_zeroN hv.1 (zero_of_sum hv.2.nn h0)
      refine ⟨true,?_,⟨fun _=>this ▸ .zero,fun _=>rfl⟩⟩
      refine Ev.succ ?_
      simp only [bellpullref05_sums.f]
      exact Ev.bind tv (Ev.pos h0 (Ev.now _))
    · have vp:0 < v.sum:=by have:=sum_nn hv.2.nn;omega
      have loop:∀ (t pre:List (List Int)),okP d t → (pre ++ t).length < 1000000 → ∃ b,Ev (fun k=>bellpullref05_sums.l0 k v (pre ++ t) (pre.length:Int)) b∧(b=true ↔ Comb d t v):=fun t=>by
        induction t with
        | nil =>
          intro pre _ _
          refine ⟨false,Ev.succ ?_,⟨fun h=>(by cases h),fun h=>?_⟩⟩
          · simp only [bellpullref05_sums.l0]
            exact Ev.neg (by simp) (Ev.now _)
          · rw [comb_nil.1 h,sum_zeroN] at h0
            exact absurd rfl h0
        | cons p t ih =>
          intro pre hpt hlen
          obtain ⟨b,e,i⟩:=ih (pre ++ [p]) hpt.tail (by simp at hlen ⊢;omega)
          rw [← app_snoc,← len_snoc] at e
          have op:=hpt p (by simp)
          have tp:=refTotal_ev op.2 (by rw [op.1];exact hd)
          have ws:wrap64 ((pre.length:Int) + 1)=((pre.length + 1:Nat):Int):=wsucc (by simp at hlen;omega)
          by_cases hp0:p.sum=0
          · have pz:p=zeroN d:=eq_zeroN op.1 (zero_of_sum op.2.nn hp0)
            refine ⟨b,Ev.succ ?_,i.trans (comb_skip pz hpt.tail.okD).symm⟩
            simp only [bellpullref05_sums.l0,rdL1_app,ws]
            exact Ev.pos (lt_app _ _ _) (Ev.pos (by omega) (Ev.bind tp (Ev.pos hp0 e)))
          · have hl:v.length=p.length:=hv.1.trans op.1.symm
            have hle:=refLess_ev hl hv.2 op.2 (by rw [hv.1];exact hd)
            have hc:=comb_sub hpt.okD (v:=v) hv.1
            have pp:0 < p.sum:=by have:=sum_nn op.2.nn;omega
            have hdrop:(pre ++ p :: t).drop ((pre.length:Int)).toNat=p :: t:=by simp
            by_cases hnn:nnV (subV v p)
            · have hs:okV d 1000000 (subV v p):=by
                refine ⟨subV_len hv.1 op.1,fun x hx=>⟨hnn x hx,?_⟩⟩
                have:∀ (v w:List Int),inB 1000000 v → nnV w → ∀ x,x ∈ subV v w → x ≤ 1000000:=fun v=>by
                  induction v with
                  | nil=>intro w _ _ x hx;simp [subV] at hx
                  | cons a v ih =>
                    intro w hv hw x hx
                    match w,hw,hx with
                    | b :: w,hw,hx =>
                      rw [subV] at hx
                      rcases List.mem_cons.1 hx with rfl|hx
                      · have:=hv a (by simp)
                        have:=hw b (by simp)
                        omega
                      · exact ih w (fun z hz=>hv z (by simp [hz])) (fun z hz=>hw z (by simp [hz])) x hx
                exact this v p hv.2 op.2.nn x hx
              have hsum:=sum_subV hl
              have:=sum_nn hs.2.nn
              obtain ⟨c,f,j⟩:=IH (subV v p) (p :: t) (by omega) hs hpt (by simp at hlen ⊢;omega)
              refine ⟨if c=true then true else b,Ev.succ ?_,?_⟩
              · simp only [bellpullref05_sums.l0,rdL1_app,ws]
                refine Ev.pos (lt_app _ _ _) (Ev.pos (by omega) (Ev.bind tp (Ev.neg hp0 (Ev.bind hle (Ev.pos (decide_eq_true hnn) (Ev.pos (by simp;omega) ?_))))))
                rw [hdrop]
                refine Ev.bind f ?_
                cases c with
                | true=>exact Ev.pos rfl (Ev.now _)
                | false=>exact Ev.neg (by simp) e
              · rw [hc,← j,← i]
                cases c <;> simp
            · refine ⟨b,Ev.succ ?_,?_⟩
              · simp only [bellpullref05_sums.l0,rdL1_app,ws]
                exact Ev.pos (lt_app _ _ _) (Ev.pos (by omega) (Ev.bind tp (Ev.neg hp0 (Ev.bind hle (Ev.neg (by simpa using hnn) e)))))
              · rw [i,hc]
                exact ⟨.inl,fun h=>h.resolve_right (fun h=>hnn (h.nn hpt.okD))⟩
      obtain ⟨b,e,i⟩:=loop ps [] hp hlen
      refine ⟨b,?_,i⟩
      refine Ev.succ ?_
      simp only [bellpullref05_sums.f]
      exact Ev.bind tv (Ev.neg h0 e)
theorem refHas_go {d:Nat} (hd:d < 1000000) {v:List Int} (hv:okV d 60 v):∀ (t pre:List S60),(∀ l,l ∈ t → okL d l∧l.f1.length < 1000000) → (pre ++ t).length < 1000000 → ∃ b,Ev (fun k=>bellpullref05_Has.l0 k (pre ++ t) v (pre.length:Int)) b∧(b=true ↔ InS d t v)
  | [],pre,_,_=>⟨false,by
      refine Ev.succ ?_
      simp only [bellpullref05_Has.l0]
      exact Ev.neg (by simp) (Ev.now _),⟨fun h=>(by cases h),fun ⟨l,h,_⟩=>by simp at h⟩⟩
  | l :: t,pre,h,hlen=>by
    obtain ⟨b,e,i⟩:=refHas_go hd hv t (pre ++ [l]) (fun x hx=>h x (by simp [hx])) (by simp at hlen ⊢;omega)
    rw [← app_snoc,← len_snoc] at e
    obtain ⟨⟨hb,hp,hn⟩,hn2⟩:=h l (by simp)
    have ws:wrap64 ((pre.length:Int) + 1)=((pre.length + 1:Nat):Int):=wsucc (by simp at hlen;omega)
    have hle:=refLess_ev (hv.1.trans hb.1.symm) (hv.mono (by decide)).2 hb.2 (by rw [hv.1];exact hd)
    have hi:=inL_sub hb hp hv.1
    have hs:InS d (l :: t) v ↔ InL d l.f0 l.f1 v ∨ InS d t v:=by
      constructor
      · rintro ⟨x,hx,h2⟩
        rcases List.mem_cons.1 hx with rfl|hx
        · exact .inl h2
        · exact .inr ⟨x,hx,h2⟩
      · rintro (h|⟨x,hx,h⟩)
        · exact ⟨l,by simp,h⟩
        · exact ⟨x,by simp [hx],h⟩
    by_cases hnn:nnV (subV v l.f0)
    · obtain ⟨c,f,j⟩:=refSums_ev d hd _ (subV v l.f0) l.f1 (Nat.lt_succ_self _) ((sub60 hv hb hnn).mono (by decide)) hp hn2
      refine ⟨if c=true then true else b,Ev.succ ?_,?_⟩
      · simp only [bellpullref05_Has.l0,rdT60_app,ws]
        refine Ev.pos (lt_app _ _ _) (Ev.pos (by omega) (Ev.bind hle (Ev.pos (decide_eq_true hnn) (Ev.bind f ?_))))
        cases c with
        | true=>exact Ev.pos rfl (Ev.now _)
        | false=>exact Ev.neg (by simp) e
      · rw [hs,hi,← j,← i]
        cases c <;> simp [hnn]
    · refine ⟨b,Ev.succ ?_,?_⟩
      · simp only [bellpullref05_Has.l0,rdT60_app,ws]
        exact Ev.pos (lt_app _ _ _) (Ev.pos (by omega) (Ev.bind hle (Ev.neg (by simpa using hnn) e)))
      · rw [hs,hi,i]
        exact ⟨.inr,fun h=>h.resolve_left (fun h=>hnn h.1)⟩
theorem refHas_ev {d:Nat} (hd:d < 1000000) {v:List Int} (hv:okV d 60 v) {set:List S60} (h:∀ l,l ∈ set → okL d l∧l.f1.length < 1000000) (hl:set.length < 1000000):∃ b,Ev (fun k=>bellpullref05_Has.f k set v) b∧(b=true ↔ InS d set v):=refHas_go hd hv set [] h hl
end Go.Proofs.Ytkonljiembcdlaa.Pure
/- Sums of sets of vectors, and all sums, in plain Lean. -/
set_option linter.unusedVariables false
namespace Go.Proofs.Ytkonljiembcdlaa.Sem
open Go.Proofs.Ytkonljiembcdlaa.PC Go.Proofs.Ytkonljiembcdlaa.Pure
theorem okD_app {d:Nat} {p q:List Vec} (hp:okD d p) (hq:okD d q):okD d (p ++ q):=fun x hx=>(List.mem_append.1 hx).elim (hp x) (hq x)
theorem comb_app {d:Nat} {p q:List Vec} (hp:okD d p) (hq:okD d q) {v:Vec}:Comb d (p ++ q) v ↔ ∃ u w,Comb d p u∧Comb d q w∧v=addV u w:=by
  constructor
  · intro h
    induction h with
    | zero=>exact ⟨_,_,.zero,.zero,(addV_zero (zeroN_len d)).symm⟩
    | @add x y h1 _ ih =>
      obtain ⟨u,w,hu,hw,rfl⟩:=ih
      rcases List.mem_append.1 h1 with h1|h1
      · exact ⟨addV u x,w,.add h1 hu,hw,addV_swap _ _ _⟩
      · exact ⟨u,addV w x,hu,.add h1 hw,addV_assoc _ _ _⟩
  · rintro ⟨u,w,hu,hw,rfl⟩
    exact Comb.plus (okD_app hp hq) (hu.mono (fun x hx=>List.mem_append_left _ hx)) (hw.mono (fun x hx=>List.mem_append_right _ hx))
def sumE (a b:S60):S60:=⟨addV a.f0 b.f0,a.f1 ++ b.f1⟩
def sumL (x y:List S60):List S60:=x.flatMap fun a=>y.map (sumE a)
theorem inL_sum {d:Nat} {a b:S60} (ha:okL d a) (hb:okL d b) {v:Vec}:InL d (sumE a b).f0 (sumE a b).f1 v ↔ ∃ u w,InL d a.f0 a.f1 u∧InL d b.f0 b.f1 w∧v=addV u w:=by
  unfold InL sumE
  simp only
  constructor
  · rintro ⟨z,hz,rfl⟩
    obtain ⟨u,w,hu,hw,rfl⟩:=(comb_app ha.2.1.okD hb.2.1.okD).1 hz
    refine ⟨_,_,⟨u,hu,rfl⟩,⟨w,hw,rfl⟩,?_⟩
    rw [addV_assoc,addV_assoc,← addV_assoc b.f0 u w,addV_comm b.f0 u,addV_assoc u]
  · rintro ⟨_,_,⟨u,hu,rfl⟩,⟨w,hw,rfl⟩,rfl⟩
    refine ⟨addV u w,(comb_app ha.2.1.okD hb.2.1.okD).2 ⟨u,w,hu,hw,rfl⟩,?_⟩
    rw [addV_assoc,addV_assoc,← addV_assoc b.f0 u w,addV_comm b.f0 u,addV_assoc u]
theorem inS_sum {d:Nat} {x y:List S60} (hx:∀ l,l ∈ x → okL d l) (hy:∀ l,l ∈ y → okL d l) {v:Vec}:InS d (sumL x y) v ↔ ∃ u w,InS d x u∧InS d y w∧v=addV u w:=by
  unfold sumL
  constructor
  · rintro ⟨l,hl,h⟩
    obtain ⟨a,ha,hl⟩:=List.mem_flatMap.1 hl
    obtain ⟨b,hb,rfl⟩:=List.mem_map.1 hl
    obtain ⟨u,w,h1,h2,e⟩:=(inL_sum (hx a ha) (hy b hb)).1 h
    exact ⟨u,w,⟨a,ha,h1⟩,⟨b,hb,h2⟩,e⟩
  · rintro ⟨u,w,⟨a,ha,h1⟩,⟨b,hb,h2⟩,e⟩
    exact ⟨sumE a b,List.mem_flatMap.2 ⟨a,ha,List.mem_map.2 ⟨b,hb,rfl⟩⟩,(inL_sum (hx a ha) (hy b hb)).2 ⟨u,w,h1,h2,e⟩⟩
theorem InL.len {d:Nat} {l:S60} (h:okL d l) {v:Vec} (hv:InL d l.f0 l.f1 v):v.length=d∧nnV v:=by
  obtain ⟨w,hw,rfl⟩:=hv
  exact ⟨addV_len h.1.1 (hw.len h.2.1.okD),nn_addV h.1.2.nn (hw.nn h.2.1.okD)⟩
theorem InS.len {d:Nat} {x:List S60} (hx:∀ l,l ∈ x → okL d l) {v:Vec} (hv:InS d x v):v.length=d∧nnV v:=by
  obtain ⟨l,hl,h⟩:=hv
  exact InL.len (hx l hl) h
inductive StarV (d:Nat) (P:Vec → Prop):Vec → Prop
  | zero:StarV d P (zeroN d)
  | add {u w}:P u → StarV d P w → StarV d P (addV w u)
section
variable {d:Nat}
theorem ins {ch x:List S60} (h:ch.Sublist x) (a:S60) (ha:a ∈ x):a ∈ ch ∨ ∃ c2:List S60,c2.Sublist x∧c2.Perm (a :: ch):=by
  induction h with
  | slnil=>simp at ha
  | @cons c x b hs ih =>
    rcases List.mem_cons.1 ha with rfl|ha
    · exact .inr ⟨a :: c,hs.cons_cons a,List.Perm.refl _⟩
    · rcases ih ha with h|⟨c2,h1,h2⟩
      · exact .inl h
      · exact .inr ⟨c2,h1.cons b,h2⟩
  | @cons_cons c x b hs ih =>
    rcases List.mem_cons.1 ha with rfl|ha
    · exact .inl (by simp)
    · rcases ih ha with h|⟨c2,h1,h2⟩
      · exact .inl (by simp [h])
      · exact .inr ⟨b :: c2,h1.cons_cons b,(h2.cons b).trans (List.Perm.swap a b c)⟩
end
end Go.Proofs.Ytkonljiembcdlaa.Sem
namespace Go.Proofs.Ytkonljiembcdlaa.PC
open Go.Proofs.MyWords Go.RowKit Go.Proofs.YtkonljiembcdlaaW.PrintWords Go.Proofs.YtkonljiembcdlaaW.PrintLast Go.Proofs.YtkonljiembcdlaaW.PrintMore
attribute [local go_sem] max2_int min2_int max_two min_two max_three min_three max_four min_four   -- for this text's walks alone
set_option linter.unusedVariables false
set_option linter.unusedSimpArgs false
attribute [local go_sem] eqGuard_slices eqlnil23 neqnil23 eqlnil58 neqnil58
end Go.Proofs.Ytkonljiembcdlaa.PC
namespace Go.Proofs.Ytkonljiembcdlaa.PC
open Go.Proofs.MyWords Go.RowKit Go.Proofs.YtkonljiembcdlaaW.PrintWords Go.Proofs.YtkonljiembcdlaaW.PrintLast Go.Proofs.YtkonljiembcdlaaW.PrintMore
attribute [local go_sem] max2_int min2_int max_two min_two max_three min_three max_four min_four   -- for this text's walks alone
set_option linter.unusedVariables false
set_option linter.unusedSimpArgs false
attribute [local go_sem] eqGuard_slices eqlnil23 neqnil23 eqlnil58 neqnil58
end Go.Proofs.Ytkonljiembcdlaa.PC
namespace Go.Proofs.Ytkonljiembcdlaa.PC
open Go.Proofs.MyWords Go.RowKit Go.Proofs.YtkonljiembcdlaaW.PrintWords Go.Proofs.YtkonljiembcdlaaW.PrintLast Go.Proofs.YtkonljiembcdlaaW.PrintMore
attribute [local go_sem] max2_int min2_int max_two min_two max_three min_three max_four min_four   -- for this text's walks alone
set_option linter.unusedVariables false
set_option linter.unusedSimpArgs false
attribute [local go_sem] eqGuard_slices eqlnil23 neqnil23 eqlnil58 neqnil58
end Go.Proofs.Ytkonljiembcdlaa.PC
namespace Go.Proofs.Ytkonljiembcdlaa.PC
open Go.Proofs.MyWords Go.RowKit Go.Proofs.YtkonljiembcdlaaW.PrintWords Go.Proofs.YtkonljiembcdlaaW.PrintLast Go.Proofs.YtkonljiembcdlaaW.PrintMore
attribute [local go_sem] max2_int min2_int max_two min_two max_three min_three max_four min_four   -- for this text's walks alone
set_option linter.unusedVariables false
set_option linter.unusedSimpArgs false
attribute [local go_sem] eqGuard_slices eqlnil23 neqnil23 eqlnil58 neqnil58
end Go.Proofs.Ytkonljiembcdlaa.PC
namespace Go.Proofs.Ytkonljiembcdlaa.PC
open Go.Proofs.MyWords Go.RowKit Go.Proofs.YtkonljiembcdlaaW.PrintWords Go.Proofs.YtkonljiembcdlaaW.PrintLast Go.Proofs.YtkonljiembcdlaaW.PrintMore
attribute [local go_sem] max2_int min2_int max_two min_two max_three min_three max_four min_four   -- for this text's walks alone
set_option linter.unusedVariables false
set_option linter.unusedSimpArgs false
attribute [local go_sem] eqGuard_slices eqlnil23 neqnil23 eqlnil58 neqnil58
end Go.Proofs.Ytkonljiembcdlaa.PC
namespace Go.Proofs.Ytkonljiembcdlaa.PC
open Go.Proofs.MyWords Go.RowKit Go.Proofs.YtkonljiembcdlaaW.PrintWords Go.Proofs.YtkonljiembcdlaaW.PrintLast Go.Proofs.YtkonljiembcdlaaW.PrintMore
attribute [local go_sem] max2_int min2_int max_two min_two max_three min_three max_four min_four   -- for this text's walks alone
set_option linter.unusedVariables false
set_option linter.unusedSimpArgs false
attribute [local go_sem] eqGuard_slices eqlnil23 neqnil23 eqlnil58 neqnil58
end Go.Proofs.Ytkonljiembcdlaa.PC
