-- Written by pr2.py, a program of this session's, for this claim (through the kit's print).
import Derived.Test.YtgfnmimfoicmmaaPMx0
namespace Go.Proofs.Ytgfnmimfoicmmaa.PM
open Go.Proofs.MyWords Go.RowKit Go.Proofs.YtgfnmimfoicmmaaW.PrintWords Go.Proofs.YtgfnmimfoicmmaaW.PrintLast Go.Proofs.YtgfnmimfoicmmaaW.PrintMore
attribute [local go_sem] max2_int min2_int max_two min_two max_three min_three max_four min_four   -- for this text's walks alone
set_option linter.unusedVariables false
set_option linter.unusedSimpArgs false

attribute [local go_sem] idx67_0 idx67_1 idx67_2 idx67_3
attribute [local go_sem] eqGuard_slices eqlnil36 neqnil36
/-! ### bellpullref04_Quat: function 52 -/
def bellpullref04_Quat.f (l0:List Int):Option (Int × Int × Int × Int):=if 0 < (l0.length:Int) then (if 1 < (l0.length:Int) then (if 2 < (l0.length:Int) then (if 3 < (l0.length:Int) then (some (rd l0 0,rd l0 1,rd l0 2,rd l0 3)) else (none)) else (none)) else (none)) else (none)
def bellpullref04_Quat.T1:Bool × List (List Nat × List Nat):=(true,[([],[]),([0],[0]),([1],[1]),([],[]),([3],[3]),([4],[4]),([],[]),([6],[6]),([7],[7]),([],[]),([9],[9]),([10],[10]),([2,5,8,11],[2,5,8,11]),([12,0,1,2,3,4,5,6,7,8,9,10,11,12],[12])])
def bellpullref04_Quat.B1:List Nat:=[0,1,3,0,8,24,0,64,192,0,512,1536,4095,8191]
theorem bellpullref04_Quat.tab1:rtab .any (opsOf Try.f52 1)=bellpullref04_Quat.T1:=by kernel_rfl
theorem bellpullref04_Quat.bits1:waitsOk bellpullref04_Quat.T1.2 bellpullref04_Quat.B1=true:=by kernel_rfl
set_option maxHeartbeats 8000000 in
set_option maxRecDepth 100000 in
theorem bellpullref04_Quat.calls (A0:Option Addr) (c0:Nat) (I:List Int) (r1:Int) (r2:Int) (r3:Int) (r4:Int) (w:World) (b3:Kd.C (Kd.int .i64) w A0 I.length I) (b4:I.length ≤ c0) (h:bellpullref04_Quat.f I=some (r1,r2,r3,r4)) :
    Calls Try.prog 52 #[.slice A0 I.length c0] w fun e w'=>e=.returned (.agg #[.int .i64 r1,.int .i64 r2,.int .i64 r3,.int .i64 r4])∧Below w.heap.size w w':=by
 have e1:=Try.underlying23;have a6:=mk0 b3;have e7:=mk0 b4;clear b3 b4;have X:=mk0 (Below.refl w.heap.size w);have H:(if 0 < (I.length:Int) then (if 1 < (I.length:Int) then (if 2 < (I.length:Int) then (if 3 < (I.length:Int) then (some (rd I 0,rd I 1,rd I 2,rd I 3)) else (none)) else (none)) else (none)) else (none))=some (r1,r2,r3,r4):=h;clear h
 by_cases c2:0 < (I.length:Int)
 ·
  rw [if_pos c2] at H;have c2b0:decide (0 < (I.length:Int))=true:=decide_eq_true c2;have c2b1:decide (0 < I.length)=true:=decide_eq_true (by omega);clear c2
  by_cases c3:1 < (I.length:Int)
  ·
   rw [if_pos c3] at H;have c3b0:decide (1 < (I.length:Int))=true:=decide_eq_true c3;have c3b1:decide (1 < I.length)=true:=decide_eq_true (by omega);clear c3
   by_cases c4:2 < (I.length:Int)
   ·
    rw [if_pos c4] at H;have c4b0:decide (2 < (I.length:Int))=true:=decide_eq_true c4;have c4b1:decide (2 < I.length)=true:=decide_eq_true (by omega);clear c4
    by_cases c5:3 < (I.length:Int)
    ·
     rw [if_pos c5] at H;have c5b0:decide (3 < (I.length:Int))=true:=decide_eq_true c5;have c5b1:decide (3 < I.length)=true:=decide_eq_true (by omega);clear c5;simp only [Option.some.injEq,Prod.mk.injEq] at H;obtain ⟨rfl,rfl,rfl,rfl⟩:=H;go_enter Try.func52,Try.ntmps52;try go_wp2_with (first|((with_reducible refine gate_dst (N:=2) rfl ?_);refine box_event ?hg (N:=2) ?hd (cs:=#[.int .i64 0,.int .i64 0,.int .i64 0,.int .i64 0]) (t:=23) ?hr ?_;(case hd=>rfl);(case hg=>rfl);(case hr=>first|(go_simp;done)|(go_simp;rfl));intro J hg w6 a8 hb;have L:=mk0 (a8);have B:=szw hg X;have a9:=B;replace X:=bst X hb;clear hb a8 hg))
     replace L:=bdr L;replace X:=hdr X;have Y:0 ≤ (0:Int):=(by omega)
     have Z:0 < (I.length:Int):=of_decide_eq_true (by first|(with_reducible assumption)|assumption);obtain ⟨T,b9,M⟩:=Kd.at_int a6.1 0 Y Z;have D:=M;(try rw [show ((0:Int)).toNat=0 from rfl] at D);(try rw [show 0 * 1=0 from rfl] at D);(try rw [Addr.add_zero'] at D);cases b9;have d5:(0 < I.length)=True:=eq_true (by omega);(try rw [show ((0:Int)).toNat=0 from rfl] at M);(try rw [Addr.add_zero'] at M);replace M:=(X.1.cell (World.block_lt_of_cell? w _ M)).trans M;replace Y:=eq_true Y;replace Z:=eq_true Z;have a0:0 ≤ (1:Int):=(by omega)
     have a1:1 < (I.length:Int):=of_decide_eq_true (by first|(with_reducible assumption)|assumption);obtain ⟨b0,c1,O⟩:=Kd.at_int a6.1 1 a0 a1;have E:=O;(try rw [show ((1:Int)).toNat=1 from rfl] at E);(try rw [show 1 * 1=1 from rfl] at E);(try simp only [Nat.reduceMul,Nat.reduceEqDiff,Go.Addr.add,↓reduceIte] at E);obtain rfl:T=b0:=(by injection c1)
     (try simp only [show (1:Int).toNat=1 from rfl,Nat.reduceMul,Nat.reduceEqDiff,Go.Addr.add,↓reduceIte] at O);have d6:(1 < I.length)=True:=eq_true (by omega);(try rw [show ((1:Int)).toNat=1 from rfl] at O);replace O:=(X.1.cell (World.block_lt_of_cell? w _ O)).trans O;replace a0:=eq_true a0;replace a1:=eq_true a1;have a2:0 ≤ (2:Int):=(by omega)
     have a3:2 < (I.length:Int):=of_decide_eq_true (by first|(with_reducible assumption)|assumption);obtain ⟨b1,c6,Q⟩:=Kd.at_int a6.1 2 a2 a3;have F:=Q;(try rw [show ((2:Int)).toNat=2 from rfl] at F);(try rw [show 2 * 1=2 from rfl] at F);(try simp only [Nat.reduceMul,Nat.reduceEqDiff,Go.Addr.add,↓reduceIte] at F);obtain rfl:T=b1:=(by injection c6)
     (try simp only [show (2:Int).toNat=2 from rfl,Nat.reduceMul,Nat.reduceEqDiff,Go.Addr.add,↓reduceIte] at Q);have d7:(2 < I.length)=True:=eq_true (by omega);(try rw [show ((2:Int)).toNat=2 from rfl] at Q);replace Q:=(X.1.cell (World.block_lt_of_cell? w _ Q)).trans Q;replace a2:=eq_true a2;replace a3:=eq_true a3;have a4:0 ≤ (3:Int):=(by omega)
     have a5:3 < (I.length:Int):=of_decide_eq_true (by first|(with_reducible assumption)|assumption);obtain ⟨b2,c7,R⟩:=Kd.at_int a6.1 3 a4 a5;have G:=R;(try rw [show ((3:Int)).toNat=3 from rfl] at G);(try rw [show 3 * 1=3 from rfl] at G);(try simp only [Nat.reduceMul,Nat.reduceEqDiff,Go.Addr.add,↓reduceIte] at G);obtain rfl:T=b2:=(by injection c7)
     (try simp only [show (3:Int).toNat=3 from rfl,Nat.reduceMul,Nat.reduceEqDiff,Go.Addr.add,↓reduceIte] at R);have d8:(3 < I.length)=True:=eq_true (by omega);(try rw [show ((3:Int)).toNat=3 from rfl] at R);replace R:=(X.1.cell (World.block_lt_of_cell? w _ R)).trans R;replace a4:=eq_true a4;replace a5:=eq_true a5;refine start_ (n:=14) (S:=fun w'=>w'.cell? T=some (.int .i64 (rd I 0))∧w'.cell? ⟨T.block,T.off + 1,none⟩=some (.int .i64 (rd I 1))∧w'.cell? ⟨T.block,T.off + 2,none⟩=some (.int .i64 (rd I 2))∧w'.cell? ⟨T.block,T.off + 3,none⟩=some (.int .i64 (rd I 3))) (ds:=[]) #[n_,n_,n_,n_,n_,n_,n_,n_,n_,n_,n_,n_,n_,n_] (by kernel_rfl) rfl rfl ⟨((X.1.cell (World.block_lt_of_cell? w _ D)).trans D),((X.1.cell (World.block_lt_of_cell? w _ E)).trans E),((X.1.cell (World.block_lt_of_cell? w _ F)).trans F),((X.1.cell (World.block_lt_of_cell? w _ G)).trans G)⟩ (fun U=>?_);refine with_tabW bellpullref04_Quat.tab1 bellpullref04_Quat.bits1 (fun V a7=>?_);generalize w6.drew=w7 at L X M O Q R U ⊢;refine pure_ (i:=0) (N:=some 3) (v:=?_) (a':=?_) #[y_,n_,n_,n_,n_,n_,n_,n_,n_,n_,n_,n_,n_,n_] rfl rfl (any_of V.1 (by kernel_rfl)) (fun _ _ _ h=>h) (Or.inl ⟨by rfl,?_⟩) ?_ ?_;rotate_left
     ·
      intro w';go_simp;with_reducible rfl
     rotate_left
     ·
      simp only [Act.put,s0_,s1_,s2_,i64_w,i32_w];rfl
     refine pure_ (i:=1) (N:=some 4) (v:=?_) (a':=?_) #[y_,y_,n_,n_,n_,n_,n_,n_,n_,n_,n_,n_,n_,n_] rfl rfl (any_of V.1 (by kernel_rfl)) (fun _ _ _ h=>h) (Or.inl ⟨by rfl,?_⟩) ?_ ?_;rotate_left
     ·
      intro w';go_simp;with_reducible rfl
     rotate_left
     ·
      simp only [Act.put,s0_,s1_,s2_,i64_w,i32_w];rfl
     refine pure_ (i:=3) (N:=some 6) (v:=?_) (a':=?_) #[y_,y_,n_,y_,n_,n_,n_,n_,n_,n_,n_,n_,n_,n_] rfl rfl (any_of V.1 (by kernel_rfl)) (fun _ _ _ h=>h) (Or.inl ⟨by rfl,?_⟩) ?_ ?_;rotate_left
     ·
      intro w';go_simp;with_reducible rfl
     rotate_left
     ·
      simp only [Act.put,s0_,s1_,s2_,i64_w,i32_w];rfl
     refine pure_ (i:=4) (N:=some 7) (v:=?_) (a':=?_) #[y_,y_,n_,y_,y_,n_,n_,n_,n_,n_,n_,n_,n_,n_] rfl rfl (any_of V.1 (by kernel_rfl)) (fun _ _ _ h=>h) (Or.inl ⟨by rfl,?_⟩) ?_ ?_;rotate_left
     ·
      intro w';go_simp;with_reducible rfl
     rotate_left
     ·
      simp only [Act.put,s0_,s1_,s2_,i64_w,i32_w];rfl
     refine pure_ (i:=6) (N:=some 9) (v:=?_) (a':=?_) #[y_,y_,n_,y_,y_,n_,y_,n_,n_,n_,n_,n_,n_,n_] rfl rfl (any_of V.1 (by kernel_rfl)) (fun _ _ _ h=>h) (Or.inl ⟨by rfl,?_⟩) ?_ ?_;rotate_left
     ·
      intro w';go_simp;with_reducible rfl
     rotate_left
     ·
      simp only [Act.put,s0_,s1_,s2_,i64_w,i32_w];rfl
     refine pure_ (i:=7) (N:=some 10) (v:=?_) (a':=?_) #[y_,y_,n_,y_,y_,n_,y_,y_,n_,n_,n_,n_,n_,n_] rfl rfl (any_of V.1 (by kernel_rfl)) (fun _ _ _ h=>h) (Or.inl ⟨by rfl,?_⟩) ?_ ?_;rotate_left
     ·
      intro w';go_simp;with_reducible rfl
     rotate_left
     ·
      simp only [Act.put,s0_,s1_,s2_,i64_w,i32_w];rfl
     refine pure_ (i:=9) (N:=some 12) (v:=?_) (a':=?_) #[y_,y_,n_,y_,y_,n_,y_,y_,n_,y_,n_,n_,n_,n_] rfl rfl (any_of V.1 (by kernel_rfl)) (fun _ _ _ h=>h) (Or.inl ⟨by rfl,?_⟩) ?_ ?_;rotate_left
     ·
      intro w';go_simp;with_reducible rfl
     rotate_left
     ·
      simp only [Act.put,s0_,s1_,s2_,i64_w,i32_w];rfl
     refine pure_ (i:=10) (N:=some 13) (v:=?_) (a':=?_) #[y_,y_,n_,y_,y_,n_,y_,y_,n_,y_,y_,n_,n_,n_] rfl rfl (any_of V.1 (by kernel_rfl)) (fun _ _ _ h=>h) (Or.inl ⟨by rfl,?_⟩) ?_ ?_;rotate_left
     ·
      intro w';go_simp;with_reducible rfl
     rotate_left
     ·
      simp only [Act.put,s0_,s1_,s2_,i64_w,i32_w];rfl
     refine take_ (i:=2) (N:=some 5) (v:=?_) (a':=?_) #[y_,y_,y_,y_,y_,n_,y_,y_,n_,y_,y_,n_,n_,n_] rfl rfl (take_ofW V.1 a7.1 (by kernel_rfl)) (fun _ _ _ h=>h) (Or.inl ⟨by rfl,?_⟩) U ?_ ?_;rotate_left
     ·
      rintro w' ⟨s0,s1,s2,s3⟩;go_simp;with_reducible rfl
     rotate_left
     ·
      simp only [Act.put,s0_,s1_,s2_,i64_w,i32_w];rfl
     refine take_ (i:=5) (N:=some 8) (v:=?_) (a':=?_) #[y_,y_,y_,y_,y_,y_,y_,y_,n_,y_,y_,n_,n_,n_] rfl rfl (take_ofW V.1 a7.1 (by kernel_rfl)) (fun _ _ _ h=>h) (Or.inl ⟨by rfl,?_⟩) U ?_ ?_;rotate_left
     ·
      rintro w' ⟨s0,s1,s2,s3⟩;go_simp;with_reducible rfl
     rotate_left
     ·
      simp only [Act.put,s0_,s1_,s2_,i64_w,i32_w];rfl
     refine take_ (i:=8) (N:=some 11) (v:=?_) (a':=?_) #[y_,y_,y_,y_,y_,y_,y_,y_,y_,y_,y_,n_,n_,n_] rfl rfl (take_ofW V.1 a7.1 (by kernel_rfl)) (fun _ _ _ h=>h) (Or.inl ⟨by rfl,?_⟩) U ?_ ?_;rotate_left
     ·
      rintro w' ⟨s0,s1,s2,s3⟩;go_simp;with_reducible rfl
     rotate_left
     ·
      simp only [Act.put,s0_,s1_,s2_,i64_w,i32_w];rfl
     refine take_ (i:=11) (N:=some 14) (v:=?_) (a':=?_) #[y_,y_,y_,y_,y_,y_,y_,y_,y_,y_,y_,y_,n_,n_] rfl rfl (take_ofW V.1 a7.1 (by kernel_rfl)) (fun _ _ _ h=>h) (Or.inl ⟨by rfl,?_⟩) U ?_ ?_;rotate_left
     ·
      rintro w' ⟨s0,s1,s2,s3⟩;go_simp;with_reducible rfl
     rotate_left
     ·
      simp only [Act.put,s0_,s1_,s2_,i64_w,i32_w];rfl
     refine pure_ (i:=12) (N:=some 15) (v:=?_) (a':=?_) #[y_,y_,y_,y_,y_,y_,y_,y_,y_,y_,y_,y_,y_,n_] rfl rfl (any_of V.1 (by kernel_rfl)) (fun _ _ _ h=>h) (Or.inl ⟨by rfl,?_⟩) ?_ ?_;rotate_left
     ·
      intro w';go_simp;with_reducible rfl
     rotate_left
     ·
      simp only [Act.put,s0_,s1_,s2_,i64_w,i32_w];rfl
     refine one_ (i:=13) (N:=none) #[y_,y_,y_,y_,y_,y_,y_,y_,y_,y_,y_,y_,y_,y_] rfl rfl (one_of V.1 (by kernel_rfl)) (by decide) (fun K hK=>?_);have e8:=q0_ L;have e3:=blk_frozen L.1 0;have e9:=q1_ L;have e4:=blk_frozen L.1 1;have e5:=q2_ L;have d9:=blk_frozen L.1 2;have e6:=q3_ L;have e0:=blk_frozen L.1 3;refine skip_ (w1:=?_) (by rfl) rfl ?_ ?_;rotate_left
     ·
      go_simp;rfl
     refine hK.out _ _ ⟨((cell_far (p:=⟨J,_,none⟩) (by first|exact Nat.ne_of_lt (Nat.lt_of_lt_of_le (by have:=World.block_lt_of_cell? _ _ D;first|rwa [add_block] at this|exact this) B.1)|(rw [add_block];exact Nat.ne_of_lt (Nat.lt_of_lt_of_le (by have:=World.block_lt_of_cell? _ _ D;first|rwa [add_block] at this|exact this) B.1))|(show (Addr.add _ _).block ≠ _;rw [add_block];exact Nat.ne_of_lt (Nat.lt_of_lt_of_le (by have:=World.block_lt_of_cell? _ _ D;first|rwa [add_block] at this|exact this) B.1))|(dsimp only;exact Nat.ne_of_lt (Nat.lt_of_lt_of_le (by have:=World.block_lt_of_cell? _ _ D;first|rwa [add_block] at this|exact this) B.1))) _).trans (((cell_far (p:=⟨J,_,none⟩) (by first|exact Nat.ne_of_lt (Nat.lt_of_lt_of_le (by have:=World.block_lt_of_cell? _ _ D;first|rwa [add_block] at this|exact this) B.1)|(rw [add_block];exact Nat.ne_of_lt (Nat.lt_of_lt_of_le (by have:=World.block_lt_of_cell? _ _ D;first|rwa [add_block] at this|exact this) B.1))|(show (Addr.add _ _).block ≠ _;rw [add_block];exact Nat.ne_of_lt (Nat.lt_of_lt_of_le (by have:=World.block_lt_of_cell? _ _ D;first|rwa [add_block] at this|exact this) B.1))|(dsimp only;exact Nat.ne_of_lt (Nat.lt_of_lt_of_le (by have:=World.block_lt_of_cell? _ _ D;first|rwa [add_block] at this|exact this) B.1))) _).trans (((cell_far (p:=⟨J,_,none⟩) (by first|exact Nat.ne_of_lt (Nat.lt_of_lt_of_le (by have:=World.block_lt_of_cell? _ _ D;first|rwa [add_block] at this|exact this) B.1)|(rw [add_block];exact Nat.ne_of_lt (Nat.lt_of_lt_of_le (by have:=World.block_lt_of_cell? _ _ D;first|rwa [add_block] at this|exact this) B.1))|(show (Addr.add _ _).block ≠ _;rw [add_block];exact Nat.ne_of_lt (Nat.lt_of_lt_of_le (by have:=World.block_lt_of_cell? _ _ D;first|rwa [add_block] at this|exact this) B.1))|(dsimp only;exact Nat.ne_of_lt (Nat.lt_of_lt_of_le (by have:=World.block_lt_of_cell? _ _ D;first|rwa [add_block] at this|exact this) B.1))) _).trans (((cell_far (p:=⟨J,_,none⟩) (by first|exact Nat.ne_of_lt (Nat.lt_of_lt_of_le (by have:=World.block_lt_of_cell? _ _ D;first|rwa [add_block] at this|exact this) B.1)|(rw [add_block];exact Nat.ne_of_lt (Nat.lt_of_lt_of_le (by have:=World.block_lt_of_cell? _ _ D;first|rwa [add_block] at this|exact this) B.1))|(show (Addr.add _ _).block ≠ _;rw [add_block];exact Nat.ne_of_lt (Nat.lt_of_lt_of_le (by have:=World.block_lt_of_cell? _ _ D;first|rwa [add_block] at this|exact this) B.1))|(dsimp only;exact Nat.ne_of_lt (Nat.lt_of_lt_of_le (by have:=World.block_lt_of_cell? _ _ D;first|rwa [add_block] at this|exact this) B.1))) _).trans (U.1)))))))),((cell_far (p:=⟨J,_,none⟩) (by first|exact Nat.ne_of_lt (Nat.lt_of_lt_of_le (by have:=World.block_lt_of_cell? _ _ E;first|rwa [add_block] at this|exact this) B.1)|(rw [add_block];exact Nat.ne_of_lt (Nat.lt_of_lt_of_le (by have:=World.block_lt_of_cell? _ _ E;first|rwa [add_block] at this|exact this) B.1))|(show (Addr.add _ _).block ≠ _;rw [add_block];exact Nat.ne_of_lt (Nat.lt_of_lt_of_le (by have:=World.block_lt_of_cell? _ _ E;first|rwa [add_block] at this|exact this) B.1))|(dsimp only;exact Nat.ne_of_lt (Nat.lt_of_lt_of_le (by have:=World.block_lt_of_cell? _ _ E;first|rwa [add_block] at this|exact this) B.1))) _).trans (((cell_far (p:=⟨J,_,none⟩) (by first|exact Nat.ne_of_lt (Nat.lt_of_lt_of_le (by have:=World.block_lt_of_cell? _ _ E;first|rwa [add_block] at this|exact this) B.1)|(rw [add_block];exact Nat.ne_of_lt (Nat.lt_of_lt_of_le (by have:=World.block_lt_of_cell? _ _ E;first|rwa [add_block] at this|exact this) B.1))|(show (Addr.add _ _).block ≠ _;rw [add_block];exact Nat.ne_of_lt (Nat.lt_of_lt_of_le (by have:=World.block_lt_of_cell? _ _ E;first|rwa [add_block] at this|exact this) B.1))|(dsimp only;exact Nat.ne_of_lt (Nat.lt_of_lt_of_le (by have:=World.block_lt_of_cell? _ _ E;first|rwa [add_block] at this|exact this) B.1))) _).trans (((cell_far (p:=⟨J,_,none⟩) (by first|exact Nat.ne_of_lt (Nat.lt_of_lt_of_le (by have:=World.block_lt_of_cell? _ _ E;first|rwa [add_block] at this|exact this) B.1)|(rw [add_block];exact Nat.ne_of_lt (Nat.lt_of_lt_of_le (by have:=World.block_lt_of_cell? _ _ E;first|rwa [add_block] at this|exact this) B.1))|(show (Addr.add _ _).block ≠ _;rw [add_block];exact Nat.ne_of_lt (Nat.lt_of_lt_of_le (by have:=World.block_lt_of_cell? _ _ E;first|rwa [add_block] at this|exact this) B.1))|(dsimp only;exact Nat.ne_of_lt (Nat.lt_of_lt_of_le (by have:=World.block_lt_of_cell? _ _ E;first|rwa [add_block] at this|exact this) B.1))) _).trans (((cell_far (p:=⟨J,_,none⟩) (by first|exact Nat.ne_of_lt (Nat.lt_of_lt_of_le (by have:=World.block_lt_of_cell? _ _ E;first|rwa [add_block] at this|exact this) B.1)|(rw [add_block];exact Nat.ne_of_lt (Nat.lt_of_lt_of_le (by have:=World.block_lt_of_cell? _ _ E;first|rwa [add_block] at this|exact this) B.1))|(show (Addr.add _ _).block ≠ _;rw [add_block];exact Nat.ne_of_lt (Nat.lt_of_lt_of_le (by have:=World.block_lt_of_cell? _ _ E;first|rwa [add_block] at this|exact this) B.1))|(dsimp only;exact Nat.ne_of_lt (Nat.lt_of_lt_of_le (by have:=World.block_lt_of_cell? _ _ E;first|rwa [add_block] at this|exact this) B.1))) _).trans (U.2.1)))))))),((cell_far (p:=⟨J,_,none⟩) (by first|exact Nat.ne_of_lt (Nat.lt_of_lt_of_le (by have:=World.block_lt_of_cell? _ _ F;first|rwa [add_block] at this|exact this) B.1)|(rw [add_block];exact Nat.ne_of_lt (Nat.lt_of_lt_of_le (by have:=World.block_lt_of_cell? _ _ F;first|rwa [add_block] at this|exact this) B.1))|(show (Addr.add _ _).block ≠ _;rw [add_block];exact Nat.ne_of_lt (Nat.lt_of_lt_of_le (by have:=World.block_lt_of_cell? _ _ F;first|rwa [add_block] at this|exact this) B.1))|(dsimp only;exact Nat.ne_of_lt (Nat.lt_of_lt_of_le (by have:=World.block_lt_of_cell? _ _ F;first|rwa [add_block] at this|exact this) B.1))) _).trans (((cell_far (p:=⟨J,_,none⟩) (by first|exact Nat.ne_of_lt (Nat.lt_of_lt_of_le (by have:=World.block_lt_of_cell? _ _ F;first|rwa [add_block] at this|exact this) B.1)|(rw [add_block];exact Nat.ne_of_lt (Nat.lt_of_lt_of_le (by have:=World.block_lt_of_cell? _ _ F;first|rwa [add_block] at this|exact this) B.1))|(show (Addr.add _ _).block ≠ _;rw [add_block];exact Nat.ne_of_lt (Nat.lt_of_lt_of_le (by have:=World.block_lt_of_cell? _ _ F;first|rwa [add_block] at this|exact this) B.1))|(dsimp only;exact Nat.ne_of_lt (Nat.lt_of_lt_of_le (by have:=World.block_lt_of_cell? _ _ F;first|rwa [add_block] at this|exact this) B.1))) _).trans (((cell_far (p:=⟨J,_,none⟩) (by first|exact Nat.ne_of_lt (Nat.lt_of_lt_of_le (by have:=World.block_lt_of_cell? _ _ F;first|rwa [add_block] at this|exact this) B.1)|(rw [add_block];exact Nat.ne_of_lt (Nat.lt_of_lt_of_le (by have:=World.block_lt_of_cell? _ _ F;first|rwa [add_block] at this|exact this) B.1))|(show (Addr.add _ _).block ≠ _;rw [add_block];exact Nat.ne_of_lt (Nat.lt_of_lt_of_le (by have:=World.block_lt_of_cell? _ _ F;first|rwa [add_block] at this|exact this) B.1))|(dsimp only;exact Nat.ne_of_lt (Nat.lt_of_lt_of_le (by have:=World.block_lt_of_cell? _ _ F;first|rwa [add_block] at this|exact this) B.1))) _).trans (((cell_far (p:=⟨J,_,none⟩) (by first|exact Nat.ne_of_lt (Nat.lt_of_lt_of_le (by have:=World.block_lt_of_cell? _ _ F;first|rwa [add_block] at this|exact this) B.1)|(rw [add_block];exact Nat.ne_of_lt (Nat.lt_of_lt_of_le (by have:=World.block_lt_of_cell? _ _ F;first|rwa [add_block] at this|exact this) B.1))|(show (Addr.add _ _).block ≠ _;rw [add_block];exact Nat.ne_of_lt (Nat.lt_of_lt_of_le (by have:=World.block_lt_of_cell? _ _ F;first|rwa [add_block] at this|exact this) B.1))|(dsimp only;exact Nat.ne_of_lt (Nat.lt_of_lt_of_le (by have:=World.block_lt_of_cell? _ _ F;first|rwa [add_block] at this|exact this) B.1))) _).trans (U.2.2.1)))))))),((cell_far (p:=⟨J,_,none⟩) (by first|exact Nat.ne_of_lt (Nat.lt_of_lt_of_le (by have:=World.block_lt_of_cell? _ _ G;first|rwa [add_block] at this|exact this) B.1)|(rw [add_block];exact Nat.ne_of_lt (Nat.lt_of_lt_of_le (by have:=World.block_lt_of_cell? _ _ G;first|rwa [add_block] at this|exact this) B.1))|(show (Addr.add _ _).block ≠ _;rw [add_block];exact Nat.ne_of_lt (Nat.lt_of_lt_of_le (by have:=World.block_lt_of_cell? _ _ G;first|rwa [add_block] at this|exact this) B.1))|(dsimp only;exact Nat.ne_of_lt (Nat.lt_of_lt_of_le (by have:=World.block_lt_of_cell? _ _ G;first|rwa [add_block] at this|exact this) B.1))) _).trans (((cell_far (p:=⟨J,_,none⟩) (by first|exact Nat.ne_of_lt (Nat.lt_of_lt_of_le (by have:=World.block_lt_of_cell? _ _ G;first|rwa [add_block] at this|exact this) B.1)|(rw [add_block];exact Nat.ne_of_lt (Nat.lt_of_lt_of_le (by have:=World.block_lt_of_cell? _ _ G;first|rwa [add_block] at this|exact this) B.1))|(show (Addr.add _ _).block ≠ _;rw [add_block];exact Nat.ne_of_lt (Nat.lt_of_lt_of_le (by have:=World.block_lt_of_cell? _ _ G;first|rwa [add_block] at this|exact this) B.1))|(dsimp only;exact Nat.ne_of_lt (Nat.lt_of_lt_of_le (by have:=World.block_lt_of_cell? _ _ G;first|rwa [add_block] at this|exact this) B.1))) _).trans (((cell_far (p:=⟨J,_,none⟩) (by first|exact Nat.ne_of_lt (Nat.lt_of_lt_of_le (by have:=World.block_lt_of_cell? _ _ G;first|rwa [add_block] at this|exact this) B.1)|(rw [add_block];exact Nat.ne_of_lt (Nat.lt_of_lt_of_le (by have:=World.block_lt_of_cell? _ _ G;first|rwa [add_block] at this|exact this) B.1))|(show (Addr.add _ _).block ≠ _;rw [add_block];exact Nat.ne_of_lt (Nat.lt_of_lt_of_le (by have:=World.block_lt_of_cell? _ _ G;first|rwa [add_block] at this|exact this) B.1))|(dsimp only;exact Nat.ne_of_lt (Nat.lt_of_lt_of_le (by have:=World.block_lt_of_cell? _ _ G;first|rwa [add_block] at this|exact this) B.1))) _).trans (((cell_far (p:=⟨J,_,none⟩) (by first|exact Nat.ne_of_lt (Nat.lt_of_lt_of_le (by have:=World.block_lt_of_cell? _ _ G;first|rwa [add_block] at this|exact this) B.1)|(rw [add_block];exact Nat.ne_of_lt (Nat.lt_of_lt_of_le (by have:=World.block_lt_of_cell? _ _ G;first|rwa [add_block] at this|exact this) B.1))|(show (Addr.add _ _).block ≠ _;rw [add_block];exact Nat.ne_of_lt (Nat.lt_of_lt_of_le (by have:=World.block_lt_of_cell? _ _ G;first|rwa [add_block] at this|exact this) B.1))|(dsimp only;exact Nat.ne_of_lt (Nat.lt_of_lt_of_le (by have:=World.block_lt_of_cell? _ _ G;first|rwa [add_block] at this|exact this) B.1))) _).trans (U.2.2.2))))))))⟩ (fun U=>?_)
     clear hK K;refine done_ (done_of V.1 (by kernel_rfl)) ?_;try go_wp2
     refine bodyPost_ret (results_cell_row rfl _ _ J 23 #[.int .i64 (rd I 0),.int .i64 (rd I 1),.int .i64 (rd I 2),.int .i64 (rd I 3)] (0,0) _ rfl (by refine blk_put (cs:=#[.int .i64 (rd I 0),.int .i64 (rd I 1),.int .i64 (rd I 2),.int .i64 0]) ?_ 3 _ rfl;refine blk_put (cs:=#[.int .i64 (rd I 0),.int .i64 (rd I 1),.int .i64 0,.int .i64 0]) ?_ 2 _ rfl;refine blk_put (cs:=#[.int .i64 (rd I 0),.int .i64 0,.int .i64 0,.int .i64 0]) ?_ 1 _ rfl;refine blk_put (cs:=#[.int .i64 0,.int .i64 0,.int .i64 0,.int .i64 0]) ?_ 0 _ rfl;exact L.1) Try.underlying23 rfl (by kernel_rfl)) rfl ?_;exact ⟨by first|rfl|(simp [errW_none,errW_some] <;> rfl)|(simp [*,errW_none,errW_some] <;> rfl),by repeat (first|(with_reducible first|exact X.1|apply below_alloc|apply pw_below_drewN|apply below_drew1|refine below_set ?_ a9.1)|exact X.1)⟩
    ·
     rw [if_neg c5] at H;exact absurd H (by simp)
   ·
    rw [if_neg c4] at H;exact absurd H (by simp)
  ·
   rw [if_neg c3] at H;exact absurd H (by simp)
 ·
  rw [if_neg c2] at H;exact absurd H (by simp)
end Go.Proofs.Ytgfnmimfoicmmaa.PM
