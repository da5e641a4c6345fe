import Derived.Test.YtgfnmimfoicmmaaPMx0
namespace Go.Proofs.Ytgfnmimfoicmmaa.PM
open Go.Proofs.MyWords Go.RowKit Go.Proofs.YtgfnmimfoicmmaaW.PrintWords Go.Proofs.YtgfnmimfoicmmaaW.PrintLast Go.Proofs.YtgfnmimfoicmmaaW.PrintMore
set_option linter.unusedVariables false
set_option linter.unusedSimpArgs false
attribute [local go_sem] idx67_0 idx67_1 idx67_2 idx67_3
attribute [local go_sem] eqGuard_slices eqlnil36 neqnil36
/-! ### bellpullref04_Quat: function 52 -/
def bellpullref04_Quat.f (l0:List Int):Option (Int × Int × Int × Int):=if 0 < (l0.length:Int) then (if 1 < (l0.length:Int) then (if 2 < (l0.length:Int) then (if 3 < (l0.length:Int) then (some (rd l0 0,rd l0 1,rd l0 2,rd l0 3)) else (none)) else (none)) else (none)) else (none)
def bellpullref04_Quat.T1:Bool × List (List Nat × List Nat):=(true,[([],[]),([0],[0]),([1],[1]),([],[]),([3],[3]),([4],[4]),([],[]),([6],[6]),([7],[7]),([],[]),([9],[9]),([10],[10]),([2,5,8,11],[2,5,8,11]),([12,0,1,2,3,4,5,6,7,8,9,10,11,12],[12])])
def bellpullref04_Quat.B1:List Nat:=[0,1,3,0,8,24,0,64,192,0,512,1536,4095,8191]
theorem bellpullref04_Quat.tab1:rtab .any (opsOf Try.f52 1)=bellpullref04_Quat.T1:=by kernel_rfl
theorem bellpullref04_Quat.bits1:waitsOk bellpullref04_Quat.T1.2 bellpullref04_Quat.B1=true:=by kernel_rfl
set_option maxHeartbeats 8000000 in
set_option maxRecDepth 100000 in
theorem bellpullref04_Quat.calls (A0:Option Addr) (c0:Nat) (l0:List Int) (r1:Int) (r2:Int) (r3:Int) (r4:Int) (w:World) (hr0:Kd.C (Kd.int .i64) w A0 l0.length l0) (hc0:l0.length ≤ c0) (h:bellpullref04_Quat.f l0=some (r1,r2,r3,r4)) :
    Calls Try.prog 52 #[.slice A0 l0.length c0] w fun e w'=>e=.returned (.agg #[.int .i64 r1,.int .i64 r2,.int .i64 r3,.int .i64 r4])∧Below w.heap.size w w':=by
 have hu23:=Try.underlying23;have HR0:=mk0 hr0;have HC0:=mk0 hc0;clear hr0 hc0;have HB:=mk0 (Below.refl w.heap.size w);have H:(if 0 < (l0.length:Int) then (if 1 < (l0.length:Int) then (if 2 < (l0.length:Int) then (if 3 < (l0.length:Int) then (some (rd l0 0,rd l0 1,rd l0 2,rd l0 3)) else (none)) else (none)) else (none)) else (none))=some (r1,r2,r3,r4):=h;clear h
 by_cases c2:0 < (l0.length:Int)
 ·
  rw [if_pos c2] at H;have c2b0:decide (0 < (l0.length:Int))=true:=decide_eq_true c2;have c2b1:decide (0 < l0.length)=true:=decide_eq_true (by omega);clear c2
  by_cases c3:1 < (l0.length:Int)
  ·
   rw [if_pos c3] at H;have c3b0:decide (1 < (l0.length:Int))=true:=decide_eq_true c3;have c3b1:decide (1 < l0.length)=true:=decide_eq_true (by omega);clear c3
   by_cases c4:2 < (l0.length:Int)
   ·
    rw [if_pos c4] at H;have c4b0:decide (2 < (l0.length:Int))=true:=decide_eq_true c4;have c4b1:decide (2 < l0.length)=true:=decide_eq_true (by omega);clear c4
    by_cases c5:3 < (l0.length:Int)
    ·
     rw [if_pos c5] at H;have c5b0:decide (3 < (l0.length:Int))=true:=decide_eq_true c5;have c5b1:decide (3 < l0.length)=true:=decide_eq_true (by omega);clear c5;simp only [Option.some.injEq,Prod.mk.injEq] at H;obtain ⟨rfl,rfl,rfl,rfl⟩:=H;go_enter Try.func52,Try.ntmps52;try go_wp2_with (first|((with_reducible refine gate_dst (N:=2) rfl ?_);refine box_event ?hg (N:=2) ?hd (cs:=#[.int .i64 0,.int .i64 0,.int .i64 0,.int .i64 0]) (t:=23) ?hr ?_;(case hd=>rfl);(case hg=>rfl);(case hr=>first|(go_simp;done)|(go_simp;rfl));intro gb641 hg w6 hbox hb;have BK641:=mk0 (hbox);have GW641:=szw hg HB;have GE641:=GW641;replace HB:=bst HB hb;clear hb hbox hg))
     replace BK641:=bdr BK641;replace HB:=hdr HB;have p642:0 ≤ (0:Int):=(by omega)
     have q642:0 < (l0.length:Int):=of_decide_eq_true (by first|(with_reducible assumption)|assumption);obtain ⟨ad642,e642,hx642_0⟩:=Kd.at_int HR0.out 0 p642 q642;have hw642_0:=hx642_0;(try rw [show ((0:Int)).toNat=0 from rfl] at hw642_0);(try rw [show 0 * 1=0 from rfl] at hw642_0);(try rw [Addr.add_zero'] at hw642_0);cases e642;have qi642:(0 < l0.length)=True:=eq_true (by omega);(try rw [show ((0:Int)).toNat=0 from rfl] at hx642_0);(try rw [Addr.add_zero'] at hx642_0);replace hx642_0:=(HB.out.cell (World.block_lt_of_cell? w _ hx642_0)).trans hx642_0;replace p642:=eq_true p642;replace q642:=eq_true q642;have p643:0 ≤ (1:Int):=(by omega)
     have q643:1 < (l0.length:Int):=of_decide_eq_true (by first|(with_reducible assumption)|assumption);obtain ⟨ad643,e643,hx643_0⟩:=Kd.at_int HR0.out 1 p643 q643;have hw643_0:=hx643_0;(try rw [show ((1:Int)).toNat=1 from rfl] at hw643_0);(try rw [show 1 * 1=1 from rfl] at hw643_0);(try simp only [Nat.reduceMul,Nat.reduceEqDiff,Go.Addr.add,↓reduceIte] at hw643_0);obtain rfl:ad642=ad643:=(by injection e643)
     (try simp only [show (1:Int).toNat=1 from rfl,Nat.reduceMul,Nat.reduceEqDiff,Go.Addr.add,↓reduceIte] at hx643_0);have qi643:(1 < l0.length)=True:=eq_true (by omega);(try rw [show ((1:Int)).toNat=1 from rfl] at hx643_0);replace hx643_0:=(HB.out.cell (World.block_lt_of_cell? w _ hx643_0)).trans hx643_0;replace p643:=eq_true p643;replace q643:=eq_true q643;have p644:0 ≤ (2:Int):=(by omega)
     have q644:2 < (l0.length:Int):=of_decide_eq_true (by first|(with_reducible assumption)|assumption);obtain ⟨ad644,e644,hx644_0⟩:=Kd.at_int HR0.out 2 p644 q644;have hw644_0:=hx644_0;(try rw [show ((2:Int)).toNat=2 from rfl] at hw644_0);(try rw [show 2 * 1=2 from rfl] at hw644_0);(try simp only [Nat.reduceMul,Nat.reduceEqDiff,Go.Addr.add,↓reduceIte] at hw644_0);obtain rfl:ad642=ad644:=(by injection e644)
     (try simp only [show (2:Int).toNat=2 from rfl,Nat.reduceMul,Nat.reduceEqDiff,Go.Addr.add,↓reduceIte] at hx644_0);have qi644:(2 < l0.length)=True:=eq_true (by omega);(try rw [show ((2:Int)).toNat=2 from rfl] at hx644_0);replace hx644_0:=(HB.out.cell (World.block_lt_of_cell? w _ hx644_0)).trans hx644_0;replace p644:=eq_true p644;replace q644:=eq_true q644;have p645:0 ≤ (3:Int):=(by omega)
     have q645:3 < (l0.length:Int):=of_decide_eq_true (by first|(with_reducible assumption)|assumption);obtain ⟨ad645,e645,hx645_0⟩:=Kd.at_int HR0.out 3 p645 q645;have hw645_0:=hx645_0;(try rw [show ((3:Int)).toNat=3 from rfl] at hw645_0);(try rw [show 3 * 1=3 from rfl] at hw645_0);(try simp only [Nat.reduceMul,Nat.reduceEqDiff,Go.Addr.add,↓reduceIte] at hw645_0);obtain rfl:ad642=ad645:=(by injection e645)
     (try simp only [show (3:Int).toNat=3 from rfl,Nat.reduceMul,Nat.reduceEqDiff,Go.Addr.add,↓reduceIte] at hx645_0);have qi645:(3 < l0.length)=True:=eq_true (by omega);(try rw [show ((3:Int)).toNat=3 from rfl] at hx645_0);replace hx645_0:=(HB.out.cell (World.block_lt_of_cell? w _ hx645_0)).trans hx645_0;replace p645:=eq_true p645;replace q645:=eq_true q645;refine start_ (n:=14) (S:=fun w'=>w'.cell? ad642=some (.int .i64 (rd l0 0))∧w'.cell? ⟨ad642.block,ad642.off + 1,none⟩=some (.int .i64 (rd l0 1))∧w'.cell? ⟨ad642.block,ad642.off + 2,none⟩=some (.int .i64 (rd l0 2))∧w'.cell? ⟨ad642.block,ad642.off + 3,none⟩=some (.int .i64 (rd l0 3))) (ds:=[]) #[false,false,false,false,false,false,false,false,false,false,false,false,false,false] (by kernel_rfl) rfl rfl ⟨((HB.out.cell (World.block_lt_of_cell? w _ hw642_0)).trans hw642_0),((HB.out.cell (World.block_lt_of_cell? w _ hw643_0)).trans hw643_0),((HB.out.cell (World.block_lt_of_cell? w _ hw644_0)).trans hw644_0),((HB.out.cell (World.block_lt_of_cell? w _ hw645_0)).trans hw645_0)⟩ (fun hHeld=>?_);refine with_tabW bellpullref04_Quat.tab1 bellpullref04_Quat.bits1 (fun HT_ HW_=>?_);generalize w6.drew=w7 at BK641 HB hx642_0 hx643_0 hx644_0 hx645_0 hHeld ⊢;refine pure_ (i:=0) (N:=some 3) (v:=?_) (a':=?_) #[true,false,false,false,false,false,false,false,false,false,false,false,false,false] rfl rfl (any_of HT_.out (by kernel_rfl)) (fun _ _ _ h=>h) (Or.inl ⟨by rfl,?_⟩) ?_ ?_;rotate_left
     ·
      intro w';go_simp;with_reducible rfl
     rotate_left
     ·
      simp only [Act.put,List.setIfInBounds_toArray,List.set_cons_zero,List.set_cons_succ,i64_w,i32_w];rfl
     refine pure_ (i:=1) (N:=some 4) (v:=?_) (a':=?_) #[true,true,false,false,false,false,false,false,false,false,false,false,false,false] rfl rfl (any_of HT_.out (by kernel_rfl)) (fun _ _ _ h=>h) (Or.inl ⟨by rfl,?_⟩) ?_ ?_;rotate_left
     ·
      intro w';go_simp;with_reducible rfl
     rotate_left
     ·
      simp only [Act.put,List.setIfInBounds_toArray,List.set_cons_zero,List.set_cons_succ,i64_w,i32_w];rfl
     refine pure_ (i:=3) (N:=some 6) (v:=?_) (a':=?_) #[true,true,false,true,false,false,false,false,false,false,false,false,false,false] rfl rfl (any_of HT_.out (by kernel_rfl)) (fun _ _ _ h=>h) (Or.inl ⟨by rfl,?_⟩) ?_ ?_;rotate_left
     ·
      intro w';go_simp;with_reducible rfl
     rotate_left
     ·
      simp only [Act.put,List.setIfInBounds_toArray,List.set_cons_zero,List.set_cons_succ,i64_w,i32_w];rfl
     refine pure_ (i:=4) (N:=some 7) (v:=?_) (a':=?_) #[true,true,false,true,true,false,false,false,false,false,false,false,false,false] rfl rfl (any_of HT_.out (by kernel_rfl)) (fun _ _ _ h=>h) (Or.inl ⟨by rfl,?_⟩) ?_ ?_;rotate_left
     ·
      intro w';go_simp;with_reducible rfl
     rotate_left
     ·
      simp only [Act.put,List.setIfInBounds_toArray,List.set_cons_zero,List.set_cons_succ,i64_w,i32_w];rfl
     refine pure_ (i:=6) (N:=some 9) (v:=?_) (a':=?_) #[true,true,false,true,true,false,true,false,false,false,false,false,false,false] rfl rfl (any_of HT_.out (by kernel_rfl)) (fun _ _ _ h=>h) (Or.inl ⟨by rfl,?_⟩) ?_ ?_;rotate_left
     ·
      intro w';go_simp;with_reducible rfl
     rotate_left
     ·
      simp only [Act.put,List.setIfInBounds_toArray,List.set_cons_zero,List.set_cons_succ,i64_w,i32_w];rfl
     refine pure_ (i:=7) (N:=some 10) (v:=?_) (a':=?_) #[true,true,false,true,true,false,true,true,false,false,false,false,false,false] rfl rfl (any_of HT_.out (by kernel_rfl)) (fun _ _ _ h=>h) (Or.inl ⟨by rfl,?_⟩) ?_ ?_;rotate_left
     ·
      intro w';go_simp;with_reducible rfl
     rotate_left
     ·
      simp only [Act.put,List.setIfInBounds_toArray,List.set_cons_zero,List.set_cons_succ,i64_w,i32_w];rfl
     refine pure_ (i:=9) (N:=some 12) (v:=?_) (a':=?_) #[true,true,false,true,true,false,true,true,false,true,false,false,false,false] rfl rfl (any_of HT_.out (by kernel_rfl)) (fun _ _ _ h=>h) (Or.inl ⟨by rfl,?_⟩) ?_ ?_;rotate_left
     ·
      intro w';go_simp;with_reducible rfl
     rotate_left
     ·
      simp only [Act.put,List.setIfInBounds_toArray,List.set_cons_zero,List.set_cons_succ,i64_w,i32_w];rfl
     refine pure_ (i:=10) (N:=some 13) (v:=?_) (a':=?_) #[true,true,false,true,true,false,true,true,false,true,true,false,false,false] rfl rfl (any_of HT_.out (by kernel_rfl)) (fun _ _ _ h=>h) (Or.inl ⟨by rfl,?_⟩) ?_ ?_;rotate_left
     ·
      intro w';go_simp;with_reducible rfl
     rotate_left
     ·
      simp only [Act.put,List.setIfInBounds_toArray,List.set_cons_zero,List.set_cons_succ,i64_w,i32_w];rfl
     refine take_ (i:=2) (N:=some 5) (v:=?_) (a':=?_) #[true,true,true,true,true,false,true,true,false,true,true,false,false,false] rfl rfl (take_ofW HT_.out HW_.out (by kernel_rfl)) (fun _ _ _ h=>h) (Or.inl ⟨by rfl,?_⟩) hHeld ?_ ?_;rotate_left
     ·
      rintro w' ⟨s0,s1,s2,s3⟩;go_simp;with_reducible rfl
     rotate_left
     ·
      simp only [Act.put,List.setIfInBounds_toArray,List.set_cons_zero,List.set_cons_succ,i64_w,i32_w];rfl
     refine take_ (i:=5) (N:=some 8) (v:=?_) (a':=?_) #[true,true,true,true,true,true,true,true,false,true,true,false,false,false] rfl rfl (take_ofW HT_.out HW_.out (by kernel_rfl)) (fun _ _ _ h=>h) (Or.inl ⟨by rfl,?_⟩) hHeld ?_ ?_;rotate_left
     ·
      rintro w' ⟨s0,s1,s2,s3⟩;go_simp;with_reducible rfl
     rotate_left
     ·
      simp only [Act.put,List.setIfInBounds_toArray,List.set_cons_zero,List.set_cons_succ,i64_w,i32_w];rfl
     refine take_ (i:=8) (N:=some 11) (v:=?_) (a':=?_) #[true,true,true,true,true,true,true,true,true,true,true,false,false,false] rfl rfl (take_ofW HT_.out HW_.out (by kernel_rfl)) (fun _ _ _ h=>h) (Or.inl ⟨by rfl,?_⟩) hHeld ?_ ?_;rotate_left
     ·
      rintro w' ⟨s0,s1,s2,s3⟩;go_simp;with_reducible rfl
     rotate_left
     ·
      simp only [Act.put,List.setIfInBounds_toArray,List.set_cons_zero,List.set_cons_succ,i64_w,i32_w];rfl
     refine take_ (i:=11) (N:=some 14) (v:=?_) (a':=?_) #[true,true,true,true,true,true,true,true,true,true,true,true,false,false] rfl rfl (take_ofW HT_.out HW_.out (by kernel_rfl)) (fun _ _ _ h=>h) (Or.inl ⟨by rfl,?_⟩) hHeld ?_ ?_;rotate_left
     ·
      rintro w' ⟨s0,s1,s2,s3⟩;go_simp;with_reducible rfl
     rotate_left
     ·
      simp only [Act.put,List.setIfInBounds_toArray,List.set_cons_zero,List.set_cons_succ,i64_w,i32_w];rfl
     refine pure_ (i:=12) (N:=some 15) (v:=?_) (a':=?_) #[true,true,true,true,true,true,true,true,true,true,true,true,true,false] rfl rfl (any_of HT_.out (by kernel_rfl)) (fun _ _ _ h=>h) (Or.inl ⟨by rfl,?_⟩) ?_ ?_;rotate_left
     ·
      intro w';go_simp;with_reducible rfl
     rotate_left
     ·
      simp only [Act.put,List.setIfInBounds_toArray,List.set_cons_zero,List.set_cons_succ,i64_w,i32_w];rfl
     refine one_ (i:=13) (N:=none) #[true,true,true,true,true,true,true,true,true,true,true,true,true,true] rfl rfl (one_of HT_.out (by kernel_rfl)) (by decide) (fun K hK=>?_);have hs8:w7.cell? ⟨gb641,0,none⟩=some (.int .i64 0):=(blk_cell BK641.out 0).trans rfl;have hfs8:=blk_frozen BK641.out 0;have hs9:w7.cell? ⟨gb641,1,none⟩=some (.int .i64 0):=(blk_cell BK641.out 1).trans rfl;have hfs9:=blk_frozen BK641.out 1;have hs10:w7.cell? ⟨gb641,2,none⟩=some (.int .i64 0):=(blk_cell BK641.out 2).trans rfl;have hfs10:=blk_frozen BK641.out 2;have hs11:w7.cell? ⟨gb641,3,none⟩=some (.int .i64 0):=(blk_cell BK641.out 3).trans rfl;have hfs11:=blk_frozen BK641.out 3;refine skip_ (w1:=?_) (by rfl) rfl ?_ ?_;rotate_left
     ·
      go_simp;rfl
     refine hK.out _ _ ⟨((cell_far (p:=⟨gb641,_,none⟩) (by first|exact Nat.ne_of_lt (Nat.lt_of_lt_of_le (by have:=World.block_lt_of_cell? _ _ hw642_0;first|rwa [add_block] at this|exact this) GW641.out)|(rw [add_block];exact Nat.ne_of_lt (Nat.lt_of_lt_of_le (by have:=World.block_lt_of_cell? _ _ hw642_0;first|rwa [add_block] at this|exact this) GW641.out))|(show (Addr.add _ _).block ≠ _;rw [add_block];exact Nat.ne_of_lt (Nat.lt_of_lt_of_le (by have:=World.block_lt_of_cell? _ _ hw642_0;first|rwa [add_block] at this|exact this) GW641.out))|(dsimp only;exact Nat.ne_of_lt (Nat.lt_of_lt_of_le (by have:=World.block_lt_of_cell? _ _ hw642_0;first|rwa [add_block] at this|exact this) GW641.out))) _).trans (((cell_far (p:=⟨gb641,_,none⟩) (by first|exact Nat.ne_of_lt (Nat.lt_of_lt_of_le (by have:=World.block_lt_of_cell? _ _ hw642_0;first|rwa [add_block] at this|exact this) GW641.out)|(rw [add_block];exact Nat.ne_of_lt (Nat.lt_of_lt_of_le (by have:=World.block_lt_of_cell? _ _ hw642_0;first|rwa [add_block] at this|exact this) GW641.out))|(show (Addr.add _ _).block ≠ _;rw [add_block];exact Nat.ne_of_lt (Nat.lt_of_lt_of_le (by have:=World.block_lt_of_cell? _ _ hw642_0;first|rwa [add_block] at this|exact this) GW641.out))|(dsimp only;exact Nat.ne_of_lt (Nat.lt_of_lt_of_le (by have:=World.block_lt_of_cell? _ _ hw642_0;first|rwa [add_block] at this|exact this) GW641.out))) _).trans (((cell_far (p:=⟨gb641,_,none⟩) (by first|exact Nat.ne_of_lt (Nat.lt_of_lt_of_le (by have:=World.block_lt_of_cell? _ _ hw642_0;first|rwa [add_block] at this|exact this) GW641.out)|(rw [add_block];exact Nat.ne_of_lt (Nat.lt_of_lt_of_le (by have:=World.block_lt_of_cell? _ _ hw642_0;first|rwa [add_block] at this|exact this) GW641.out))|(show (Addr.add _ _).block ≠ _;rw [add_block];exact Nat.ne_of_lt (Nat.lt_of_lt_of_le (by have:=World.block_lt_of_cell? _ _ hw642_0;first|rwa [add_block] at this|exact this) GW641.out))|(dsimp only;exact Nat.ne_of_lt (Nat.lt_of_lt_of_le (by have:=World.block_lt_of_cell? _ _ hw642_0;first|rwa [add_block] at this|exact this) GW641.out))) _).trans (((cell_far (p:=⟨gb641,_,none⟩) (by first|exact Nat.ne_of_lt (Nat.lt_of_lt_of_le (by have:=World.block_lt_of_cell? _ _ hw642_0;first|rwa [add_block] at this|exact this) GW641.out)|(rw [add_block];exact Nat.ne_of_lt (Nat.lt_of_lt_of_le (by have:=World.block_lt_of_cell? _ _ hw642_0;first|rwa [add_block] at this|exact this) GW641.out))|(show (Addr.add _ _).block ≠ _;rw [add_block];exact Nat.ne_of_lt (Nat.lt_of_lt_of_le (by have:=World.block_lt_of_cell? _ _ hw642_0;first|rwa [add_block] at this|exact this) GW641.out))|(dsimp only;exact Nat.ne_of_lt (Nat.lt_of_lt_of_le (by have:=World.block_lt_of_cell? _ _ hw642_0;first|rwa [add_block] at this|exact this) GW641.out))) _).trans (hHeld.1)))))))),((cell_far (p:=⟨gb641,_,none⟩) (by first|exact Nat.ne_of_lt (Nat.lt_of_lt_of_le (by have:=World.block_lt_of_cell? _ _ hw643_0;first|rwa [add_block] at this|exact this) GW641.out)|(rw [add_block];exact Nat.ne_of_lt (Nat.lt_of_lt_of_le (by have:=World.block_lt_of_cell? _ _ hw643_0;first|rwa [add_block] at this|exact this) GW641.out))|(show (Addr.add _ _).block ≠ _;rw [add_block];exact Nat.ne_of_lt (Nat.lt_of_lt_of_le (by have:=World.block_lt_of_cell? _ _ hw643_0;first|rwa [add_block] at this|exact this) GW641.out))|(dsimp only;exact Nat.ne_of_lt (Nat.lt_of_lt_of_le (by have:=World.block_lt_of_cell? _ _ hw643_0;first|rwa [add_block] at this|exact this) GW641.out))) _).trans (((cell_far (p:=⟨gb641,_,none⟩) (by first|exact Nat.ne_of_lt (Nat.lt_of_lt_of_le (by have:=World.block_lt_of_cell? _ _ hw643_0;first|rwa [add_block] at this|exact this) GW641.out)|(rw [add_block];exact Nat.ne_of_lt (Nat.lt_of_lt_of_le (by have:=World.block_lt_of_cell? _ _ hw643_0;first|rwa [add_block] at this|exact this) GW641.out))|(show (Addr.add _ _).block ≠ _;rw [add_block];exact Nat.ne_of_lt (Nat.lt_of_lt_of_le (by have:=World.block_lt_of_cell? _ _ hw643_0;first|rwa [add_block] at this|exact this) GW641.out))|(dsimp only;exact Nat.ne_of_lt (Nat.lt_of_lt_of_le (by have:=World.block_lt_of_cell? _ _ hw643_0;first|rwa [add_block] at this|exact this) GW641.out))) _).trans (((cell_far (p:=⟨gb641,_,none⟩) (by first|exact Nat.ne_of_lt (Nat.lt_of_lt_of_le (by have:=World.block_lt_of_cell? _ _ hw643_0;first|rwa [add_block] at this|exact this) GW641.out)|(rw [add_block];exact Nat.ne_of_lt (Nat.lt_of_lt_of_le (by have:=World.block_lt_of_cell? _ _ hw643_0;first|rwa [add_block] at this|exact this) GW641.out))|(show (Addr.add _ _).block ≠ _;rw [add_block];exact Nat.ne_of_lt (Nat.lt_of_lt_of_le (by have:=World.block_lt_of_cell? _ _ hw643_0;first|rwa [add_block] at this|exact this) GW641.out))|(dsimp only;exact Nat.ne_of_lt (Nat.lt_of_lt_of_le (by have:=World.block_lt_of_cell? _ _ hw643_0;first|rwa [add_block] at this|exact this) GW641.out))) _).trans (((cell_far (p:=⟨gb641,_,none⟩) (by first|exact Nat.ne_of_lt (Nat.lt_of_lt_of_le (by have:=World.block_lt_of_cell? _ _ hw643_0;first|rwa [add_block] at this|exact this) GW641.out)|(rw [add_block];exact Nat.ne_of_lt (Nat.lt_of_lt_of_le (by have:=World.block_lt_of_cell? _ _ hw643_0;first|rwa [add_block] at this|exact this) GW641.out))|(show (Addr.add _ _).block ≠ _;rw [add_block];exact Nat.ne_of_lt (Nat.lt_of_lt_of_le (by have:=World.block_lt_of_cell? _ _ hw643_0;first|rwa [add_block] at this|exact this) GW641.out))|(dsimp only;exact Nat.ne_of_lt (Nat.lt_of_lt_of_le (by have:=World.block_lt_of_cell? _ _ hw643_0;first|rwa [add_block] at this|exact this) GW641.out))) _).trans (hHeld.2.1)))))))),((cell_far (p:=⟨gb641,_,none⟩) (by first|exact Nat.ne_of_lt (Nat.lt_of_lt_of_le (by have:=World.block_lt_of_cell? _ _ hw644_0;first|rwa [add_block] at this|exact this) GW641.out)|(rw [add_block];exact Nat.ne_of_lt (Nat.lt_of_lt_of_le (by have:=World.block_lt_of_cell? _ _ hw644_0;first|rwa [add_block] at this|exact this) GW641.out))|(show (Addr.add _ _).block ≠ _;rw [add_block];exact Nat.ne_of_lt (Nat.lt_of_lt_of_le (by have:=World.block_lt_of_cell? _ _ hw644_0;first|rwa [add_block] at this|exact this) GW641.out))|(dsimp only;exact Nat.ne_of_lt (Nat.lt_of_lt_of_le (by have:=World.block_lt_of_cell? _ _ hw644_0;first|rwa [add_block] at this|exact this) GW641.out))) _).trans (((cell_far (p:=⟨gb641,_,none⟩) (by first|exact Nat.ne_of_lt (Nat.lt_of_lt_of_le (by have:=World.block_lt_of_cell? _ _ hw644_0;first|rwa [add_block] at this|exact this) GW641.out)|(rw [add_block];exact Nat.ne_of_lt (Nat.lt_of_lt_of_le (by have:=World.block_lt_of_cell? _ _ hw644_0;first|rwa [add_block] at this|exact this) GW641.out))|(show (Addr.add _ _).block ≠ _;rw [add_block];exact Nat.ne_of_lt (Nat.lt_of_lt_of_le (by have:=World.block_lt_of_cell? _ _ hw644_0;first|rwa [add_block] at this|exact this) GW641.out))|(dsimp only;exact Nat.ne_of_lt (Nat.lt_of_lt_of_le (by have:=World.block_lt_of_cell? _ _ hw644_0;first|rwa [add_block] at this|exact this) GW641.out))) _).trans (((cell_far (p:=⟨gb641,_,none⟩) (by first|exact Nat.ne_of_lt (Nat.lt_of_lt_of_le (by have:=World.block_lt_of_cell? _ _ hw644_0;first|rwa [add_block] at this|exact this) GW641.out)|(rw [add_block];exact Nat.ne_of_lt (Nat.lt_of_lt_of_le (by have:=World.block_lt_of_cell? _ _ hw644_0;first|rwa [add_block] at this|exact this) GW641.out))|(show (Addr.add _ _).block ≠ _;rw [add_block];exact Nat.ne_of_lt (Nat.lt_of_lt_of_le (by have:=World.block_lt_of_cell? _ _ hw644_0;first|rwa [add_block] at this|exact this) GW641.out))|(dsimp only;exact Nat.ne_of_lt (Nat.lt_of_lt_of_le (by have:=World.block_lt_of_cell? _ _ hw644_0;first|rwa [add_block] at this|exact this) GW641.out))) _).trans (((cell_far (p:=⟨gb641,_,none⟩) (by first|exact Nat.ne_of_lt (Nat.lt_of_lt_of_le (by have:=World.block_lt_of_cell? _ _ hw644_0;first|rwa [add_block] at this|exact this) GW641.out)|(rw [add_block];exact Nat.ne_of_lt (Nat.lt_of_lt_of_le (by have:=World.block_lt_of_cell? _ _ hw644_0;first|rwa [add_block] at this|exact this) GW641.out))|(show (Addr.add _ _).block ≠ _;rw [add_block];exact Nat.ne_of_lt (Nat.lt_of_lt_of_le (by have:=World.block_lt_of_cell? _ _ hw644_0;first|rwa [add_block] at this|exact this) GW641.out))|(dsimp only;exact Nat.ne_of_lt (Nat.lt_of_lt_of_le (by have:=World.block_lt_of_cell? _ _ hw644_0;first|rwa [add_block] at this|exact this) GW641.out))) _).trans (hHeld.2.2.1)))))))),((cell_far (p:=⟨gb641,_,none⟩) (by first|exact Nat.ne_of_lt (Nat.lt_of_lt_of_le (by have:=World.block_lt_of_cell? _ _ hw645_0;first|rwa [add_block] at this|exact this) GW641.out)|(rw [add_block];exact Nat.ne_of_lt (Nat.lt_of_lt_of_le (by have:=World.block_lt_of_cell? _ _ hw645_0;first|rwa [add_block] at this|exact this) GW641.out))|(show (Addr.add _ _).block ≠ _;rw [add_block];exact Nat.ne_of_lt (Nat.lt_of_lt_of_le (by have:=World.block_lt_of_cell? _ _ hw645_0;first|rwa [add_block] at this|exact this) GW641.out))|(dsimp only;exact Nat.ne_of_lt (Nat.lt_of_lt_of_le (by have:=World.block_lt_of_cell? _ _ hw645_0;first|rwa [add_block] at this|exact this) GW641.out))) _).trans (((cell_far (p:=⟨gb641,_,none⟩) (by first|exact Nat.ne_of_lt (Nat.lt_of_lt_of_le (by have:=World.block_lt_of_cell? _ _ hw645_0;first|rwa [add_block] at this|exact this) GW641.out)|(rw [add_block];exact Nat.ne_of_lt (Nat.lt_of_lt_of_le (by have:=World.block_lt_of_cell? _ _ hw645_0;first|rwa [add_block] at this|exact this) GW641.out))|(show (Addr.add _ _).block ≠ _;rw [add_block];exact Nat.ne_of_lt (Nat.lt_of_lt_of_le (by have:=World.block_lt_of_cell? _ _ hw645_0;first|rwa [add_block] at this|exact this) GW641.out))|(dsimp only;exact Nat.ne_of_lt (Nat.lt_of_lt_of_le (by have:=World.block_lt_of_cell? _ _ hw645_0;first|rwa [add_block] at this|exact this) GW641.out))) _).trans (((cell_far (p:=⟨gb641,_,none⟩) (by first|exact Nat.ne_of_lt (Nat.lt_of_lt_of_le (by have:=World.block_lt_of_cell? _ _ hw645_0;first|rwa [add_block] at this|exact this) GW641.out)|(rw [add_block];exact Nat.ne_of_lt (Nat.lt_of_lt_of_le (by have:=World.block_lt_of_cell? _ _ hw645_0;first|rwa [add_block] at this|exact this) GW641.out))|(show (Addr.add _ _).block ≠ _;rw [add_block];exact Nat.ne_of_lt (Nat.lt_of_lt_of_le (by have:=World.block_lt_of_cell? _ _ hw645_0;first|rwa [add_block] at this|exact this) GW641.out))|(dsimp only;exact Nat.ne_of_lt (Nat.lt_of_lt_of_le (by have:=World.block_lt_of_cell? _ _ hw645_0;first|rwa [add_block] at this|exact this) GW641.out))) _).trans (((cell_far (p:=⟨gb641,_,none⟩) (by first|exact Nat.ne_of_lt (Nat.lt_of_lt_of_le (by have:=World.block_lt_of_cell? _ _ hw645_0;first|rwa [add_block] at this|exact this) GW641.out)|(rw [add_block];exact Nat.ne_of_lt (Nat.lt_of_lt_of_le (by have:=World.block_lt_of_cell? _ _ hw645_0;first|rwa [add_block] at this|exact this) GW641.out))|(show (Addr.add _ _).block ≠ _;rw [add_block];exact Nat.ne_of_lt (Nat.lt_of_lt_of_le (by have:=World.block_lt_of_cell? _ _ hw645_0;first|rwa [add_block] at this|exact this) GW641.out))|(dsimp only;exact Nat.ne_of_lt (Nat.lt_of_lt_of_le (by have:=World.block_lt_of_cell? _ _ hw645_0;first|rwa [add_block] at this|exact this) GW641.out))) _).trans (hHeld.2.2.2))))))))⟩ (fun hHeld=>?_)
     clear hK K;refine done_ (done_of HT_.out (by kernel_rfl)) ?_;try go_wp2
     refine bodyPost_ret (results_cell_row rfl _ _ gb641 23 #[.int .i64 (rd l0 0),.int .i64 (rd l0 1),.int .i64 (rd l0 2),.int .i64 (rd l0 3)] (0,0) _ rfl (by refine blk_put (cs:=#[.int .i64 (rd l0 0),.int .i64 (rd l0 1),.int .i64 (rd l0 2),.int .i64 0]) ?_ 3 _ rfl;refine blk_put (cs:=#[.int .i64 (rd l0 0),.int .i64 (rd l0 1),.int .i64 0,.int .i64 0]) ?_ 2 _ rfl;refine blk_put (cs:=#[.int .i64 (rd l0 0),.int .i64 0,.int .i64 0,.int .i64 0]) ?_ 1 _ rfl;refine blk_put (cs:=#[.int .i64 0,.int .i64 0,.int .i64 0,.int .i64 0]) ?_ 0 _ rfl;exact BK641.out) Try.underlying23 rfl (by kernel_rfl)) rfl ?_;exact ⟨by first|rfl|(simp [errW_none,errW_some] <;> rfl)|(simp [*,errW_none,errW_some] <;> rfl),by repeat (first|(with_reducible first|exact HB.out|apply below_alloc|apply pw_below_drewN|apply below_drew1|refine below_set ?_ GE641.out)|exact HB.out)⟩
    ·
     rw [if_neg c5] at H;exact absurd H (by simp)
   ·
    rw [if_neg c4] at H;exact absurd H (by simp)
  ·
   rw [if_neg c3] at H;exact absurd H (by simp)
 ·
  rw [if_neg c2] at H;exact absurd H (by simp)
end Go.Proofs.Ytgfnmimfoicmmaa.PM
