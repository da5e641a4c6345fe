-- Written by pr2.py, a program of this session's, for this claim (through the kit's print).
import Derived.Test.YtploaicljkennaaPWx0
import Derived.Test.YtploaicljkennaaPWx1
import Derived.Test.YtploaicljkennaaPWx26
import Derived.Test.YtploaicljkennaaPWx27
import Derived.Test.YtploaicljkennaaPWx34
import Derived.Test.YtploaicljkennaaPWx35
namespace Go.Proofs.Ytploaicljkennaa.PW
open Go.Proofs.MyWords Go.RowKit Go.Proofs.YtploaicljkennaaW.PrintWords Go.Proofs.YtploaicljkennaaW.PrintLast Go.Proofs.YtploaicljkennaaW.PrintMore
attribute [local go_sem] max2_int min2_int max_two min_two max_three min_three max_four min_four   -- for this text's walks alone
set_option linter.unusedVariables false
set_option linter.unusedSimpArgs false

/-! ### bellpulllaw02_EchoCounts: function 14 -/
mutual
def bellpulllaw02_EchoCounts.j0:Nat → Int → List (List Int) → Bool → Option (Bool)
  | 0,_,_,_=>none
  | k + 1,x3,x4,x59=>if x59=true then (none) else (bellpulllaw02_EchoCounts.l0 k x3 x4 0)
def bellpulllaw02_EchoCounts.l0:Nat → Int → List (List Int) → Int → Option (Bool)
  | 0,_,_,_=>none
  | k + 1,x3,x4,x10=>if x10 < (x4.length:Int) then (if 0 ≤ x10 then (if ((rd_L1 x4 x10).length:Int)=x3 then ((bellpullref02_Word.f k (rd_L1 x4 x10) 2).bind fun t366=>(if t366=0 then (if x10 > 0 then (if 0 ≤ (wrap64 (x10 - 1)) then (if (wrap64 (x10 - 1)) < (x4.length:Int) then ((bellpullref01_Before.f k (rd_L1 x4 (wrap64 (x10 - 1))) (rd_L1 x4 x10)).bind fun t369=>(if t369=true then (bellpulllaw02_EchoCounts.l0 k x3 x4 (wrap64 (x10 + 1))) else (none))) else (none)) else (none)) else (bellpulllaw02_EchoCounts.l0 k x3 x4 (wrap64 (x10 + 1)))) else (none))) else (none)) else (none)) else (some true)
end
def bellpulllaw02_EchoCounts.f (k:Nat) (a0:Int):Option (Bool):=(bellpulllaw02_between.f a0 0 10).bind fun t354=>((echo_Words.f k t354).bind fun bt355=>((echo_Count.f k t354).bind fun bt359=>((echo_Count.f k (wrap64 (t354 + 1))).bind fun bt361=>(if bt355.2=0 then (if bt359.2=0 then (if bt361.2=0 then (if (bt355.1.length:Int)=bt359.1 then (if bt361.1 < bt359.1 then (none) else (if bt361.1 > (wrap64 (2 * bt359.1)) then (none) else ((bellpulllaw02_lives.f k).bind fun t363=>(bellpulllaw02_EchoCounts.j0 k t354 bt355.1 (!t363))))) else (none)) else (none)) else (none)) else (none)))))
theorem bellpulllaw02_EchoCounts.mono_l:∀ k,(∀ y0 y1 y2,LeO (bellpulllaw02_EchoCounts.j0 k y0 y1 y2) (bellpulllaw02_EchoCounts.j0 (k + 1) y0 y1 y2))∧(∀ y0 y1 y2,LeO (bellpulllaw02_EchoCounts.l0 k y0 y1 y2) (bellpulllaw02_EchoCounts.l0 (k + 1) y0 y1 y2))
  | 0=>⟨fun _ _ _ r h=>by simp [bellpulllaw02_EchoCounts.j0] at h,fun _ _ _ r h=>by simp [bellpulllaw02_EchoCounts.l0] at h⟩
  | k + 1=>by
    obtain ⟨ih0,ih1⟩:=bellpulllaw02_EchoCounts.mono_l k
    refine ⟨?_,?_⟩
    · intro y0 y1 y2
      unfold bellpulllaw02_EchoCounts.j0
      with_reducible repeat' first|exact ih0 _ _ _|exact ih1 _ _ _|exact bellpulllaw02_lives.mono _|exact bellpullref01_Before.mono _ _ _|exact bellpullref02_Word.mono _ _ _|exact echo_Count.mono _ _|exact echo_Words.mono _ _|exact LeO.refl _|exact LeO.none _|refine LeO.ite ?_ ?_|refine LeO.bind ?_ (fun _=>?_)
    · intro y0 y1 y2
      unfold bellpulllaw02_EchoCounts.l0
      with_reducible repeat' first|exact ih0 _ _ _|exact ih1 _ _ _|exact bellpulllaw02_lives.mono _|exact bellpullref01_Before.mono _ _ _|exact bellpullref02_Word.mono _ _ _|exact echo_Count.mono _ _|exact echo_Words.mono _ _|exact LeO.refl _|exact LeO.none _|refine LeO.ite ?_ ?_|refine LeO.bind ?_ (fun _=>?_)
theorem bellpulllaw02_EchoCounts.mono:∀ a0 k,LeO (bellpulllaw02_EchoCounts.f k a0) (bellpulllaw02_EchoCounts.f (k + 1) a0):=by
  intro a0 k
  obtain ⟨ih0,ih1⟩:=bellpulllaw02_EchoCounts.mono_l k
  unfold bellpulllaw02_EchoCounts.f
  with_reducible repeat' first|exact ih0 _ _ _|exact ih1 _ _ _|exact bellpulllaw02_lives.mono _|exact bellpullref01_Before.mono _ _ _|exact bellpullref02_Word.mono _ _ _|exact echo_Count.mono _ _|exact echo_Words.mono _ _|exact LeO.refl _|exact LeO.none _|refine LeO.ite ?_ ?_|refine LeO.bind ?_ (fun _=>?_)
def bellpulllaw02_EchoCounts.T10:Bool × List (List Nat × List Nat):=(true,[([],[]),([],[]),([0,1],[0,1]),([2],[2]),([3],[3]),([],[]),([4,5],[4,5]),([6],[6]),([7],[7]),([7],[7]),([8,9,7],[7,8,9]),([10,7],[7,10]),([11,7,7],[7,11]),([12,7],[7,12]),([7,13],[7,13]),([14,12],[14]),([15],[15]),([16,15],[15,16]),([17,15,15],[15,17]),([18],[18]),([18],[18]),([20,18],[18,20]),([19,21,18],[18,19,21]),([22,18],[18,22]),([18],[18]),([18],[18]),([24,25,18],[18,24,25]),([26,18],[18,26]),([23,27,18,18],[18,23,27]),([28,18],[18,28]),([18,29,15],[15,18,29]),([15,30],[15,30])])
def bellpulllaw02_EchoCounts.B10:List Nat:=[0,0,3,7,15,0,63,127,255,255,1023,2047,4095,8191,16383,32767,65535,131071,262143,524287,524287,1572863,4194303,8388607,524287,524287,50855935,117964799,268435455,536870911,1073741823,2147483647]
theorem bellpulllaw02_EchoCounts.tab10:rtab .any (opsOf Try.f14 10)=bellpulllaw02_EchoCounts.T10:=by kernel_rfl
theorem bellpulllaw02_EchoCounts.bits10:waitsOk bellpulllaw02_EchoCounts.T10.2 bellpulllaw02_EchoCounts.B10=true:=by kernel_rfl
set_option maxHeartbeats 8000000 in
set_option maxRecDepth 100000 in
theorem bellpulllaw02_EchoCounts.calls (k:Nat) (a0:Int) (r:Bool) (w:World) (h:bellpulllaw02_EchoCounts.f k a0=some r) :
    Calls Try.prog 14 #[.int .u16 a0] w fun e w'=>e=.returned (.bool r)∧Below w.heap.size w w':=by
 have HB:=mk0 (Below.refl w.heap.size w);have H:((bellpulllaw02_between.f a0 0 10).bind fun t354=>((echo_Words.f k t354).bind fun bt355=>((echo_Count.f k t354).bind fun bt359=>((echo_Count.f k (wrap64 (t354 + 1))).bind fun bt361=>(if bt355.2=0 then (if bt359.2=0 then (if bt361.2=0 then (if (bt355.1.length:Int)=bt359.1 then (if bt361.1 < bt359.1 then (none) else (if bt361.1 > (wrap64 (2 * bt359.1)) then (none) else ((bellpulllaw02_lives.f k).bind fun t363=>(bellpulllaw02_EchoCounts.j0 k t354 bt355.1 (!t363))))) else (none)) else (none)) else (none)) else (none))))))=some r:=h;clear h;replace H:=Option.bind_eq_some_iff.mp H;obtain ⟨t354,A20,H⟩:=H;(try dsimp only at H);have A2:=mk0 A20;clear A20;replace H:=Option.bind_eq_some_iff.mp H;obtain ⟨⟨t355,t358⟩,A30,H⟩:=H;(try dsimp only at H);have A3:=mk0 A30;clear A30;replace H:=Option.bind_eq_some_iff.mp H;obtain ⟨⟨t359,t360⟩,A40,H⟩:=H;(try dsimp only at H);have A4:=mk0 A40;clear A40;replace H:=Option.bind_eq_some_iff.mp H;obtain ⟨⟨t361,t362⟩,A50,H⟩:=H;(try dsimp only at H);have A5:=mk0 A50;clear A50;have HC6:=mk0 H;clear H;go_enter Try.func14,Try.ntmps14;go_upto_region 5 with (first|((with_reducible refine gate_callee (f:=24) rfl ?_);refine goesL_ (some 12) rfl rfl Try.func24 (by kernel_rfl) rfl #[.int .u16 a0,.int .i64 0,.int .i64 10] rfl (by (try simp only [List.map_toArray,List.map_cons,List.map_nil]);first|done|rfl|(simp only [List.length_drop,List.length_take];rfl)) ?_;(with_reducible refine (bellpulllaw02_between.calls a0 0 10 t354 _ A2.out).mono ?_);rintro e w' ⟨rfl,⟨nd,rfl⟩⟩;refine ⟨_,rfl,?_⟩)|((with_reducible refine gate_callee (f:=38) rfl ?_);refine goesL_ (some 15) rfl rfl Try.func38 (by kernel_rfl) rfl #[.int .i64 t354] rfl (by (try simp only [List.map_toArray,List.map_cons,List.map_nil]);first|done|rfl|(simp only [List.length_drop,List.length_take];rfl)) ?_;(with_reducible refine (echo_Words.calls k t354 t355 t358 _ A3.out).mono ?_);rintro e w7 ⟨v356,rfl,ho0,hb⟩;refine ⟨_,rfl,?_⟩;have HO357:=mk0 (Kd.V_lower (Kd.V_mono (ok':=fun k_=>True) ho0 (fun k_ hk_=>trivial)) (below_size (by repeat (first|(with_reducible first|exact HB.out|apply below_alloc|apply pw_below_drewN|apply below_drew1)|exact HB.out))));replace HB:=mk0 (below_step (by repeat (first|(with_reducible first|exact HB.out|apply below_alloc|apply pw_below_drewN|apply below_drew1)|exact HB.out)) hb);(try clear hb);(try clear ho0))|((with_reducible refine gate_callee (f:=39) rfl ?_);refine goesL_ (some 20) rfl rfl Try.func39 (by kernel_rfl) rfl #[.int .i64 t354] rfl (by (try simp only [List.map_toArray,List.map_cons,List.map_nil]);first|done|rfl|(simp only [List.length_drop,List.length_take];rfl)) ?_;(with_reducible refine (echo_Count.calls k t354 t359 t360 _ A4.out).mono ?_);rintro e w8 ⟨rfl,hb⟩;refine ⟨_,rfl,?_⟩;replace HO357:=mk0 (Kd.V_below (by (with_reducible repeat (first|apply Kd.V_alloc|apply Kd.V_drewN|apply Kd.V_drew));exact HO357.out) hb);replace HB:=mk0 (below_step (by repeat (first|(with_reducible first|exact HB.out|apply below_alloc|apply pw_below_drewN|apply below_drew1)|exact HB.out)) hb);(try clear hb))|((with_reducible refine gate_callee (f:=39) rfl ?_);refine goesL_ (some 26) rfl rfl Try.func39 (by kernel_rfl) rfl #[.int .i64 (wrap64 (t354 + 1))] rfl (by (try simp only [List.map_toArray,List.map_cons,List.map_nil]);first|done|rfl|(simp only [List.length_drop,List.length_take];rfl)) ?_;(with_reducible refine (echo_Count.calls k (wrap64 (t354 + 1)) t361 t362 _ A5.out).mono ?_);rintro e w9 ⟨rfl,hb⟩;refine ⟨_,rfl,?_⟩;replace HO357:=mk0 (Kd.V_below (by (with_reducible repeat (first|apply Kd.V_alloc|apply Kd.V_drewN|apply Kd.V_drew));exact HO357.out) hb);replace HB:=mk0 (below_step (by repeat (first|(with_reducible first|exact HB.out|apply below_alloc|apply pw_below_drewN|apply below_drew1)|exact HB.out)) hb);(try clear hb)))
 (try simp only [Act.put,List.setIfInBounds_toArray,List.set_cons_zero,List.set_cons_succ])
 go_cut [59] (fun v59 wc=>∃ (kq:Nat) (x59_5:Bool),v59=.bool x59_5∧Aside0 (bellpulllaw02_EchoCounts.j0 kq t354 t355 x59_5=some r)∧Aside0 (kq ≤ k)∧Aside0 (Kd.V (Kd.slice 3 (Kd.int .i64)) 22 wc w.heap.size (fun _=>True) v356 t355)∧Aside0 (Below w.heap.size w wc))
 case first =>
  have H:=HC6.out;clear HC6
  by_cases c10:t358=0
  ·
   rw [if_pos c10] at H;have c10b0:(t358 == 0)=true:=beq_iff_eq.mpr c10;have c10b1:(t358 != 0)=false:=bne_eq_false_iff_eq.mpr c10;clear c10;(first|rw [c10b0]|(simp only [i64_w,i32_w];rw [c10b0])|skip)
   by_cases c11:t360=0
   ·
    rw [if_pos c11] at H;have c11b0:(t360 == 0)=true:=beq_iff_eq.mpr c11;have c11b1:(t360 != 0)=false:=bne_eq_false_iff_eq.mpr c11;clear c11
    by_cases c12:t362=0
    ·
     rw [if_pos c12] at H;have c12b0:(t362 == 0)=true:=beq_iff_eq.mpr c12;have c12b1:(t362 != 0)=false:=bne_eq_false_iff_eq.mpr c12;clear c12
     by_cases c13:(t355.length:Int)=t359
     ·
      rw [if_pos c13] at H;have c13b0:((t355.length:Int) == t359)=true:=beq_iff_eq.mpr c13;have c13b1:((t355.length:Int) != t359)=false:=bne_eq_false_iff_eq.mpr c13;clear c13
      by_cases c14:t361 < t359
      ·
       rw [if_pos c14] at H;exact absurd H (by simp)
      ·
       rw [if_neg c14] at H;have c14b0:decide (t361 < t359)=false:=decide_eq_false c14;clear c14
       by_cases c15:t361 > (wrap64 (2 * t359))
       ·
        rw [if_pos c15] at H;exact absurd H (by simp)
       ·
        rw [if_neg c15] at H;have c15b0:decide ((wrap64 (2 * t359)) < t361)=false:=decide_eq_false c15;clear c15;replace H:=Option.bind_eq_some_iff.mp H;obtain ⟨t363,A160,H⟩:=H;(try dsimp only at H);have A16:=mk0 A160;clear A160;have H':=mk0 H;clear H;obtain ⟨Ao17,co17,eo17⟩:=Kd.V_slice HO357.out;subst eo17;go_wp2_with (first|(go_at_call 19;(with_reducible refine (bellpulllaw02_lives.calls k  t363 _ A16.out).mono ?_);rintro e w18 ⟨rfl,hb⟩;replace HO357:=mk0 (Kd.V_below HO357.out hb);replace HB:=bst HB hb;(try clear hb)));go_meet
        case rel=>exact ⟨_,(!t363),(by first|rfl|(simp;done)|(simp [*];done)),H',⟨by first|omega|exact Nat.le_refl _⟩,⟨by (with_reducible repeat (first|apply Kd.V_alloc|apply Kd.V_drewN|apply Kd.V_drew));exact HO357.out⟩,⟨by repeat (first|(with_reducible first|exact HB.out|apply below_alloc|apply pw_below_drewN|apply below_drew1)|exact HB.out)⟩⟩
     ·
      rw [if_neg c13] at H;exact absurd H (by simp)
    ·
     rw [if_neg c12] at H;exact absurd H (by simp)
   ·
    rw [if_neg c11] at H;exact absurd H (by simp)
  ·
   rw [if_neg c10] at H;exact absurd H (by simp)
 case rest =>
  clear HC6;try clear c1
  try clear c2
  try clear p2
  try clear c3
  try clear p6
  try clear c10
  try clear c10b0
  try clear c10b1
  try clear c11
  try clear c11b0
  try clear c11b1
  try clear c12
  try clear c12b0
  try clear c12b1
  try clear c13
  try clear c13b0
  try clear c13b1
  try clear c14
  try clear c14b0
  try clear c15
  try clear c15b0
  obtain ⟨kq,x59_5,rfl,HA,HJ5,HO_4,HB⟩:=hcut;cases kq with
  | zero=>exact absurd HA.out (by simp [bellpulllaw02_EchoCounts.j0])
  | succ kj5 =>
   have H:=HA.out;clear HA;simp only [bellpulllaw02_EchoCounts.j0] at H
   by_cases c19:x59_5=true
   ·
    subst c19;have H1:(none)=some r:=by rw [if_pos rfl] at H;exact H
    clear H;have H:=H1;clear H1;exact absurd H (by simp)
   ·
    replace c19:=Bool.eq_false_iff.mpr c19;subst c19;have H1:(bellpulllaw02_EchoCounts.l0 kj5 t354 t355 0)=some r:=by rw [if_neg (show ¬ (false=true) by decide)] at H;exact H
    clear H;have H:=H1;clear H1;have H':=mk0 H;clear H;go_wp2
    go_loopg [10] kj5 (fun kq v10 w'=>∃ (x10_2:Int),v10=.int .i64 x10_2∧Aside0 (bellpulllaw02_EchoCounts.l0 kq t354 t355 x10_2=some r)∧Aside0 (kq ≤ kj5)∧Aside0 (Kd.V (Kd.slice 3 (Kd.int .i64)) 22 w' w.heap.size (fun _=>True) v356 t355)∧Aside0 (Below w.heap.size w w'))
    case atStart=>exact ⟨(0),(by first|rfl|(simp;done)|(simp [*];done)),H',⟨Nat.le_refl _⟩,⟨by (with_reducible repeat (first|apply Kd.V_alloc|apply Kd.V_drewN|apply Kd.V_drew));exact HO_4.out⟩,⟨by repeat (first|(with_reducible first|exact HB.out|apply below_alloc|apply pw_below_drewN|apply below_drew1)|exact HB.out)⟩⟩
    case round =>
     clear H';try clear c1
     try clear c2
     try clear p2
     try clear c3
     try clear p6
     try clear c10
     try clear c10b0
     try clear c10b1
     try clear c11
     try clear c11b0
     try clear c11b1
     try clear c12
     try clear c12b0
     try clear c12b1
     try clear c13
     try clear c13b0
     try clear c13b1
     try clear c14
     try clear c14b0
     try clear c15
     try clear c15b0
     try clear c19
     try clear p2
     try clear p6
     obtain ⟨x10_2,rfl,HA,HK2,HO_4,HB⟩:=hrel;cases gk with
     | zero=>exact absurd HA.out (by simp [bellpulllaw02_EchoCounts.l0])
     | succ k2 =>
      have H:=HA.out;clear HA;simp only [bellpulllaw02_EchoCounts.l0] at H
      by_cases c20:x10_2 < (t355.length:Int)
      ·
       rw [if_pos c20] at H;have c20b0:decide (x10_2 < (t355.length:Int))=true:=decide_eq_true c20;clear c20
       by_cases c21:0 ≤ x10_2
       ·
        rw [if_pos c21] at H;have c21b0:decide (0 ≤ x10_2)=true:=decide_eq_true c21;clear c21
        by_cases c22:((rd_L1 t355 x10_2).length:Int)=t354
        ·
         rw [if_pos c22] at H;have c22b0:(((rd_L1 t355 x10_2).length:Int) == t354)=true:=beq_iff_eq.mpr c22;have c22b1:(((rd_L1 t355 x10_2).length:Int) != t354)=false:=bne_eq_false_iff_eq.mpr c22;clear c22;replace H:=Option.bind_eq_some_iff.mp H;obtain ⟨t366,A230,H⟩:=H;(try dsimp only at H);have A23:=mk0 A230;clear A230
         by_cases c24:t366=0
         ·
          rw [if_pos c24] at H;have c24b0:(t366 == 0)=true:=beq_iff_eq.mpr c24;have c24b1:(t366 != 0)=false:=bne_eq_false_iff_eq.mpr c24;clear c24
          by_cases c25:x10_2 > 0
          ·
           rw [if_pos c25] at H;have c25b0:decide (0 < x10_2)=true:=decide_eq_true c25;clear c25;obtain ⟨ji26,hji26⟩:∃ j_:Int,(wrap64 (x10_2 - 1))=j_:=⟨_,rfl⟩
           replace H:(if 0 ≤ (ji26) then (if (ji26) < (t355.length:Int) then ((bellpullref01_Before.f k2 (rd_L1 t355 (ji26)) (rd_L1 t355 x10_2)).bind fun t369=>(if t369=true then (bellpulllaw02_EchoCounts.l0 k2 t354 t355 (wrap64 (x10_2 + 1))) else (none))) else (none)) else (none))=some r:=by first|(rw [hji26] at H;exact H)|(simp only [hji26] at H ⊢;exact H)
           (try rw [hji26] at A23);have hji26w:(IntKind.i64.wrap (x10_2 - 1))=ji26:=(i64_w _).trans hji26
           by_cases c27:0 ≤ (ji26)
           ·
            rw [if_pos c27] at H;have c27b0:decide (0 ≤ (ji26))=true:=decide_eq_true c27;clear c27
            by_cases c28:(ji26) < (t355.length:Int)
            ·
             rw [if_pos c28] at H;have c28b0:decide ((ji26) < (t355.length:Int))=true:=decide_eq_true c28;clear c28;replace H:=Option.bind_eq_some_iff.mp H;obtain ⟨t369,A290,H⟩:=H;(try dsimp only at H);have A29:=mk0 A290;clear A290
             by_cases c30:t369=true
             ·
              subst c30;have H1:(bellpulllaw02_EchoCounts.l0 k2 t354 t355 (wrap64 (x10_2 + 1)))=some r:=by rw [if_pos rfl] at H;exact H
              clear H;have H:=H1;clear H1;have H':=mk0 H;clear H;obtain ⟨Ao31,co31,eo31⟩:=Kd.V_slice HO_4.out;subst eo31;try go_wp2
              replace HO_4:=mk0 (Kd.V_drew HO_4.out);replace HB:=hdr HB;have p364:0 ≤ (x10_2:Int):=of_decide_eq_true (by first|(with_reducible assumption)|assumption);have q364:x10_2 < (t355.length:Int):=of_decide_eq_true (by first|(with_reducible assumption)|assumption);obtain ⟨ad364,A364_0,c364_0,e364,hx364_0,hl364_0,hi364_0⟩:=at_L1 (Kd.V_reads' HO_4.out).2.2 x10_2 p364 q364;cases e364;obtain ⟨ce364,hce364,hMe364,hcc364⟩:=Kd.V_get HO_4.out [] x10_2 p364 (by first|exact q364|exact of_decide_eq_true (by first|(with_reducible assumption)|assumption)|(have e_:=(Kd.V_reads' HO_4.out).1;omega));obtain ⟨ua364_0,uc364_0,rfl,ul364_0,ge364_0⟩:=Kd.FK_slice_open hMe364;have hv364_0:=hcc364 0 _ rfl;rw [Nat.add_zero,show ((Kd.slice 3 (Kd.int .i64))).sz=1 from rfl,Nat.mul_one] at hv364_0;replace hv364_0:=Option.some.inj (hv364_0.symm.trans hx364_0);injection hv364_0 with hva_ hvn_ hvc_;rw [hva_] at ge364_0;rw [hvc_] at ul364_0;have HL364_0:=mk0 (show Kd.V (Kd.int .i64) 3 _ w.heap.size _ _ (rd_L1 t355 x10_2) from Kd.V_mk ul364_0 ge364_0);clear hva_ hvn_ hvc_ ge364_0 ul364_0;clear hcc364 hce364;have HR364_0:=mk0 hi364_0;have HC364_0:=mk0 hl364_0;clear hi364_0 hl364_0;replace p364:=eq_true p364;replace q364:=eq_true q364;have p365:0 ≤ (x10_2:Int):=of_decide_eq_true (by first|(with_reducible assumption)|assumption);have q365:x10_2 < (t355.length:Int):=of_decide_eq_true (by first|(with_reducible assumption)|assumption);obtain ⟨ad365,A365_0,c365_0,e365,hx365_0,hl365_0,hi365_0⟩:=at_L1 (Kd.V_reads' HO_4.out).2.2 x10_2 p365 q365;obtain rfl:ad364=ad365:=(by injection e365)
              obtain ⟨ce365,hce365,hMe365,hcc365⟩:=Kd.V_get HO_4.out [] x10_2 p365 (by first|exact q365|exact of_decide_eq_true (by first|(with_reducible assumption)|assumption)|(have e_:=(Kd.V_reads' HO_4.out).1;omega));obtain ⟨ua365_0,uc365_0,rfl,ul365_0,ge365_0⟩:=Kd.FK_slice_open hMe365;have hv365_0:=hcc365 0 _ rfl;rw [Nat.add_zero,show ((Kd.slice 3 (Kd.int .i64))).sz=1 from rfl,Nat.mul_one] at hv365_0;replace hv365_0:=Option.some.inj (hv365_0.symm.trans hx365_0);injection hv365_0 with hva_ hvn_ hvc_;rw [hva_] at ge365_0;rw [hvc_] at ul365_0;have HL365_0:=mk0 (show Kd.V (Kd.int .i64) 3 _ w.heap.size _ _ (rd_L1 t355 x10_2) from Kd.V_mk ul365_0 ge365_0);clear hva_ hvn_ hvc_ ge365_0 ul365_0;clear hcc365 hce365;have HR365_0:=mk0 hi365_0;have HC365_0:=mk0 hl365_0;clear hi365_0 hl365_0;replace p365:=eq_true p365;replace q365:=eq_true q365;have ea_:=Option.some.inj (hx364_0.symm.trans hx365_0);injection ea_ with ea_ en_ ec_;subst ea_;subst ec_;clear en_;have p367:0 ≤ ((ji26):Int):=of_decide_eq_true (by first|(with_reducible assumption)|assumption);have q367:(ji26) < (t355.length:Int):=of_decide_eq_true (by first|(with_reducible assumption)|assumption);obtain ⟨ad367,A367_0,c367_0,e367,hx367_0,hl367_0,hi367_0⟩:=at_L1 (Kd.V_reads' HO_4.out).2.2 (ji26) p367 q367;obtain rfl:ad364=ad367:=(by injection e367)
              obtain ⟨ce367,hce367,hMe367,hcc367⟩:=Kd.V_get HO_4.out [] (ji26) p367 (by first|exact q367|exact of_decide_eq_true (by first|(with_reducible assumption)|assumption)|(have e_:=(Kd.V_reads' HO_4.out).1;omega));obtain ⟨ua367_0,uc367_0,rfl,ul367_0,ge367_0⟩:=Kd.FK_slice_open hMe367;have hv367_0:=hcc367 0 _ rfl;rw [Nat.add_zero,show ((Kd.slice 3 (Kd.int .i64))).sz=1 from rfl,Nat.mul_one] at hv367_0;replace hv367_0:=Option.some.inj (hv367_0.symm.trans hx367_0);injection hv367_0 with hva_ hvn_ hvc_;rw [hva_] at ge367_0;rw [hvc_] at ul367_0;have HL367_0:=mk0 (show Kd.V (Kd.int .i64) 3 _ w.heap.size _ _ (rd_L1 t355 (ji26)) from Kd.V_mk ul367_0 ge367_0);clear hva_ hvn_ hvc_ ge367_0 ul367_0;clear hcc367 hce367;have HR367_0:=mk0 hi367_0;have HC367_0:=mk0 hl367_0;clear hi367_0 hl367_0;replace p367:=eq_true p367;replace q367:=eq_true q367;have p368:0 ≤ (x10_2:Int):=of_decide_eq_true (by first|(with_reducible assumption)|assumption);have q368:x10_2 < (t355.length:Int):=of_decide_eq_true (by first|(with_reducible assumption)|assumption);obtain ⟨ad368,A368_0,c368_0,e368,hx368_0,hl368_0,hi368_0⟩:=at_L1 (Kd.V_reads' HO_4.out).2.2 x10_2 p368 q368;obtain rfl:ad364=ad368:=(by injection e368)
              obtain ⟨ce368,hce368,hMe368,hcc368⟩:=Kd.V_get HO_4.out [] x10_2 p368 (by first|exact q368|exact of_decide_eq_true (by first|(with_reducible assumption)|assumption)|(have e_:=(Kd.V_reads' HO_4.out).1;omega));obtain ⟨ua368_0,uc368_0,rfl,ul368_0,ge368_0⟩:=Kd.FK_slice_open hMe368;have hv368_0:=hcc368 0 _ rfl;rw [Nat.add_zero,show ((Kd.slice 3 (Kd.int .i64))).sz=1 from rfl,Nat.mul_one] at hv368_0;replace hv368_0:=Option.some.inj (hv368_0.symm.trans hx368_0);injection hv368_0 with hva_ hvn_ hvc_;rw [hva_] at ge368_0;rw [hvc_] at ul368_0;have HL368_0:=mk0 (show Kd.V (Kd.int .i64) 3 _ w.heap.size _ _ (rd_L1 t355 x10_2) from Kd.V_mk ul368_0 ge368_0);clear hva_ hvn_ hvc_ ge368_0 ul368_0;clear hcc368 hce368;have HR368_0:=mk0 hi368_0;have HC368_0:=mk0 hl368_0;clear hi368_0 hl368_0;replace p368:=eq_true p368;replace q368:=eq_true q368;have ea_:=Option.some.inj (hx364_0.symm.trans hx368_0);injection ea_ with ea_ en_ ec_;subst ea_;subst ec_;clear en_;refine start_ (n:=32) (S:=fun w'=>w'.cell? (ad364.add (x10_2).toNat)=some (.slice A364_0 (rd_L1 t355 x10_2).length c364_0)∧w'.cell? (ad364.add (x10_2).toNat)=some (.slice A364_0 (rd_L1 t355 x10_2).length c364_0)∧w'.cell? (ad364.add ((ji26)).toNat)=some (.slice A367_0 (rd_L1 t355 (ji26)).length c367_0)∧w'.cell? (ad364.add (x10_2).toNat)=some (.slice A364_0 (rd_L1 t355 x10_2).length c364_0)) (ds:=[]) #[false,false,false,false,false,false,false,false,false,false,false,false,false,false,false,false,false,false,false,false,false,false,false,false,false,false,false,false,false,false,false,false] (by kernel_rfl) rfl rfl ⟨hx364_0,hx365_0,hx367_0,hx368_0⟩ (fun hHeld=>?_);refine with_tabW bellpulllaw02_EchoCounts.tab10 bellpulllaw02_EchoCounts.bits10 (fun HT_ HW_=>?_);generalize wr.drew=w32 at HO_4 HB HL364_0 HL365_0 HL367_0 HL368_0 HR364_0 HR365_0 HR367_0 HR368_0 hx364_0 hx365_0 hx367_0 hx368_0 hHeld ⊢;refine pure_ (i:=0) (N:=some 66) (v:=?_) (a':=?_) #[true,false,false,false,false,false,false,false,false,false,false,false,false,false,false,false,false,false,false,false,false,false,false,false,false,false,false,false,false,false,false,false] rfl rfl (any_of HT_.out (by kernel_rfl)) (fun _ _ _ h=>h) (Or.inl ⟨by rfl,?_⟩) ?_ ?_;rotate_left
              ·
               intro w';go_simp;with_reducible rfl
              rotate_left
              ·
               simp only [Act.put,List.setIfInBounds_toArray,List.set_cons_zero,List.set_cons_succ,i64_w,i32_w];rfl
              refine pure_ (i:=1) (N:=some 67) (v:=?_) (a':=?_) #[true,true,false,false,false,false,false,false,false,false,false,false,false,false,false,false,false,false,false,false,false,false,false,false,false,false,false,false,false,false,false,false] rfl rfl (any_of HT_.out (by kernel_rfl)) (fun _ _ _ h=>h) (Or.inl ⟨by rfl,?_⟩) ?_ ?_;rotate_left
              ·
               intro w';go_simp;with_reducible rfl
              rotate_left
              ·
               simp only [Act.put,List.setIfInBounds_toArray,List.set_cons_zero,List.set_cons_succ,i64_w,i32_w];rfl
              refine pure_ (i:=2) (N:=some 68) (v:=?_) (a':=?_) #[true,true,true,false,false,false,false,false,false,false,false,false,false,false,false,false,false,false,false,false,false,false,false,false,false,false,false,false,false,false,false,false] rfl rfl (any_of HT_.out (by kernel_rfl)) (fun _ _ _ h=>h) (Or.inl ⟨by rfl,?_⟩) ?_ ?_;rotate_left
              ·
               intro w';go_simp;with_reducible rfl
              rotate_left
              ·
               simp only [Act.put,List.setIfInBounds_toArray,List.set_cons_zero,List.set_cons_succ,i64_w,i32_w];rfl
              refine pure_ (i:=5) (N:=some 71) (v:=?_) (a':=?_) #[true,true,true,false,false,true,false,false,false,false,false,false,false,false,false,false,false,false,false,false,false,false,false,false,false,false,false,false,false,false,false,false] rfl rfl (any_of HT_.out (by kernel_rfl)) (fun _ _ _ h=>h) (Or.inl ⟨by rfl,?_⟩) ?_ ?_;rotate_left
              ·
               intro w';go_simp;with_reducible rfl
              rotate_left
              ·
               simp only [Act.put,List.setIfInBounds_toArray,List.set_cons_zero,List.set_cons_succ,i64_w,i32_w];rfl
              refine take_ (i:=3) (N:=some 69) (v:=?_) (a':=?_) #[true,true,true,true,false,true,false,false,false,false,false,false,false,false,false,false,false,false,false,false,false,false,false,false,false,false,false,false,false,false,false,false] rfl rfl (take_ofW HT_.out HW_.out (by kernel_rfl)) (fun _ _ _ h=>h) (Or.inl ⟨by rfl,?_⟩) hHeld ?_ ?_;rotate_left
              ·
               rintro w' ⟨s0,s1,s2,s3⟩;go_simp;with_reducible rfl
              rotate_left
              ·
               simp only [Act.put,List.setIfInBounds_toArray,List.set_cons_zero,List.set_cons_succ,i64_w,i32_w];rfl
              refine pure_ (i:=4) (N:=some 70) (v:=?_) (a':=?_) #[true,true,true,true,true,true,false,false,false,false,false,false,false,false,false,false,false,false,false,false,false,false,false,false,false,false,false,false,false,false,false,false] rfl rfl (any_of HT_.out (by kernel_rfl)) (fun _ _ _ h=>h) (Or.inl ⟨by rfl,?_⟩) ?_ ?_;rotate_left
              ·
               intro w';go_simp;with_reducible rfl
              rotate_left
              ·
               simp only [Act.put,List.setIfInBounds_toArray,List.set_cons_zero,List.set_cons_succ,i64_w,i32_w];rfl
              refine pure_ (i:=6) (N:=some 72) (v:=?_) (a':=?_) #[true,true,true,true,true,true,true,false,false,false,false,false,false,false,false,false,false,false,false,false,false,false,false,false,false,false,false,false,false,false,false,false] rfl rfl (any_of HT_.out (by kernel_rfl)) (fun _ _ _ h=>h) (Or.inl ⟨by rfl,?_⟩) ?_ ?_;rotate_left
              ·
               intro w';go_simp;with_reducible rfl
              rotate_left
              ·
               simp only [Act.put,List.setIfInBounds_toArray,List.set_cons_zero,List.set_cons_succ,i64_w,i32_w];rfl
              refine pure_ (i:=7) (N:=some 73) (v:=?_) (a':=?_) #[true,true,true,true,true,true,true,true,false,false,false,false,false,false,false,false,false,false,false,false,false,false,false,false,false,false,false,false,false,false,false,false] rfl rfl (any_of HT_.out (by kernel_rfl)) (fun _ _ _ h=>h) (Or.inl ⟨by rfl,?_⟩) ?_ ?_;rotate_left
              ·
               intro w';go_simp;with_reducible rfl
              rotate_left
              ·
               simp only [Act.put,List.setIfInBounds_toArray,List.set_cons_zero,List.set_cons_succ,i64_w,i32_w];rfl
              refine pure_ (i:=8) (N:=some 74) (v:=?_) (a':=?_) #[true,true,true,true,true,true,true,true,true,false,false,false,false,false,false,false,false,false,false,false,false,false,false,false,false,false,false,false,false,false,false,false] rfl rfl (any_of HT_.out (by kernel_rfl)) (fun _ _ _ h=>h) (Or.inl ⟨by rfl,?_⟩) ?_ ?_;rotate_left
              ·
               intro w';go_simp;with_reducible rfl
              rotate_left
              ·
               simp only [Act.put,List.setIfInBounds_toArray,List.set_cons_zero,List.set_cons_succ,i64_w,i32_w];rfl
              refine pure_ (i:=9) (N:=some 75) (v:=?_) (a':=?_) #[true,true,true,true,true,true,true,true,true,true,false,false,false,false,false,false,false,false,false,false,false,false,false,false,false,false,false,false,false,false,false,false] rfl rfl (any_of HT_.out (by kernel_rfl)) (fun _ _ _ h=>h) (Or.inl ⟨by rfl,?_⟩) ?_ ?_;rotate_left
              ·
               intro w';go_simp;with_reducible rfl
              rotate_left
              ·
               simp only [Act.put,List.setIfInBounds_toArray,List.set_cons_zero,List.set_cons_succ,i64_w,i32_w];rfl
              refine pure_ (i:=10) (N:=some 76) (v:=?_) (a':=?_) #[true,true,true,true,true,true,true,true,true,true,true,false,false,false,false,false,false,false,false,false,false,false,false,false,false,false,false,false,false,false,false,false] rfl rfl (any_of HT_.out (by kernel_rfl)) (fun _ _ _ h=>h) (Or.inl ⟨by rfl,?_⟩) ?_ ?_;rotate_left
              ·
               intro w';go_simp;with_reducible rfl
              rotate_left
              ·
               simp only [Act.put,List.setIfInBounds_toArray,List.set_cons_zero,List.set_cons_succ,i64_w,i32_w];rfl
              refine take_ (i:=11) (N:=some 77) (v:=?_) (a':=?_) #[true,true,true,true,true,true,true,true,true,true,true,true,false,false,false,false,false,false,false,false,false,false,false,false,false,false,false,false,false,false,false,false] rfl rfl (take_ofW HT_.out HW_.out (by kernel_rfl)) (fun _ _ _ h=>h) (Or.inl ⟨by rfl,?_⟩) hHeld ?_ ?_;rotate_left
              ·
               rintro w' ⟨s0,s1,s2,s3⟩;go_simp;with_reducible rfl
              rotate_left
              ·
               simp only [Act.put,List.setIfInBounds_toArray,List.set_cons_zero,List.set_cons_succ,i64_w,i32_w];rfl
              refine one_ (i:=12) (N:=some 78) #[true,true,true,true,true,true,true,true,true,true,true,true,true,false,false,false,false,false,false,false,false,false,false,false,false,false,false,false,false,false,false,false] rfl rfl (one_of HT_.out (by kernel_rfl)) (by decide) (fun K hK=>?_);refine goes_ Try.func33 (by kernel_rfl) rfl #[.slice A364_0 (rd_L1 t355 x10_2).length c364_0,.int .i64 2] (by rfl) rfl rfl (by (try simp only [List.map_toArray,List.map_cons,List.map_nil]);first|done|rfl|(simp only [List.length_drop,List.length_take];rfl)) ?_;with_reducible refine (bellpullref02_Word.calls k2 _ _ (rd_L1 t355 x10_2) 2 t366 _ ?side1 ?side2 A23.out).mono ?_
              (case side1=>repeat (first|exact (by repeat (first|(with_reducible exact HR365_0.out)|(with_reducible refine Kd.C_alloc ?_ _)|(with_reducible refine Kd.C_drewN ?_ _)|(with_reducible refine Kd.C_drew ?_)|exact HR365_0.out))|(with_reducible refine Kd.C_alloc ?_ _)|(with_reducible refine Kd.C_drewN ?_ _)|(with_reducible refine Kd.C_drew ?_)));(case side2=>exact HC365_0.out);rintro e w' ⟨rfl,⟨nd,rfl⟩⟩;refine ⟨_,rfl,?_⟩;refine hK.out _ _ ⟨hHeld.1,hHeld.2.1,hHeld.2.2.1,hHeld.2.2.2⟩ (fun hHeld=>?_);clear hK K;refine norm_ (a':=?_) ?_ ?_;rotate_left
              ·
               show Act.put _ (some 78) _=_;simp only [Act.put,List.setIfInBounds_toArray,List.set_cons_zero,List.set_cons_succ,i64_w,i32_w];rfl
              refine pure_ (i:=13) (N:=some 79) (v:=?_) (a':=?_) #[true,true,true,true,true,true,true,true,true,true,true,true,true,true,false,false,false,false,false,false,false,false,false,false,false,false,false,false,false,false,false,false] rfl rfl (any_of HT_.out (by kernel_rfl)) (fun _ _ _ h=>h) (Or.inl ⟨by rfl,?_⟩) ?_ ?_;rotate_left
              ·
               intro w';go_simp;with_reducible rfl
              rotate_left
              ·
               simp only [Act.put,List.setIfInBounds_toArray,List.set_cons_zero,List.set_cons_succ,i64_w,i32_w];rfl
              refine pure_ (i:=14) (N:=some 80) (v:=?_) (a':=?_) #[true,true,true,true,true,true,true,true,true,true,true,true,true,true,true,false,false,false,false,false,false,false,false,false,false,false,false,false,false,false,false,false] rfl rfl (any_of HT_.out (by kernel_rfl)) (fun _ _ _ h=>h) (Or.inl ⟨by rfl,?_⟩) ?_ ?_;rotate_left
              ·
               intro w';go_simp;with_reducible rfl
              rotate_left
              ·
               simp only [Act.put,List.setIfInBounds_toArray,List.set_cons_zero,List.set_cons_succ,i64_w,i32_w];rfl
              refine pure_ (i:=15) (N:=some 81) (v:=?_) (a':=?_) #[true,true,true,true,true,true,true,true,true,true,true,true,true,true,true,true,false,false,false,false,false,false,false,false,false,false,false,false,false,false,false,false] rfl rfl (any_of HT_.out (by kernel_rfl)) (fun _ _ _ h=>h) (Or.inl ⟨by rfl,?_⟩) ?_ ?_;rotate_left
              ·
               intro w';go_simp;with_reducible rfl
              rotate_left
              ·
               simp only [Act.put,List.setIfInBounds_toArray,List.set_cons_zero,List.set_cons_succ,i64_w,i32_w];rfl
              refine pure_ (i:=16) (N:=some 82) (v:=?_) (a':=?_) #[true,true,true,true,true,true,true,true,true,true,true,true,true,true,true,true,true,false,false,false,false,false,false,false,false,false,false,false,false,false,false,false] rfl rfl (any_of HT_.out (by kernel_rfl)) (fun _ _ _ h=>h) (Or.inl ⟨by rfl,?_⟩) ?_ ?_;rotate_left
              ·
               intro w';go_simp;with_reducible rfl
              rotate_left
              ·
               simp only [Act.put,List.setIfInBounds_toArray,List.set_cons_zero,List.set_cons_succ,i64_w,i32_w];rfl
              refine pure_ (i:=17) (N:=some 83) (v:=?_) (a':=?_) #[true,true,true,true,true,true,true,true,true,true,true,true,true,true,true,true,true,true,false,false,false,false,false,false,false,false,false,false,false,false,false,false] rfl rfl (any_of HT_.out (by kernel_rfl)) (fun _ _ _ h=>h) (Or.inl ⟨by rfl,?_⟩) ?_ ?_;rotate_left
              ·
               intro w';go_simp;with_reducible rfl
              rotate_left
              ·
               simp only [Act.put,List.setIfInBounds_toArray,List.set_cons_zero,List.set_cons_succ,i64_w,i32_w];rfl
              refine pure_ (i:=18) (N:=some 84) (v:=?_) (a':=?_) #[true,true,true,true,true,true,true,true,true,true,true,true,true,true,true,true,true,true,true,false,false,false,false,false,false,false,false,false,false,false,false,false] rfl rfl (any_of HT_.out (by kernel_rfl)) (fun _ _ _ h=>h) (Or.inl ⟨by rfl,?_⟩) ?_ ?_;rotate_left
              ·
               intro w';go_simp;with_reducible rfl
              rotate_left
              ·
               simp only [Act.put,List.setIfInBounds_toArray,List.set_cons_zero,List.set_cons_succ,i64_w,i32_w];rfl
              refine pure_ (i:=19) (N:=some 85) (v:=?_) (a':=?_) #[true,true,true,true,true,true,true,true,true,true,true,true,true,true,true,true,true,true,true,true,false,false,false,false,false,false,false,false,false,false,false,false] rfl rfl (any_of HT_.out (by kernel_rfl)) (fun _ _ _ h=>h) (Or.inl ⟨by rfl,?_⟩) ?_ ?_;rotate_left
              ·
               intro w';go_simp;with_reducible rfl
              rotate_left
              ·
               simp only [Act.put,List.setIfInBounds_toArray,List.set_cons_zero,List.set_cons_succ,i64_w,i32_w];rfl
              refine pure_ (i:=20) (N:=some 86) (v:=?_) (a':=?_) #[true,true,true,true,true,true,true,true,true,true,true,true,true,true,true,true,true,true,true,true,true,false,false,false,false,false,false,false,false,false,false,false] rfl rfl (any_of HT_.out (by kernel_rfl)) (fun _ _ _ h=>h) (Or.inl ⟨by rfl,?_⟩) ?_ ?_;rotate_left
              ·
               intro w';go_simp;with_reducible rfl
              rotate_left
              ·
               simp only [Act.put,List.setIfInBounds_toArray,List.set_cons_zero,List.set_cons_succ,i64_w,i32_w];rfl
              refine pure_ (i:=21) (N:=some 87) (v:=?_) (a':=?_) #[true,true,true,true,true,true,true,true,true,true,true,true,true,true,true,true,true,true,true,true,true,true,false,false,false,false,false,false,false,false,false,false] rfl rfl (any_of HT_.out (by kernel_rfl)) (fun _ _ _ h=>h) (Or.inl ⟨by rfl,?_⟩) ?_ ?_;rotate_left
              ·
               intro w';go_simp;with_reducible rfl
              rotate_left
              ·
               simp only [Act.put,List.setIfInBounds_toArray,List.set_cons_zero,List.set_cons_succ,i64_w,i32_w];rfl
              refine pure_ (i:=22) (N:=some 88) (v:=?_) (a':=?_) #[true,true,true,true,true,true,true,true,true,true,true,true,true,true,true,true,true,true,true,true,true,true,true,false,false,false,false,false,false,false,false,false] rfl rfl (any_of HT_.out (by kernel_rfl)) (fun _ _ _ h=>h) (Or.inl ⟨by rfl,?_⟩) ?_ ?_;rotate_left
              ·
               intro w';go_simp;with_reducible rfl
              rotate_left
              ·
               simp only [Act.put,List.setIfInBounds_toArray,List.set_cons_zero,List.set_cons_succ,i64_w,i32_w];rfl
              refine pure_ (i:=24) (N:=some 90) (v:=?_) (a':=?_) #[true,true,true,true,true,true,true,true,true,true,true,true,true,true,true,true,true,true,true,true,true,true,true,false,true,false,false,false,false,false,false,false] rfl rfl (any_of HT_.out (by kernel_rfl)) (fun _ _ _ h=>h) (Or.inl ⟨by rfl,?_⟩) ?_ ?_;rotate_left
              ·
               intro w';go_simp;with_reducible rfl
              rotate_left
              ·
               simp only [Act.put,List.setIfInBounds_toArray,List.set_cons_zero,List.set_cons_succ,i64_w,i32_w];rfl
              refine pure_ (i:=25) (N:=some 91) (v:=?_) (a':=?_) #[true,true,true,true,true,true,true,true,true,true,true,true,true,true,true,true,true,true,true,true,true,true,true,false,true,true,false,false,false,false,false,false] rfl rfl (any_of HT_.out (by kernel_rfl)) (fun _ _ _ h=>h) (Or.inl ⟨by rfl,?_⟩) ?_ ?_;rotate_left
              ·
               intro w';go_simp;with_reducible rfl
              rotate_left
              ·
               simp only [Act.put,List.setIfInBounds_toArray,List.set_cons_zero,List.set_cons_succ,i64_w,i32_w];rfl
              refine pure_ (i:=26) (N:=some 92) (v:=?_) (a':=?_) #[true,true,true,true,true,true,true,true,true,true,true,true,true,true,true,true,true,true,true,true,true,true,true,false,true,true,true,false,false,false,false,false] rfl rfl (any_of HT_.out (by kernel_rfl)) (fun _ _ _ h=>h) (Or.inl ⟨by rfl,?_⟩) ?_ ?_;rotate_left
              ·
               intro w';go_simp;with_reducible rfl
              rotate_left
              ·
               simp only [Act.put,List.setIfInBounds_toArray,List.set_cons_zero,List.set_cons_succ,i64_w,i32_w];rfl
              refine take_ (i:=23) (N:=some 89) (v:=?_) (a':=?_) #[true,true,true,true,true,true,true,true,true,true,true,true,true,true,true,true,true,true,true,true,true,true,true,true,true,true,true,false,false,false,false,false] rfl rfl (take_ofW HT_.out HW_.out (by kernel_rfl)) (fun _ _ _ h=>h) (Or.inl ⟨by rfl,?_⟩) hHeld ?_ ?_;rotate_left
              ·
               rintro w' ⟨s0,s1,s2,s3⟩;go_simp;with_reducible rfl
              rotate_left
              ·
               simp only [Act.put,List.setIfInBounds_toArray,List.set_cons_zero,List.set_cons_succ,i64_w,i32_w];rfl
              refine take_ (i:=27) (N:=some 93) (v:=?_) (a':=?_) #[true,true,true,true,true,true,true,true,true,true,true,true,true,true,true,true,true,true,true,true,true,true,true,true,true,true,true,true,false,false,false,false] rfl rfl (take_ofW HT_.out HW_.out (by kernel_rfl)) (fun _ _ _ h=>h) (Or.inl ⟨by rfl,?_⟩) hHeld ?_ ?_;rotate_left
              ·
               rintro w' ⟨s0,s1,s2,s3⟩;go_simp;with_reducible rfl
              rotate_left
              ·
               simp only [Act.put,List.setIfInBounds_toArray,List.set_cons_zero,List.set_cons_succ,i64_w,i32_w];rfl
              refine one_ (i:=28) (N:=some 94) #[true,true,true,true,true,true,true,true,true,true,true,true,true,true,true,true,true,true,true,true,true,true,true,true,true,true,true,true,true,false,false,false] rfl rfl (one_of HT_.out (by kernel_rfl)) (by decide) (fun K hK=>?_);refine goes_ Try.func42 (by kernel_rfl) rfl #[.slice A367_0 (rd_L1 t355 (ji26)).length c367_0,.slice A364_0 (rd_L1 t355 x10_2).length c364_0] (by rfl) rfl rfl (by (try simp only [List.map_toArray,List.map_cons,List.map_nil]);first|done|(simp only [hji26];rfl)|rfl|(simp only [List.length_drop,List.length_take];rfl)) ?_;with_reducible refine (bellpullref01_Before.calls k2 _ _ (rd_L1 t355 (ji26)) _ _ (rd_L1 t355 x10_2) true _ ?side1 ?side2 ?side3 ?side4 A29.out).mono ?_
              (case side1=>repeat (first|exact (by repeat (first|(with_reducible exact HR367_0.out)|(with_reducible refine Kd.C_alloc ?_ _)|(with_reducible refine Kd.C_drewN ?_ _)|(with_reducible refine Kd.C_drew ?_)|exact HR367_0.out))|(with_reducible refine Kd.C_alloc ?_ _)|(with_reducible refine Kd.C_drewN ?_ _)|(with_reducible refine Kd.C_drew ?_)));(case side2=>exact HC367_0.out);(case side3=>repeat (first|exact (by repeat (first|(with_reducible exact HR368_0.out)|(with_reducible refine Kd.C_alloc ?_ _)|(with_reducible refine Kd.C_drewN ?_ _)|(with_reducible refine Kd.C_drew ?_)|exact HR368_0.out))|(with_reducible refine Kd.C_alloc ?_ _)|(with_reducible refine Kd.C_drewN ?_ _)|(with_reducible refine Kd.C_drew ?_)));(case side4=>exact HC368_0.out);rintro e w' ⟨rfl,⟨nd,rfl⟩⟩;refine ⟨_,rfl,?_⟩;refine hK.out _ _ ⟨hHeld.1,hHeld.2.1,hHeld.2.2.1,hHeld.2.2.2⟩ (fun hHeld=>?_);clear hK K;refine norm_ (a':=?_) ?_ ?_;rotate_left
              ·
               show Act.put _ (some 94) _=_;simp only [Act.put,List.setIfInBounds_toArray,List.set_cons_zero,List.set_cons_succ,i64_w,i32_w];rfl
              refine pure_ (i:=29) (N:=some 95) (v:=?_) (a':=?_) #[true,true,true,true,true,true,true,true,true,true,true,true,true,true,true,true,true,true,true,true,true,true,true,true,true,true,true,true,true,true,false,false] rfl rfl (any_of HT_.out (by kernel_rfl)) (fun _ _ _ h=>h) (Or.inl ⟨by rfl,?_⟩) ?_ ?_;rotate_left
              ·
               intro w';go_simp;with_reducible rfl
              rotate_left
              ·
               simp only [Act.put,List.setIfInBounds_toArray,List.set_cons_zero,List.set_cons_succ,i64_w,i32_w];rfl
              refine pure_ (i:=30) (N:=some 96) (v:=?_) (a':=?_) #[true,true,true,true,true,true,true,true,true,true,true,true,true,true,true,true,true,true,true,true,true,true,true,true,true,true,true,true,true,true,true,false] rfl rfl (any_of HT_.out (by kernel_rfl)) (fun _ _ _ h=>h) (Or.inl ⟨by rfl,?_⟩) ?_ ?_;rotate_left
              ·
               intro w';go_simp;with_reducible rfl
              rotate_left
              ·
               simp only [Act.put,List.setIfInBounds_toArray,List.set_cons_zero,List.set_cons_succ,i64_w,i32_w];rfl
              refine pure_ (i:=31) (N:=some 97) (v:=?_) (a':=?_) #[true,true,true,true,true,true,true,true,true,true,true,true,true,true,true,true,true,true,true,true,true,true,true,true,true,true,true,true,true,true,true,true] rfl rfl (any_of HT_.out (by kernel_rfl)) (fun _ _ _ h=>h) (Or.inl ⟨by rfl,?_⟩) ?_ ?_;rotate_left
              ·
               intro w';go_simp;with_reducible rfl
              rotate_left
              ·
               simp only [Act.put,List.setIfInBounds_toArray,List.set_cons_zero,List.set_cons_succ,i64_w,i32_w];rfl
              refine done_ (done_of HT_.out (by kernel_rfl)) ?_;try go_wp2
              go_roundg k2
              case measure=>have:=HJ5.out;have:=HK2.out;omega
              case rel=>exact ⟨(wrap64 (x10_2 + 1)),(by first|rfl|(simp;done)|(simp [*];done)),H',⟨by have:=HJ5.out;have:=HK2.out;omega⟩,⟨by (with_reducible repeat (first|apply Kd.V_alloc|apply Kd.V_drewN|apply Kd.V_drew));exact HO_4.out⟩,⟨by repeat (first|(with_reducible first|exact HB.out|apply below_alloc|apply pw_below_drewN|apply below_drew1)|exact HB.out)⟩⟩
             ·
              replace c30:=Bool.eq_false_iff.mpr c30;subst c30;have H1:(none)=some r:=by rw [if_neg (show ¬ (false=true) by decide)] at H;exact H
              clear H;have H:=H1;clear H1;exact absurd H (by simp)
            ·
             rw [if_neg c28] at H;exact absurd H (by simp)
           ·
            rw [if_neg c27] at H;exact absurd H (by simp)
          ·
           rw [if_neg c25] at H;have c25b0:decide (0 < x10_2)=false:=decide_eq_false c25;clear c25;have H':=mk0 H;clear H;obtain ⟨Ao33,co33,eo33⟩:=Kd.V_slice HO_4.out;subst eo33;try go_wp2
           replace HO_4:=mk0 (Kd.V_drew HO_4.out);replace HB:=hdr HB;have p364:0 ≤ (x10_2:Int):=of_decide_eq_true (by first|(with_reducible assumption)|assumption);have q364:x10_2 < (t355.length:Int):=of_decide_eq_true (by first|(with_reducible assumption)|assumption);obtain ⟨ad364,A364_0,c364_0,e364,hx364_0,hl364_0,hi364_0⟩:=at_L1 (Kd.V_reads' HO_4.out).2.2 x10_2 p364 q364;cases e364;obtain ⟨ce364,hce364,hMe364,hcc364⟩:=Kd.V_get HO_4.out [] x10_2 p364 (by first|exact q364|exact of_decide_eq_true (by first|(with_reducible assumption)|assumption)|(have e_:=(Kd.V_reads' HO_4.out).1;omega));obtain ⟨ua364_0,uc364_0,rfl,ul364_0,ge364_0⟩:=Kd.FK_slice_open hMe364;have hv364_0:=hcc364 0 _ rfl;rw [Nat.add_zero,show ((Kd.slice 3 (Kd.int .i64))).sz=1 from rfl,Nat.mul_one] at hv364_0;replace hv364_0:=Option.some.inj (hv364_0.symm.trans hx364_0);injection hv364_0 with hva_ hvn_ hvc_;rw [hva_] at ge364_0;rw [hvc_] at ul364_0;have HL364_0:=mk0 (show Kd.V (Kd.int .i64) 3 _ w.heap.size _ _ (rd_L1 t355 x10_2) from Kd.V_mk ul364_0 ge364_0);clear hva_ hvn_ hvc_ ge364_0 ul364_0;clear hcc364 hce364;have HR364_0:=mk0 hi364_0;have HC364_0:=mk0 hl364_0;clear hi364_0 hl364_0;replace p364:=eq_true p364;replace q364:=eq_true q364;have p365:0 ≤ (x10_2:Int):=of_decide_eq_true (by first|(with_reducible assumption)|assumption);have q365:x10_2 < (t355.length:Int):=of_decide_eq_true (by first|(with_reducible assumption)|assumption);obtain ⟨ad365,A365_0,c365_0,e365,hx365_0,hl365_0,hi365_0⟩:=at_L1 (Kd.V_reads' HO_4.out).2.2 x10_2 p365 q365;obtain rfl:ad364=ad365:=(by injection e365)
           obtain ⟨ce365,hce365,hMe365,hcc365⟩:=Kd.V_get HO_4.out [] x10_2 p365 (by first|exact q365|exact of_decide_eq_true (by first|(with_reducible assumption)|assumption)|(have e_:=(Kd.V_reads' HO_4.out).1;omega));obtain ⟨ua365_0,uc365_0,rfl,ul365_0,ge365_0⟩:=Kd.FK_slice_open hMe365;have hv365_0:=hcc365 0 _ rfl;rw [Nat.add_zero,show ((Kd.slice 3 (Kd.int .i64))).sz=1 from rfl,Nat.mul_one] at hv365_0;replace hv365_0:=Option.some.inj (hv365_0.symm.trans hx365_0);injection hv365_0 with hva_ hvn_ hvc_;rw [hva_] at ge365_0;rw [hvc_] at ul365_0;have HL365_0:=mk0 (show Kd.V (Kd.int .i64) 3 _ w.heap.size _ _ (rd_L1 t355 x10_2) from Kd.V_mk ul365_0 ge365_0);clear hva_ hvn_ hvc_ ge365_0 ul365_0;clear hcc365 hce365;have HR365_0:=mk0 hi365_0;have HC365_0:=mk0 hl365_0;clear hi365_0 hl365_0;replace p365:=eq_true p365;replace q365:=eq_true q365;have ea_:=Option.some.inj (hx364_0.symm.trans hx365_0);injection ea_ with ea_ en_ ec_;subst ea_;subst ec_;clear en_;refine start_ (n:=32) (S:=fun w'=>w'.cell? (ad364.add (x10_2).toNat)=some (.slice A364_0 (rd_L1 t355 x10_2).length c364_0)∧w'.cell? (ad364.add (x10_2).toNat)=some (.slice A364_0 (rd_L1 t355 x10_2).length c364_0)) (ds:=[]) #[false,false,false,false,false,false,false,false,false,false,false,false,false,false,false,false,false,false,false,false,false,false,false,false,false,false,false,false,false,false,false,false] (by kernel_rfl) rfl rfl ⟨hx364_0,hx365_0⟩ (fun hHeld=>?_);refine with_tabW bellpulllaw02_EchoCounts.tab10 bellpulllaw02_EchoCounts.bits10 (fun HT_ HW_=>?_);generalize wr.drew=w34 at HO_4 HB HL364_0 HL365_0 HR364_0 HR365_0 hx364_0 hx365_0 hHeld ⊢;refine pure_ (i:=0) (N:=some 66) (v:=?_) (a':=?_) #[true,false,false,false,false,false,false,false,false,false,false,false,false,false,false,false,false,false,false,false,false,false,false,false,false,false,false,false,false,false,false,false] rfl rfl (any_of HT_.out (by kernel_rfl)) (fun _ _ _ h=>h) (Or.inl ⟨by rfl,?_⟩) ?_ ?_;rotate_left
           ·
            intro w';go_simp;with_reducible rfl
           rotate_left
           ·
            simp only [Act.put,List.setIfInBounds_toArray,List.set_cons_zero,List.set_cons_succ,i64_w,i32_w];rfl
           refine pure_ (i:=1) (N:=some 67) (v:=?_) (a':=?_) #[true,true,false,false,false,false,false,false,false,false,false,false,false,false,false,false,false,false,false,false,false,false,false,false,false,false,false,false,false,false,false,false] rfl rfl (any_of HT_.out (by kernel_rfl)) (fun _ _ _ h=>h) (Or.inl ⟨by rfl,?_⟩) ?_ ?_;rotate_left
           ·
            intro w';go_simp;with_reducible rfl
           rotate_left
           ·
            simp only [Act.put,List.setIfInBounds_toArray,List.set_cons_zero,List.set_cons_succ,i64_w,i32_w];rfl
           refine pure_ (i:=2) (N:=some 68) (v:=?_) (a':=?_) #[true,true,true,false,false,false,false,false,false,false,false,false,false,false,false,false,false,false,false,false,false,false,false,false,false,false,false,false,false,false,false,false] rfl rfl (any_of HT_.out (by kernel_rfl)) (fun _ _ _ h=>h) (Or.inl ⟨by rfl,?_⟩) ?_ ?_;rotate_left
           ·
            intro w';go_simp;with_reducible rfl
           rotate_left
           ·
            simp only [Act.put,List.setIfInBounds_toArray,List.set_cons_zero,List.set_cons_succ,i64_w,i32_w];rfl
           refine pure_ (i:=5) (N:=some 71) (v:=?_) (a':=?_) #[true,true,true,false,false,true,false,false,false,false,false,false,false,false,false,false,false,false,false,false,false,false,false,false,false,false,false,false,false,false,false,false] rfl rfl (any_of HT_.out (by kernel_rfl)) (fun _ _ _ h=>h) (Or.inl ⟨by rfl,?_⟩) ?_ ?_;rotate_left
           ·
            intro w';go_simp;with_reducible rfl
           rotate_left
           ·
            simp only [Act.put,List.setIfInBounds_toArray,List.set_cons_zero,List.set_cons_succ,i64_w,i32_w];rfl
           refine take_ (i:=3) (N:=some 69) (v:=?_) (a':=?_) #[true,true,true,true,false,true,false,false,false,false,false,false,false,false,false,false,false,false,false,false,false,false,false,false,false,false,false,false,false,false,false,false] rfl rfl (take_ofW HT_.out HW_.out (by kernel_rfl)) (fun _ _ _ h=>h) (Or.inl ⟨by rfl,?_⟩) hHeld ?_ ?_;rotate_left
           ·
            rintro w' ⟨s0,s1⟩;go_simp;with_reducible rfl
           rotate_left
           ·
            simp only [Act.put,List.setIfInBounds_toArray,List.set_cons_zero,List.set_cons_succ,i64_w,i32_w];rfl
           refine pure_ (i:=4) (N:=some 70) (v:=?_) (a':=?_) #[true,true,true,true,true,true,false,false,false,false,false,false,false,false,false,false,false,false,false,false,false,false,false,false,false,false,false,false,false,false,false,false] rfl rfl (any_of HT_.out (by kernel_rfl)) (fun _ _ _ h=>h) (Or.inl ⟨by rfl,?_⟩) ?_ ?_;rotate_left
           ·
            intro w';go_simp;with_reducible rfl
           rotate_left
           ·
            simp only [Act.put,List.setIfInBounds_toArray,List.set_cons_zero,List.set_cons_succ,i64_w,i32_w];rfl
           refine pure_ (i:=6) (N:=some 72) (v:=?_) (a':=?_) #[true,true,true,true,true,true,true,false,false,false,false,false,false,false,false,false,false,false,false,false,false,false,false,false,false,false,false,false,false,false,false,false] rfl rfl (any_of HT_.out (by kernel_rfl)) (fun _ _ _ h=>h) (Or.inl ⟨by rfl,?_⟩) ?_ ?_;rotate_left
           ·
            intro w';go_simp;with_reducible rfl
           rotate_left
           ·
            simp only [Act.put,List.setIfInBounds_toArray,List.set_cons_zero,List.set_cons_succ,i64_w,i32_w];rfl
           refine pure_ (i:=7) (N:=some 73) (v:=?_) (a':=?_) #[true,true,true,true,true,true,true,true,false,false,false,false,false,false,false,false,false,false,false,false,false,false,false,false,false,false,false,false,false,false,false,false] rfl rfl (any_of HT_.out (by kernel_rfl)) (fun _ _ _ h=>h) (Or.inl ⟨by rfl,?_⟩) ?_ ?_;rotate_left
           ·
            intro w';go_simp;with_reducible rfl
           rotate_left
           ·
            simp only [Act.put,List.setIfInBounds_toArray,List.set_cons_zero,List.set_cons_succ,i64_w,i32_w];rfl
           refine pure_ (i:=8) (N:=some 74) (v:=?_) (a':=?_) #[true,true,true,true,true,true,true,true,true,false,false,false,false,false,false,false,false,false,false,false,false,false,false,false,false,false,false,false,false,false,false,false] rfl rfl (any_of HT_.out (by kernel_rfl)) (fun _ _ _ h=>h) (Or.inl ⟨by rfl,?_⟩) ?_ ?_;rotate_left
           ·
            intro w';go_simp;with_reducible rfl
           rotate_left
           ·
            simp only [Act.put,List.setIfInBounds_toArray,List.set_cons_zero,List.set_cons_succ,i64_w,i32_w];rfl
           refine pure_ (i:=9) (N:=some 75) (v:=?_) (a':=?_) #[true,true,true,true,true,true,true,true,true,true,false,false,false,false,false,false,false,false,false,false,false,false,false,false,false,false,false,false,false,false,false,false] rfl rfl (any_of HT_.out (by kernel_rfl)) (fun _ _ _ h=>h) (Or.inl ⟨by rfl,?_⟩) ?_ ?_;rotate_left
           ·
            intro w';go_simp;with_reducible rfl
           rotate_left
           ·
            simp only [Act.put,List.setIfInBounds_toArray,List.set_cons_zero,List.set_cons_succ,i64_w,i32_w];rfl
           refine pure_ (i:=10) (N:=some 76) (v:=?_) (a':=?_) #[true,true,true,true,true,true,true,true,true,true,true,false,false,false,false,false,false,false,false,false,false,false,false,false,false,false,false,false,false,false,false,false] rfl rfl (any_of HT_.out (by kernel_rfl)) (fun _ _ _ h=>h) (Or.inl ⟨by rfl,?_⟩) ?_ ?_;rotate_left
           ·
            intro w';go_simp;with_reducible rfl
           rotate_left
           ·
            simp only [Act.put,List.setIfInBounds_toArray,List.set_cons_zero,List.set_cons_succ,i64_w,i32_w];rfl
           refine take_ (i:=11) (N:=some 77) (v:=?_) (a':=?_) #[true,true,true,true,true,true,true,true,true,true,true,true,false,false,false,false,false,false,false,false,false,false,false,false,false,false,false,false,false,false,false,false] rfl rfl (take_ofW HT_.out HW_.out (by kernel_rfl)) (fun _ _ _ h=>h) (Or.inl ⟨by rfl,?_⟩) hHeld ?_ ?_;rotate_left
           ·
            rintro w' ⟨s0,s1⟩;go_simp;with_reducible rfl
           rotate_left
           ·
            simp only [Act.put,List.setIfInBounds_toArray,List.set_cons_zero,List.set_cons_succ,i64_w,i32_w];rfl
           refine one_ (i:=12) (N:=some 78) #[true,true,true,true,true,true,true,true,true,true,true,true,true,false,false,false,false,false,false,false,false,false,false,false,false,false,false,false,false,false,false,false] rfl rfl (one_of HT_.out (by kernel_rfl)) (by decide) (fun K hK=>?_);refine goes_ Try.func33 (by kernel_rfl) rfl #[.slice A364_0 (rd_L1 t355 x10_2).length c364_0,.int .i64 2] (by rfl) rfl rfl (by (try simp only [List.map_toArray,List.map_cons,List.map_nil]);first|done|rfl|(simp only [List.length_drop,List.length_take];rfl)) ?_;with_reducible refine (bellpullref02_Word.calls k2 _ _ (rd_L1 t355 x10_2) 2 t366 _ ?side1 ?side2 A23.out).mono ?_
           (case side1=>repeat (first|exact (by repeat (first|(with_reducible exact HR365_0.out)|(with_reducible refine Kd.C_alloc ?_ _)|(with_reducible refine Kd.C_drewN ?_ _)|(with_reducible refine Kd.C_drew ?_)|exact HR365_0.out))|(with_reducible refine Kd.C_alloc ?_ _)|(with_reducible refine Kd.C_drewN ?_ _)|(with_reducible refine Kd.C_drew ?_)));(case side2=>exact HC365_0.out);rintro e w' ⟨rfl,⟨nd,rfl⟩⟩;refine ⟨_,rfl,?_⟩;refine hK.out _ _ ⟨hHeld.1,hHeld.2⟩ (fun hHeld=>?_);clear hK K;refine norm_ (a':=?_) ?_ ?_;rotate_left
           ·
            show Act.put _ (some 78) _=_;simp only [Act.put,List.setIfInBounds_toArray,List.set_cons_zero,List.set_cons_succ,i64_w,i32_w];rfl
           refine pure_ (i:=13) (N:=some 79) (v:=?_) (a':=?_) #[true,true,true,true,true,true,true,true,true,true,true,true,true,true,false,false,false,false,false,false,false,false,false,false,false,false,false,false,false,false,false,false] rfl rfl (any_of HT_.out (by kernel_rfl)) (fun _ _ _ h=>h) (Or.inl ⟨by rfl,?_⟩) ?_ ?_;rotate_left
           ·
            intro w';go_simp;with_reducible rfl
           rotate_left
           ·
            simp only [Act.put,List.setIfInBounds_toArray,List.set_cons_zero,List.set_cons_succ,i64_w,i32_w];rfl
           refine pure_ (i:=14) (N:=some 80) (v:=?_) (a':=?_) #[true,true,true,true,true,true,true,true,true,true,true,true,true,true,true,false,false,false,false,false,false,false,false,false,false,false,false,false,false,false,false,false] rfl rfl (any_of HT_.out (by kernel_rfl)) (fun _ _ _ h=>h) (Or.inl ⟨by rfl,?_⟩) ?_ ?_;rotate_left
           ·
            intro w';go_simp;with_reducible rfl
           rotate_left
           ·
            simp only [Act.put,List.setIfInBounds_toArray,List.set_cons_zero,List.set_cons_succ,i64_w,i32_w];rfl
           refine pure_ (i:=15) (N:=some 81) (v:=?_) (a':=?_) #[true,true,true,true,true,true,true,true,true,true,true,true,true,true,true,true,false,false,false,false,false,false,false,false,false,false,false,false,false,false,false,false] rfl rfl (any_of HT_.out (by kernel_rfl)) (fun _ _ _ h=>h) (Or.inl ⟨by rfl,?_⟩) ?_ ?_;rotate_left
           ·
            intro w';go_simp;with_reducible rfl
           rotate_left
           ·
            simp only [Act.put,List.setIfInBounds_toArray,List.set_cons_zero,List.set_cons_succ,i64_w,i32_w];rfl
           refine pure_ (i:=16) (N:=some 82) (v:=?_) (a':=?_) #[true,true,true,true,true,true,true,true,true,true,true,true,true,true,true,true,true,false,false,false,false,false,false,false,false,false,false,false,false,false,false,false] rfl rfl (any_of HT_.out (by kernel_rfl)) (fun _ _ _ h=>h) (Or.inl ⟨by rfl,?_⟩) ?_ ?_;rotate_left
           ·
            intro w';go_simp;with_reducible rfl
           rotate_left
           ·
            simp only [Act.put,List.setIfInBounds_toArray,List.set_cons_zero,List.set_cons_succ,i64_w,i32_w];rfl
           refine pure_ (i:=17) (N:=some 83) (v:=?_) (a':=?_) #[true,true,true,true,true,true,true,true,true,true,true,true,true,true,true,true,true,true,false,false,false,false,false,false,false,false,false,false,false,false,false,false] rfl rfl (any_of HT_.out (by kernel_rfl)) (fun _ _ _ h=>h) (Or.inl ⟨by rfl,?_⟩) ?_ ?_;rotate_left
           ·
            intro w';go_simp;with_reducible rfl
           rotate_left
           ·
            simp only [Act.put,List.setIfInBounds_toArray,List.set_cons_zero,List.set_cons_succ,i64_w,i32_w];rfl
           refine pure_ (i:=18) (N:=some 84) (v:=?_) (a':=?_) #[true,true,true,true,true,true,true,true,true,true,true,true,true,true,true,true,true,true,true,false,false,false,false,false,false,false,false,false,false,false,false,false] rfl rfl (any_of HT_.out (by kernel_rfl)) (fun _ _ _ h=>h) (Or.inl ⟨by rfl,?_⟩) ?_ ?_;rotate_left
           ·
            intro w';go_simp;with_reducible rfl
           rotate_left
           ·
            simp only [Act.put,List.setIfInBounds_toArray,List.set_cons_zero,List.set_cons_succ,i64_w,i32_w];rfl
           refine pure_ (i:=19) (N:=some 85) (v:=undef) (a':=?_) #[true,true,true,true,true,true,true,true,true,true,true,true,true,true,true,true,true,true,true,true,false,false,false,false,false,false,false,false,false,false,false,false] rfl rfl (any_of HT_.out (by kernel_rfl)) (fun _ _ _ h=>h) (Or.inr ⟨by rfl,rfl⟩) ?_ ?_;rotate_left
           ·
            simp only [Act.put,List.setIfInBounds_toArray,List.set_cons_zero,List.set_cons_succ,i64_w,i32_w];rfl
           refine pure_ (i:=20) (N:=some 86) (v:=undef) (a':=?_) #[true,true,true,true,true,true,true,true,true,true,true,true,true,true,true,true,true,true,true,true,true,false,false,false,false,false,false,false,false,false,false,false] rfl rfl (any_of HT_.out (by kernel_rfl)) (fun _ _ _ h=>h) (Or.inr ⟨by rfl,rfl⟩) ?_ ?_;rotate_left
           ·
            simp only [Act.put,List.setIfInBounds_toArray,List.set_cons_zero,List.set_cons_succ,i64_w,i32_w];rfl
           refine pure_ (i:=21) (N:=some 87) (v:=undef) (a':=?_) #[true,true,true,true,true,true,true,true,true,true,true,true,true,true,true,true,true,true,true,true,true,true,false,false,false,false,false,false,false,false,false,false] rfl rfl (any_of HT_.out (by kernel_rfl)) (fun _ _ _ h=>h) (Or.inr ⟨by rfl,rfl⟩) ?_ ?_;rotate_left
           ·
            simp only [Act.put,List.setIfInBounds_toArray,List.set_cons_zero,List.set_cons_succ,i64_w,i32_w];rfl
           refine pure_ (i:=22) (N:=some 88) (v:=undef) (a':=?_) #[true,true,true,true,true,true,true,true,true,true,true,true,true,true,true,true,true,true,true,true,true,true,true,false,false,false,false,false,false,false,false,false] rfl rfl (any_of HT_.out (by kernel_rfl)) (fun _ _ _ h=>h) (Or.inr ⟨by rfl,rfl⟩) ?_ ?_;rotate_left
           ·
            simp only [Act.put,List.setIfInBounds_toArray,List.set_cons_zero,List.set_cons_succ,i64_w,i32_w];rfl
           refine pure_ (i:=23) (N:=some 89) (v:=undef) (a':=?_) #[true,true,true,true,true,true,true,true,true,true,true,true,true,true,true,true,true,true,true,true,true,true,true,true,false,false,false,false,false,false,false,false] rfl rfl (any_of HT_.out (by kernel_rfl)) (fun _ _ _ h=>h) (Or.inr ⟨by rfl,rfl⟩) ?_ ?_;rotate_left
           ·
            simp only [Act.put,List.setIfInBounds_toArray,List.set_cons_zero,List.set_cons_succ,i64_w,i32_w];rfl
           refine pure_ (i:=24) (N:=some 90) (v:=undef) (a':=?_) #[true,true,true,true,true,true,true,true,true,true,true,true,true,true,true,true,true,true,true,true,true,true,true,true,true,false,false,false,false,false,false,false] rfl rfl (any_of HT_.out (by kernel_rfl)) (fun _ _ _ h=>h) (Or.inr ⟨by rfl,rfl⟩) ?_ ?_;rotate_left
           ·
            simp only [Act.put,List.setIfInBounds_toArray,List.set_cons_zero,List.set_cons_succ,i64_w,i32_w];rfl
           refine pure_ (i:=25) (N:=some 91) (v:=undef) (a':=?_) #[true,true,true,true,true,true,true,true,true,true,true,true,true,true,true,true,true,true,true,true,true,true,true,true,true,true,false,false,false,false,false,false] rfl rfl (any_of HT_.out (by kernel_rfl)) (fun _ _ _ h=>h) (Or.inr ⟨by rfl,rfl⟩) ?_ ?_;rotate_left
           ·
            simp only [Act.put,List.setIfInBounds_toArray,List.set_cons_zero,List.set_cons_succ,i64_w,i32_w];rfl
           refine pure_ (i:=26) (N:=some 92) (v:=undef) (a':=?_) #[true,true,true,true,true,true,true,true,true,true,true,true,true,true,true,true,true,true,true,true,true,true,true,true,true,true,true,false,false,false,false,false] rfl rfl (any_of HT_.out (by kernel_rfl)) (fun _ _ _ h=>h) (Or.inr ⟨by rfl,rfl⟩) ?_ ?_;rotate_left
           ·
            simp only [Act.put,List.setIfInBounds_toArray,List.set_cons_zero,List.set_cons_succ,i64_w,i32_w];rfl
           refine pure_ (i:=27) (N:=some 93) (v:=undef) (a':=?_) #[true,true,true,true,true,true,true,true,true,true,true,true,true,true,true,true,true,true,true,true,true,true,true,true,true,true,true,true,false,false,false,false] rfl rfl (any_of HT_.out (by kernel_rfl)) (fun _ _ _ h=>h) (Or.inr ⟨by rfl,rfl⟩) ?_ ?_;rotate_left
           ·
            simp only [Act.put,List.setIfInBounds_toArray,List.set_cons_zero,List.set_cons_succ,i64_w,i32_w];rfl
           refine pure_ (i:=28) (N:=some 94) (v:=undef) (a':=?_) #[true,true,true,true,true,true,true,true,true,true,true,true,true,true,true,true,true,true,true,true,true,true,true,true,true,true,true,true,true,false,false,false] rfl rfl (any_of HT_.out (by kernel_rfl)) (fun _ _ _ h=>h) (Or.inr ⟨by rfl,rfl⟩) ?_ ?_;rotate_left
           ·
            simp only [Act.put,List.setIfInBounds_toArray,List.set_cons_zero,List.set_cons_succ,i64_w,i32_w];rfl
           refine pure_ (i:=29) (N:=some 95) (v:=undef) (a':=?_) #[true,true,true,true,true,true,true,true,true,true,true,true,true,true,true,true,true,true,true,true,true,true,true,true,true,true,true,true,true,true,false,false] rfl rfl (any_of HT_.out (by kernel_rfl)) (fun _ _ _ h=>h) (Or.inr ⟨by rfl,rfl⟩) ?_ ?_;rotate_left
           ·
            simp only [Act.put,List.setIfInBounds_toArray,List.set_cons_zero,List.set_cons_succ,i64_w,i32_w];rfl
           refine pure_ (i:=30) (N:=some 96) (v:=?_) (a':=?_) #[true,true,true,true,true,true,true,true,true,true,true,true,true,true,true,true,true,true,true,true,true,true,true,true,true,true,true,true,true,true,true,false] rfl rfl (any_of HT_.out (by kernel_rfl)) (fun _ _ _ h=>h) (Or.inl ⟨by rfl,?_⟩) ?_ ?_;rotate_left
           ·
            intro w';go_simp;with_reducible rfl
           rotate_left
           ·
            simp only [Act.put,List.setIfInBounds_toArray,List.set_cons_zero,List.set_cons_succ,i64_w,i32_w];rfl
           refine pure_ (i:=31) (N:=some 97) (v:=?_) (a':=?_) #[true,true,true,true,true,true,true,true,true,true,true,true,true,true,true,true,true,true,true,true,true,true,true,true,true,true,true,true,true,true,true,true] rfl rfl (any_of HT_.out (by kernel_rfl)) (fun _ _ _ h=>h) (Or.inl ⟨by rfl,?_⟩) ?_ ?_;rotate_left
           ·
            intro w';go_simp;with_reducible rfl
           rotate_left
           ·
            simp only [Act.put,List.setIfInBounds_toArray,List.set_cons_zero,List.set_cons_succ,i64_w,i32_w];rfl
           refine done_ (done_of HT_.out (by kernel_rfl)) ?_;try go_wp2
           go_roundg k2
           case measure=>have:=HJ5.out;have:=HK2.out;omega
           case rel=>exact ⟨(wrap64 (x10_2 + 1)),(by first|rfl|(simp;done)|(simp [*];done)),H',⟨by have:=HJ5.out;have:=HK2.out;omega⟩,⟨by (with_reducible repeat (first|apply Kd.V_alloc|apply Kd.V_drewN|apply Kd.V_drew));exact HO_4.out⟩,⟨by repeat (first|(with_reducible first|exact HB.out|apply below_alloc|apply pw_below_drewN|apply below_drew1)|exact HB.out)⟩⟩
         ·
          rw [if_neg c24] at H;exact absurd H (by simp)
        ·
         rw [if_neg c22] at H;exact absurd H (by simp)
       ·
        rw [if_neg c21] at H;exact absurd H (by simp)
      ·
       rw [if_neg c20] at H;have c20b0:decide (x10_2 < (t355.length:Int))=false:=decide_eq_false c20;clear c20;obtain rfl:=Option.some.inj H;obtain ⟨Ao35,co35,eo35⟩:=Kd.V_slice HO_4.out;subst eo35;go_wp2;go_ret;exact ⟨by first|rfl|(simp [errW_none,errW_some] <;> rfl)|(simp [*,errW_none,errW_some] <;> rfl),by repeat (first|(with_reducible first|exact HB.out|apply below_alloc|apply pw_below_drewN|apply below_drew1)|exact HB.out)⟩
/-- THE ONE PURE STATEMENT of bellpulllaw02_EchoCounts: yours. -/
def bellpulllaw02_EchoCounts.Pure:Prop:=∀ (a0:Int),(Lit.int .u16 a0).wf=true → ∃ k,bellpulllaw02_EchoCounts.f k a0=some true
theorem bellpulllaw02_EchoCounts.walk (P:bellpulllaw02_EchoCounts.Pure) (a0:Int) (w:World) (w0:(Lit.int .u16 a0).wf=true) :
    Calls Try.prog 14 #[.int .u16 a0] w fun e w'=>e=.returned (.bool true)∧Below w.heap.size w w':=by
  obtain ⟨k,h⟩:=P a0 w0
  refine (bellpulllaw02_EchoCounts.calls k a0 true w h).mono ?_
  rintro e w' ⟨rfl,hd⟩
  exact ⟨rfl,hd⟩

end Go.Proofs.Ytploaicljkennaa.PW
