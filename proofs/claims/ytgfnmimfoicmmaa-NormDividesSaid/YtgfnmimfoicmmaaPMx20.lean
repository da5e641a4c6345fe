import Derived.Test.YtgfnmimfoicmmaaPMx0
import Derived.Test.YtgfnmimfoicmmaaPMx12
import Derived.Test.YtgfnmimfoicmmaaPMx19
namespace Go.Proofs.Ytgfnmimfoicmmaa.PM
open Go.Proofs.MyWords Go.RowKit Go.Proofs.YtgfnmimfoicmmaaW.PrintWords Go.Proofs.YtgfnmimfoicmmaaW.PrintLast Go.Proofs.YtgfnmimfoicmmaaW.PrintMore
set_option linter.unusedVariables false
set_option linter.unusedSimpArgs false
attribute [local go_sem] idx67_0 idx67_1 idx67_2 idx67_3
attribute [local go_sem] eqGuard_slices eqlnil36 neqnil36
/-! ### bellpullref04_Check: function 18 -/
mutual
def bellpullref04_Check.l0:Nat → List (S23) → Int → Option (Int)
  | 0,_,_=>none
  | k + 1,x0,x3=>if x3 < (x0.length:Int) then (if 0 ≤ x3 then ((bellpullref04_Parts.f ((rd_T23 x0 x3).f0) ((rd_T23 x0 x3).f1) ((rd_T23 x0 x3).f2) ((rd_T23 x0 x3).f3)).bind fun t495=>(bellpullref04_Check.l1 k x0 x3 t495 1)) else (none)) else (bellpullref04_Check.l2 k x0 0)
def bellpullref04_Check.l1:Nat → List (S23) → Int → List Int → Int → Option (Int)
  | 0,_,_,_,_=>none
  | k + 1,x0,x3,x4,x5=>if x5 < 4 then (if 0 ≤ x5 then (if x5 < (x4.length:Int) then (if 0 < (x4.length:Int) then (if (Go.bits .and .i64 (rd x4 x5) 1)=(Go.bits .and .i64 (rd x4 0) 1) then (bellpullref04_Check.l1 k x0 x3 x4 (wrap64 (x5 + 1))) else (some 2)) else (none)) else (none)) else (none)) else (bellpullref04_Check.l0 k x0 (wrap64 (x3 + 1)))
def bellpullref04_Check.l2:Nat → List (S23) → Int → Option (Int)
  | 0,_,_=>none
  | k + 1,x0,x6=>if x6 < (x0.length:Int) then (if 0 ≤ x6 then ((bellpullref04_Parts.f ((rd_T23 x0 x6).f0) ((rd_T23 x0 x6).f1) ((rd_T23 x0 x6).f2) ((rd_T23 x0 x6).f3)).bind fun t501=>(bellpullref04_Check.l3 k x0 x6 t501 0)) else (none)) else (some 0)
def bellpullref04_Check.l3:Nat → List (S23) → Int → List Int → Int → Option (Int)
  | 0,_,_,_,_=>none
  | k + 1,x0,x6,x7,x8=>if x8 < 4 then (if 0 ≤ x8 then (if x8 < (x7.length:Int) then ((bellpullref01_In.f (rd x7 x8) (-1000) 1000).bind fun t505=>(if t505=true then (bellpullref04_Check.l3 k x0 x6 x7 (wrap64 (x8 + 1))) else (some 1))) else (none)) else (none)) else (bellpullref04_Check.l2 k x0 (wrap64 (x6 + 1)))
end
def bellpullref04_Check.f (k:Nat) (l0:List (S23)):Option (Int):=bellpullref04_Check.l0 k l0 0
theorem bellpullref04_Check.mono_l:∀ k,(∀ y0 y1,LeO (bellpullref04_Check.l0 k y0 y1) (bellpullref04_Check.l0 (k + 1) y0 y1))∧(∀ y0 y1 y2 y3,LeO (bellpullref04_Check.l1 k y0 y1 y2 y3) (bellpullref04_Check.l1 (k + 1) y0 y1 y2 y3))∧(∀ y0 y1,LeO (bellpullref04_Check.l2 k y0 y1) (bellpullref04_Check.l2 (k + 1) y0 y1))∧(∀ y0 y1 y2 y3,LeO (bellpullref04_Check.l3 k y0 y1 y2 y3) (bellpullref04_Check.l3 (k + 1) y0 y1 y2 y3))
  | 0=>⟨fun _ _ r h=>by simp [bellpullref04_Check.l0] at h,fun _ _ _ _ r h=>by simp [bellpullref04_Check.l1] at h,fun _ _ r h=>by simp [bellpullref04_Check.l2] at h,fun _ _ _ _ r h=>by simp [bellpullref04_Check.l3] at h⟩
  | k + 1=>by
    obtain ⟨ih0,ih1,ih2,ih3⟩:=bellpullref04_Check.mono_l k
    refine ⟨?_,?_,?_,?_⟩
    · intro y0 y1
      unfold bellpullref04_Check.l0
      with_reducible repeat' first|exact ih0 _ _|exact ih1 _ _ _ _|exact ih2 _ _|exact ih3 _ _ _ _|exact LeO.refl _|exact LeO.none _|refine LeO.ite ?_ ?_|refine LeO.bind ?_ (fun _=>?_)
    · intro y0 y1 y2 y3
      unfold bellpullref04_Check.l1
      with_reducible repeat' first|exact ih0 _ _|exact ih1 _ _ _ _|exact ih2 _ _|exact ih3 _ _ _ _|exact LeO.refl _|exact LeO.none _|refine LeO.ite ?_ ?_|refine LeO.bind ?_ (fun _=>?_)
    · intro y0 y1
      unfold bellpullref04_Check.l2
      with_reducible repeat' first|exact ih0 _ _|exact ih1 _ _ _ _|exact ih2 _ _|exact ih3 _ _ _ _|exact LeO.refl _|exact LeO.none _|refine LeO.ite ?_ ?_|refine LeO.bind ?_ (fun _=>?_)
    · intro y0 y1 y2 y3
      unfold bellpullref04_Check.l3
      with_reducible repeat' first|exact ih0 _ _|exact ih1 _ _ _ _|exact ih2 _ _|exact ih3 _ _ _ _|exact LeO.refl _|exact LeO.none _|refine LeO.ite ?_ ?_|refine LeO.bind ?_ (fun _=>?_)
theorem bellpullref04_Check.mono:∀ a0 k,LeO (bellpullref04_Check.f k a0) (bellpullref04_Check.f (k + 1) a0):=by
  intro a0 k
  obtain ⟨ih0,ih1,ih2,ih3⟩:=bellpullref04_Check.mono_l k
  unfold bellpullref04_Check.f
  with_reducible repeat' first|exact ih0 _ _|exact ih1 _ _ _ _|exact ih2 _ _|exact ih3 _ _ _ _|exact LeO.refl _|exact LeO.none _|refine LeO.ite ?_ ?_|refine LeO.bind ?_ (fun _=>?_)
set_option maxHeartbeats 8000000 in
set_option maxRecDepth 100000 in
theorem bellpullref04_Check.calls (k:Nat) (A0:Option Addr) (c0:Nat) (l0:List (S23)) (r:Int) (w:World) (hr0:Kd.C k23 w A0 l0.length l0) (hc0:l0.length ≤ c0) (h:bellpullref04_Check.f k l0=some r) :
    Calls Try.prog 18 #[.slice A0 l0.length c0] w fun e w'=>e=.returned (.int .i64 r)∧Below w.heap.size w w':=by
 have hu23:=Try.underlying23;have HR0:=mk0 hr0;have HC0:=mk0 hc0;clear hr0 hc0;have HB:=mk0 (Below.refl w.heap.size w);have H:(bellpullref04_Check.l0 k l0 0)=some r:=h;clear h;have H':=mk0 H;clear H;go_enter Try.func18,Try.ntmps18;go_wp2;repeat (go_quiet (fail);try go_wp2)
 go_loopg [3] k (fun kq v3 w'=>∃ (x3_1:Int),v3=.int .i64 x3_1∧Aside0 (bellpullref04_Check.l0 kq l0 x3_1=some r)∧Aside0 (kq ≤ k)∧Aside0 (Below w.heap.size w w'))
 case atStart=>exact ⟨(0),(by first|rfl|(simp;done)|(simp [*];done)),H',⟨Nat.le_refl _⟩,⟨by repeat (first|(with_reducible first|exact HB.out|apply below_alloc|apply pw_below_drewN|apply below_drew1)|exact HB.out)⟩⟩
 case round =>
  clear H';try clear c1
  obtain ⟨x3_1,rfl,HA,HK1,HB⟩:=hrel;cases gk with
  | zero=>exact absurd HA.out (by simp [bellpullref04_Check.l0])
  | succ k1 =>
   have H:=HA.out;clear HA;simp only [bellpullref04_Check.l0] at H
   by_cases c2:x3_1 < (l0.length:Int)
   ·
    rw [if_pos c2] at H;have c2b0:decide (x3_1 < (l0.length:Int))=true:=decide_eq_true c2;clear c2
    by_cases c3:0 ≤ x3_1
    ·
     rw [if_pos c3] at H;have c3b0:decide (0 ≤ x3_1)=true:=decide_eq_true c3;clear c3;replace H:=Option.bind_eq_some_iff.mp H;obtain ⟨t495,A40,H⟩:=H;(try dsimp only at H);have A4:=mk0 A40;clear A40;have H':=mk0 H;clear H;have p494:0 ≤ (x3_1:Int):=of_decide_eq_true (by first|(with_reducible assumption)|assumption);have q494:x3_1 < (l0.length:Int):=of_decide_eq_true (by first|(with_reducible assumption)|assumption);obtain ⟨ad494,e494,hx494_0,hx494_1,hx494_2,hx494_3⟩:=at_T23 HR0.out x3_1 p494 q494;cases e494;replace hx494_0:=(HB.out.cell (World.block_lt_of_cell? w _ hx494_0)).trans hx494_0;replace hx494_1:=(HB.out.cell (World.block_lt_of_cell? w _ hx494_1)).trans hx494_1;replace hx494_2:=(HB.out.cell (World.block_lt_of_cell? w _ hx494_2)).trans hx494_2;replace hx494_3:=(HB.out.cell (World.block_lt_of_cell? w _ hx494_3)).trans hx494_3;replace p494:=eq_true p494;replace q494:=eq_true q494;go_wp2_with (first|(go_at_call 45;(with_reducible refine (bellpullref04_Parts.calls ((rd_T23 l0 x3_1).f0) ((rd_T23 l0 x3_1).f1) ((rd_T23 l0 x3_1).f2) ((rd_T23 l0 x3_1).f3) t495 _ A4.out).mono ?_);rintro e w5 ⟨v496,rfl,ho0,hb⟩;have HO497:=mk0 (Kd.R_lower ho0 (below_size (by repeat (first|(with_reducible first|exact HB.out|apply below_alloc|apply pw_below_drewN|apply below_drew1)|exact HB.out))));replace HB:=mk0 (below_step (by repeat (first|(with_reducible first|exact HB.out|apply below_alloc|apply pw_below_drewN|apply below_drew1)|exact HB.out)) hb);(try clear hb);(try clear ho0)));repeat (go_quiet (first|(go_at_call 45;(with_reducible refine (bellpullref04_Parts.calls ((rd_T23 l0 x3_1).f0) ((rd_T23 l0 x3_1).f1) ((rd_T23 l0 x3_1).f2) ((rd_T23 l0 x3_1).f3) t495 _ A4.out).mono ?_);rintro e w5 ⟨v496,rfl,ho0,hb⟩;have HO497:=mk0 (Kd.R_lower ho0 (below_size (by repeat (first|(with_reducible first|exact HB.out|apply below_alloc|apply pw_below_drewN|apply below_drew1)|exact HB.out))));replace HB:=mk0 (below_step (by repeat (first|(with_reducible first|exact HB.out|apply below_alloc|apply pw_below_drewN|apply below_drew1)|exact HB.out)) hb);(try clear hb);(try clear ho0)));try go_wp2_with (first|(go_at_call 45;(with_reducible refine (bellpullref04_Parts.calls ((rd_T23 l0 x3_1).f0) ((rd_T23 l0 x3_1).f1) ((rd_T23 l0 x3_1).f2) ((rd_T23 l0 x3_1).f3) t495 _ A4.out).mono ?_);rintro e w5 ⟨v496,rfl,ho0,hb⟩;have HO497:=mk0 (Kd.R_lower ho0 (below_size (by repeat (first|(with_reducible first|exact HB.out|apply below_alloc|apply pw_below_drewN|apply below_drew1)|exact HB.out))));replace HB:=mk0 (below_step (by repeat (first|(with_reducible first|exact HB.out|apply below_alloc|apply pw_below_drewN|apply below_drew1)|exact HB.out)) hb);(try clear hb);(try clear ho0))))
     go_loopg [5] k1 (fun kq v5 w'=>∃ (x5_2:Int),v5=.int .i64 x5_2∧Aside0 (bellpullref04_Check.l1 kq l0 x3_1 t495 x5_2=some r)∧Aside0 (kq ≤ k1)∧Aside0 (Kd.R (Kd.int .i64) 3 w' w.heap.size (fun _=>True) v496 t495)∧Aside0 (Below w.heap.size w w'))
     case atStart=>exact ⟨(1),(by first|rfl|(simp;done)|(simp [*];done)),H',⟨Nat.le_refl _⟩,⟨by (with_reducible repeat (first|apply Kd.R_alloc|apply Kd.R_drewN|apply Kd.R_drew));exact HO497.out⟩,⟨by repeat (first|(with_reducible first|exact HB.out|apply below_alloc|apply pw_below_drewN|apply below_drew1)|exact HB.out)⟩⟩
     case round =>
      clear H';try clear c1
      try clear c2
      try clear c2b0
      try clear p2
      try clear c3
      try clear c3b0
      try clear p4
      try clear q4
      try clear hx4
      try clear hx494_0
      try clear hx494_1
      try clear hx494_2
      try clear hx494_3
      try clear p494
      try clear q494
      obtain ⟨x5_2,rfl,HA,HK2,HO_4,HB⟩:=hrel;cases gk with
      | zero=>exact absurd HA.out (by simp [bellpullref04_Check.l1])
      | succ k2 =>
       have H:=HA.out;clear HA;simp only [bellpullref04_Check.l1] at H
       by_cases c6:x5_2 < 4
       ·
        rw [if_pos c6] at H;have c6b0:decide (x5_2 < 4)=true:=decide_eq_true c6;clear c6
        by_cases c7:0 ≤ x5_2
        ·
         rw [if_pos c7] at H;have c7b0:decide (0 ≤ x5_2)=true:=decide_eq_true c7;clear c7
         by_cases c8:x5_2 < (t495.length:Int)
         ·
          rw [if_pos c8] at H;have c8b0:decide (x5_2 < (t495.length:Int))=true:=decide_eq_true c8;clear c8
          by_cases c9:0 < (t495.length:Int)
          ·
           rw [if_pos c9] at H;have c9b0:decide (0 < (t495.length:Int))=true:=decide_eq_true c9;have c9b1:decide (0 < t495.length)=true:=decide_eq_true (by omega);clear c9
           by_cases c10:(Go.bits .and .i64 (rd t495 x5_2) 1)=(Go.bits .and .i64 (rd t495 0) 1)
           ·
            rw [if_pos c10] at H;have c10b0:((Go.bits .and .i64 (rd t495 x5_2) 1) == (Go.bits .and .i64 (rd t495 0) 1))=true:=beq_iff_eq.mpr c10;have c10b1:((Go.bits .and .i64 (rd t495 x5_2) 1) != (Go.bits .and .i64 (rd t495 0) 1))=false:=bne_eq_false_iff_eq.mpr c10;clear c10;have H':=mk0 H;clear H;obtain ⟨Ao11,co11,eo11⟩:=Kd.R_slice HO_4.out;subst eo11;have p498:0 ≤ (x5_2:Int):=of_decide_eq_true (by first|(with_reducible assumption)|assumption);have q498:x5_2 < (t495.length:Int):=of_decide_eq_true (by first|(with_reducible assumption)|assumption);obtain ⟨ad498,e498,hx498_0⟩:=Kd.at_int (Kd.R_reads' HO_4.out).2.2 x5_2 p498 q498;cases e498;replace p498:=eq_true p498;replace q498:=eq_true q498;have p499:0 ≤ (0:Int):=(by omega)
            have q499:0 < (t495.length:Int):=of_decide_eq_true (by first|(with_reducible assumption)|assumption);obtain ⟨ad499,e499,hx499_0⟩:=Kd.at_int (Kd.R_reads' HO_4.out).2.2 0 p499 q499;obtain rfl:ad498=ad499:=(by injection e499)
            have qi499:(0 < t495.length)=True:=eq_true (by omega);(try rw [show ((0:Int)).toNat=0 from rfl] at hx499_0);(try rw [Addr.add_zero'] at hx499_0);replace p499:=eq_true p499;replace q499:=eq_true q499;go_wp2;repeat (go_quiet (fail);try go_wp2)
            go_roundg k2
            case measure=>have:=HK1.out;have:=HK2.out;omega
            case rel=>exact ⟨(wrap64 (x5_2 + 1)),(by first|rfl|(simp;done)|(simp [*];done)),H',⟨by have:=HK1.out;have:=HK2.out;omega⟩,⟨by (with_reducible repeat (first|apply Kd.R_alloc|apply Kd.R_drewN|apply Kd.R_drew));exact HO_4.out⟩,⟨by repeat (first|(with_reducible first|exact HB.out|apply below_alloc|apply pw_below_drewN|apply below_drew1)|exact HB.out)⟩⟩
           ·
            rw [if_neg c10] at H;have c10b0:((Go.bits .and .i64 (rd t495 x5_2) 1) == (Go.bits .and .i64 (rd t495 0) 1))=false:=beq_eq_false_iff_ne.mpr c10;have c10b1:((Go.bits .and .i64 (rd t495 x5_2) 1) != (Go.bits .and .i64 (rd t495 0) 1))=true:=bne_iff_ne.mpr c10;obtain rfl:=Option.some.inj H;obtain ⟨Ao12,co12,eo12⟩:=Kd.R_slice HO_4.out;subst eo12;have p498:0 ≤ (x5_2:Int):=of_decide_eq_true (by first|(with_reducible assumption)|assumption);have q498:x5_2 < (t495.length:Int):=of_decide_eq_true (by first|(with_reducible assumption)|assumption);obtain ⟨ad498,e498,hx498_0⟩:=Kd.at_int (Kd.R_reads' HO_4.out).2.2 x5_2 p498 q498;cases e498;replace p498:=eq_true p498;replace q498:=eq_true q498;have p499:0 ≤ (0:Int):=(by omega)
            have q499:0 < (t495.length:Int):=of_decide_eq_true (by first|(with_reducible assumption)|assumption);obtain ⟨ad499,e499,hx499_0⟩:=Kd.at_int (Kd.R_reads' HO_4.out).2.2 0 p499 q499;obtain rfl:ad498=ad499:=(by injection e499)
            have qi499:(0 < t495.length)=True:=eq_true (by omega);(try rw [show ((0:Int)).toNat=0 from rfl] at hx499_0);(try rw [Addr.add_zero'] at hx499_0);replace p499:=eq_true p499;replace q499:=eq_true q499;go_wp2;repeat (go_quiet (fail);try go_wp2)
            go_ret;exact ⟨by first|rfl|(simp [errW_none,errW_some] <;> rfl)|(simp [*,errW_none,errW_some] <;> rfl),by repeat (first|(with_reducible first|exact HB.out|apply below_alloc|apply pw_below_drewN|apply below_drew1)|exact HB.out)⟩
          ·
           rw [if_neg c9] at H;exact absurd H (by simp)
         ·
          rw [if_neg c8] at H;exact absurd H (by simp)
        ·
         rw [if_neg c7] at H;exact absurd H (by simp)
       ·
        rw [if_neg c6] at H;have c6b0:decide (x5_2 < 4)=false:=decide_eq_false c6;clear c6;have H':=mk0 H;clear H;go_wp2;repeat (go_quiet (fail);try go_wp2)
        go_roundg k2
        case measure=>have:=HK1.out;have:=HK2.out;omega
        case rel=>exact ⟨(wrap64 (x3_1 + 1)),(by first|rfl|(simp;done)|(simp [*];done)),H',⟨by have:=HK1.out;have:=HK2.out;omega⟩,⟨by repeat (first|(with_reducible first|exact HB.out|apply below_alloc|apply pw_below_drewN|apply below_drew1)|exact HB.out)⟩⟩
    ·
     rw [if_neg c3] at H;exact absurd H (by simp)
   ·
    rw [if_neg c2] at H;have c2b0:decide (x3_1 < (l0.length:Int))=false:=decide_eq_false c2;clear c2;have H':=mk0 H;clear H;go_wp2;repeat (go_quiet (fail);try go_wp2)
    go_loopg [6] k1 (fun kq v6 w'=>∃ (x6_2:Int),v6=.int .i64 x6_2∧Aside0 (bellpullref04_Check.l2 kq l0 x6_2=some r)∧Aside0 (kq ≤ k1)∧Aside0 (Below w.heap.size w w'))
    case atStart=>exact ⟨(0),(by first|rfl|(simp;done)|(simp [*];done)),H',⟨Nat.le_refl _⟩,⟨by repeat (first|(with_reducible first|exact HB.out|apply below_alloc|apply pw_below_drewN|apply below_drew1)|exact HB.out)⟩⟩
    case round =>
     clear H';try clear c1
     try clear c2
     try clear c2b0
     try clear p2
     try clear c3
     try clear c3b0
     try clear p4
     try clear q4
     try clear hx4
     try clear qi4
     try clear c6
     try clear c6b0
     try clear p6
     try clear c7
     try clear c7b0
     try clear c8
     try clear c8b0
     try clear c9
     try clear c9b0
     try clear c9b1
     try clear c10
     try clear c10b0
     try clear c10b1
     try clear hx494_0
     try clear hx494_1
     try clear hx494_2
     try clear hx494_3
     try clear hx498_0
     try clear hx499_0
     try clear p2
     try clear p4
     try clear p494
     try clear p498
     try clear p499
     try clear q4
     try clear q494
     try clear q498
     try clear q499
     obtain ⟨x6_2,rfl,HA,HK2,HB⟩:=hrel;cases gk with
     | zero=>exact absurd HA.out (by simp [bellpullref04_Check.l2])
     | succ k2 =>
      have H:=HA.out;clear HA;simp only [bellpullref04_Check.l2] at H
      by_cases c13:x6_2 < (l0.length:Int)
      ·
       rw [if_pos c13] at H;have c13b0:decide (x6_2 < (l0.length:Int))=true:=decide_eq_true c13;clear c13
       by_cases c14:0 ≤ x6_2
       ·
        rw [if_pos c14] at H;have c14b0:decide (0 ≤ x6_2)=true:=decide_eq_true c14;clear c14;replace H:=Option.bind_eq_some_iff.mp H;obtain ⟨t501,A150,H⟩:=H;(try dsimp only at H);have A15:=mk0 A150;clear A150;have H':=mk0 H;clear H;have p500:0 ≤ (x6_2:Int):=of_decide_eq_true (by first|(with_reducible assumption)|assumption);have q500:x6_2 < (l0.length:Int):=of_decide_eq_true (by first|(with_reducible assumption)|assumption);obtain ⟨ad500,e500,hx500_0,hx500_1,hx500_2,hx500_3⟩:=at_T23 HR0.out x6_2 p500 q500;cases e500;replace hx500_0:=(HB.out.cell (World.block_lt_of_cell? w _ hx500_0)).trans hx500_0;replace hx500_1:=(HB.out.cell (World.block_lt_of_cell? w _ hx500_1)).trans hx500_1;replace hx500_2:=(HB.out.cell (World.block_lt_of_cell? w _ hx500_2)).trans hx500_2;replace hx500_3:=(HB.out.cell (World.block_lt_of_cell? w _ hx500_3)).trans hx500_3;replace p500:=eq_true p500;replace q500:=eq_true q500;go_wp2_with (first|(go_at_call 45;(with_reducible refine (bellpullref04_Parts.calls ((rd_T23 l0 x6_2).f0) ((rd_T23 l0 x6_2).f1) ((rd_T23 l0 x6_2).f2) ((rd_T23 l0 x6_2).f3) t501 _ A15.out).mono ?_);rintro e w16 ⟨v502,rfl,ho0,hb⟩;have HO503:=mk0 (Kd.R_lower ho0 (below_size (by repeat (first|(with_reducible first|exact HB.out|apply below_alloc|apply pw_below_drewN|apply below_drew1)|exact HB.out))));replace HB:=mk0 (below_step (by repeat (first|(with_reducible first|exact HB.out|apply below_alloc|apply pw_below_drewN|apply below_drew1)|exact HB.out)) hb);(try clear hb);(try clear ho0)));repeat (go_quiet (first|(go_at_call 45;(with_reducible refine (bellpullref04_Parts.calls ((rd_T23 l0 x6_2).f0) ((rd_T23 l0 x6_2).f1) ((rd_T23 l0 x6_2).f2) ((rd_T23 l0 x6_2).f3) t501 _ A15.out).mono ?_);rintro e w16 ⟨v502,rfl,ho0,hb⟩;have HO503:=mk0 (Kd.R_lower ho0 (below_size (by repeat (first|(with_reducible first|exact HB.out|apply below_alloc|apply pw_below_drewN|apply below_drew1)|exact HB.out))));replace HB:=mk0 (below_step (by repeat (first|(with_reducible first|exact HB.out|apply below_alloc|apply pw_below_drewN|apply below_drew1)|exact HB.out)) hb);(try clear hb);(try clear ho0)));try go_wp2_with (first|(go_at_call 45;(with_reducible refine (bellpullref04_Parts.calls ((rd_T23 l0 x6_2).f0) ((rd_T23 l0 x6_2).f1) ((rd_T23 l0 x6_2).f2) ((rd_T23 l0 x6_2).f3) t501 _ A15.out).mono ?_);rintro e w16 ⟨v502,rfl,ho0,hb⟩;have HO503:=mk0 (Kd.R_lower ho0 (below_size (by repeat (first|(with_reducible first|exact HB.out|apply below_alloc|apply pw_below_drewN|apply below_drew1)|exact HB.out))));replace HB:=mk0 (below_step (by repeat (first|(with_reducible first|exact HB.out|apply below_alloc|apply pw_below_drewN|apply below_drew1)|exact HB.out)) hb);(try clear hb);(try clear ho0))))
        go_loopg [8] k2 (fun kq v8 w'=>∃ (x8_3:Int),v8=.int .i64 x8_3∧Aside0 (bellpullref04_Check.l3 kq l0 x6_2 t501 x8_3=some r)∧Aside0 (kq ≤ k2)∧Aside0 (Kd.R (Kd.int .i64) 3 w' w.heap.size (fun _=>True) v502 t501)∧Aside0 (Below w.heap.size w w'))
        case atStart=>exact ⟨(0),(by first|rfl|(simp;done)|(simp [*];done)),H',⟨Nat.le_refl _⟩,⟨by (with_reducible repeat (first|apply Kd.R_alloc|apply Kd.R_drewN|apply Kd.R_drew));exact HO503.out⟩,⟨by repeat (first|(with_reducible first|exact HB.out|apply below_alloc|apply pw_below_drewN|apply below_drew1)|exact HB.out)⟩⟩
        case round =>
         clear H';try clear c1
         try clear c2
         try clear c2b0
         try clear p2
         try clear c3
         try clear c3b0
         try clear p4
         try clear q4
         try clear hx4
         try clear qi4
         try clear p5
         try clear q5
         try clear hx5
         try clear c6
         try clear c6b0
         try clear p6
         try clear c7
         try clear c7b0
         try clear c8
         try clear c8b0
         try clear c9
         try clear c9b0
         try clear c9b1
         try clear c10
         try clear c10b0
         try clear c10b1
         try clear c13
         try clear c13b0
         try clear c14
         try clear c14b0
         try clear hx494_0
         try clear hx494_1
         try clear hx494_2
         try clear hx494_3
         try clear hx498_0
         try clear hx499_0
         try clear hx500_0
         try clear hx500_1
         try clear hx500_2
         try clear hx500_3
         try clear p2
         try clear p4
         try clear p494
         try clear p498
         try clear p499
         try clear p500
         try clear p6
         try clear q4
         try clear q494
         try clear q498
         try clear q499
         try clear q500
         obtain ⟨x8_3,rfl,HA,HK3,HO_7,HB⟩:=hrel;cases gk with
         | zero=>exact absurd HA.out (by simp [bellpullref04_Check.l3])
         | succ k3 =>
          have H:=HA.out;clear HA;simp only [bellpullref04_Check.l3] at H
          by_cases c17:x8_3 < 4
          ·
           rw [if_pos c17] at H;have c17b0:decide (x8_3 < 4)=true:=decide_eq_true c17;clear c17
           by_cases c18:0 ≤ x8_3
           ·
            rw [if_pos c18] at H;have c18b0:decide (0 ≤ x8_3)=true:=decide_eq_true c18;clear c18
            by_cases c19:x8_3 < (t501.length:Int)
            ·
             rw [if_pos c19] at H;have c19b0:decide (x8_3 < (t501.length:Int))=true:=decide_eq_true c19;clear c19;replace H:=Option.bind_eq_some_iff.mp H;obtain ⟨t505,A200,H⟩:=H;(try dsimp only at H);have A20:=mk0 A200;clear A200
             by_cases c21:t505=true
             ·
              subst c21;have H1:(bellpullref04_Check.l3 k3 l0 x6_2 t501 (wrap64 (x8_3 + 1)))=some r:=by rw [if_pos rfl] at H;exact H
              clear H;have H:=H1;clear H1;have H':=mk0 H;clear H;obtain ⟨Ao22,co22,eo22⟩:=Kd.R_slice HO_7.out;subst eo22;have p504:0 ≤ (x8_3:Int):=of_decide_eq_true (by first|(with_reducible assumption)|assumption);have q504:x8_3 < (t501.length:Int):=of_decide_eq_true (by first|(with_reducible assumption)|assumption);obtain ⟨ad504,e504,hx504_0⟩:=Kd.at_int (Kd.R_reads' HO_7.out).2.2 x8_3 p504 q504;cases e504;replace p504:=eq_true p504;replace q504:=eq_true q504;go_wp2_with (first|(go_at_call 25;(with_reducible refine (bellpullref01_In.calls (rd t501 x8_3) (-1000) 1000 true _ A20.out).mono ?_);rintro e w' ⟨rfl,⟨nd,rfl⟩⟩;(try first|exact ⟨rfl,_,World.drewN_drewN _ _ _⟩|exact ⟨rfl,_,Eq.trans (World.drewN_drewN _ _ _) (congrArg (World.drewN _) (Nat.add_assoc _ _ _))⟩)));repeat (go_quiet (first|(go_at_call 25;(with_reducible refine (bellpullref01_In.calls (rd t501 x8_3) (-1000) 1000 true _ A20.out).mono ?_);rintro e w' ⟨rfl,⟨nd,rfl⟩⟩;(try first|exact ⟨rfl,_,World.drewN_drewN _ _ _⟩|exact ⟨rfl,_,Eq.trans (World.drewN_drewN _ _ _) (congrArg (World.drewN _) (Nat.add_assoc _ _ _))⟩)));try go_wp2_with (first|(go_at_call 25;(with_reducible refine (bellpullref01_In.calls (rd t501 x8_3) (-1000) 1000 true _ A20.out).mono ?_);rintro e w' ⟨rfl,⟨nd,rfl⟩⟩;(try first|exact ⟨rfl,_,World.drewN_drewN _ _ _⟩|exact ⟨rfl,_,Eq.trans (World.drewN_drewN _ _ _) (congrArg (World.drewN _) (Nat.add_assoc _ _ _))⟩))))
              go_roundg k3
              case measure=>have:=HK1.out;have:=HK2.out;have:=HK3.out;omega
              case rel=>exact ⟨(wrap64 (x8_3 + 1)),(by first|rfl|(simp;done)|(simp [*];done)),H',⟨by have:=HK1.out;have:=HK2.out;have:=HK3.out;omega⟩,⟨by (with_reducible repeat (first|apply Kd.R_alloc|apply Kd.R_drewN|apply Kd.R_drew));exact HO_7.out⟩,⟨by repeat (first|(with_reducible first|exact HB.out|apply below_alloc|apply pw_below_drewN|apply below_drew1)|exact HB.out)⟩⟩
             ·
              replace c21:=Bool.eq_false_iff.mpr c21;subst c21;have H1:(some 1)=some r:=by rw [if_neg (show ¬ (false=true) by decide)] at H;exact H
              clear H;have H:=H1;clear H1;obtain rfl:=Option.some.inj H;obtain ⟨Ao23,co23,eo23⟩:=Kd.R_slice HO_7.out;subst eo23;have p504:0 ≤ (x8_3:Int):=of_decide_eq_true (by first|(with_reducible assumption)|assumption);have q504:x8_3 < (t501.length:Int):=of_decide_eq_true (by first|(with_reducible assumption)|assumption);obtain ⟨ad504,e504,hx504_0⟩:=Kd.at_int (Kd.R_reads' HO_7.out).2.2 x8_3 p504 q504;cases e504;replace p504:=eq_true p504;replace q504:=eq_true q504;go_wp2_with (first|(go_at_call 25;(with_reducible refine (bellpullref01_In.calls (rd t501 x8_3) (-1000) 1000 false _ A20.out).mono ?_);rintro e w' ⟨rfl,⟨nd,rfl⟩⟩;(try first|exact ⟨rfl,_,World.drewN_drewN _ _ _⟩|exact ⟨rfl,_,Eq.trans (World.drewN_drewN _ _ _) (congrArg (World.drewN _) (Nat.add_assoc _ _ _))⟩)));repeat (go_quiet (first|(go_at_call 25;(with_reducible refine (bellpullref01_In.calls (rd t501 x8_3) (-1000) 1000 false _ A20.out).mono ?_);rintro e w' ⟨rfl,⟨nd,rfl⟩⟩;(try first|exact ⟨rfl,_,World.drewN_drewN _ _ _⟩|exact ⟨rfl,_,Eq.trans (World.drewN_drewN _ _ _) (congrArg (World.drewN _) (Nat.add_assoc _ _ _))⟩)));try go_wp2_with (first|(go_at_call 25;(with_reducible refine (bellpullref01_In.calls (rd t501 x8_3) (-1000) 1000 false _ A20.out).mono ?_);rintro e w' ⟨rfl,⟨nd,rfl⟩⟩;(try first|exact ⟨rfl,_,World.drewN_drewN _ _ _⟩|exact ⟨rfl,_,Eq.trans (World.drewN_drewN _ _ _) (congrArg (World.drewN _) (Nat.add_assoc _ _ _))⟩))))
              go_ret;exact ⟨by first|rfl|(simp [errW_none,errW_some] <;> rfl)|(simp [*,errW_none,errW_some] <;> rfl),by repeat (first|(with_reducible first|exact HB.out|apply below_alloc|apply pw_below_drewN|apply below_drew1)|exact HB.out)⟩
            ·
             rw [if_neg c19] at H;exact absurd H (by simp)
           ·
            rw [if_neg c18] at H;exact absurd H (by simp)
          ·
           rw [if_neg c17] at H;have c17b0:decide (x8_3 < 4)=false:=decide_eq_false c17;clear c17;have H':=mk0 H;clear H;go_wp2;repeat (go_quiet (fail);try go_wp2)
           go_roundg k3
           case measure=>have:=HK1.out;have:=HK2.out;have:=HK3.out;omega
           case rel=>exact ⟨(wrap64 (x6_2 + 1)),(by first|rfl|(simp;done)|(simp [*];done)),H',⟨by have:=HK1.out;have:=HK2.out;have:=HK3.out;omega⟩,⟨by repeat (first|(with_reducible first|exact HB.out|apply below_alloc|apply pw_below_drewN|apply below_drew1)|exact HB.out)⟩⟩
       ·
        rw [if_neg c14] at H;exact absurd H (by simp)
      ·
       rw [if_neg c13] at H;have c13b0:decide (x6_2 < (l0.length:Int))=false:=decide_eq_false c13;clear c13;obtain rfl:=Option.some.inj H;go_wp2;repeat (go_quiet (fail);try go_wp2)
       go_ret;exact ⟨by first|rfl|(simp [errW_none,errW_some] <;> rfl)|(simp [*,errW_none,errW_some] <;> rfl),by repeat (first|(with_reducible first|exact HB.out|apply below_alloc|apply pw_below_drewN|apply below_drew1)|exact HB.out)⟩
end Go.Proofs.Ytgfnmimfoicmmaa.PM
