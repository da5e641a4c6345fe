-- Written by pr2.py, a program of this session's, for this claim (through the kit's print).
import Derived.Test.YtgfnmimfoicmmaaPMx0
import Derived.Test.YtgfnmimfoicmmaaPMx12
import Derived.Test.YtgfnmimfoicmmaaPMx19
namespace Go.Proofs.Ytgfnmimfoicmmaa.PM
open Go.Proofs.MyWords Go.RowKit Go.Proofs.YtgfnmimfoicmmaaW.PrintWords Go.Proofs.YtgfnmimfoicmmaaW.PrintLast Go.Proofs.YtgfnmimfoicmmaaW.PrintMore
attribute [local go_sem] max2_int min2_int max_two min_two max_three min_three max_four min_four   -- for this text's walks alone
set_option linter.unusedVariables false
set_option linter.unusedSimpArgs false

attribute [local go_sem] idx67_0 idx67_1 idx67_2 idx67_3
attribute [local go_sem] eqGuard_slices eqlnil36 neqnil36
/-! ### bellpullref04_Check: function 18 -/
mutual
def bellpullref04_Check.l0:Nat → List (S23) → Int → Option (Int)
  | 0,_,_=>none
  | k + 1,x0,x3=>if x3 < (x0.length:Int) then (if 0 ≤ x3 then ((bellpullref04_Parts.f ((rd_T23 x0 x3).f0) ((rd_T23 x0 x3).f1) ((rd_T23 x0 x3).f2) ((rd_T23 x0 x3).f3)).bind fun t495=>(bellpullref04_Check.l1 k x0 x3 t495 1)) else (none)) else (bellpullref04_Check.l2 k x0 0)
def bellpullref04_Check.l1:Nat → List (S23) → Int → List Int → Int → Option (Int)
  | 0,_,_,_,_=>none
  | k + 1,x0,x3,x4,x5=>if x5 < 4 then (if 0 ≤ x5 then (if x5 < (x4.length:Int) then (if 0 < (x4.length:Int) then (if (Go.bits .and .i64 (rd x4 x5) 1)=(Go.bits .and .i64 (rd x4 0) 1) then (bellpullref04_Check.l1 k x0 x3 x4 (wrap64 (x5 + 1))) else (some 2)) else (none)) else (none)) else (none)) else (bellpullref04_Check.l0 k x0 (wrap64 (x3 + 1)))
def bellpullref04_Check.l2:Nat → List (S23) → Int → Option (Int)
  | 0,_,_=>none
  | k + 1,x0,x6=>if x6 < (x0.length:Int) then (if 0 ≤ x6 then ((bellpullref04_Parts.f ((rd_T23 x0 x6).f0) ((rd_T23 x0 x6).f1) ((rd_T23 x0 x6).f2) ((rd_T23 x0 x6).f3)).bind fun t501=>(bellpullref04_Check.l3 k x0 x6 t501 0)) else (none)) else (some 0)
def bellpullref04_Check.l3:Nat → List (S23) → Int → List Int → Int → Option (Int)
  | 0,_,_,_,_=>none
  | k + 1,x0,x6,x7,x8=>if x8 < 4 then (if 0 ≤ x8 then (if x8 < (x7.length:Int) then ((bellpullref01_In.f (rd x7 x8) (-1000) 1000).bind fun t505=>(if t505=true then (bellpullref04_Check.l3 k x0 x6 x7 (wrap64 (x8 + 1))) else (some 1))) else (none)) else (none)) else (bellpullref04_Check.l2 k x0 (wrap64 (x6 + 1)))
end
def bellpullref04_Check.f (k:Nat) (l0:List (S23)):Option (Int):=bellpullref04_Check.l0 k l0 0
theorem bellpullref04_Check.mono_l:∀ k,(∀ B C,LeO (bellpullref04_Check.l0 k B C) (bellpullref04_Check.l0 (k + 1) B C))∧(∀ B C D E,LeO (bellpullref04_Check.l1 k B C D E) (bellpullref04_Check.l1 (k + 1) B C D E))∧(∀ B C,LeO (bellpullref04_Check.l2 k B C) (bellpullref04_Check.l2 (k + 1) B C))∧(∀ B C D E,LeO (bellpullref04_Check.l3 k B C D E) (bellpullref04_Check.l3 (k + 1) B C D E))
  | 0=>⟨fun _ _ r h=>by simp [bellpullref04_Check.l0] at h,fun _ _ _ _ r h=>by simp [bellpullref04_Check.l1] at h,fun _ _ r h=>by simp [bellpullref04_Check.l2] at h,fun _ _ _ _ r h=>by simp [bellpullref04_Check.l3] at h⟩
  | k + 1=>by
    obtain ⟨F,G,I,J⟩:=bellpullref04_Check.mono_l k
    refine ⟨?_,?_,?_,?_⟩
    · intro B C
      unfold bellpullref04_Check.l0
      with_reducible repeat' first|exact F _ _|exact G _ _ _ _|exact I _ _|exact J _ _ _ _|exact LeO.refl _|exact LeO.none _|refine LeO.ite ?_ ?_|refine LeO.bind ?_ (fun _=>?_)
    · intro B C D E
      unfold bellpullref04_Check.l1
      with_reducible repeat' first|exact F _ _|exact G _ _ _ _|exact I _ _|exact J _ _ _ _|exact LeO.refl _|exact LeO.none _|refine LeO.ite ?_ ?_|refine LeO.bind ?_ (fun _=>?_)
    · intro B C
      unfold bellpullref04_Check.l2
      with_reducible repeat' first|exact F _ _|exact G _ _ _ _|exact I _ _|exact J _ _ _ _|exact LeO.refl _|exact LeO.none _|refine LeO.ite ?_ ?_|refine LeO.bind ?_ (fun _=>?_)
    · intro B C D E
      unfold bellpullref04_Check.l3
      with_reducible repeat' first|exact F _ _|exact G _ _ _ _|exact I _ _|exact J _ _ _ _|exact LeO.refl _|exact LeO.none _|refine LeO.ite ?_ ?_|refine LeO.bind ?_ (fun _=>?_)
theorem bellpullref04_Check.mono:∀ a0 k,LeO (bellpullref04_Check.f k a0) (bellpullref04_Check.f (k + 1) a0):=by
  intro a0 k
  obtain ⟨ih0,ih1,ih2,ih3⟩:=bellpullref04_Check.mono_l k
  unfold bellpullref04_Check.f
  with_reducible repeat' first|exact ih0 _ _|exact ih1 _ _ _ _|exact ih2 _ _|exact ih3 _ _ _ _|exact LeO.refl _|exact LeO.none _|refine LeO.ite ?_ ?_|refine LeO.bind ?_ (fun _=>?_)
set_option maxHeartbeats 8000000 in
set_option maxRecDepth 100000 in
theorem bellpullref04_Check.calls (k:Nat) (A0:Option Addr) (c0:Nat) (J:List (S23)) (r:Int) (w:World) (e2:Kd.C k23 w A0 J.length J) (e3:J.length ≤ c0) (h:bellpullref04_Check.f k J=some r) :
    Calls Try.prog 18 #[.slice A0 J.length c0] w fun e w'=>e=.returned (.int .i64 r)∧Below w.heap.size w w':=by
 have g4:=Try.underlying23;have e4:=mk0 e2;have h7:=mk0 e3;clear e2 e3;have B:=mk0 (Below.refl w.heap.size w);have H:(bellpullref04_Check.l0 k J 0)=some r:=h;clear h;have H':=mk0 H;clear H;go_enter Try.func18,Try.ntmps18;go_wp2;repeat (go_quiet (fail);try go_wp2)
 go_loopg [3] k (fun kq v3 w'=>∃ (F:Int),v3=.int .i64 F∧Aside0 (bellpullref04_Check.l0 kq J F=some r)∧Aside0 (kq ≤ k)∧Aside0 (Below w.heap.size w w'))
 case atStart=>exact ⟨(0),(by first|rfl|(simp;done)|(simp [*];done)),H',⟨Nat.le_refl _⟩,⟨by repeat (first|(with_reducible first|exact B.1|apply below_alloc|apply pw_below_drewN|apply below_drew1)|exact B.1)⟩⟩
 case round =>
  clear H';try clear c1
  obtain ⟨F,rfl,HA,b1,B⟩:=hrel;cases gk with
  | zero=>exact absurd HA.1 (by simp [bellpullref04_Check.l0])
  | succ k1 =>
   have H:=HA.1;clear HA;simp only [bellpullref04_Check.l0] at H
   by_cases c2:F < (J.length:Int)
   ·
    rw [if_pos c2] at H;have c2b0:decide (F < (J.length:Int))=true:=decide_eq_true c2;clear c2
    by_cases c3:0 ≤ F
    ·
     rw [if_pos c3] at H;have c3b0:decide (0 ≤ F)=true:=decide_eq_true c3;clear c3;replace H:=Option.bind_eq_some_iff.mp H;obtain ⟨D,e5,H⟩:=H;(try dsimp only at H);have A4:=mk0 e5;clear e5;have H':=mk0 H;clear H;have a8:0 ≤ (F:Int):=of_decide_eq_true (by first|(with_reducible assumption)|assumption);have a9:F < (J.length:Int):=of_decide_eq_true (by first|(with_reducible assumption)|assumption);obtain ⟨g2,e8,O,Q,T,U⟩:=at_T23 e4.1 F a8 a9;cases e8;replace O:=(B.1.cell (World.block_lt_of_cell? w _ O)).trans O;replace Q:=(B.1.cell (World.block_lt_of_cell? w _ Q)).trans Q;replace T:=(B.1.cell (World.block_lt_of_cell? w _ T)).trans T;replace U:=(B.1.cell (World.block_lt_of_cell? w _ U)).trans U;replace a8:=eq_true a8;replace a9:=eq_true a9;go_wp2_with (first|(go_at_call 45;(with_reducible refine (bellpullref04_Parts.calls ((rd_T23 J F).f0) ((rd_T23 J F).f1) ((rd_T23 J F).f2) ((rd_T23 J F).f3) D _ A4.1).mono ?_);rintro e w5 ⟨c4,rfl,N,hb⟩;have b4:=mk0 (Kd.R_lower N (below_size (by repeat (first|(with_reducible first|exact B.1|apply below_alloc|apply pw_below_drewN|apply below_drew1)|exact B.1))));replace B:=mk0 (below_step (by repeat (first|(with_reducible first|exact B.1|apply below_alloc|apply pw_below_drewN|apply below_drew1)|exact B.1)) hb);(try clear hb);(try clear N)));repeat (go_quiet (first|(go_at_call 45;(with_reducible refine (bellpullref04_Parts.calls ((rd_T23 J F).f0) ((rd_T23 J F).f1) ((rd_T23 J F).f2) ((rd_T23 J F).f3) D _ A4.1).mono ?_);rintro e w5 ⟨c4,rfl,N,hb⟩;have b4:=mk0 (Kd.R_lower N (below_size (by repeat (first|(with_reducible first|exact B.1|apply below_alloc|apply pw_below_drewN|apply below_drew1)|exact B.1))));replace B:=mk0 (below_step (by repeat (first|(with_reducible first|exact B.1|apply below_alloc|apply pw_below_drewN|apply below_drew1)|exact B.1)) hb);(try clear hb);(try clear N)));try go_wp2_with (first|(go_at_call 45;(with_reducible refine (bellpullref04_Parts.calls ((rd_T23 J F).f0) ((rd_T23 J F).f1) ((rd_T23 J F).f2) ((rd_T23 J F).f3) D _ A4.1).mono ?_);rintro e w5 ⟨c4,rfl,N,hb⟩;have b4:=mk0 (Kd.R_lower N (below_size (by repeat (first|(with_reducible first|exact B.1|apply below_alloc|apply pw_below_drewN|apply below_drew1)|exact B.1))));replace B:=mk0 (below_step (by repeat (first|(with_reducible first|exact B.1|apply below_alloc|apply pw_below_drewN|apply below_drew1)|exact B.1)) hb);(try clear hb);(try clear N))))
     go_loopg [5] k1 (fun kq v5 w'=>∃ (I:Int),v5=.int .i64 I∧Aside0 (bellpullref04_Check.l1 kq J F D I=some r)∧Aside0 (kq ≤ k1)∧Aside0 (Kd.R (Kd.int .i64) 3 w' w.heap.size (fun _=>True) c4 D)∧Aside0 (Below w.heap.size w w'))
     case atStart=>exact ⟨(1),(by first|rfl|(simp;done)|(simp [*];done)),H',⟨Nat.le_refl _⟩,⟨by (with_reducible repeat (first|apply Kd.R_alloc|apply Kd.R_drewN|apply Kd.R_drew));exact b4.1⟩,⟨by repeat (first|(with_reducible first|exact B.1|apply below_alloc|apply pw_below_drewN|apply below_drew1)|exact B.1)⟩⟩
     case round =>
      clear H';try clear c1
      try clear c2
      try clear c2b0
      try clear p2
      try clear c3
      try clear c3b0
      try clear p4
      try clear q4
      try clear hx4
      try clear O
      try clear Q
      try clear T
      try clear U
      try clear a8
      try clear a9
      obtain ⟨I,rfl,HA,a7,a4,B⟩:=hrel;cases gk with
      | zero=>exact absurd HA.1 (by simp [bellpullref04_Check.l1])
      | succ k2 =>
       have H:=HA.1;clear HA;simp only [bellpullref04_Check.l1] at H
       by_cases c6:I < 4
       ·
        rw [if_pos c6] at H;have c6b0:decide (I < 4)=true:=decide_eq_true c6;clear c6
        by_cases c7:0 ≤ I
        ·
         rw [if_pos c7] at H;have c7b0:decide (0 ≤ I)=true:=decide_eq_true c7;clear c7
         by_cases c8:I < (D.length:Int)
         ·
          rw [if_pos c8] at H;have c8b0:decide (I < (D.length:Int))=true:=decide_eq_true c8;clear c8
          by_cases c9:0 < (D.length:Int)
          ·
           rw [if_pos c9] at H;have c9b0:decide (0 < (D.length:Int))=true:=decide_eq_true c9;have c9b1:decide (0 < D.length)=true:=decide_eq_true (by omega);clear c9
           by_cases c10:(Go.bits .and .i64 (rd D I) 1)=(Go.bits .and .i64 (rd D 0) 1)
           ·
            rw [if_pos c10] at H;have c10b0:((Go.bits .and .i64 (rd D I) 1) == (Go.bits .and .i64 (rd D 0) 1))=true:=beq_iff_eq.mpr c10;have c10b1:((Go.bits .and .i64 (rd D I) 1) != (Go.bits .and .i64 (rd D 0) 1))=false:=bne_eq_false_iff_eq.mpr c10;clear c10;have H':=mk0 H;clear H;obtain ⟨g7,g8,e9⟩:=Kd.R_slice a4.1;subst e9;have V:0 ≤ (I:Int):=of_decide_eq_true (by first|(with_reducible assumption)|assumption);have X:I < (D.length:Int):=of_decide_eq_true (by first|(with_reducible assumption)|assumption);obtain ⟨b5,c5,b0⟩:=Kd.at_int (Kd.R_reads' a4.1).2.2 I V X;cases c5;replace V:=eq_true V;replace X:=eq_true X;have Y:0 ≤ (0:Int):=(by omega)
            have Z:0 < (D.length:Int):=of_decide_eq_true (by first|(with_reducible assumption)|assumption);obtain ⟨b6,d0,M⟩:=Kd.at_int (Kd.R_reads' a4.1).2.2 0 Y Z;obtain rfl:b5=b6:=(by injection d0)
            have e0:(0 < D.length)=True:=eq_true (by omega);(try rw [show ((0:Int)).toNat=0 from rfl] at M);(try rw [Addr.add_zero'] at M);replace Y:=eq_true Y;replace Z:=eq_true Z;go_wp2;repeat (go_quiet (fail);try go_wp2)
            go_roundg k2
            case measure=>have:=b1.1;have:=a7.1;omega
            case rel=>exact ⟨(wrap64 (I + 1)),(by first|rfl|(simp;done)|(simp [*];done)),H',⟨by have:=b1.1;have:=a7.1;omega⟩,⟨by (with_reducible repeat (first|apply Kd.R_alloc|apply Kd.R_drewN|apply Kd.R_drew));exact a4.1⟩,⟨by repeat (first|(with_reducible first|exact B.1|apply below_alloc|apply pw_below_drewN|apply below_drew1)|exact B.1)⟩⟩
           ·
            rw [if_neg c10] at H;have c10b0:((Go.bits .and .i64 (rd D I) 1) == (Go.bits .and .i64 (rd D 0) 1))=false:=beq_eq_false_iff_ne.mpr c10;have c10b1:((Go.bits .and .i64 (rd D I) 1) != (Go.bits .and .i64 (rd D 0) 1))=true:=bne_iff_ne.mpr c10;obtain rfl:=Option.some.inj H;obtain ⟨g9,h0,f4⟩:=Kd.R_slice a4.1;subst f4;have V:0 ≤ (I:Int):=of_decide_eq_true (by first|(with_reducible assumption)|assumption);have X:I < (D.length:Int):=of_decide_eq_true (by first|(with_reducible assumption)|assumption);obtain ⟨b5,c5,b0⟩:=Kd.at_int (Kd.R_reads' a4.1).2.2 I V X;cases c5;replace V:=eq_true V;replace X:=eq_true X;have Y:0 ≤ (0:Int):=(by omega)
            have Z:0 < (D.length:Int):=of_decide_eq_true (by first|(with_reducible assumption)|assumption);obtain ⟨b6,d0,M⟩:=Kd.at_int (Kd.R_reads' a4.1).2.2 0 Y Z;obtain rfl:b5=b6:=(by injection d0)
            have e0:(0 < D.length)=True:=eq_true (by omega);(try rw [show ((0:Int)).toNat=0 from rfl] at M);(try rw [Addr.add_zero'] at M);replace Y:=eq_true Y;replace Z:=eq_true Z;go_wp2;repeat (go_quiet (fail);try go_wp2)
            go_ret;exact ⟨by first|rfl|(simp [errW_none,errW_some] <;> rfl)|(simp [*,errW_none,errW_some] <;> rfl),by repeat (first|(with_reducible first|exact B.1|apply below_alloc|apply pw_below_drewN|apply below_drew1)|exact B.1)⟩
          ·
           rw [if_neg c9] at H;exact absurd H (by simp)
         ·
          rw [if_neg c8] at H;exact absurd H (by simp)
        ·
         rw [if_neg c7] at H;exact absurd H (by simp)
       ·
        rw [if_neg c6] at H;have c6b0:decide (I < 4)=false:=decide_eq_false c6;clear c6;have H':=mk0 H;clear H;go_wp2;repeat (go_quiet (fail);try go_wp2)
        go_roundg k2
        case measure=>have:=b1.1;have:=a7.1;omega
        case rel=>exact ⟨(wrap64 (F + 1)),(by first|rfl|(simp;done)|(simp [*];done)),H',⟨by have:=b1.1;have:=a7.1;omega⟩,⟨by repeat (first|(with_reducible first|exact B.1|apply below_alloc|apply pw_below_drewN|apply below_drew1)|exact B.1)⟩⟩
    ·
     rw [if_neg c3] at H;exact absurd H (by simp)
   ·
    rw [if_neg c2] at H;have c2b0:decide (F < (J.length:Int))=false:=decide_eq_false c2;clear c2;have H':=mk0 H;clear H;go_wp2;repeat (go_quiet (fail);try go_wp2)
    go_loopg [6] k1 (fun kq v6 w'=>∃ (E:Int),v6=.int .i64 E∧Aside0 (bellpullref04_Check.l2 kq J E=some r)∧Aside0 (kq ≤ k1)∧Aside0 (Below w.heap.size w w'))
    case atStart=>exact ⟨(0),(by first|rfl|(simp;done)|(simp [*];done)),H',⟨Nat.le_refl _⟩,⟨by repeat (first|(with_reducible first|exact B.1|apply below_alloc|apply pw_below_drewN|apply below_drew1)|exact B.1)⟩⟩
    case round =>
     clear H';try clear c1
     try clear c2
     try clear c2b0
     try clear p2
     try clear c3
     try clear c3b0
     try clear p4
     try clear q4
     try clear hx4
     try clear qi4
     try clear c6
     try clear c6b0
     try clear p6
     try clear c7
     try clear c7b0
     try clear c8
     try clear c8b0
     try clear c9
     try clear c9b0
     try clear c9b1
     try clear c10
     try clear c10b0
     try clear c10b1
     try clear O
     try clear Q
     try clear T
     try clear U
     try clear b0
     try clear M
     try clear p2
     try clear p4
     try clear a8
     try clear V
     try clear Y
     try clear q4
     try clear a9
     try clear X
     try clear Z
     obtain ⟨E,rfl,HA,a7,B⟩:=hrel;cases gk with
     | zero=>exact absurd HA.1 (by simp [bellpullref04_Check.l2])
     | succ k2 =>
      have H:=HA.1;clear HA;simp only [bellpullref04_Check.l2] at H
      by_cases c13:E < (J.length:Int)
      ·
       rw [if_pos c13] at H;have c13b0:decide (E < (J.length:Int))=true:=decide_eq_true c13;clear c13
       by_cases c14:0 ≤ E
       ·
        rw [if_pos c14] at H;have c14b0:decide (0 ≤ E)=true:=decide_eq_true c14;clear c14;replace H:=Option.bind_eq_some_iff.mp H;obtain ⟨L,d6,H⟩:=H;(try dsimp only at H);have d7:=mk0 d6;clear d6;have H':=mk0 H;clear H;have b7:0 ≤ (E:Int):=of_decide_eq_true (by first|(with_reducible assumption)|assumption);have b8:E < (J.length:Int):=of_decide_eq_true (by first|(with_reducible assumption)|assumption);obtain ⟨g3,f5,a0,a1,a2,a3⟩:=at_T23 e4.1 E b7 b8;cases f5;replace a0:=(B.1.cell (World.block_lt_of_cell? w _ a0)).trans a0;replace a1:=(B.1.cell (World.block_lt_of_cell? w _ a1)).trans a1;replace a2:=(B.1.cell (World.block_lt_of_cell? w _ a2)).trans a2;replace a3:=(B.1.cell (World.block_lt_of_cell? w _ a3)).trans a3;replace b7:=eq_true b7;replace b8:=eq_true b8;go_wp2_with (first|(go_at_call 45;(with_reducible refine (bellpullref04_Parts.calls ((rd_T23 J E).f0) ((rd_T23 J E).f1) ((rd_T23 J E).f2) ((rd_T23 J E).f3) L _ d7.1).mono ?_);rintro e e6 ⟨d1,rfl,N,hb⟩;have b9:=mk0 (Kd.R_lower N (below_size (by repeat (first|(with_reducible first|exact B.1|apply below_alloc|apply pw_below_drewN|apply below_drew1)|exact B.1))));replace B:=mk0 (below_step (by repeat (first|(with_reducible first|exact B.1|apply below_alloc|apply pw_below_drewN|apply below_drew1)|exact B.1)) hb);(try clear hb);(try clear N)));repeat (go_quiet (first|(go_at_call 45;(with_reducible refine (bellpullref04_Parts.calls ((rd_T23 J E).f0) ((rd_T23 J E).f1) ((rd_T23 J E).f2) ((rd_T23 J E).f3) L _ d7.1).mono ?_);rintro e e6 ⟨d1,rfl,N,hb⟩;have b9:=mk0 (Kd.R_lower N (below_size (by repeat (first|(with_reducible first|exact B.1|apply below_alloc|apply pw_below_drewN|apply below_drew1)|exact B.1))));replace B:=mk0 (below_step (by repeat (first|(with_reducible first|exact B.1|apply below_alloc|apply pw_below_drewN|apply below_drew1)|exact B.1)) hb);(try clear hb);(try clear N)));try go_wp2_with (first|(go_at_call 45;(with_reducible refine (bellpullref04_Parts.calls ((rd_T23 J E).f0) ((rd_T23 J E).f1) ((rd_T23 J E).f2) ((rd_T23 J E).f3) L _ d7.1).mono ?_);rintro e e6 ⟨d1,rfl,N,hb⟩;have b9:=mk0 (Kd.R_lower N (below_size (by repeat (first|(with_reducible first|exact B.1|apply below_alloc|apply pw_below_drewN|apply below_drew1)|exact B.1))));replace B:=mk0 (below_step (by repeat (first|(with_reducible first|exact B.1|apply below_alloc|apply pw_below_drewN|apply below_drew1)|exact B.1)) hb);(try clear hb);(try clear N))))
        go_loopg [8] k2 (fun kq v8 w'=>∃ (G:Int),v8=.int .i64 G∧Aside0 (bellpullref04_Check.l3 kq J E L G=some r)∧Aside0 (kq ≤ k2)∧Aside0 (Kd.R (Kd.int .i64) 3 w' w.heap.size (fun _=>True) d1 L)∧Aside0 (Below w.heap.size w w'))
        case atStart=>exact ⟨(0),(by first|rfl|(simp;done)|(simp [*];done)),H',⟨Nat.le_refl _⟩,⟨by (with_reducible repeat (first|apply Kd.R_alloc|apply Kd.R_drewN|apply Kd.R_drew));exact b9.1⟩,⟨by repeat (first|(with_reducible first|exact B.1|apply below_alloc|apply pw_below_drewN|apply below_drew1)|exact B.1)⟩⟩
        case round =>
         clear H';try clear c1
         try clear c2
         try clear c2b0
         try clear p2
         try clear c3
         try clear c3b0
         try clear p4
         try clear q4
         try clear hx4
         try clear qi4
         try clear p5
         try clear q5
         try clear hx5
         try clear c6
         try clear c6b0
         try clear p6
         try clear c7
         try clear c7b0
         try clear c8
         try clear c8b0
         try clear c9
         try clear c9b0
         try clear c9b1
         try clear c10
         try clear c10b0
         try clear c10b1
         try clear c13
         try clear c13b0
         try clear c14
         try clear c14b0
         try clear O
         try clear Q
         try clear T
         try clear U
         try clear b0
         try clear M
         try clear a0
         try clear a1
         try clear a2
         try clear a3
         try clear p2
         try clear p4
         try clear a8
         try clear V
         try clear Y
         try clear b7
         try clear p6
         try clear q4
         try clear a9
         try clear X
         try clear Z
         try clear b8
         obtain ⟨G,rfl,HA,d3,b2,B⟩:=hrel;cases gk with
         | zero=>exact absurd HA.1 (by simp [bellpullref04_Check.l3])
         | succ k3 =>
          have H:=HA.1;clear HA;simp only [bellpullref04_Check.l3] at H
          by_cases c17:G < 4
          ·
           rw [if_pos c17] at H;have c17b0:decide (G < 4)=true:=decide_eq_true c17;clear c17
           by_cases c18:0 ≤ G
           ·
            rw [if_pos c18] at H;have c18b0:decide (0 ≤ G)=true:=decide_eq_true c18;clear c18
            by_cases c19:G < (L.length:Int)
            ·
             rw [if_pos c19] at H;have c19b0:decide (G < (L.length:Int))=true:=decide_eq_true c19;clear c19;replace H:=Option.bind_eq_some_iff.mp H;obtain ⟨f6,d8,H⟩:=H;(try dsimp only at H);have b3:=mk0 d8;clear d8
             by_cases d4:f6=true
             ·
              subst d4;have H1:(bellpullref04_Check.l3 k3 J E L (wrap64 (G + 1)))=some r:=by rw [if_pos rfl] at H;exact H
              clear H;have H:=H1;clear H1;have H':=mk0 H;clear H;obtain ⟨h3,h4,f7⟩:=Kd.R_slice b2.1;subst f7;have a5:0 ≤ (G:Int):=of_decide_eq_true (by first|(with_reducible assumption)|assumption);have a6:G < (L.length:Int):=of_decide_eq_true (by first|(with_reducible assumption)|assumption);obtain ⟨e1,d2,d5⟩:=Kd.at_int (Kd.R_reads' b2.1).2.2 G a5 a6;cases d2;replace a5:=eq_true a5;replace a6:=eq_true a6;go_wp2_with (first|(go_at_call 25;(with_reducible refine (bellpullref01_In.calls (rd L G) (-1000) 1000 true _ b3.1).mono ?_);rintro e w' ⟨rfl,⟨nd,rfl⟩⟩;(try first|exact ⟨rfl,_,World.drewN_drewN _ _ _⟩|exact ⟨rfl,_,Eq.trans (World.drewN_drewN _ _ _) (congrArg (World.drewN _) (Nat.add_assoc _ _ _))⟩)));repeat (go_quiet (first|(go_at_call 25;(with_reducible refine (bellpullref01_In.calls (rd L G) (-1000) 1000 true _ b3.1).mono ?_);rintro e w' ⟨rfl,⟨nd,rfl⟩⟩;(try first|exact ⟨rfl,_,World.drewN_drewN _ _ _⟩|exact ⟨rfl,_,Eq.trans (World.drewN_drewN _ _ _) (congrArg (World.drewN _) (Nat.add_assoc _ _ _))⟩)));try go_wp2_with (first|(go_at_call 25;(with_reducible refine (bellpullref01_In.calls (rd L G) (-1000) 1000 true _ b3.1).mono ?_);rintro e w' ⟨rfl,⟨nd,rfl⟩⟩;(try first|exact ⟨rfl,_,World.drewN_drewN _ _ _⟩|exact ⟨rfl,_,Eq.trans (World.drewN_drewN _ _ _) (congrArg (World.drewN _) (Nat.add_assoc _ _ _))⟩))))
              go_roundg k3
              case measure=>have:=b1.1;have:=a7.1;have:=d3.1;omega
              case rel=>exact ⟨(wrap64 (G + 1)),(by first|rfl|(simp;done)|(simp [*];done)),H',⟨by have:=b1.1;have:=a7.1;have:=d3.1;omega⟩,⟨by (with_reducible repeat (first|apply Kd.R_alloc|apply Kd.R_drewN|apply Kd.R_drew));exact b2.1⟩,⟨by repeat (first|(with_reducible first|exact B.1|apply below_alloc|apply pw_below_drewN|apply below_drew1)|exact B.1)⟩⟩
             ·
              replace d4:=Bool.eq_false_iff.mpr d4;subst d4;have H1:(some 1)=some r:=by rw [if_neg (show ¬ (false=true) by decide)] at H;exact H
              clear H;have H:=H1;clear H1;obtain rfl:=Option.some.inj H;obtain ⟨h5,h6,f8⟩:=Kd.R_slice b2.1;subst f8;have a5:0 ≤ (G:Int):=of_decide_eq_true (by first|(with_reducible assumption)|assumption);have a6:G < (L.length:Int):=of_decide_eq_true (by first|(with_reducible assumption)|assumption);obtain ⟨e1,d2,d5⟩:=Kd.at_int (Kd.R_reads' b2.1).2.2 G a5 a6;cases d2;replace a5:=eq_true a5;replace a6:=eq_true a6;go_wp2_with (first|(go_at_call 25;(with_reducible refine (bellpullref01_In.calls (rd L G) (-1000) 1000 false _ b3.1).mono ?_);rintro e w' ⟨rfl,⟨nd,rfl⟩⟩;(try first|exact ⟨rfl,_,World.drewN_drewN _ _ _⟩|exact ⟨rfl,_,Eq.trans (World.drewN_drewN _ _ _) (congrArg (World.drewN _) (Nat.add_assoc _ _ _))⟩)));repeat (go_quiet (first|(go_at_call 25;(with_reducible refine (bellpullref01_In.calls (rd L G) (-1000) 1000 false _ b3.1).mono ?_);rintro e w' ⟨rfl,⟨nd,rfl⟩⟩;(try first|exact ⟨rfl,_,World.drewN_drewN _ _ _⟩|exact ⟨rfl,_,Eq.trans (World.drewN_drewN _ _ _) (congrArg (World.drewN _) (Nat.add_assoc _ _ _))⟩)));try go_wp2_with (first|(go_at_call 25;(with_reducible refine (bellpullref01_In.calls (rd L G) (-1000) 1000 false _ b3.1).mono ?_);rintro e w' ⟨rfl,⟨nd,rfl⟩⟩;(try first|exact ⟨rfl,_,World.drewN_drewN _ _ _⟩|exact ⟨rfl,_,Eq.trans (World.drewN_drewN _ _ _) (congrArg (World.drewN _) (Nat.add_assoc _ _ _))⟩))))
              go_ret;exact ⟨by first|rfl|(simp [errW_none,errW_some] <;> rfl)|(simp [*,errW_none,errW_some] <;> rfl),by repeat (first|(with_reducible first|exact B.1|apply below_alloc|apply pw_below_drewN|apply below_drew1)|exact B.1)⟩
            ·
             rw [if_neg c19] at H;exact absurd H (by simp)
           ·
            rw [if_neg c18] at H;exact absurd H (by simp)
          ·
           rw [if_neg c17] at H;have c17b0:decide (G < 4)=false:=decide_eq_false c17;clear c17;have H':=mk0 H;clear H;go_wp2;repeat (go_quiet (fail);try go_wp2)
           go_roundg k3
           case measure=>have:=b1.1;have:=a7.1;have:=d3.1;omega
           case rel=>exact ⟨(wrap64 (E + 1)),(by first|rfl|(simp;done)|(simp [*];done)),H',⟨by have:=b1.1;have:=a7.1;have:=d3.1;omega⟩,⟨by repeat (first|(with_reducible first|exact B.1|apply below_alloc|apply pw_below_drewN|apply below_drew1)|exact B.1)⟩⟩
       ·
        rw [if_neg c14] at H;exact absurd H (by simp)
      ·
       rw [if_neg c13] at H;have c13b0:decide (E < (J.length:Int))=false:=decide_eq_false c13;clear c13;obtain rfl:=Option.some.inj H;go_wp2;repeat (go_quiet (fail);try go_wp2)
       go_ret;exact ⟨by first|rfl|(simp [errW_none,errW_some] <;> rfl)|(simp [*,errW_none,errW_some] <;> rfl),by repeat (first|(with_reducible first|exact B.1|apply below_alloc|apply pw_below_drewN|apply below_drew1)|exact B.1)⟩
end Go.Proofs.Ytgfnmimfoicmmaa.PM
