-- Written by pr2.py, a program of this session's, for this claim (through the kit's print).
import Derived.Test.YtploaicljkennaaPWx0
namespace Go.Proofs.Ytploaicljkennaa.PW
open Go.Proofs.MyWords Go.RowKit Go.Proofs.YtploaicljkennaaW.PrintWords Go.Proofs.YtploaicljkennaaW.PrintLast Go.Proofs.YtploaicljkennaaW.PrintMore
attribute [local go_sem] max2_int min2_int max_two min_two max_three min_three max_four min_four   -- for this text's walks alone
set_option linter.unusedVariables false
set_option linter.unusedSimpArgs false

/-! ### bellpullref01_In: function 18 -/
def bellpullref01_In.f (a0:Int) (a1:Int) (a2:Int):Option (Bool):=if a0 ≥ a1 then (some (decide (a0 ≤ a2))) else (some false)
set_option maxHeartbeats 8000000 in
set_option maxRecDepth 100000 in
theorem bellpullref01_In.calls (a0:Int) (a1:Int) (a2:Int) (r:Bool) (w:World) (h:bellpullref01_In.f a0 a1 a2=some r) :
    Calls Try.prog 18 #[.int .i64 a0,.int .i64 a1,.int .i64 a2] w fun e w'=>e=.returned (.bool r)∧Drawn0 w w':=by
 have H:(if a0 ≥ a1 then (some (decide (a0 ≤ a2))) else (some false))=some r:=h;clear h
 by_cases c4:a0 ≥ a1
 ·
  rw [if_pos c4] at H;have c4b0:decide (a1 ≤ a0)=true:=decide_eq_true c4;clear c4;obtain rfl:=Option.some.inj H;go_enter Try.func18,Try.ntmps18;go_wp2;go_ret;exact ⟨by first|rfl|(simp;done)|(simp [*];done),by repeat (first|exact Drawn0.refl _|apply Drawn0.step)⟩
 ·
  rw [if_neg c4] at H;have c4b0:decide (a1 ≤ a0)=false:=decide_eq_false c4;clear c4;obtain rfl:=Option.some.inj H;go_enter Try.func18,Try.ntmps18;go_wp2;go_ret;exact ⟨by first|rfl|(simp;done)|(simp [*];done),by repeat (first|exact Drawn0.refl _|apply Drawn0.step)⟩
/-! ### echo_kolakoski: function 43 -/
mutual
def echo_kolakoski.l0:Nat → Int → Int → Int → List Int → Int → Option (List Int)
  | 0,_,_,_,_,_=>none
  | k + 1,x0,x1,x2,x7,x8=>if (x7.length:Int) < x2 then (if (Int.tmod x8 2)=1 then (echo_kolakoski.j1 k x0 x1 x2 x7 x8 x1) else (echo_kolakoski.j1 k x0 x1 x2 x7 x8 x0)) else (if 0 ≤ x2 then (if x2 ≤ (x7.length:Int) then (some (x7.take (x2:Int).toNat)) else (none)) else (none))
def echo_kolakoski.j1:Nat → Int → Int → Int → List Int → Int → Int → Option (List Int)
  | 0,_,_,_,_,_,_=>none
  | k + 1,x0,x1,x2,x7,x8,x9=>if x8 < (x7.length:Int) then (if 0 ≤ x8 then (echo_kolakoski.j2 k x0 x1 x2 x7 x8 x9 (rd x7 x8)) else (none)) else (echo_kolakoski.j2 k x0 x1 x2 x7 x8 x9 x9)
def echo_kolakoski.j2:Nat → Int → Int → Int → List Int → Int → Int → Int → Option (List Int)
  | 0,_,_,_,_,_,_,_=>none
  | k + 1,x0,x1,x2,x7,x8,x9,x10=>echo_kolakoski.l1 k x0 x1 x2 x7 x8 x9 x10 0
def echo_kolakoski.l1:Nat → Int → Int → Int → List Int → Int → Int → Int → Int → Option (List Int)
  | 0,_,_,_,_,_,_,_,_=>none
  | k + 1,x0,x1,x2,x7,x8,x9,x31,x32=>if x32 < x31 then (if x7.length < 17592186044416 then (echo_kolakoski.l1 k x0 x1 x2 (x7 ++ [x9]) x8 x9 x31 (wrap64 (x32 + 1))) else (none)) else (echo_kolakoski.l0 k x0 x1 x2 x7 (wrap64 (x8 + 1)))
end
def echo_kolakoski.f (k:Nat) (a0:Int) (a1:Int) (a2:Int):Option (List Int):=echo_kolakoski.l0 k a0 a1 a2 ([]:List Int) 0
theorem echo_kolakoski.mono_l:∀ k,(∀ y0 y1 y2 y3 y4,LeO (echo_kolakoski.l0 k y0 y1 y2 y3 y4) (echo_kolakoski.l0 (k + 1) y0 y1 y2 y3 y4))∧(∀ y0 y1 y2 y3 y4 y5,LeO (echo_kolakoski.j1 k y0 y1 y2 y3 y4 y5) (echo_kolakoski.j1 (k + 1) y0 y1 y2 y3 y4 y5))∧(∀ y0 y1 y2 y3 y4 y5 y6,LeO (echo_kolakoski.j2 k y0 y1 y2 y3 y4 y5 y6) (echo_kolakoski.j2 (k + 1) y0 y1 y2 y3 y4 y5 y6))∧(∀ y0 y1 y2 y3 y4 y5 y6 y7,LeO (echo_kolakoski.l1 k y0 y1 y2 y3 y4 y5 y6 y7) (echo_kolakoski.l1 (k + 1) y0 y1 y2 y3 y4 y5 y6 y7))
  | 0=>⟨fun _ _ _ _ _ r h=>by simp [echo_kolakoski.l0] at h,fun _ _ _ _ _ _ r h=>by simp [echo_kolakoski.j1] at h,fun _ _ _ _ _ _ _ r h=>by simp [echo_kolakoski.j2] at h,fun _ _ _ _ _ _ _ _ r h=>by simp [echo_kolakoski.l1] at h⟩
  | k + 1=>by
    obtain ⟨ih0,ih1,ih2,ih3⟩:=echo_kolakoski.mono_l k
    refine ⟨?_,?_,?_,?_⟩
    · intro y0 y1 y2 y3 y4
      unfold echo_kolakoski.l0
      with_reducible repeat' first|exact ih0 _ _ _ _ _|exact ih1 _ _ _ _ _ _|exact ih2 _ _ _ _ _ _ _|exact ih3 _ _ _ _ _ _ _ _|exact LeO.refl _|exact LeO.none _|refine LeO.ite ?_ ?_|refine LeO.bind ?_ (fun _=>?_)
    · intro y0 y1 y2 y3 y4 y5
      unfold echo_kolakoski.j1
      with_reducible repeat' first|exact ih0 _ _ _ _ _|exact ih1 _ _ _ _ _ _|exact ih2 _ _ _ _ _ _ _|exact ih3 _ _ _ _ _ _ _ _|exact LeO.refl _|exact LeO.none _|refine LeO.ite ?_ ?_|refine LeO.bind ?_ (fun _=>?_)
    · intro y0 y1 y2 y3 y4 y5 y6
      unfold echo_kolakoski.j2
      with_reducible repeat' first|exact ih0 _ _ _ _ _|exact ih1 _ _ _ _ _ _|exact ih2 _ _ _ _ _ _ _|exact ih3 _ _ _ _ _ _ _ _|exact LeO.refl _|exact LeO.none _|refine LeO.ite ?_ ?_|refine LeO.bind ?_ (fun _=>?_)
    · intro y0 y1 y2 y3 y4 y5 y6 y7
      unfold echo_kolakoski.l1
      with_reducible repeat' first|exact ih0 _ _ _ _ _|exact ih1 _ _ _ _ _ _|exact ih2 _ _ _ _ _ _ _|exact ih3 _ _ _ _ _ _ _ _|exact LeO.refl _|exact LeO.none _|refine LeO.ite ?_ ?_|refine LeO.bind ?_ (fun _=>?_)
theorem echo_kolakoski.mono:∀ a0 a1 a2 k,LeO (echo_kolakoski.f k a0 a1 a2) (echo_kolakoski.f (k + 1) a0 a1 a2):=by
  intro a0 a1 a2 k
  obtain ⟨ih0,ih1,ih2,ih3⟩:=echo_kolakoski.mono_l k
  unfold echo_kolakoski.f
  with_reducible repeat' first|exact ih0 _ _ _ _ _|exact ih1 _ _ _ _ _ _|exact ih2 _ _ _ _ _ _ _|exact ih3 _ _ _ _ _ _ _ _|exact LeO.refl _|exact LeO.none _|refine LeO.ite ?_ ?_|refine LeO.bind ?_ (fun _=>?_)
set_option maxHeartbeats 8000000 in
set_option maxRecDepth 100000 in
theorem echo_kolakoski.calls (k:Nat) (a0:Int) (a1:Int) (a2:Int) (r:List Int) (w:World) (h:echo_kolakoski.f k a0 a1 a2=some r) :
    Calls Try.prog 43 #[.int .i64 a0,.int .i64 a1,.int .i64 a2] w fun e w'=>∃ v0_:Value,e=.returned (v0_)∧Kd.V (Kd.int .i64) 3 w' w.heap.size (fun k_=>(w.heap.size ≤ k_)) v0_ r∧Below w.heap.size w w':=by
 have HB:=mk0 (Below.refl w.heap.size w);have H:(echo_kolakoski.l0 k a0 a1 a2 ([]:List Int) 0)=some r:=h;clear h;have H':=mk0 H;clear H;go_enter Try.func43,Try.ntmps43;go_wp2
 go_loopg [7,8] k (fun kq v7 v8 w'=>∃ (x7_1:List Int) (x8_1:Int),v8=.int .i64 x8_1∧Aside0 (echo_kolakoski.l0 kq a0 a1 a2 x7_1 x8_1=some r)∧Aside0 (kq ≤ k)∧Aside0 (Kd.R (Kd.int .i64) 3 w' w.heap.size (fun k_=>(w.heap.size ≤ k_)) v7 x7_1)∧Aside0 (Below w.heap.size w w'))
 case atStart=>exact ⟨(([]:List Int)),(0),(by first|rfl|(simp;done)|(simp [*];done)),H',⟨Nat.le_refl _⟩,⟨by first|exact Kd.R_nil _ _ _ _ _|exact Kd.N_nil _ _ _ _ _|exact Kd.V_nil _ _ _ _ _|exact Kd.Q_nil _ _ _ _ _|exact Kd.S_nil _ _ _ _ _⟩,⟨by repeat (first|(with_reducible first|exact HB.out|apply below_alloc|apply pw_below_drewN|apply below_drew1)|exact HB.out)⟩⟩
 case round =>
  clear H';try clear p2
  obtain ⟨x7_1,x8_1,rfl,HA,HK1,HO_7,HB⟩:=hrel;cases gk with
  | zero=>exact absurd HA.out (by simp [echo_kolakoski.l0])
  | succ k1 =>
   have H:=HA.out;clear HA;simp only [echo_kolakoski.l0] at H
   by_cases c4:(x7_1.length:Int) < a2
   ·
    rw [if_pos c4] at H;have c4b0:decide ((x7_1.length:Int) < a2)=true:=decide_eq_true c4;clear c4;have HC5:=mk0 H;clear H;obtain ⟨Ao6,co6,eo6⟩:=Kd.R_slice HO_7.out;subst eo6;go_upto_if 20 with (fail)
    go_cut [9] (fun v9 wc=>∃ (kq:Nat) (x9_4:Int),v9=.int .i64 x9_4∧Aside0 (echo_kolakoski.j1 kq a0 a1 a2 x7_1 x8_1 x9_4=some r)∧Aside0 (kq ≤ k1)∧Aside0 (Kd.R (Kd.int .i64) 3 wc w.heap.size (fun k_=>(w.heap.size ≤ k_)) (.slice Ao6 x7_1.length co6) x7_1)∧Aside0 (Below w.heap.size w wc))
    case first =>
     have H:=HC5.out;clear HC5
     by_cases c7:(Int.tmod x8_1 2)=1
     ·
      rw [if_pos c7] at H;have c7b0:((Int.tmod x8_1 2) == 1)=true:=beq_iff_eq.mpr c7;have c7b1:((Int.tmod x8_1 2) != 1)=false:=bne_eq_false_iff_eq.mpr c7;clear c7;(first|rw [c7b0]|(simp only [i64_w,i32_w];rw [c7b0])|skip);have H':=mk0 H;clear H;go_wp2;go_meet
      case rel=>exact ⟨_,(a1),(by first|rfl|(simp;done)|(simp [*];done)),H',⟨by have:=HK1.out;first|omega|exact Nat.le_refl _⟩,⟨by (with_reducible repeat (first|apply Kd.R_alloc|apply Kd.R_drewN|apply Kd.R_drew));exact HO_7.out⟩,⟨by repeat (first|(with_reducible first|exact HB.out|apply below_alloc|apply pw_below_drewN|apply below_drew1)|exact HB.out)⟩⟩
     ·
      rw [if_neg c7] at H;have c7b0:((Int.tmod x8_1 2) == 1)=false:=beq_eq_false_iff_ne.mpr c7;have c7b1:((Int.tmod x8_1 2) != 1)=true:=bne_iff_ne.mpr c7;(first|rw [c7b0]|(simp only [i64_w,i32_w];rw [c7b0])|skip);have H':=mk0 H;clear H;go_wp2;go_meet
      case rel=>exact ⟨_,(a0),(by first|rfl|(simp;done)|(simp [*];done)),H',⟨by have:=HK1.out;first|omega|exact Nat.le_refl _⟩,⟨by (with_reducible repeat (first|apply Kd.R_alloc|apply Kd.R_drewN|apply Kd.R_drew));exact HO_7.out⟩,⟨by repeat (first|(with_reducible first|exact HB.out|apply below_alloc|apply pw_below_drewN|apply below_drew1)|exact HB.out)⟩⟩
    case rest =>
     clear HC5;try clear p2
     try clear c4
     try clear c4b0
     try clear c7
     try clear c7b0
     try clear c7b1
     try clear p2
     obtain ⟨kq,x9_4,rfl,HA,HJ4,HO_7,HB⟩:=hcut;cases kq with
     | zero=>exact absurd HA.out (by simp [echo_kolakoski.j1])
     | succ kj4 =>
      have H:=HA.out;clear HA;simp only [echo_kolakoski.j1] at H;have HC8:=mk0 H;clear H;go_upto_if 26 with (fail)
      go_cut [10] (fun v10 wc=>∃ (kq:Nat) (x10_7:Int),v10=.int .i64 x10_7∧Aside0 (echo_kolakoski.j2 kq a0 a1 a2 x7_1 x8_1 x9_4 x10_7=some r)∧Aside0 (kq ≤ kj4)∧Aside0 (Kd.R (Kd.int .i64) 3 wc w.heap.size (fun k_=>(w.heap.size ≤ k_)) (.slice Ao6 x7_1.length co6) x7_1)∧Aside0 (Below w.heap.size w wc))
      case first =>
       have H:=HC8.out;clear HC8
       by_cases c9:x8_1 < (x7_1.length:Int)
       ·
        rw [if_pos c9] at H;have c9b0:decide (x8_1 < (x7_1.length:Int))=true:=decide_eq_true c9;clear c9;(first|rw [c9b0]|(simp only [i64_w,i32_w];rw [c9b0])|skip)
        by_cases c10:0 ≤ x8_1
        ·
         rw [if_pos c10] at H;have c10b0:decide (0 ≤ x8_1)=true:=decide_eq_true c10;clear c10;have H':=mk0 H;clear H;have p106:0 ≤ (x8_1:Int):=of_decide_eq_true (by first|(with_reducible assumption)|assumption);have q106:x8_1 < (x7_1.length:Int):=of_decide_eq_true (by first|(with_reducible assumption)|assumption);obtain ⟨ad106,e106,hx106_0⟩:=Kd.at_int (Kd.R_reads' HO_7.out).2.2 x8_1 p106 q106;cases e106;replace p106:=eq_true p106;replace q106:=eq_true q106;go_wp2;go_meet
         case rel=>exact ⟨_,(rd x7_1 x8_1),(by first|rfl|(simp;done)|(simp [*];done)),H',⟨by have:=HK1.out;have:=HJ4.out;first|omega|exact Nat.le_refl _⟩,⟨by (with_reducible repeat (first|apply Kd.R_alloc|apply Kd.R_drewN|apply Kd.R_drew));exact HO_7.out⟩,⟨by repeat (first|(with_reducible first|exact HB.out|apply below_alloc|apply pw_below_drewN|apply below_drew1)|exact HB.out)⟩⟩
        ·
         rw [if_neg c10] at H;exact absurd H (by simp)
       ·
        rw [if_neg c9] at H;have c9b0:decide (x8_1 < (x7_1.length:Int))=false:=decide_eq_false c9;clear c9;(first|rw [c9b0]|(simp only [i64_w,i32_w];rw [c9b0])|skip);have H':=mk0 H;clear H;go_wp2;go_meet
        case rel=>exact ⟨_,(x9_4),(by first|rfl|(simp;done)|(simp [*];done)),H',⟨by have:=HK1.out;have:=HJ4.out;first|omega|exact Nat.le_refl _⟩,⟨by (with_reducible repeat (first|apply Kd.R_alloc|apply Kd.R_drewN|apply Kd.R_drew));exact HO_7.out⟩,⟨by repeat (first|(with_reducible first|exact HB.out|apply below_alloc|apply pw_below_drewN|apply below_drew1)|exact HB.out)⟩⟩
      case rest =>
       clear HC8;try clear c1
       try clear p1
       try clear q1
       try clear hx1
       try clear p2
       try clear c4
       try clear c4b0
       try clear c7
       try clear c7b0
       try clear c7b1
       try clear c9
       try clear c9b0
       try clear c10
       try clear c10b0
       try clear p10
       try clear q10
       try clear hx10
       try clear hx106_0
       try clear p106
       try clear p2
       try clear q106
       obtain ⟨kq,x10_7,rfl,HA,HJ7,HO_7,HB⟩:=hcut;cases kq with
       | zero=>exact absurd HA.out (by simp [echo_kolakoski.j2])
       | succ kj7 =>
        have H:=HA.out;clear HA;simp only [echo_kolakoski.j2] at H;have H':=mk0 H;clear H;go_wp2
        go_loopg [7,32] kj7 (fun kq v7 v32 w'=>∃ (x7_4:List Int) (x32_4:Int),v32=.int .i64 x32_4∧Aside0 (echo_kolakoski.l1 kq a0 a1 a2 x7_4 x8_1 x9_4 x10_7 x32_4=some r)∧Aside0 (kq ≤ kj7)∧Aside0 (Kd.R (Kd.int .i64) 3 w' w.heap.size (fun k_=>(w.heap.size ≤ k_)) v7 x7_4)∧Aside0 (Below w.heap.size w w'))
        case atStart=>exact ⟨(x7_1),(0),(by first|rfl|(simp;done)|(simp [*];done)),H',⟨Nat.le_refl _⟩,⟨by (with_reducible repeat (first|apply Kd.R_alloc|apply Kd.R_drewN|apply Kd.R_drew));exact HO_7.out⟩,⟨by repeat (first|(with_reducible first|exact HB.out|apply below_alloc|apply pw_below_drewN|apply below_drew1)|exact HB.out)⟩⟩
        case round =>
         clear H';try clear c1
         try clear p1
         try clear q1
         try clear hx1
         try clear p2
         try clear c4
         try clear c4b0
         try clear c7
         try clear c7b0
         try clear c7b1
         try clear c9
         try clear c9b0
         try clear c10
         try clear c10b0
         try clear p10
         try clear q10
         try clear hx10
         try clear hx106_0
         try clear p1
         try clear p10
         try clear p106
         try clear p2
         try clear q1
         try clear q10
         try clear q106
         obtain ⟨x7_4,x32_4,rfl,HA,HK4,HO_7,HB⟩:=hrel;cases gk with
         | zero=>exact absurd HA.out (by simp [echo_kolakoski.l1])
         | succ k4 =>
          have H:=HA.out;clear HA;simp only [echo_kolakoski.l1] at H
          by_cases c11:x32_4 < x10_7
          ·
           rw [if_pos c11] at H;have c11b0:decide (x32_4 < x10_7)=true:=decide_eq_true c11;clear c11
           by_cases c12:x7_4.length < 17592186044416
           ·
            rw [if_pos c12] at H;have LMc12:=mk0 c12;clear c12;obtain ⟨y107,hy107⟩:∃ y_:List Int,y_=(x7_4 ++ [x9_4]):=⟨_,rfl⟩
            replace H:(echo_kolakoski.l1 k4 a0 a1 a2 y107 x8_1 x9_4 x10_7 (wrap64 (x32_4 + 1)))=some r:=by first|(rw [hy107];with_reducible exact H)|(have H2_:=(Option.bind_some _ _).symm.trans H;rw [hy107];with_reducible exact H2_)|(have H2_:=(Option.bind_some _ _).symm.trans H;with_reducible exact H2_)|with_reducible exact H|(rw [hy107];exact H)|exact H
            have Ny107:=mk0 hy107;clear hy107;have H':=mk0 H;clear H;go_wp2_with (first|((with_reducible refine gate_builtin (b:=.append) (xs:=#[.tmp 34,.tmp 36]) rfl ?_);at_builtin;refine Kd.R_append (Kd.int .i64) (w0:=w) w.heap.size rfl (.tmp 34) (.tmp 36) 22 3 (.int .i64 0) 8 rfl Try.underlying22 info3 rfl (by decide) (by omega) u7 x7_4 x9_4 [.int .i64 x9_4] (fun k_=>(w.heap.size ≤ k_)) (fun _=>False) rfl rfl ?aP (fun _ hk=>hk.elim) ?aF ?aO ?aB ?aS ?aL ?_;(case aP=>exact rfl);(case aB=>exact (by repeat (first|(with_reducible first|exact HB.out|apply below_alloc|apply pw_below_drewN|apply below_drew1)|exact HB.out)));(case aF=>exact (fun k_ hk=>(Nat.le_trans (below_size (by repeat (first|(with_reducible first|exact HB.out|apply below_alloc|apply pw_below_drewN|apply below_drew1)|exact HB.out))) hk)));(case aO=>exact (by (with_reducible repeat (first|apply Kd.R_alloc|apply Kd.R_drewN|apply Kd.R_drew));exact HO_7.out));(case aS=>exact (below_size (by repeat (first|(with_reducible first|exact HB.out|apply below_alloc|apply pw_below_drewN|apply below_drew1)|exact HB.out))));(case aL=>have:=LMc12.out;omega);intro v108 w13 ho hb hg hat;rw [← Ny107.out] at ho;have HO109:=mk0 (ho);replace HB:=mk0 (hb);clear HO_7;clear ho hb hg hat));go_roundg k4
            case measure=>have:=HK1.out;have:=HJ4.out;have:=HJ7.out;have:=HK4.out;omega
            case rel=>exact ⟨(y107),(wrap64 (x32_4 + 1)),(by first|rfl|(simp;done)|(simp [*];done)),H',⟨by have:=HK1.out;have:=HJ4.out;have:=HJ7.out;have:=HK4.out;omega⟩,⟨by (with_reducible repeat (first|apply Kd.R_alloc|apply Kd.R_drewN|apply Kd.R_drew));exact HO109.out⟩,⟨by repeat (first|(with_reducible first|exact HB.out|apply below_alloc|apply pw_below_drewN|apply below_drew1)|exact HB.out)⟩⟩
           ·
            rw [if_neg c12] at H;exact absurd H (by simp)
          ·
           rw [if_neg c11] at H;have c11b0:decide (x32_4 < x10_7)=false:=decide_eq_false c11;clear c11;have H':=mk0 H;clear H;go_wp2;go_roundg k4
           case measure=>have:=HK1.out;have:=HJ4.out;have:=HJ7.out;have:=HK4.out;omega
           case rel=>exact ⟨(x7_4),(wrap64 (x8_1 + 1)),(by first|rfl|(simp;done)|(simp [*];done)),H',⟨by have:=HK1.out;have:=HJ4.out;have:=HJ7.out;have:=HK4.out;omega⟩,⟨by (with_reducible repeat (first|apply Kd.R_alloc|apply Kd.R_drewN|apply Kd.R_drew));exact HO_7.out⟩,⟨by repeat (first|(with_reducible first|exact HB.out|apply below_alloc|apply pw_below_drewN|apply below_drew1)|exact HB.out)⟩⟩
   ·
    rw [if_neg c4] at H;have c4b0:decide ((x7_1.length:Int) < a2)=false:=decide_eq_false c4;clear c4
    by_cases c14:0 ≤ a2
    ·
     rw [if_pos c14] at H;have c14b0:=eq_true c14;have c14b1:decide (0 ≤ a2)=true:=decide_eq_true c14;clear c14
     by_cases c15:a2 ≤ (x7_1.length:Int)
     ·
      rw [if_pos c15] at H;have c15b0:=eq_true c15;have c15b1:decide (a2 ≤ (x7_1.length:Int))=true:=decide_eq_true c15;clear c15;obtain ⟨y101,hy101⟩:∃ y_:List Int,y_=(x7_1.take (a2:Int).toNat):=⟨_,rfl⟩
      replace H:(some y101)=some r:=by first|(rw [hy101];with_reducible exact H)|(have H2_:=(Option.bind_some _ _).symm.trans H;rw [hy101];with_reducible exact H2_)|(have H2_:=(Option.bind_some _ _).symm.trans H;with_reducible exact H2_)|with_reducible exact H|(rw [hy101];exact H)|exact H
      have Ny101:=mk0 hy101;clear hy101;obtain rfl:=Option.some.inj H;obtain ⟨Ao16,co16,eo16⟩:=Kd.R_slice HO_7.out;subst eo16;have q17:(a2:Int) ≤ ((x7_1.length:Int):Int):=of_decide_eq_true (by first|(with_reducible assumption)|assumption);obtain ⟨i017,hi017,_,hsz17,_⟩:=info_parts info3;have hroom17:x7_1.length ≤ co16:=(Kd.R_reads' HO_7.out).2.1;have hC17:Kd.F (Kd.int .i64) _ _ Ao16 x7_1.length x7_1:=(Kd.V_at (base:=w.heap.size) (Kd.R_V HO_7.out)).2.2;have hcut17:=Go.Proofs.MyWords.cut_to_m (P:=Try.prog) 22 3 .i64 .i64 Try.underlying22 hi017 Ao16 x7_1.length co16 a2 (of_decide_eq_true (by first|(with_reducible assumption)|assumption)) q17 hroom17;have hr17:=Kd.F_take (m:=(a2:Int).toNat) hC17 (by omega);have hy17:y101.length=(a2:Int).toNat:=(by rw [Ny101.out,List.length_take];omega)
      rw [← Ny101.out] at hr17;rw [← hy17] at hcut17;have HO105:=mk0 (show Kd.V (Kd.int .i64) 3 _ w.heap.size _ (.slice Ao16 y101.length y101.length) y101 from Kd.V_mk (Nat.le_refl _) hr17);have HC105:=mk0 (show y101.length ≤ y101.length from Nat.le_refl _);clear hr17 hC17 hroom17 hi017 hsz17;have KY17:=mk0 hy17;clear hy17;replace q17:=eq_true q17;go_wp2;go_ret;exact ⟨_,by first|rfl|(simp [errW_none,errW_some] <;> rfl)|(simp [*,errW_none,errW_some] <;> rfl),by (with_reducible repeat (first|apply Kd.V_alloc|apply Kd.V_drewN|apply Kd.V_drew));exact HO105.out,by repeat (first|(with_reducible first|exact HB.out|apply below_alloc|apply pw_below_drewN|apply below_drew1)|exact HB.out)⟩
     ·
      rw [if_neg c15] at H;exact absurd H (by simp)
    ·
     rw [if_neg c14] at H;exact absurd H (by simp)
/-! ### echo_Kolakoski: function 15 -/
def echo_Kolakoski.f (k:Nat) (a0:Int) (a1:Int) (a2:Int):Option (List Int × Int):=if (mn a0 a1) < 1 then (some (([]:List Int),1)) else (if (mx a0 a1) > 9 then (some (([]:List Int),1)) else (if a0=a1 then (some (([]:List Int),1)) else (if a2 < 0 then (some (([]:List Int),1)) else (if a2 > 100000 then (some (([]:List Int),1)) else ((echo_kolakoski.f k a0 a1 a2).bind fun t110=>(some (t110,0)))))))
theorem echo_Kolakoski.mono:∀ a0 a1 a2 k,LeO (echo_Kolakoski.f k a0 a1 a2) (echo_Kolakoski.f (k + 1) a0 a1 a2):=by
  intro a0 a1 a2 k
  unfold echo_Kolakoski.f
  with_reducible repeat' first|exact echo_kolakoski.mono _ _ _ _|exact LeO.refl _|exact LeO.none _|refine LeO.ite ?_ ?_|refine LeO.bind ?_ (fun _=>?_)
set_option maxHeartbeats 8000000 in
set_option maxRecDepth 100000 in
theorem echo_Kolakoski.calls (k:Nat) (a0:Int) (a1:Int) (a2:Int) (r1:List Int) (r2:Int) (w:World) (h:echo_Kolakoski.f k a0 a1 a2=some (r1,r2)) :
    Calls Try.prog 15 #[.int .i64 a0,.int .i64 a1,.int .i64 a2] w fun e w'=>∃ v0_:Value,e=.returned (.tuple #[v0_,.int .i64 r2])∧Kd.V (Kd.int .i64) 3 w' w.heap.size (fun k_=>(w.heap.size ≤ k_)) v0_ r1∧Below w.heap.size w w':=by
 have HB:=mk0 (Below.refl w.heap.size w);have H:(if (mn a0 a1) < 1 then (some (([]:List Int),1)) else (if (mx a0 a1) > 9 then (some (([]:List Int),1)) else (if a0=a1 then (some (([]:List Int),1)) else (if a2 < 0 then (some (([]:List Int),1)) else (if a2 > 100000 then (some (([]:List Int),1)) else ((echo_kolakoski.f k a0 a1 a2).bind fun t110=>(some (t110,0))))))))=some (r1,r2):=h;clear h;obtain ⟨ji4,hji4⟩:∃ j_:Int,(mn a0 a1)=j_:=⟨_,rfl⟩
 replace H:(if (ji4) < 1 then (some (([]:List Int),1)) else (if (mx a0 a1) > 9 then (some (([]:List Int),1)) else (if a0=a1 then (some (([]:List Int),1)) else (if a2 < 0 then (some (([]:List Int),1)) else (if a2 > 100000 then (some (([]:List Int),1)) else ((echo_kolakoski.f k a0 a1 a2).bind fun t110=>(some (t110,0))))))))=some (r1,r2):=by first|(rw [hji4] at H;exact H)|(simp only [hji4] at H ⊢;exact H)
 have hji4_:(if a1 < a0 then a1 else a0)=ji4:=hji4
 by_cases c5:(ji4) < 1
 ·
  rw [if_pos c5] at H;have c5b0:decide ((ji4) < 1)=true:=decide_eq_true c5;clear c5;simp only [Option.some.injEq,Prod.mk.injEq] at H;obtain ⟨rfl,rfl⟩:=H;go_enter Try.func15,Try.ntmps15;go_wp2;go_ret2;exact ⟨_,by first|rfl|(simp [errW_none,errW_some] <;> rfl)|(simp only [← hji4];first|rfl|(simp [errW_none,errW_some] <;> rfl))|(simp [*,errW_none,errW_some] <;> rfl),Kd.R_V (base:=w.heap.size) (by first|exact Kd.R_nil _ _ _ _ _|exact Kd.N_nil _ _ _ _ _|exact Kd.V_nil _ _ _ _ _|exact Kd.Q_nil _ _ _ _ _|exact Kd.S_nil _ _ _ _ _),by repeat (first|(with_reducible first|exact HB.out|apply below_alloc|apply pw_below_drewN|apply below_drew1)|exact HB.out)⟩
 ·
  rw [if_neg c5] at H;have c5b0:decide ((ji4) < 1)=false:=decide_eq_false c5;clear c5;obtain ⟨ji6,hji6⟩:∃ j_:Int,(mx a0 a1)=j_:=⟨_,rfl⟩
  replace H:(if (ji6) > 9 then (some (([]:List Int),1)) else (if a0=a1 then (some (([]:List Int),1)) else (if a2 < 0 then (some (([]:List Int),1)) else (if a2 > 100000 then (some (([]:List Int),1)) else ((echo_kolakoski.f k a0 a1 a2).bind fun t110=>(some (t110,0)))))))=some (r1,r2):=by first|(rw [hji6] at H;exact H)|(simp only [hji6] at H ⊢;exact H)
  have hji6_:(if a0 < a1 then a1 else a0)=ji6:=hji6
  by_cases c7:(ji6) > 9
  ·
   rw [if_pos c7] at H;have c7b0:decide (9 < (ji6))=true:=decide_eq_true c7;clear c7;simp only [Option.some.injEq,Prod.mk.injEq] at H;obtain ⟨rfl,rfl⟩:=H;go_enter Try.func15,Try.ntmps15;go_wp2;go_ret2;exact ⟨_,by first|rfl|(simp [errW_none,errW_some] <;> rfl)|(simp only [← hji4,← hji6];first|rfl|(simp [errW_none,errW_some] <;> rfl))|(simp [*,errW_none,errW_some] <;> rfl),Kd.R_V (base:=w.heap.size) (by first|exact Kd.R_nil _ _ _ _ _|exact Kd.N_nil _ _ _ _ _|exact Kd.V_nil _ _ _ _ _|exact Kd.Q_nil _ _ _ _ _|exact Kd.S_nil _ _ _ _ _),by repeat (first|(with_reducible first|exact HB.out|apply below_alloc|apply pw_below_drewN|apply below_drew1)|exact HB.out)⟩
  ·
   rw [if_neg c7] at H;have c7b0:decide (9 < (ji6))=false:=decide_eq_false c7;clear c7
   by_cases c8:a0=a1
   ·
    rw [if_pos c8] at H;have c8b0:(a0 == a1)=true:=beq_iff_eq.mpr c8;have c8b1:(a0 != a1)=false:=bne_eq_false_iff_eq.mpr c8;clear c8;simp only [Option.some.injEq,Prod.mk.injEq] at H;obtain ⟨rfl,rfl⟩:=H;go_enter Try.func15,Try.ntmps15;go_wp2;go_ret2;exact ⟨_,by first|rfl|(simp [errW_none,errW_some] <;> rfl)|(simp only [← hji4,← hji6];first|rfl|(simp [errW_none,errW_some] <;> rfl))|(simp [*,errW_none,errW_some] <;> rfl),Kd.R_V (base:=w.heap.size) (by first|exact Kd.R_nil _ _ _ _ _|exact Kd.N_nil _ _ _ _ _|exact Kd.V_nil _ _ _ _ _|exact Kd.Q_nil _ _ _ _ _|exact Kd.S_nil _ _ _ _ _),by repeat (first|(with_reducible first|exact HB.out|apply below_alloc|apply pw_below_drewN|apply below_drew1)|exact HB.out)⟩
   ·
    rw [if_neg c8] at H;have c8b0:(a0 == a1)=false:=beq_eq_false_iff_ne.mpr c8;have c8b1:(a0 != a1)=true:=bne_iff_ne.mpr c8
    by_cases c9:a2 < 0
    ·
     rw [if_pos c9] at H;have c9b0:decide (a2 < 0)=true:=decide_eq_true c9;clear c9;simp only [Option.some.injEq,Prod.mk.injEq] at H;obtain ⟨rfl,rfl⟩:=H;go_enter Try.func15,Try.ntmps15;go_wp2;go_ret2;exact ⟨_,by first|rfl|(simp [errW_none,errW_some] <;> rfl)|(simp only [← hji4,← hji6];first|rfl|(simp [errW_none,errW_some] <;> rfl))|(simp [*,errW_none,errW_some] <;> rfl),Kd.R_V (base:=w.heap.size) (by first|exact Kd.R_nil _ _ _ _ _|exact Kd.N_nil _ _ _ _ _|exact Kd.V_nil _ _ _ _ _|exact Kd.Q_nil _ _ _ _ _|exact Kd.S_nil _ _ _ _ _),by repeat (first|(with_reducible first|exact HB.out|apply below_alloc|apply pw_below_drewN|apply below_drew1)|exact HB.out)⟩
    ·
     rw [if_neg c9] at H;have c9b0:decide (a2 < 0)=false:=decide_eq_false c9;clear c9
     by_cases c10:a2 > 100000
     ·
      rw [if_pos c10] at H;have c10b0:decide (100000 < a2)=true:=decide_eq_true c10;clear c10;simp only [Option.some.injEq,Prod.mk.injEq] at H;obtain ⟨rfl,rfl⟩:=H;go_enter Try.func15,Try.ntmps15;go_wp2;go_ret2;exact ⟨_,by first|rfl|(simp [errW_none,errW_some] <;> rfl)|(simp only [← hji4,← hji6];first|rfl|(simp [errW_none,errW_some] <;> rfl))|(simp [*,errW_none,errW_some] <;> rfl),Kd.R_V (base:=w.heap.size) (by first|exact Kd.R_nil _ _ _ _ _|exact Kd.N_nil _ _ _ _ _|exact Kd.V_nil _ _ _ _ _|exact Kd.Q_nil _ _ _ _ _|exact Kd.S_nil _ _ _ _ _),by repeat (first|(with_reducible first|exact HB.out|apply below_alloc|apply pw_below_drewN|apply below_drew1)|exact HB.out)⟩
     ·
      rw [if_neg c10] at H;have c10b0:decide (100000 < a2)=false:=decide_eq_false c10;clear c10;replace H:=Option.bind_eq_some_iff.mp H;obtain ⟨t110,A110,H⟩:=H;(try dsimp only at H);have A11:=mk0 A110;clear A110;simp only [Option.some.injEq,Prod.mk.injEq] at H;obtain ⟨rfl,rfl⟩:=H;go_enter Try.func15,Try.ntmps15;go_wp2_with (first|((with_reducible refine gate_callee (f:=43) rfl ?_);refine goesL_ (some 34) rfl rfl Try.func43 (by kernel_rfl) rfl #[.int .i64 a0,.int .i64 a1,.int .i64 a2] rfl (by (try simp only [List.map_toArray,List.map_cons,List.map_nil]);first|done|rfl|(simp only [List.length_drop,List.length_take];rfl)) ?_;(with_reducible refine (echo_kolakoski.calls k a0 a1 a2 t110 _ A11.out).mono ?_);rintro e w12 ⟨v111,rfl,ho0,hb⟩;refine ⟨_,rfl,?_⟩;have HO112:=mk0 (Kd.V_lower (Kd.V_mono (ok':=fun k_=>(w.heap.size ≤ k_)) ho0 (fun k_ hk_=>(Nat.le_trans (below_size HB.out) hk_))) (below_size HB.out));replace HB:=bst HB hb;(try clear hb);(try clear ho0)));go_ret2;exact ⟨_,by first|rfl|(simp [errW_none,errW_some] <;> rfl)|(simp only [← hji4,← hji6];first|rfl|(simp [errW_none,errW_some] <;> rfl))|(simp [*,errW_none,errW_some] <;> rfl),by (with_reducible repeat (first|apply Kd.V_alloc|apply Kd.V_drewN|apply Kd.V_drew));exact HO112.out,by repeat (first|(with_reducible first|exact HB.out|apply below_alloc|apply pw_below_drewN|apply below_drew1)|exact HB.out)⟩
/-! ### echo_Golomb: function 16 -/
mutual
def echo_Golomb.j0:Nat → Int → Bool → Option (List Int × Int)
  | 0,_,_=>none
  | k + 1,x0,x11=>if x11=true then (some (([]:List Int),1)) else (echo_Golomb.l0 k x0 (([1,2,2]:List Int)) 3)
def echo_Golomb.l0:Nat → Int → List Int → Int → Option (List Int × Int)
  | 0,_,_,_=>none
  | k + 1,x0,x4,x5=>if (x4.length:Int) < x0 then (if 0 ≤ (wrap64 (x5 - 1)) then (if (wrap64 (x5 - 1)) < (x4.length:Int) then (echo_Golomb.l1 k x0 x4 x5 (rd x4 (wrap64 (x5 - 1))) 0) else (none)) else (none)) else (if 0 ≤ x0 then (if x0 ≤ (x4.length:Int) then (some ((x4.take (x0:Int).toNat),0)) else (none)) else (none))
def echo_Golomb.l1:Nat → Int → List Int → Int → Int → Int → Option (List Int × Int)
  | 0,_,_,_,_,_=>none
  | k + 1,x0,x4,x5,x23,x24=>if x24 < x23 then (if x4.length < 17592186044416 then (echo_Golomb.l1 k x0 (x4 ++ [x5]) x5 x23 (wrap64 (x24 + 1))) else (none)) else (echo_Golomb.l0 k x0 x4 (wrap64 (x5 + 1)))
end
def echo_Golomb.f (k:Nat) (a0:Int):Option (List Int × Int):=if a0 < 0 then (echo_Golomb.j0 k a0 true) else (echo_Golomb.j0 k a0 (decide (a0 > 100000)))
theorem echo_Golomb.mono_l:∀ k,(∀ y0 y1,LeO (echo_Golomb.j0 k y0 y1) (echo_Golomb.j0 (k + 1) y0 y1))∧(∀ y0 y1 y2,LeO (echo_Golomb.l0 k y0 y1 y2) (echo_Golomb.l0 (k + 1) y0 y1 y2))∧(∀ y0 y1 y2 y3 y4,LeO (echo_Golomb.l1 k y0 y1 y2 y3 y4) (echo_Golomb.l1 (k + 1) y0 y1 y2 y3 y4))
  | 0=>⟨fun _ _ r h=>by simp [echo_Golomb.j0] at h,fun _ _ _ r h=>by simp [echo_Golomb.l0] at h,fun _ _ _ _ _ r h=>by simp [echo_Golomb.l1] at h⟩
  | k + 1=>by
    obtain ⟨ih0,ih1,ih2⟩:=echo_Golomb.mono_l k
    refine ⟨?_,?_,?_⟩
    · intro y0 y1
      unfold echo_Golomb.j0
      with_reducible repeat' first|exact ih0 _ _|exact ih1 _ _ _|exact ih2 _ _ _ _ _|exact LeO.refl _|exact LeO.none _|refine LeO.ite ?_ ?_|refine LeO.bind ?_ (fun _=>?_)
    · intro y0 y1 y2
      unfold echo_Golomb.l0
      with_reducible repeat' first|exact ih0 _ _|exact ih1 _ _ _|exact ih2 _ _ _ _ _|exact LeO.refl _|exact LeO.none _|refine LeO.ite ?_ ?_|refine LeO.bind ?_ (fun _=>?_)
    · intro y0 y1 y2 y3 y4
      unfold echo_Golomb.l1
      with_reducible repeat' first|exact ih0 _ _|exact ih1 _ _ _|exact ih2 _ _ _ _ _|exact LeO.refl _|exact LeO.none _|refine LeO.ite ?_ ?_|refine LeO.bind ?_ (fun _=>?_)
theorem echo_Golomb.mono:∀ a0 k,LeO (echo_Golomb.f k a0) (echo_Golomb.f (k + 1) a0):=by
  intro a0 k
  obtain ⟨ih0,ih1,ih2⟩:=echo_Golomb.mono_l k
  unfold echo_Golomb.f
  with_reducible repeat' first|exact ih0 _ _|exact ih1 _ _ _|exact ih2 _ _ _ _ _|exact LeO.refl _|exact LeO.none _|refine LeO.ite ?_ ?_|refine LeO.bind ?_ (fun _=>?_)
set_option maxHeartbeats 8000000 in
set_option maxRecDepth 100000 in
theorem echo_Golomb.calls (k:Nat) (a0:Int) (r1:List Int) (r2:Int) (w:World) (h:echo_Golomb.f k a0=some (r1,r2)) :
    Calls Try.prog 16 #[.int .i64 a0] w fun e w'=>∃ v0_:Value,e=.returned (.tuple #[v0_,.int .i64 r2])∧Kd.V (Kd.int .i64) 3 w' w.heap.size (fun k_=>(w.heap.size ≤ k_)) v0_ r1∧Below w.heap.size w w':=by
 have HB:=mk0 (Below.refl w.heap.size w);have H:(if a0 < 0 then (echo_Golomb.j0 k a0 true) else (echo_Golomb.j0 k a0 (decide (a0 > 100000))))=some (r1,r2):=h;clear h;have HC2:=mk0 H;clear H;go_enter Try.func16,Try.ntmps16;go_upto_region 1 with (fail)
 go_cut [11] (fun v11 wc=>∃ (kq:Nat) (x11_1:Bool),v11=.bool x11_1∧Aside0 (echo_Golomb.j0 kq a0 x11_1=some (r1,r2))∧Aside0 (kq ≤ k)∧Aside0 (Below w.heap.size w wc))
 case first =>
  have H:=HC2.out;clear HC2
  by_cases c3:a0 < 0
  ·
   rw [if_pos c3] at H;have c3b0:decide (a0 < 0)=true:=decide_eq_true c3;clear c3;(first|rw [c3b0]|(simp only [i64_w,i32_w];rw [c3b0])|skip);have H':=mk0 H;clear H;go_wp2;go_meet
   case rel=>exact ⟨_,(true),(by first|rfl|(simp;done)|(simp [*];done)),H',⟨by first|omega|exact Nat.le_refl _⟩,⟨by repeat (first|(with_reducible first|exact HB.out|apply below_alloc|apply pw_below_drewN|apply below_drew1)|exact HB.out)⟩⟩
  ·
   rw [if_neg c3] at H;have c3b0:decide (a0 < 0)=false:=decide_eq_false c3;clear c3;(first|rw [c3b0]|(simp only [i64_w,i32_w];rw [c3b0])|skip);have H':=mk0 H;clear H;go_wp2;go_meet
   case rel=>exact ⟨_,(decide (a0 > 100000)),(by first|rfl|(simp;done)|(simp [*];done)),H',⟨by first|omega|exact Nat.le_refl _⟩,⟨by repeat (first|(with_reducible first|exact HB.out|apply below_alloc|apply pw_below_drewN|apply below_drew1)|exact HB.out)⟩⟩
 case rest =>
  clear HC2;try clear c1
  try clear p2
  try clear c3
  try clear c3b0
  obtain ⟨kq,x11_1,rfl,HA,HJ1,HB⟩:=hcut;cases kq with
  | zero=>exact absurd HA.out (by simp [echo_Golomb.j0])
  | succ kj1 =>
   have H:=HA.out;clear HA;simp only [echo_Golomb.j0] at H
   by_cases c4:x11_1=true
   ·
    subst c4;have H1:(some (([]:List Int),1))=some (r1,r2):=by rw [if_pos rfl] at H;exact H
    clear H;have H:=H1;clear H1;simp only [Option.some.injEq,Prod.mk.injEq] at H;obtain ⟨rfl,rfl⟩:=H;go_wp2;go_ret2;exact ⟨_,by first|rfl|(simp [errW_none,errW_some] <;> rfl)|(simp [*,errW_none,errW_some] <;> rfl),Kd.R_V (base:=w.heap.size) (by first|exact Kd.R_nil _ _ _ _ _|exact Kd.N_nil _ _ _ _ _|exact Kd.V_nil _ _ _ _ _|exact Kd.Q_nil _ _ _ _ _|exact Kd.S_nil _ _ _ _ _),by repeat (first|(with_reducible first|exact HB.out|apply below_alloc|apply pw_below_drewN|apply below_drew1)|exact HB.out)⟩
   ·
    replace c4:=Bool.eq_false_iff.mpr c4;subst c4;have H1:(echo_Golomb.l0 kj1 a0 (([1,2,2]:List Int)) 3)=some (r1,r2):=by rw [if_neg (show ¬ (false=true) by decide)] at H;exact H
    clear H;have H:=H1;clear H1;obtain ⟨y113,hy113⟩:∃ y_:List Int,y_=(([1,2,2]:List Int)):=⟨_,rfl⟩
    replace H:(echo_Golomb.l0 kj1 a0 y113 3)=some (r1,r2):=by first|(rw [hy113];with_reducible exact H)|(have H2_:=(Option.bind_some _ _).symm.trans H;rw [hy113];with_reducible exact H2_)|(have H2_:=(Option.bind_some _ _).symm.trans H;with_reducible exact H2_)|with_reducible exact H|(rw [hy113];exact H)|exact H
    have Ny113:=mk0 hy113;clear hy113;have H':=mk0 H;clear H;go_wp2_with (first|((with_reducible refine gate_dst (N:=12) rfl ?_);refine Kd.R_lit (Kd.int .i64) _ 3 ?hg (N:=12) ?hd (xs:=([1,2,2]:List Int)) (inner:=[.int .i64 1,.int .i64 2,.int .i64 2]) (ok:=fun _=>True) (okp:=fun _=>True) ?hr ?hp (fun _ hk=>hk) trivial (Below.refl _ _) (Nat.le_refl _) (by simp) ?_;(case hd=>rfl);(case hg=>rfl);(case hr=>first|(go_simp;done)|(go_simp;rfl));(case hp=>exact (Reps.one (show Kd.M (Kd.int .i64) _ _ _ 1 [.int .i64 1] from rfl) (Reps.one (show Kd.M (Kd.int .i64) _ _ _ 2 [.int .i64 2] from rfl) (Reps.one (show Kd.M (Kd.int .i64) _ _ _ 2 [.int .i64 2] from rfl) (Reps.none _ _)))));intro v114 w5 ho6 hb hg_ hnew_;clear hg_ hnew_;(first|rw [← Ny113.out] at ho6|(simp only [Int.reduceToNat] at ho6;rw [← Ny113.out] at ho6));have HO115:=mk0 (Kd.R_lower (Kd.R_newM (M:=fun k_=>(w.heap.size ≤ k_)) ho6 (below_size HB.out) (fun k_ h_=>h_)) (below_size HB.out));replace HB:=bst HB hb;clear hb ho6))
    go_loopg [4,5] kj1 (fun kq v4 v5 w'=>∃ (x4_2:List Int) (x5_2:Int),v5=.int .i64 x5_2∧Aside0 (echo_Golomb.l0 kq a0 x4_2 x5_2=some (r1,r2))∧Aside0 (kq ≤ kj1)∧Aside0 (Kd.R (Kd.int .i64) 3 w' w.heap.size (fun k_=>(w.heap.size ≤ k_)) v4 x4_2)∧Aside0 (Below w.heap.size w w'))
    case atStart=>exact ⟨(y113),(3),(by first|rfl|(simp;done)|(simp [*];done)),H',⟨Nat.le_refl _⟩,⟨by (with_reducible repeat (first|apply Kd.R_alloc|apply Kd.R_drewN|apply Kd.R_drew));exact Kd.R_mono HO115.out (fun _ hk=>hk.1)⟩,⟨by repeat (first|(with_reducible first|exact HB.out|apply below_alloc|apply pw_below_drewN|apply below_drew1)|exact HB.out)⟩⟩
    case round =>
     clear H';try clear c1
     try clear p2
     try clear c3
     try clear c3b0
     try clear c4
     try clear p2
     obtain ⟨x4_2,x5_2,rfl,HA,HK2,HO_4,HB⟩:=hrel;cases gk with
     | zero=>exact absurd HA.out (by simp [echo_Golomb.l0])
     | succ k2 =>
      have H:=HA.out;clear HA;simp only [echo_Golomb.l0] at H
      by_cases c7:(x4_2.length:Int) < a0
      ·
       rw [if_pos c7] at H;have c7b0:decide ((x4_2.length:Int) < a0)=true:=decide_eq_true c7;clear c7;obtain ⟨ji8,hji8⟩:∃ j_:Int,(wrap64 (x5_2 - 1))=j_:=⟨_,rfl⟩
       replace H:(if 0 ≤ (ji8) then (if (ji8) < (x4_2.length:Int) then (echo_Golomb.l1 k2 a0 x4_2 x5_2 (rd x4_2 (ji8)) 0) else (none)) else (none))=some (r1,r2):=by first|(rw [hji8] at H;exact H)|(simp only [hji8] at H ⊢;exact H)
       have hji8w:(IntKind.i64.wrap (x5_2 - 1))=ji8:=(i64_w _).trans hji8
       by_cases c9:0 ≤ (ji8)
       ·
        rw [if_pos c9] at H;have c9b0:decide (0 ≤ (ji8))=true:=decide_eq_true c9;clear c9
        by_cases c10:(ji8) < (x4_2.length:Int)
        ·
         rw [if_pos c10] at H;have c10b0:decide ((ji8) < (x4_2.length:Int))=true:=decide_eq_true c10;clear c10;have H':=mk0 H;clear H;obtain ⟨Ao11,co11,eo11⟩:=Kd.R_slice HO_4.out;subst eo11;have p121:0 ≤ ((ji8):Int):=of_decide_eq_true (by first|(with_reducible assumption)|assumption);have q121:(ji8) < (x4_2.length:Int):=of_decide_eq_true (by first|(with_reducible assumption)|assumption);obtain ⟨ad121,e121,hx121_0⟩:=Kd.at_int (Kd.R_reads' HO_4.out).2.2 (ji8) p121 q121;cases e121;replace p121:=eq_true p121;replace q121:=eq_true q121;go_wp2
         go_loopg [4,24] k2 (fun kq v4 v24 w'=>∃ (x4_3:List Int) (x24_3:Int),v24=.int .i64 x24_3∧Aside0 (echo_Golomb.l1 kq a0 x4_3 x5_2 (rd x4_2 (ji8)) x24_3=some (r1,r2))∧Aside0 (kq ≤ k2)∧Aside0 (Kd.R (Kd.int .i64) 3 w' w.heap.size (fun k_=>(w.heap.size ≤ k_)) v4 x4_3)∧Aside0 (Below w.heap.size w w'))
         case atStart=>exact ⟨(x4_2),(0),(by first|rfl|(simp;done)|(simp [*];done)),H',⟨Nat.le_refl _⟩,⟨by (with_reducible repeat (first|apply Kd.R_alloc|apply Kd.R_drewN|apply Kd.R_drew));exact HO_4.out⟩,⟨by repeat (first|(with_reducible first|exact HB.out|apply below_alloc|apply pw_below_drewN|apply below_drew1)|exact HB.out)⟩⟩
         case round =>
          clear H';try clear c1
          try clear p1
          try clear q1
          try clear hx1
          try clear p2
          try clear c3
          try clear c3b0
          try clear c4
          try clear p6
          try clear c7
          try clear c7b0
          try clear c9
          try clear c9b0
          try clear c10
          try clear c10b0
          try clear hx121_0
          try clear p121
          try clear p2
          try clear q121
          obtain ⟨x4_3,x24_3,rfl,HA,HK3,HO_4,HB⟩:=hrel;cases gk with
          | zero=>exact absurd HA.out (by simp [echo_Golomb.l1])
          | succ k3 =>
           have H:=HA.out;clear HA;simp only [echo_Golomb.l1] at H
           by_cases c12:x24_3 < (rd x4_2 (ji8))
           ·
            rw [if_pos c12] at H;have c12b0:decide (x24_3 < (rd x4_2 (ji8)))=true:=decide_eq_true c12;clear c12
            by_cases c13:x4_3.length < 17592186044416
            ·
             rw [if_pos c13] at H;have LMc13:=mk0 c13;clear c13;obtain ⟨y122,hy122⟩:∃ y_:List Int,y_=(x4_3 ++ [x5_2]):=⟨_,rfl⟩
             replace H:(echo_Golomb.l1 k3 a0 y122 x5_2 (rd x4_2 (ji8)) (wrap64 (x24_3 + 1)))=some (r1,r2):=by first|(rw [hy122];with_reducible exact H)|(have H2_:=(Option.bind_some _ _).symm.trans H;rw [hy122];with_reducible exact H2_)|(have H2_:=(Option.bind_some _ _).symm.trans H;with_reducible exact H2_)|with_reducible exact H|(rw [hy122];exact H)|exact H
             have Ny122:=mk0 hy122;clear hy122;have H':=mk0 H;clear H;go_wp2_with (first|((with_reducible refine gate_builtin (b:=.append) (xs:=#[.tmp 26,.tmp 28]) rfl ?_);at_builtin;refine Kd.R_append (Kd.int .i64) (w0:=w) w.heap.size rfl (.tmp 26) (.tmp 28) 22 3 (.int .i64 0) 8 rfl Try.underlying22 info3 rfl (by decide) (by omega) u4 x4_3 x5_2 [.int .i64 x5_2] (fun k_=>(w.heap.size ≤ k_)) (fun _=>False) rfl rfl ?aP (fun _ hk=>hk.elim) ?aF ?aO ?aB ?aS ?aL ?_;(case aP=>exact rfl);(case aB=>exact (by repeat (first|(with_reducible first|exact HB.out|apply below_alloc|apply pw_below_drewN|apply below_drew1)|exact HB.out)));(case aF=>exact (fun k_ hk=>(Nat.le_trans (below_size (by repeat (first|(with_reducible first|exact HB.out|apply below_alloc|apply pw_below_drewN|apply below_drew1)|exact HB.out))) hk)));(case aO=>exact (by (with_reducible repeat (first|apply Kd.R_alloc|apply Kd.R_drewN|apply Kd.R_drew));exact HO_4.out));(case aS=>exact (below_size (by repeat (first|(with_reducible first|exact HB.out|apply below_alloc|apply pw_below_drewN|apply below_drew1)|exact HB.out))));(case aL=>have:=LMc13.out;omega);intro v123 w14 ho hb hg hat;rw [← Ny122.out] at ho;have HO124:=mk0 (ho);replace HB:=mk0 (hb);clear HO_4;clear ho hb hg hat));go_roundg k3
             case measure=>have:=HJ1.out;have:=HK2.out;have:=HK3.out;omega
             case rel=>exact ⟨(y122),(wrap64 (x24_3 + 1)),(by first|rfl|(simp;done)|(simp [*];done)),H',⟨by have:=HJ1.out;have:=HK2.out;have:=HK3.out;omega⟩,⟨by (with_reducible repeat (first|apply Kd.R_alloc|apply Kd.R_drewN|apply Kd.R_drew));exact HO124.out⟩,⟨by repeat (first|(with_reducible first|exact HB.out|apply below_alloc|apply pw_below_drewN|apply below_drew1)|exact HB.out)⟩⟩
            ·
             rw [if_neg c13] at H;exact absurd H (by simp)
           ·
            rw [if_neg c12] at H;have c12b0:decide (x24_3 < (rd x4_2 (ji8)))=false:=decide_eq_false c12;clear c12;have H':=mk0 H;clear H;go_wp2;go_roundg k3
            case measure=>have:=HJ1.out;have:=HK2.out;have:=HK3.out;omega
            case rel=>exact ⟨(x4_3),(wrap64 (x5_2 + 1)),(by first|rfl|(simp;done)|(simp [*];done)),H',⟨by have:=HJ1.out;have:=HK2.out;have:=HK3.out;omega⟩,⟨by (with_reducible repeat (first|apply Kd.R_alloc|apply Kd.R_drewN|apply Kd.R_drew));exact HO_4.out⟩,⟨by repeat (first|(with_reducible first|exact HB.out|apply below_alloc|apply pw_below_drewN|apply below_drew1)|exact HB.out)⟩⟩
        ·
         rw [if_neg c10] at H;exact absurd H (by simp)
       ·
        rw [if_neg c9] at H;exact absurd H (by simp)
      ·
       rw [if_neg c7] at H;have c7b0:decide ((x4_2.length:Int) < a0)=false:=decide_eq_false c7;clear c7
       by_cases c15:0 ≤ a0
       ·
        rw [if_pos c15] at H;have c15b0:=eq_true c15;have c15b1:decide (0 ≤ a0)=true:=decide_eq_true c15;clear c15
        by_cases c16:a0 ≤ (x4_2.length:Int)
        ·
         rw [if_pos c16] at H;have c16b0:=eq_true c16;have c16b1:decide (a0 ≤ (x4_2.length:Int))=true:=decide_eq_true c16;clear c16;obtain ⟨y116,hy116⟩:∃ y_:List Int,y_=(x4_2.take (a0:Int).toNat):=⟨_,rfl⟩
         replace H:(some (y116,0))=some (r1,r2):=by first|(rw [hy116];with_reducible exact H)|(have H2_:=(Option.bind_some _ _).symm.trans H;rw [hy116];with_reducible exact H2_)|(have H2_:=(Option.bind_some _ _).symm.trans H;with_reducible exact H2_)|with_reducible exact H|(rw [hy116];exact H)|exact H
         have Ny116:=mk0 hy116;clear hy116;simp only [Option.some.injEq,Prod.mk.injEq] at H;obtain ⟨rfl,rfl⟩:=H;obtain ⟨Ao17,co17,eo17⟩:=Kd.R_slice HO_4.out;subst eo17;have q18:(a0:Int) ≤ ((x4_2.length:Int):Int):=of_decide_eq_true (by first|(with_reducible assumption)|assumption);obtain ⟨i018,hi018,_,hsz18,_⟩:=info_parts info3;have hroom18:x4_2.length ≤ co17:=(Kd.R_reads' HO_4.out).2.1;have hC18:Kd.F (Kd.int .i64) _ _ Ao17 x4_2.length x4_2:=(Kd.V_at (base:=w.heap.size) (Kd.R_V HO_4.out)).2.2;have hcut18:=Go.Proofs.MyWords.cut_to_m (P:=Try.prog) 22 3 .i64 .i64 Try.underlying22 hi018 Ao17 x4_2.length co17 a0 (of_decide_eq_true (by first|(with_reducible assumption)|assumption)) q18 hroom18;have hr18:=Kd.F_take (m:=(a0:Int).toNat) hC18 (by omega);have hy18:y116.length=(a0:Int).toNat:=(by rw [Ny116.out,List.length_take];omega)
         rw [← Ny116.out] at hr18;rw [← hy18] at hcut18;have HO120:=mk0 (show Kd.V (Kd.int .i64) 3 _ w.heap.size _ (.slice Ao17 y116.length y116.length) y116 from Kd.V_mk (Nat.le_refl _) hr18);have HC120:=mk0 (show y116.length ≤ y116.length from Nat.le_refl _);clear hr18 hC18 hroom18 hi018 hsz18;have KY18:=mk0 hy18;clear hy18;replace q18:=eq_true q18;go_wp2;go_ret2;exact ⟨_,by first|rfl|(simp [errW_none,errW_some] <;> rfl)|(simp [*,errW_none,errW_some] <;> rfl),by (with_reducible repeat (first|apply Kd.V_alloc|apply Kd.V_drewN|apply Kd.V_drew));exact HO120.out,by repeat (first|(with_reducible first|exact HB.out|apply below_alloc|apply pw_below_drewN|apply below_drew1)|exact HB.out)⟩
        ·
         rw [if_neg c16] at H;exact absurd H (by simp)
       ·
        rw [if_neg c15] at H;exact absurd H (by simp)
/-! ### echo_Ones: function 17 -/
mutual
def echo_Ones.j0:Nat → Int → Bool → Option (Int × Int)
  | 0,_,_=>none
  | k + 1,x0,x12=>if x12=true then (some (0,1)) else ((echo_kolakoski.f k 1 2 x0).bind fun t125=>(echo_Ones.l0 k 0 t125 (t125.length:Int) 0))
def echo_Ones.l0:Nat → Int → List Int → Int → Int → Option (Int × Int)
  | 0,_,_,_,_=>none
  | k + 1,x4,x14,x15,x16=>if x16 < x15 then (if 0 ≤ x16 then (if x16 < (x14.length:Int) then (if (rd x14 x16)=1 then (echo_Ones.l0 k (wrap64 (x4 + 1)) x14 x15 (wrap64 (x16 + 1))) else (echo_Ones.l0 k x4 x14 x15 (wrap64 (x16 + 1)))) else (none)) else (none)) else (some (x4,0))
end
def echo_Ones.f (k:Nat) (a0:Int):Option (Int × Int):=if a0 < 0 then (echo_Ones.j0 k a0 true) else (echo_Ones.j0 k a0 (decide (a0 > 100000)))
theorem echo_Ones.mono_l:∀ k,(∀ y0 y1,LeO (echo_Ones.j0 k y0 y1) (echo_Ones.j0 (k + 1) y0 y1))∧(∀ y0 y1 y2 y3,LeO (echo_Ones.l0 k y0 y1 y2 y3) (echo_Ones.l0 (k + 1) y0 y1 y2 y3))
  | 0=>⟨fun _ _ r h=>by simp [echo_Ones.j0] at h,fun _ _ _ _ r h=>by simp [echo_Ones.l0] at h⟩
  | k + 1=>by
    obtain ⟨ih0,ih1⟩:=echo_Ones.mono_l k
    refine ⟨?_,?_⟩
    · intro y0 y1
      unfold echo_Ones.j0
      with_reducible repeat' first|exact ih0 _ _|exact ih1 _ _ _ _|exact echo_kolakoski.mono _ _ _ _|exact LeO.refl _|exact LeO.none _|refine LeO.ite ?_ ?_|refine LeO.bind ?_ (fun _=>?_)
    · intro y0 y1 y2 y3
      unfold echo_Ones.l0
      with_reducible repeat' first|exact ih0 _ _|exact ih1 _ _ _ _|exact echo_kolakoski.mono _ _ _ _|exact LeO.refl _|exact LeO.none _|refine LeO.ite ?_ ?_|refine LeO.bind ?_ (fun _=>?_)
theorem echo_Ones.mono:∀ a0 k,LeO (echo_Ones.f k a0) (echo_Ones.f (k + 1) a0):=by
  intro a0 k
  obtain ⟨ih0,ih1⟩:=echo_Ones.mono_l k
  unfold echo_Ones.f
  with_reducible repeat' first|exact ih0 _ _|exact ih1 _ _ _ _|exact echo_kolakoski.mono _ _ _ _|exact LeO.refl _|exact LeO.none _|refine LeO.ite ?_ ?_|refine LeO.bind ?_ (fun _=>?_)
set_option maxHeartbeats 8000000 in
set_option maxRecDepth 100000 in
theorem echo_Ones.calls (k:Nat) (a0:Int) (r1:Int) (r2:Int) (w:World) (h:echo_Ones.f k a0=some (r1,r2)) :
    Calls Try.prog 17 #[.int .i64 a0] w fun e w'=>e=.returned (.tuple #[.int .i64 r1,.int .i64 r2])∧Below w.heap.size w w':=by
 have HB:=mk0 (Below.refl w.heap.size w);have H:(if a0 < 0 then (echo_Ones.j0 k a0 true) else (echo_Ones.j0 k a0 (decide (a0 > 100000))))=some (r1,r2):=h;clear h;have HC2:=mk0 H;clear H;go_enter Try.func17,Try.ntmps17;go_upto_region 1 with (fail)
 go_cut [12] (fun v12 wc=>∃ (kq:Nat) (x12_1:Bool),v12=.bool x12_1∧Aside0 (echo_Ones.j0 kq a0 x12_1=some (r1,r2))∧Aside0 (kq ≤ k)∧Aside0 (Below w.heap.size w wc))
 case first =>
  have H:=HC2.out;clear HC2
  by_cases c3:a0 < 0
  ·
   rw [if_pos c3] at H;have c3b0:decide (a0 < 0)=true:=decide_eq_true c3;clear c3;(first|rw [c3b0]|(simp only [i64_w,i32_w];rw [c3b0])|skip);have H':=mk0 H;clear H;go_wp2;go_meet
   case rel=>exact ⟨_,(true),(by first|rfl|(simp;done)|(simp [*];done)),H',⟨by first|omega|exact Nat.le_refl _⟩,⟨by repeat (first|(with_reducible first|exact HB.out|apply below_alloc|apply pw_below_drewN|apply below_drew1)|exact HB.out)⟩⟩
  ·
   rw [if_neg c3] at H;have c3b0:decide (a0 < 0)=false:=decide_eq_false c3;clear c3;(first|rw [c3b0]|(simp only [i64_w,i32_w];rw [c3b0])|skip);have H':=mk0 H;clear H;go_wp2;go_meet
   case rel=>exact ⟨_,(decide (a0 > 100000)),(by first|rfl|(simp;done)|(simp [*];done)),H',⟨by first|omega|exact Nat.le_refl _⟩,⟨by repeat (first|(with_reducible first|exact HB.out|apply below_alloc|apply pw_below_drewN|apply below_drew1)|exact HB.out)⟩⟩
 case rest =>
  clear HC2;try clear c1
  try clear p2
  try clear c3
  try clear c3b0
  obtain ⟨kq,x12_1,rfl,HA,HJ1,HB⟩:=hcut;cases kq with
  | zero=>exact absurd HA.out (by simp [echo_Ones.j0])
  | succ kj1 =>
   have H:=HA.out;clear HA;simp only [echo_Ones.j0] at H
   by_cases c4:x12_1=true
   ·
    subst c4;have H1:(some (0,1))=some (r1,r2):=by rw [if_pos rfl] at H;exact H
    clear H;have H:=H1;clear H1;simp only [Option.some.injEq,Prod.mk.injEq] at H;obtain ⟨rfl,rfl⟩:=H;go_wp2;go_ret2;exact ⟨by first|rfl|(simp [errW_none,errW_some] <;> rfl)|(simp [*,errW_none,errW_some] <;> rfl),by repeat (first|(with_reducible first|exact HB.out|apply below_alloc|apply pw_below_drewN|apply below_drew1)|exact HB.out)⟩
   ·
    replace c4:=Bool.eq_false_iff.mpr c4;subst c4;have H1:((echo_kolakoski.f kj1 1 2 a0).bind fun t125=>(echo_Ones.l0 kj1 0 t125 (t125.length:Int) 0))=some (r1,r2):=by rw [if_neg (show ¬ (false=true) by decide)] at H;exact H
    clear H;have H:=H1;clear H1;replace H:=Option.bind_eq_some_iff.mp H;obtain ⟨t125,A50,H⟩:=H;(try dsimp only at H);have A5:=mk0 A50;clear A50;have H':=mk0 H;clear H;go_wp2_with (first|((with_reducible refine gate_callee (f:=43) rfl ?_);refine goesL_ (some 14) rfl rfl Try.func43 (by kernel_rfl) rfl #[.int .i64 1,.int .i64 2,.int .i64 a0] rfl (by (try simp only [List.map_toArray,List.map_cons,List.map_nil]);first|done|rfl|(simp only [List.length_drop,List.length_take];rfl)) ?_;(with_reducible refine (echo_kolakoski.calls kj1 1 2 a0 t125 _ A5.out).mono ?_);rintro e w6 ⟨v126,rfl,ho0,hb⟩;refine ⟨_,rfl,?_⟩;have HO127:=mk0 (Kd.V_lower (Kd.V_mono (ok':=fun k_=>True) ho0 (fun k_ hk_=>trivial)) (below_size HB.out));replace HB:=bst HB hb;(try clear hb);(try clear ho0);obtain ⟨Ao7,co7,eo7⟩:=Kd.V_slice HO127.out;subst eo7))
    go_loopg [4,16] kj1 (fun kq v4 v16 w'=>∃ (x4_2:Int) (x16_2:Int),v4=.int .i64 x4_2∧v16=.int .i64 x16_2∧Aside0 (echo_Ones.l0 kq x4_2 t125 (t125.length:Int) x16_2=some (r1,r2))∧Aside0 (kq ≤ kj1)∧Aside0 (Kd.V (Kd.int .i64) 3 w' w.heap.size (fun _=>True) (.slice Ao7 t125.length co7) t125)∧Aside0 (Below w.heap.size w w'))
    case atStart=>exact ⟨(0),(0),(by first|rfl|(simp;done)|(simp [*];done)),(by first|rfl|(simp;done)|(simp [*];done)),H',⟨Nat.le_refl _⟩,⟨by (with_reducible repeat (first|apply Kd.V_alloc|apply Kd.V_drewN|apply Kd.V_drew));exact HO127.out⟩,⟨by repeat (first|(with_reducible first|exact HB.out|apply below_alloc|apply pw_below_drewN|apply below_drew1)|exact HB.out)⟩⟩
    case round =>
     clear H';try clear c1
     try clear p2
     try clear c3
     try clear c3b0
     try clear c4
     try clear p2
     obtain ⟨x4_2,x16_2,rfl,rfl,HA,HK2,HO_14,HB⟩:=hrel;cases gk with
     | zero=>exact absurd HA.out (by simp [echo_Ones.l0])
     | succ k2 =>
      have H:=HA.out;clear HA;simp only [echo_Ones.l0] at H
      by_cases c8:x16_2 < (t125.length:Int)
      ·
       rw [if_pos c8] at H;have c8b0:decide (x16_2 < (t125.length:Int))=true:=decide_eq_true c8;clear c8
       by_cases c9:0 ≤ x16_2
       ·
        rw [if_pos c9] at H;have c9b0:decide (0 ≤ x16_2)=true:=decide_eq_true c9;clear c9
        by_cases c10:x16_2 < (t125.length:Int)
        ·
         rw [if_pos c10] at H;have c10b0:decide (x16_2 < (t125.length:Int))=true:=decide_eq_true c10;clear c10
         by_cases c11:(rd t125 x16_2)=1
         ·
          rw [if_pos c11] at H;have c11b0:((rd t125 x16_2) == 1)=true:=beq_iff_eq.mpr c11;have c11b1:((rd t125 x16_2) != 1)=false:=bne_eq_false_iff_eq.mpr c11;clear c11;have H':=mk0 H;clear H;have p128:0 ≤ (x16_2:Int):=of_decide_eq_true (by first|(with_reducible assumption)|assumption);have q128:x16_2 < (t125.length:Int):=of_decide_eq_true (by first|(with_reducible assumption)|assumption);obtain ⟨ad128,e128,hx128_0⟩:=Kd.at_int (Kd.V_reads' HO_14.out).2.2 x16_2 p128 q128;cases e128;replace p128:=eq_true p128;replace q128:=eq_true q128;go_wp2;go_roundg k2
          case measure=>have:=HJ1.out;have:=HK2.out;omega
          case rel=>exact ⟨(wrap64 (x4_2 + 1)),(wrap64 (x16_2 + 1)),(by first|rfl|(simp;done)|(simp [*];done)),(by first|rfl|(simp;done)|(simp [*];done)),H',⟨by have:=HJ1.out;have:=HK2.out;omega⟩,⟨by (with_reducible repeat (first|apply Kd.V_alloc|apply Kd.V_drewN|apply Kd.V_drew));exact HO_14.out⟩,⟨by repeat (first|(with_reducible first|exact HB.out|apply below_alloc|apply pw_below_drewN|apply below_drew1)|exact HB.out)⟩⟩
         ·
          rw [if_neg c11] at H;have c11b0:((rd t125 x16_2) == 1)=false:=beq_eq_false_iff_ne.mpr c11;have c11b1:((rd t125 x16_2) != 1)=true:=bne_iff_ne.mpr c11;have H':=mk0 H;clear H;have p128:0 ≤ (x16_2:Int):=of_decide_eq_true (by first|(with_reducible assumption)|assumption);have q128:x16_2 < (t125.length:Int):=of_decide_eq_true (by first|(with_reducible assumption)|assumption);obtain ⟨ad128,e128,hx128_0⟩:=Kd.at_int (Kd.V_reads' HO_14.out).2.2 x16_2 p128 q128;cases e128;replace p128:=eq_true p128;replace q128:=eq_true q128;go_wp2;go_roundg k2
          case measure=>have:=HJ1.out;have:=HK2.out;omega
          case rel=>exact ⟨(x4_2),(wrap64 (x16_2 + 1)),(by first|rfl|(simp;done)|(simp [*];done)),(by first|rfl|(simp;done)|(simp [*];done)),H',⟨by have:=HJ1.out;have:=HK2.out;omega⟩,⟨by (with_reducible repeat (first|apply Kd.V_alloc|apply Kd.V_drewN|apply Kd.V_drew));exact HO_14.out⟩,⟨by repeat (first|(with_reducible first|exact HB.out|apply below_alloc|apply pw_below_drewN|apply below_drew1)|exact HB.out)⟩⟩
        ·
         rw [if_neg c10] at H;exact absurd H (by simp)
       ·
        rw [if_neg c9] at H;exact absurd H (by simp)
      ·
       rw [if_neg c8] at H;have c8b0:decide (x16_2 < (t125.length:Int))=false:=decide_eq_false c8;clear c8;simp only [Option.some.injEq,Prod.mk.injEq] at H;obtain ⟨rfl,rfl⟩:=H;go_wp2;go_ret2;exact ⟨by first|rfl|(simp [errW_none,errW_some] <;> rfl)|(simp [*,errW_none,errW_some] <;> rfl),by repeat (first|(with_reducible first|exact HB.out|apply below_alloc|apply pw_below_drewN|apply below_drew1)|exact HB.out)⟩
/-! ### bellpullref01_Before: function 42 -/
mutual
def bellpullref01_Before.l0:Nat → List Int → List Int → Int → Option (Bool)
  | 0,_,_,_=>none
  | k + 1,x0,x1,x5=>if x5 < (x0.length:Int) then (bellpullref01_Before.j1 k x0 x1 x5 (decide (x5 < (x1.length:Int)))) else (bellpullref01_Before.j1 k x0 x1 x5 false)
def bellpullref01_Before.j1:Nat → List Int → List Int → Int → Bool → Option (Bool)
  | 0,_,_,_,_=>none
  | k + 1,x0,x1,x5,x15=>if x15=true then (if 0 ≤ x5 then (if x5 < (x0.length:Int) then (if x5 < (x1.length:Int) then (if (rd x0 x5)=(rd x1 x5) then (bellpullref01_Before.l0 k x0 x1 (wrap64 (x5 + 1))) else (some (decide ((rd x0 x5) < (rd x1 x5))))) else (none)) else (none)) else (none)) else (some (decide ((x0.length:Int) < (x1.length:Int))))
end
def bellpullref01_Before.f (k:Nat) (l0:List Int) (l1:List Int):Option (Bool):=bellpullref01_Before.l0 k l0 l1 0
theorem bellpullref01_Before.mono_l:∀ k,(∀ y0 y1 y2,LeO (bellpullref01_Before.l0 k y0 y1 y2) (bellpullref01_Before.l0 (k + 1) y0 y1 y2))∧(∀ y0 y1 y2 y3,LeO (bellpullref01_Before.j1 k y0 y1 y2 y3) (bellpullref01_Before.j1 (k + 1) y0 y1 y2 y3))
  | 0=>⟨fun _ _ _ r h=>by simp [bellpullref01_Before.l0] at h,fun _ _ _ _ r h=>by simp [bellpullref01_Before.j1] at h⟩
  | k + 1=>by
    obtain ⟨ih0,ih1⟩:=bellpullref01_Before.mono_l k
    refine ⟨?_,?_⟩
    · intro y0 y1 y2
      unfold bellpullref01_Before.l0
      with_reducible repeat' first|exact ih0 _ _ _|exact ih1 _ _ _ _|exact LeO.refl _|exact LeO.none _|refine LeO.ite ?_ ?_|refine LeO.bind ?_ (fun _=>?_)
    · intro y0 y1 y2 y3
      unfold bellpullref01_Before.j1
      with_reducible repeat' first|exact ih0 _ _ _|exact ih1 _ _ _ _|exact LeO.refl _|exact LeO.none _|refine LeO.ite ?_ ?_|refine LeO.bind ?_ (fun _=>?_)
theorem bellpullref01_Before.mono:∀ a0 a1 k,LeO (bellpullref01_Before.f k a0 a1) (bellpullref01_Before.f (k + 1) a0 a1):=by
  intro a0 a1 k
  obtain ⟨ih0,ih1⟩:=bellpullref01_Before.mono_l k
  unfold bellpullref01_Before.f
  with_reducible repeat' first|exact ih0 _ _ _|exact ih1 _ _ _ _|exact LeO.refl _|exact LeO.none _|refine LeO.ite ?_ ?_|refine LeO.bind ?_ (fun _=>?_)
set_option maxHeartbeats 8000000 in
set_option maxRecDepth 100000 in
theorem bellpullref01_Before.calls (k:Nat) (A0:Option Addr) (c0:Nat) (l0:List Int) (A1:Option Addr) (c1:Nat) (l1:List Int) (r:Bool) (w:World) (hr0:Kd.C (Kd.int .i64) w A0 l0.length l0) (hc0:l0.length ≤ c0) (hr1:Kd.C (Kd.int .i64) w A1 l1.length l1) (hc1:l1.length ≤ c1) (h:bellpullref01_Before.f k l0 l1=some r) :
    Calls Try.prog 42 #[.slice A0 l0.length c0,.slice A1 l1.length c1] w fun e w'=>e=.returned (.bool r)∧Drawn0 w w':=by
 have HR0:=mk0 hr0;have HC0:=mk0 hc0;clear hr0 hc0;have HR1:=mk0 hr1;have HC1:=mk0 hc1;clear hr1 hc1;have H:(bellpullref01_Before.l0 k l0 l1 0)=some r:=h;clear h;have H':=mk0 H;clear H;go_enter Try.func42,Try.ntmps42;go_wp2;repeat (go_quiet (fail);try go_wp2)
 go_loopg [5] k (fun kq v5 w'=>∃ (x5_1:Int),v5=.int .i64 x5_1∧Aside0 (bellpullref01_Before.l0 kq l0 l1 x5_1=some r)∧Aside0 (kq ≤ k)∧Drawn0 w w')
 case atStart=>exact ⟨(0),(by first|rfl|(simp;done)|(simp [*];done)),H',⟨Nat.le_refl _⟩,by repeat (first|exact Drawn0.refl _|apply Drawn0.step)⟩
 case round =>
  clear H';try clear c1
  try clear p2
  obtain ⟨x5_1,rfl,HA,HK1,⟨m1,rfl⟩⟩:=hrel;cases gk with
  | zero=>exact absurd HA.out (by simp [bellpullref01_Before.l0])
  | succ k1 =>
   have H:=HA.out;clear HA;simp only [bellpullref01_Before.l0] at H;have HC3:=mk0 H;clear H;go_upto_region 2 with (fail);repeat (go_quiet (fail);go_upto_region 2 with (fail))
   go_cut [15] (fun v15 wc=>∃ (kq:Nat) (x15_2:Bool),v15=.bool x15_2∧Aside0 (bellpullref01_Before.j1 kq l0 l1 x5_1 x15_2=some r)∧Aside0 (kq ≤ k1)∧Drawn0 w wc)
   case first =>
    have H:=HC3.out;clear HC3
    by_cases c4:x5_1 < (l0.length:Int)
    ·
     rw [if_pos c4] at H;have c4b0:decide (x5_1 < (l0.length:Int))=true:=decide_eq_true c4;clear c4;(first|rw [c4b0]|(simp only [i64_w,i32_w];rw [c4b0])|skip);have H':=mk0 H;clear H;go_wp2;repeat (go_quiet (fail);try go_wp2)
     go_meet
     case rel=>exact ⟨_,(decide (x5_1 < (l1.length:Int))),(by first|rfl|(simp;done)|(simp [*];done)),H',⟨by have:=HK1.out;first|omega|exact Nat.le_refl _⟩,by repeat (first|exact Drawn0.refl _|apply Drawn0.step)⟩
    ·
     rw [if_neg c4] at H;have c4b0:decide (x5_1 < (l0.length:Int))=false:=decide_eq_false c4;clear c4;(first|rw [c4b0]|(simp only [i64_w,i32_w];rw [c4b0])|skip);have H':=mk0 H;clear H;go_wp2;repeat (go_quiet (fail);try go_wp2)
     go_meet
     case rel=>exact ⟨_,(false),(by first|rfl|(simp;done)|(simp [*];done)),H',⟨by have:=HK1.out;first|omega|exact Nat.le_refl _⟩,by repeat (first|exact Drawn0.refl _|apply Drawn0.step)⟩
   case rest =>
    clear HC3;try clear c1
    try clear p2
    try clear c4
    try clear c4b0
    try clear p2
    obtain ⟨kq,x15_2,rfl,HA,HJ2,⟨mc2,rfl⟩⟩:=hcut;cases kq with
    | zero=>exact absurd HA.out (by simp [bellpullref01_Before.j1])
    | succ kj2 =>
     have H:=HA.out;clear HA;simp only [bellpullref01_Before.j1] at H
     by_cases c5:x15_2=true
     ·
      subst c5;have H1:(if 0 ≤ x5_1 then (if x5_1 < (l0.length:Int) then (if x5_1 < (l1.length:Int) then (if (rd l0 x5_1)=(rd l1 x5_1) then (bellpullref01_Before.l0 kj2 l0 l1 (wrap64 (x5_1 + 1))) else (some (decide ((rd l0 x5_1) < (rd l1 x5_1))))) else (none)) else (none)) else (none))=some r:=by rw [if_pos rfl] at H;exact H
      clear H;have H:=H1;clear H1
      by_cases c6:0 ≤ x5_1
      ·
       rw [if_pos c6] at H;have c6b0:decide (0 ≤ x5_1)=true:=decide_eq_true c6;clear c6
       by_cases c7:x5_1 < (l0.length:Int)
       ·
        rw [if_pos c7] at H;have c7b0:decide (x5_1 < (l0.length:Int))=true:=decide_eq_true c7;clear c7
        by_cases c8:x5_1 < (l1.length:Int)
        ·
         rw [if_pos c8] at H;have c8b0:decide (x5_1 < (l1.length:Int))=true:=decide_eq_true c8;clear c8
         by_cases c9:(rd l0 x5_1)=(rd l1 x5_1)
         ·
          rw [if_pos c9] at H;have c9b0:((rd l0 x5_1) == (rd l1 x5_1))=true:=beq_iff_eq.mpr c9;have c9b1:((rd l0 x5_1) != (rd l1 x5_1))=false:=bne_eq_false_iff_eq.mpr c9;clear c9;have H':=mk0 H;clear H;have p129:0 ≤ (x5_1:Int):=of_decide_eq_true (by first|(with_reducible assumption)|assumption);have q129:x5_1 < (l0.length:Int):=of_decide_eq_true (by first|(with_reducible assumption)|assumption);obtain ⟨ad129,e129,hx129_0⟩:=Kd.at_int HR0.out x5_1 p129 q129;cases e129;replace p129:=eq_true p129;replace q129:=eq_true q129;have p130:0 ≤ (x5_1:Int):=of_decide_eq_true (by first|(with_reducible assumption)|assumption);have q130:x5_1 < (l1.length:Int):=of_decide_eq_true (by first|(with_reducible assumption)|assumption);obtain ⟨ad130,e130,hx130_0⟩:=Kd.at_int HR1.out x5_1 p130 q130;cases e130;replace p130:=eq_true p130;replace q130:=eq_true q130;go_wp2;repeat (go_quiet (fail);try go_wp2)
          go_roundg kj2
          case measure=>have:=HK1.out;have:=HJ2.out;omega
          case rel=>exact ⟨(wrap64 (x5_1 + 1)),(by first|rfl|(simp;done)|(simp [*];done)),H',⟨by have:=HK1.out;have:=HJ2.out;omega⟩,by repeat (first|exact Drawn0.refl _|apply Drawn0.step)⟩
         ·
          rw [if_neg c9] at H;have c9b0:((rd l0 x5_1) == (rd l1 x5_1))=false:=beq_eq_false_iff_ne.mpr c9;have c9b1:((rd l0 x5_1) != (rd l1 x5_1))=true:=bne_iff_ne.mpr c9;obtain rfl:=Option.some.inj H;have p129:0 ≤ (x5_1:Int):=of_decide_eq_true (by first|(with_reducible assumption)|assumption);have q129:x5_1 < (l0.length:Int):=of_decide_eq_true (by first|(with_reducible assumption)|assumption);obtain ⟨ad129,e129,hx129_0⟩:=Kd.at_int HR0.out x5_1 p129 q129;cases e129;replace p129:=eq_true p129;replace q129:=eq_true q129;have p130:0 ≤ (x5_1:Int):=of_decide_eq_true (by first|(with_reducible assumption)|assumption);have q130:x5_1 < (l1.length:Int):=of_decide_eq_true (by first|(with_reducible assumption)|assumption);obtain ⟨ad130,e130,hx130_0⟩:=Kd.at_int HR1.out x5_1 p130 q130;cases e130;replace p130:=eq_true p130;replace q130:=eq_true q130;have p131:0 ≤ (x5_1:Int):=of_decide_eq_true (by first|(with_reducible assumption)|assumption);have q131:x5_1 < (l0.length:Int):=of_decide_eq_true (by first|(with_reducible assumption)|assumption);obtain ⟨ad131,e131,hx131_0⟩:=Kd.at_int HR0.out x5_1 p131 q131;obtain rfl:ad129=ad131:=(by injection e131)
          replace p131:=eq_true p131;replace q131:=eq_true q131;have p132:0 ≤ (x5_1:Int):=of_decide_eq_true (by first|(with_reducible assumption)|assumption);have q132:x5_1 < (l1.length:Int):=of_decide_eq_true (by first|(with_reducible assumption)|assumption);obtain ⟨ad132,e132,hx132_0⟩:=Kd.at_int HR1.out x5_1 p132 q132;obtain rfl:ad130=ad132:=(by injection e132)
          replace p132:=eq_true p132;replace q132:=eq_true q132;go_wp2;repeat (go_quiet (fail);try go_wp2)
          go_ret;exact ⟨by first|rfl|(simp;done)|(simp [*];done),by repeat (first|exact Drawn0.refl _|apply Drawn0.step)⟩
        ·
         rw [if_neg c8] at H;exact absurd H (by simp)
       ·
        rw [if_neg c7] at H;exact absurd H (by simp)
      ·
       rw [if_neg c6] at H;exact absurd H (by simp)
     ·
      replace c5:=Bool.eq_false_iff.mpr c5;subst c5;have H1:(some (decide ((l0.length:Int) < (l1.length:Int))))=some r:=by rw [if_neg (show ¬ (false=true) by decide)] at H;exact H
      clear H;have H:=H1;clear H1;obtain rfl:=Option.some.inj H;go_wp2;repeat (go_quiet (fail);try go_wp2)
      go_ret;exact ⟨by first|rfl|(simp;done)|(simp [*];done),by repeat (first|exact Drawn0.refl _|apply Drawn0.step)⟩
/-! ### bellpullref01_Same: function 20 -/
def bellpullref01_Same.f (k:Nat) (l0:List Int) (l1:List Int):Option (Bool):=(bellpullref01_Before.f k l0 l1).bind fun t133=>(if t133=true then (some false) else ((bellpullref01_Before.f k l1 l0).bind fun t134=>(some (!t134))))
theorem bellpullref01_Same.mono:∀ a0 a1 k,LeO (bellpullref01_Same.f k a0 a1) (bellpullref01_Same.f (k + 1) a0 a1):=by
  intro a0 a1 k
  unfold bellpullref01_Same.f
  with_reducible repeat' first|exact bellpullref01_Before.mono _ _ _|exact LeO.refl _|exact LeO.none _|refine LeO.ite ?_ ?_|refine LeO.bind ?_ (fun _=>?_)
set_option maxHeartbeats 8000000 in
set_option maxRecDepth 100000 in
theorem bellpullref01_Same.calls (k:Nat) (A0:Option Addr) (c0:Nat) (l0:List Int) (A1:Option Addr) (c1:Nat) (l1:List Int) (r:Bool) (w:World) (hr0:Kd.C (Kd.int .i64) w A0 l0.length l0) (hc0:l0.length ≤ c0) (hr1:Kd.C (Kd.int .i64) w A1 l1.length l1) (hc1:l1.length ≤ c1) (h:bellpullref01_Same.f k l0 l1=some r) :
    Calls Try.prog 20 #[.slice A0 l0.length c0,.slice A1 l1.length c1] w fun e w'=>e=.returned (.bool r)∧Drawn0 w w':=by
 have HR0:=mk0 hr0;have HC0:=mk0 hc0;clear hr0 hc0;have HR1:=mk0 hr1;have HC1:=mk0 hc1;clear hr1 hc1;have H:((bellpullref01_Before.f k l0 l1).bind fun t133=>(if t133=true then (some false) else ((bellpullref01_Before.f k l1 l0).bind fun t134=>(some (!t134)))))=some r:=h;clear h;replace H:=Option.bind_eq_some_iff.mp H;obtain ⟨t133,A30,H⟩:=H;(try dsimp only at H);have A3:=mk0 A30;clear A30
 by_cases c4:t133=true
 ·
  subst c4;have H1:(some false)=some r:=by rw [if_pos rfl] at H;exact H
  clear H;have H:=H1;clear H1;obtain rfl:=Option.some.inj H;go_enter Try.func20,Try.ntmps20;go_wp2_with (first|((with_reducible refine gate_callee (f:=42) rfl ?_);refine goesL_ (some 7) rfl rfl Try.func42 (by kernel_rfl) rfl #[.slice A0 l0.length c0,.slice A1 l1.length c1] rfl (by (try simp only [List.map_toArray,List.map_cons,List.map_nil]);first|done|rfl|(simp only [List.length_drop,List.length_take];rfl)) ?_;(with_reducible refine (bellpullref01_Before.calls k _ _ l0 _ _ l1 true _ ?side1 ?side2 ?side3 ?side4 A3.out).mono ?_);(case side1=>repeat (first|exact HR0.out|(with_reducible refine Kd.C_alloc ?_ _)|(with_reducible refine Kd.C_drewN ?_ _)|(with_reducible refine Kd.C_drew ?_)));(case side2=>exact HC0.out);(case side3=>repeat (first|exact HR1.out|(with_reducible refine Kd.C_alloc ?_ _)|(with_reducible refine Kd.C_drewN ?_ _)|(with_reducible refine Kd.C_drew ?_)));(case side4=>exact HC1.out);rintro e w' ⟨rfl,⟨nd,rfl⟩⟩;refine ⟨_,rfl,?_⟩));go_ret;exact ⟨by first|rfl|(simp;done)|(simp [*];done),by repeat (first|exact Drawn0.refl _|apply Drawn0.step)⟩
 ·
  replace c4:=Bool.eq_false_iff.mpr c4;subst c4;have H1:((bellpullref01_Before.f k l1 l0).bind fun t134=>(some (!t134)))=some r:=by rw [if_neg (show ¬ (false=true) by decide)] at H;exact H
  clear H;have H:=H1;clear H1;replace H:=Option.bind_eq_some_iff.mp H;obtain ⟨t134,A50,H⟩:=H;(try dsimp only at H);have A5:=mk0 A50;clear A50;obtain rfl:=Option.some.inj H;go_enter Try.func20,Try.ntmps20;go_wp2_with (first|((with_reducible refine gate_callee (f:=42) rfl ?_);refine goesL_ (some 7) rfl rfl Try.func42 (by kernel_rfl) rfl #[.slice A0 l0.length c0,.slice A1 l1.length c1] rfl (by (try simp only [List.map_toArray,List.map_cons,List.map_nil]);first|done|rfl|(simp only [List.length_drop,List.length_take];rfl)) ?_;(with_reducible refine (bellpullref01_Before.calls k _ _ l0 _ _ l1 false _ ?side1 ?side2 ?side3 ?side4 A3.out).mono ?_);(case side1=>repeat (first|exact HR0.out|(with_reducible refine Kd.C_alloc ?_ _)|(with_reducible refine Kd.C_drewN ?_ _)|(with_reducible refine Kd.C_drew ?_)));(case side2=>exact HC0.out);(case side3=>repeat (first|exact HR1.out|(with_reducible refine Kd.C_alloc ?_ _)|(with_reducible refine Kd.C_drewN ?_ _)|(with_reducible refine Kd.C_drew ?_)));(case side4=>exact HC1.out);rintro e w' ⟨rfl,⟨nd,rfl⟩⟩;refine ⟨_,rfl,?_⟩)|(go_at_call 42;(with_reducible refine (bellpullref01_Before.calls k _ _ l1 _ _ l0 t134 _ ?side1 ?side2 ?side3 ?side4 A5.out).mono ?_);(case side1=>repeat (first|exact HR1.out|(with_reducible refine Kd.C_alloc ?_ _)|(with_reducible refine Kd.C_drewN ?_ _)|(with_reducible refine Kd.C_drew ?_)));(case side2=>exact HC1.out);(case side3=>repeat (first|exact HR0.out|(with_reducible refine Kd.C_alloc ?_ _)|(with_reducible refine Kd.C_drewN ?_ _)|(with_reducible refine Kd.C_drew ?_)));(case side4=>exact HC0.out);rintro e w' ⟨rfl,⟨nd,rfl⟩⟩));go_ret;exact ⟨by first|rfl|(simp;done)|(simp [*];done),by repeat (first|exact Drawn0.refl _|apply Drawn0.step)⟩
/-! ### slices_IndexFunc_int_int: function 60 -/
/-- A bool function value: called at x, in every later world, it tells p x and lays at most new memory. -/
def Tells (g:Nat) (lb:Array Value) (p:Int → Bool) (w:World):Prop :=
  ∀ (W:World) (x:Int),Below w.heap.size w W → Calls Try.prog g (#[.int .i64 x] ++ lb) W fun e w'=>e=.returned (.bool (p x))∧Below W.heap.size W w'

def idxF (p:Int → Bool) (l:List Int):Int:=match l.findIdx? p with|some i=>(i:Int)|none=>-1
theorem idxF_some (p:Int → Bool) (l:List Int) (k:Nat) (hk:k < l.length) (h:p (rd l (k:Int))=true) (hb:∀ j,j < k → p (rd l (j:Int))=false):idxF p l=(k:Int):=by
  have:l.findIdx? p=some k:=by
    rw [List.findIdx?_eq_some_iff_getElem]
    refine ⟨hk,?_,fun j hj=>?_⟩
    · simpa [rd,List.getD_eq_getElem?_getD,List.getElem?_eq_getElem hk] using h
    · have hjl:j < l.length:=by omega
      have:=hb j hj
      simpa [rd,List.getD_eq_getElem?_getD,List.getElem?_eq_getElem hjl] using this
  simp [idxF,this]
theorem idxF_none (p:Int → Bool) (l:List Int) (hb:∀ j,j < l.length → p (rd l (j:Int))=false):idxF p l=-1:=by
  have:l.findIdx? p=none:=by
    rw [List.findIdx?_eq_none_iff]
    intro x hx
    obtain ⟨j,hj,rfl⟩:=List.getElem_of_mem hx
    have:=hb j hj
    simpa [rd,List.getD_eq_getElem?_getD,List.getElem?_eq_getElem hj] using this
  simp [idxF,this]
theorem idxF_some' (p:Int → Bool) (l:List Int) (i:Int) (h0:0 ≤ i) (h1:i < (l.length:Int)) (h:p (rd l i)=true) (hb:∀ j,j < i.toNat → p (rd l (j:Int))=false):idxF p l=i:=by
  obtain ⟨k,rfl⟩:=Int.eq_ofNat_of_zero_le h0
  exact idxF_some p l k (by omega) h (by simpa using hb)
theorem idxF_any (p:Int → Bool) (l:List Int):l.any p=decide (0 ≤ idxF p l):=by
  unfold idxF
  rcases h:l.findIdx? p with _|i
  · rw [List.findIdx?_eq_none_iff] at h
    rw [show l.any p=false from by rw [List.any_eq_false];exact fun x hx=>by simpa using h x hx]
    rfl
  · rw [List.findIdx?_eq_some_iff_getElem] at h
    obtain ⟨hi,hp,_⟩:=h
    rw [show l.any p=true from List.any_eq_true.mpr ⟨_,List.getElem_mem hi,hp⟩]
    simp
/-- What a round knows. -/
def Sofar (p:Int → Bool) (l:List Int) (k:Nat):Prop:=∀ j,j < k → p (rd l (j:Int))=false
theorem Sofar.zero (p:Int → Bool) (l:List Int):Sofar p l 0:=fun j hj=>absurd hj (by omega)
theorem Sofar.succ {p:Int → Bool} {l:List Int} {k:Nat} (h:Sofar p l k) (hk:p (rd l (k:Int))=false):Sofar p l (k + 1):=fun j hj=>by
  by_cases e:j=k
  · subst e;exact hk
  · exact h j (by omega)

set_option maxHeartbeats 1000000 in
set_option maxRecDepth 100000 in
theorem IndexFunc_int.calls (g:Nat) (lb:Array Value) (p:Int → Bool) (A0:Option Addr) (c0:Nat) (l0:List Int) (w:World) (hr0:Kd.C (Kd.int .i64) w A0 l0.length l0) (hc0:l0.length ≤ c0)
    (eg:∀ args w,(callFunc g args).run Try.prog w=.ok (.enter g args) w) (hp:Tells g lb p w) :
    Calls Try.prog 60 #[.slice A0 l0.length c0,.func (.func g) #[] lb] w fun e w'=>e=.returned (.int .i64 (idxF p l0))∧Below w.heap.size w w':=by
  have HR0:=Aside0.mk hr0
  have hlen:l0.length ≤ 9223372036854775807:=hr0.2.1
  clear hr0 hc0
  have HP:=Aside0.mk hp
  clear hp
  go_enter Try.func60,Try.ntmps60
  go_wp2
  go_loopw [8] (fun v8 w'=>∃ i:Int,v8=.int .i64 i∧Aside0 (0 ≤ i∧i ≤ l0.length)∧Aside0 (Sofar p l0 i.toNat)∧Aside0 (Below w.heap.size w w')) (fun v8 _=>l0.length - (intOf v8).toNat)
  case atStart=>exact ⟨0,rfl,⟨by omega,by omega⟩,⟨Sofar.zero _ _⟩,⟨Below.refl _ _⟩⟩
  case round =>
    obtain ⟨i,rfl,HI,HS,HB⟩:=hrel
    by_cases hlt:i < (l0.length:Int)
    · have p1:0 ≤ i:=HI.out.1
      obtain ⟨ad,e,hx⟩:=Kd.at_int HR0.out i p1 hlt
      cases e
      replace hx:=(HB.out.cell (World.block_lt_of_cell? w _ hx)).trans hx
      have hd:decide (i < (l0.length:Int))=true:=decide_eq_true hlt
      replace p1:=eq_true p1
      replace hlt:=eq_true hlt
      have hw:wrap64 (i + 1)=i + 1:=by have:=HI.out;have h:=of_eq_true hlt;unfold wrap64;omega
      have HW:=Aside0.mk hw
      clear hw
      by_cases hb:p (rd l0 i)=true
      · have HF:=Aside0.mk (idxF_some' p l0 i (of_eq_true p1) (of_eq_true hlt) hb HS.out)
        have HT:=Aside0.mk hb
        clear hb
        go_wp2_with (fail)
        refine (HP.out _ _ HB.out).mono ?_
        rintro e w1 ⟨rfl,hb1⟩
        rw [HT.out]
        have HB1:=Aside0.mk hb1
        clear hb1
        go_wp2
        go_ret
        exact ⟨by first|(rw [HF.out];done)|(rw [HF.out];rfl),HB.out.trans (HB1.out.mono HB.out.size)⟩
      · have HT:=Aside0.mk (Bool.eq_false_iff.mpr hb)
        clear hb
        go_wp2_with (fail)
        refine (HP.out _ _ HB.out).mono ?_
        rintro e w1 ⟨rfl,hb1⟩
        rw [HT.out]
        have HB1:=Aside0.mk hb1
        clear hb1
        go_wp2
        go_roundw
        case rel=>exact ⟨_,rfl,⟨by rw [HW.out];have:=HI.out;have:=of_eq_true hlt;omega⟩,⟨by rw [HW.out];have:=HI.out;rw [show (i + 1).toNat=i.toNat + 1 by omega];exact HS.out.succ (by rw [Int.toNat_of_nonneg this.1];exact HT.out)⟩,⟨HB.out.trans (HB1.out.mono HB.out.size)⟩⟩
        case measure=>simp only [intOf];have:=HW.out;have:=HI.out;have:=of_eq_true hlt;omega
    · have hd:decide (i < (l0.length:Int))=false:=decide_eq_false hlt
      have HF:=Aside0.mk (idxF_none p l0 (fun j hj=>HS.out j (by have:=HI.out;omega)))
      clear hlt
      go_wp2
      go_ret
      exact ⟨by first|(rw [HF.out];done)|(rw [HF.out];rfl),HB.out⟩


/-! ### slices_ContainsFunc_int_int: function 54 -/
set_option maxHeartbeats 1000000 in
set_option maxRecDepth 100000 in
theorem ContainsFunc_int.calls (g:Nat) (lb:Array Value) (p:Int → Bool) (A0:Option Addr) (c0:Nat) (l0:List Int) (w:World) (hr0:Kd.C (Kd.int .i64) w A0 l0.length l0) (hc0:l0.length ≤ c0)
    (eg:∀ args w,(callFunc g args).run Try.prog w=.ok (.enter g args) w) (hp:Tells g lb p w) :
    Calls Try.prog 54 #[.slice A0 l0.length c0,.func (.func g) #[] lb] w fun e w'=>e=.returned (.bool (l0.any p))∧Below w.heap.size w w':=by
  have HC:=fun W hr hb=>IndexFunc_int.calls g lb p A0 c0 l0 W hr hc0 eg hb
  have HC1:=Aside0.mk (HC w hr0 hp)
  clear HC eg hp hr0 hc0
  have HA:=Aside0.mk (idxF_any p l0)
  go_enter Try.func54,Try.ntmps54
  go_wp2_with (go_at_call 60;refine HC1.out.mono ?_;rintro e w1 ⟨rfl,hb1⟩;have HB1:=Aside0.mk hb1;clear hb1)
  go_ret
  exact ⟨by first|(rw [HA.out];done)|(rw [HA.out];rfl),HB1.out⟩

/-! ### echo_check: function 44 -/
def echo_check.f (l0:List Int) (a1:Int):Option (Int):=if (l0.length:Int) > 200 then some 3 else if l0.any (fun x=>decide (x < 1) || decide (a1 < x))=true then some 2 else some 0
theorem echo_check.tells (a1:Int) (B:Nat) (w:World) (hB:B < w.heap.size) (hcell:w.cell? ⟨B,0,none⟩=some (.int .i64 a1)) :
    Tells 55 #[.pointer (some ⟨B,0,none⟩)] (fun x=>decide (x < 1) || decide (a1 < x)) w:=fun W x hb=>by
  have hc:W.cell? ⟨B,0,none⟩=some (.int .i64 a1):=(hb.cell (p:=⟨B,0,none⟩) hB).trans hcell
  clear hcell hb
  show Calls Try.prog 55 #[.int .i64 x,.pointer (some ⟨B,0,none⟩)] W (fun e w'=>e=.returned (.bool (decide (x < 1) || decide (a1 < x)))∧Below W.heap.size W w')
  by_cases h1:x < 1
  · have hd:decide (x < 1)=true:=decide_eq_true h1
    rw [hd]
    go_enter Try.func55,Try.ntmps55
    go_wp2
    go_ret
    exact ⟨by simp,Below.refl _ _⟩
  · have hd:decide (x < 1)=false:=decide_eq_false h1
    rw [hd]
    go_enter Try.func55,Try.ntmps55
    go_wp2
    go_ret
    exact ⟨by simp,Below.refl _ _⟩
set_option maxHeartbeats 1000000 in
set_option maxRecDepth 100000 in
theorem echo_check.calls (A0:Option Addr) (c0:Nat) (l0:List Int) (a1:Int) (r:Int) (w:World) (hr0:Kd.C (Kd.int .i64) w A0 l0.length l0) (hc0:l0.length ≤ c0) (h:echo_check.f l0 a1=some r) :
    Calls Try.prog 44 #[.slice A0 l0.length c0,.int .i64 a1] w fun e w'=>e=.returned (.int .i64 r)∧Below w.heap.size w w':=by
  unfold echo_check.f at h
  have eg:∀ args w,(callFunc 55 args).run Try.prog w=.ok (.enter 55 args) w:=enters_of Try.func55 (by kernel_rfl) rfl
  have HC:=Aside0.mk (ContainsFunc_int.calls 55 #[.pointer (some ⟨w.heap.size,0,none⟩)] (fun x=>decide (x < 1) || decide (a1 < x)) A0 c0 l0 (w.alloc (.cells #[.int .i64 a1] 3)) (Kd.C_alloc hr0 _) hc0 eg (echo_check.tells a1 w.heap.size _ (by simp) (by simp)))
  clear eg hr0
  by_cases h1:(l0.length:Int) > 200
  · rw [if_pos h1] at h
    obtain rfl:=Option.some.inj h
    have hd:decide (200 < l0.length)=true:=decide_eq_true (by omega)
    have hd2:decide ((200:Int) < (l0.length:Int))=true:=decide_eq_true h1
    clear h h1
    go_enter Try.func44,Try.ntmps44
    go_wp2
    go_ret
    exact ⟨rfl,(Below.refl _ _).alloc (Nat.le_refl _) _⟩
  · rw [if_neg h1] at h
    have hd:decide (200 < l0.length)=false:=decide_eq_false (by omega)
    have hd2:decide ((200:Int) < (l0.length:Int))=false:=decide_eq_false h1
    clear h1
    by_cases h2:l0.any (fun x=>decide (x < 1) || decide (a1 < x))=true
    · rw [if_pos h2] at h
      obtain rfl:=Option.some.inj h
      have HA:=Aside0.mk h2
      clear h h2
      go_enter Try.func44,Try.ntmps44
      go_wp2_with (go_at_call 54;refine HC.out.mono ?_;rintro e w1 ⟨rfl,hb1⟩;rw [HA.out];have HB1:=Aside0.mk hb1;clear hb1)
      go_ret
      exact ⟨rfl,((Below.refl _ _).alloc (Nat.le_refl _) _).trans (HB1.out.mono (by simp))⟩
    · have h3:=Bool.eq_false_iff.mpr h2
      rw [if_neg h2] at h
      obtain rfl:=Option.some.inj h
      have HA:=Aside0.mk h3
      clear h h2 h3
      go_enter Try.func44,Try.ntmps44
      go_wp2_with (go_at_call 54;refine HC.out.mono ?_;rintro e w1 ⟨rfl,hb1⟩;rw [HA.out];have HB1:=Aside0.mk hb1;clear hb1)
      go_ret
      exact ⟨rfl,((Below.refl _ _).alloc (Nat.le_refl _) _).trans (HB1.out.mono (by simp))⟩

/-! ### echo_runs: function 48 -/
def echo_runs.l0:Nat → List Int → List Int → List Int → Int → Int → Option (List Int)
  | 0,_,_,_,_,_=>none
  | k + 1,x0,x3,x6,x7,x8=>if x8 < x7 then (if 0 ≤ x8 then (if x8 < (x6.length:Int) then (if x8 > 0 then (if 0 ≤ (wrap64 (x8 - 1)) then (if (wrap64 (x8 - 1)) < (x0.length:Int) then (if (rd x6 x8)=(rd x0 (wrap64 (x8 - 1))) then (if 0 ≤ (wrap64 ((x3.length:Int) - 1)) then (if (wrap64 ((x3.length:Int) - 1)) < (x3.length:Int) then (echo_runs.l0 k x0 (x3.set ((wrap64 ((x3.length:Int) - 1)):Int).toNat (wrap64 ((rd x3 (wrap64 ((x3.length:Int) - 1))) + 1))) x6 x7 (wrap64 (x8 + 1))) else (none)) else (none)) else (if x3.length < 17592186044416 then (echo_runs.l0 k x0 (x3 ++ [1]) x6 x7 (wrap64 (x8 + 1))) else (none))) else (none)) else (none)) else (if x3.length < 17592186044416 then (echo_runs.l0 k x0 (x3 ++ [1]) x6 x7 (wrap64 (x8 + 1))) else (none))) else (none)) else (none)) else (some x3)
def echo_runs.f (k:Nat) (l0:List Int):Option (List Int):=echo_runs.l0 k l0 ([]:List Int) l0 (l0.length:Int) 0
theorem echo_runs.mono_l:∀ k,(∀ y0 y1 y2 y3 y4,LeO (echo_runs.l0 k y0 y1 y2 y3 y4) (echo_runs.l0 (k + 1) y0 y1 y2 y3 y4))
  | 0=>fun _ _ _ _ _ r h=>by simp [echo_runs.l0] at h
  | k + 1=>by
    have ih0:=echo_runs.mono_l k
    · intro y0 y1 y2 y3 y4
      unfold echo_runs.l0
      with_reducible repeat' first|exact ih0 _ _ _ _ _|exact LeO.refl _|exact LeO.none _|refine LeO.ite ?_ ?_|refine LeO.bind ?_ (fun _=>?_)
theorem echo_runs.mono:∀ a0 k,LeO (echo_runs.f k a0) (echo_runs.f (k + 1) a0):=by
  intro a0 k
  have ih0:=echo_runs.mono_l k
  unfold echo_runs.f
  with_reducible repeat' first|exact ih0 _ _ _ _ _|exact LeO.refl _|exact LeO.none _|refine LeO.ite ?_ ?_|refine LeO.bind ?_ (fun _=>?_)
set_option maxHeartbeats 8000000 in
set_option maxRecDepth 100000 in
theorem echo_runs.calls (k:Nat) (A0:Option Addr) (c0:Nat) (l0:List Int) (r:List Int) (w:World) (hr0:Kd.C (Kd.int .i64) w A0 l0.length l0) (hc0:l0.length ≤ c0) (h:echo_runs.f k l0=some r) :
    Calls Try.prog 48 #[.slice A0 l0.length c0] w fun e w'=>∃ v0_:Value,e=.returned (v0_)∧Kd.R (Kd.int .i64) 3 w' w.heap.size (fun _=>True) v0_ r∧Below w.heap.size w w':=by
 have HR0:=mk0 hr0;have HC0:=mk0 hc0;clear hr0 hc0;have HB:=mk0 (Below.refl w.heap.size w);have H:(echo_runs.l0 k l0 ([]:List Int) l0 (l0.length:Int) 0)=some r:=h;clear h;have H':=mk0 H;clear H;go_enter Try.func48,Try.ntmps48;go_wp2
 go_loopg [3,8] k (fun kq v3 v8 w'=>∃ (x3_1:List Int) (x8_1:Int),v8=.int .i64 x8_1∧Aside0 (echo_runs.l0 kq l0 x3_1 l0 (l0.length:Int) x8_1=some r)∧Aside0 (kq ≤ k)∧Aside0 (Kd.R (Kd.int .i64) 3 w' w.heap.size (fun _=>True) v3 x3_1)∧Aside0 (Below w.heap.size w w'))
 case atStart=>exact ⟨(([]:List Int)),(0),(by first|rfl|(simp;done)|(simp [*];done)),H',⟨Nat.le_refl _⟩,⟨by first|exact Kd.R_nil _ _ _ _ _|exact Kd.N_nil _ _ _ _ _|exact Kd.V_nil _ _ _ _ _|exact Kd.Q_nil _ _ _ _ _|exact Kd.S_nil _ _ _ _ _⟩,⟨by repeat (first|(with_reducible first|exact HB.out|apply below_alloc|apply pw_below_drewN|apply below_drew1)|exact HB.out)⟩⟩
 case round =>
  clear H';obtain ⟨x3_1,x8_1,rfl,HA,HK1,HO_3,HB⟩:=hrel;cases gk with
  | zero=>exact absurd HA.out (by simp [echo_runs.l0])
  | succ k1 =>
   have H:=HA.out;clear HA;simp only [echo_runs.l0] at H
   by_cases c2:x8_1 < (l0.length:Int)
   ·
    rw [if_pos c2] at H;have c2b0:decide (x8_1 < (l0.length:Int))=true:=decide_eq_true c2;clear c2
    by_cases c3:0 ≤ x8_1
    ·
     rw [if_pos c3] at H;have c3b0:decide (0 ≤ x8_1)=true:=decide_eq_true c3;clear c3
     by_cases c4:x8_1 < (l0.length:Int)
     ·
      rw [if_pos c4] at H;have c4b0:decide (x8_1 < (l0.length:Int))=true:=decide_eq_true c4;clear c4
      by_cases c5:x8_1 > 0
      ·
       rw [if_pos c5] at H;have c5b0:decide (0 < x8_1)=true:=decide_eq_true c5;clear c5;obtain ⟨ji6,hji6⟩:∃ j_:Int,(wrap64 (x8_1 - 1))=j_:=⟨_,rfl⟩
       replace H:(if 0 ≤ (ji6) then (if (ji6) < (l0.length:Int) then (if (rd l0 x8_1)=(rd l0 (ji6)) then (if 0 ≤ (wrap64 ((x3_1.length:Int) - 1)) then (if (wrap64 ((x3_1.length:Int) - 1)) < (x3_1.length:Int) then (echo_runs.l0 k1 l0 (x3_1.set ((wrap64 ((x3_1.length:Int) - 1)):Int).toNat (wrap64 ((rd x3_1 (wrap64 ((x3_1.length:Int) - 1))) + 1))) l0 (l0.length:Int) (wrap64 (x8_1 + 1))) else (none)) else (none)) else (if x3_1.length < 17592186044416 then (echo_runs.l0 k1 l0 (x3_1 ++ [1]) l0 (l0.length:Int) (wrap64 (x8_1 + 1))) else (none))) else (none)) else (none))=some r:=by first|(rw [hji6] at H;exact H)|(simp only [hji6] at H ⊢;exact H)
       have hji6w:(IntKind.i64.wrap (x8_1 - 1))=ji6:=(i64_w _).trans hji6
       by_cases c7:0 ≤ (ji6)
       ·
        rw [if_pos c7] at H;have c7b0:decide (0 ≤ (ji6))=true:=decide_eq_true c7;clear c7
        by_cases c8:(ji6) < (l0.length:Int)
        ·
         rw [if_pos c8] at H;have c8b0:decide ((ji6) < (l0.length:Int))=true:=decide_eq_true c8;clear c8
         by_cases c9:(rd l0 x8_1)=(rd l0 (ji6))
         ·
          rw [if_pos c9] at H;have c9b0:((rd l0 x8_1) == (rd l0 (ji6)))=true:=beq_iff_eq.mpr c9;have c9b1:((rd l0 x8_1) != (rd l0 (ji6)))=false:=bne_eq_false_iff_eq.mpr c9;clear c9;obtain ⟨ji10,hji10⟩:∃ j_:Int,(wrap64 ((x3_1.length:Int) - 1))=j_:=⟨_,rfl⟩
          replace H:(if 0 ≤ (ji10) then (if (ji10) < (x3_1.length:Int) then (echo_runs.l0 k1 l0 (x3_1.set ((ji10):Int).toNat (wrap64 ((rd x3_1 (ji10)) + 1))) l0 (l0.length:Int) (wrap64 (x8_1 + 1))) else (none)) else (none))=some r:=by first|(rw [hji10] at H;exact H)|(simp only [hji10] at H ⊢;exact H)
          have hji10w:(IntKind.i64.wrap ((x3_1.length:Int) - 1))=ji10:=(i64_w _).trans hji10
          by_cases c11:0 ≤ (ji10)
          ·
           rw [if_pos c11] at H;have c11b0:decide (0 ≤ (ji10))=true:=decide_eq_true c11;clear c11
           by_cases c12:(ji10) < (x3_1.length:Int)
           ·
            rw [if_pos c12] at H;have c12b0:decide ((ji10) < (x3_1.length:Int))=true:=decide_eq_true c12;clear c12;obtain ⟨y138,hy138⟩:∃ y_:List Int,y_=(x3_1.set ((ji10):Int).toNat (wrap64 ((rd x3_1 (ji10)) + 1))):=⟨_,rfl⟩
            replace H:(echo_runs.l0 k1 l0 y138 l0 (l0.length:Int) (wrap64 (x8_1 + 1)))=some r:=by first|(rw [hy138];with_reducible exact H)|(have H2_:=(Option.bind_some _ _).symm.trans H;rw [hy138];with_reducible exact H2_)|(have H2_:=(Option.bind_some _ _).symm.trans H;with_reducible exact H2_)|with_reducible exact H|(rw [hy138];exact H)|exact H
            have Ny138:=mk0 hy138;clear hy138;have H':=mk0 H;clear H;have p135:0 ≤ (x8_1:Int):=of_decide_eq_true (by first|(with_reducible assumption)|assumption);have q135:x8_1 < (l0.length:Int):=of_decide_eq_true (by first|(with_reducible assumption)|assumption);obtain ⟨ad135,e135,hx135_0⟩:=Kd.at_int HR0.out x8_1 p135 q135;cases e135;replace hx135_0:=(HB.out.cell (World.block_lt_of_cell? w _ hx135_0)).trans hx135_0;replace p135:=eq_true p135;replace q135:=eq_true q135;have p136:0 ≤ ((ji6):Int):=of_decide_eq_true (by first|(with_reducible assumption)|assumption);have q136:(ji6) < (l0.length:Int):=of_decide_eq_true (by first|(with_reducible assumption)|assumption);obtain ⟨ad136,e136,hx136_0⟩:=Kd.at_int HR0.out (ji6) p136 q136;obtain rfl:ad135=ad136:=(by injection e136)
            replace hx136_0:=(HB.out.cell (World.block_lt_of_cell? w _ hx136_0)).trans hx136_0;replace p136:=eq_true p136;replace q136:=eq_true q136;obtain ⟨Ao14,co14,eo14⟩:=Kd.R_slice HO_3.out;subst eo14;have p137:0 ≤ ((ji10):Int):=of_decide_eq_true (by first|(with_reducible assumption)|assumption);have q137:(ji10) < (x3_1.length:Int):=of_decide_eq_true (by first|(with_reducible assumption)|assumption);obtain ⟨ad137,e137,hx137_0⟩:=Kd.at_int (Kd.R_reads' HO_3.out).2.2 (ji10) p137 q137;cases e137;replace p137:=eq_true p137;replace q137:=eq_true q137;have p13:0 ≤ ((ji10):Int):=of_decide_eq_true (by first|(with_reducible assumption)|assumption);have q13:((ji10):Int) < ((x3_1.length:Int):Int):=of_decide_eq_true (by first|(with_reducible assumption)|assumption);obtain ⟨go13,co13,eo13,gb13,gl13,cl13,HG13⟩:=Kd.R_form HO_3.out (by omega);(first|cases eo13|(injection eo13 with ea_ en_ ec_;(first|subst ea_|(injection ea_ with ea_;subst ea_));subst ec_;clear en_));have GB13:=mk0 gb13;have GG13:=mk0 HG13;clear gb13 gl13 HG13;(first|simp only [add_plain] at hx137_0|skip);obtain ⟨hx13_0,hf13_0⟩:=Kd.R_celln 0 HO_3.out ((ji10):Int) p13 q13;replace p13:=eq_true p13;replace q13:=eq_true q13;have HP15:=Kd.R_putg HO_3.out ((ji10):Int) (wrap64 ((rd x3_1 (ji10)) + 1));go_wp2_with (first|((with_reducible refine gate_store (t:=3) (p:=31) rfl ?_);refine store_event (t:=3) (p:=31) (v:=?vo_w16) (w1:=(wr.setCell ⟨go13,((ji10):Int).toNat,none⟩ (.int .i64 (wrap64 ((rd x3_1 (ji10)) + 1))))) ?hg ?ho ?hn ?hr ?_;(case ho=>rfl);(case hg=>rfl);(case hn=>rfl);(case hr=>first|(go_simp;done)|(go_simp;rfl));intro w16 hw;have hg:wr.grownBy w16 (some go13):=(by rw [hw];exact HP15.2);have hp_:Kd.R (Kd.int .i64) 3 w16 w.heap.size (fun _=>True) (.slice (some ⟨go13,0,none⟩) x3_1.length co14) y138:=(by rw [hw,Ny138.out];exact HP15.1);clear HP15;replace HO_3:=mk0 (hp_);replace HB:=mk0 ((by rw [hw];exact below_set (HB.out) GB13.out:Below w.heap.size w w16));clear hg hw hp_));go_roundg k1
            case measure=>have:=HK1.out;omega
            case rel=>exact ⟨(y138),(wrap64 (x8_1 + 1)),(by first|rfl|(simp;done)|(simp [*];done)),H',⟨by have:=HK1.out;omega⟩,⟨by (with_reducible repeat (first|apply Kd.R_alloc|apply Kd.R_drewN|apply Kd.R_drew));exact HO_3.out⟩,⟨by repeat (first|(with_reducible first|exact HB.out|apply below_alloc|apply pw_below_drewN|apply below_drew1)|exact HB.out)⟩⟩
           ·
            rw [if_neg c12] at H;exact absurd H (by simp)
          ·
           rw [if_neg c11] at H;exact absurd H (by simp)
         ·
          rw [if_neg c9] at H;have c9b0:((rd l0 x8_1) == (rd l0 (ji6)))=false:=beq_eq_false_iff_ne.mpr c9;have c9b1:((rd l0 x8_1) != (rd l0 (ji6)))=true:=bne_iff_ne.mpr c9
          by_cases c17:x3_1.length < 17592186044416
          ·
           rw [if_pos c17] at H;have LMc17:=mk0 c17;clear c17;obtain ⟨y139,hy139⟩:∃ y_:List Int,y_=(x3_1 ++ [1]):=⟨_,rfl⟩
           replace H:(echo_runs.l0 k1 l0 y139 l0 (l0.length:Int) (wrap64 (x8_1 + 1)))=some r:=by first|(rw [hy139];with_reducible exact H)|(have H2_:=(Option.bind_some _ _).symm.trans H;rw [hy139];with_reducible exact H2_)|(have H2_:=(Option.bind_some _ _).symm.trans H;with_reducible exact H2_)|with_reducible exact H|(rw [hy139];exact H)|exact H
           have Ny139:=mk0 hy139;clear hy139;have H':=mk0 H;clear H;have p135:0 ≤ (x8_1:Int):=of_decide_eq_true (by first|(with_reducible assumption)|assumption);have q135:x8_1 < (l0.length:Int):=of_decide_eq_true (by first|(with_reducible assumption)|assumption);obtain ⟨ad135,e135,hx135_0⟩:=Kd.at_int HR0.out x8_1 p135 q135;cases e135;replace hx135_0:=(HB.out.cell (World.block_lt_of_cell? w _ hx135_0)).trans hx135_0;replace p135:=eq_true p135;replace q135:=eq_true q135;have p136:0 ≤ ((ji6):Int):=of_decide_eq_true (by first|(with_reducible assumption)|assumption);have q136:(ji6) < (l0.length:Int):=of_decide_eq_true (by first|(with_reducible assumption)|assumption);obtain ⟨ad136,e136,hx136_0⟩:=Kd.at_int HR0.out (ji6) p136 q136;obtain rfl:ad135=ad136:=(by injection e136)
           replace hx136_0:=(HB.out.cell (World.block_lt_of_cell? w _ hx136_0)).trans hx136_0;replace p136:=eq_true p136;replace q136:=eq_true q136;go_wp2_with (first|((with_reducible refine gate_builtin (b:=.append) (xs:=#[.tmp 32,.tmp 33]) rfl ?_);at_builtin;refine Kd.R_append (Kd.int .i64) (w0:=w) w.heap.size rfl (.tmp 32) (.tmp 33) 22 3 (.int .i64 0) 8 rfl Try.underlying22 info3 rfl (by decide) (by omega) u3 x3_1 1 [.int .i64 1] (fun _=>True) (fun _=>False) rfl rfl ?aP (fun _ hk=>hk.elim) ?aF ?aO ?aB ?aS ?aL ?_;(case aP=>exact rfl);(case aB=>exact (by repeat (first|(with_reducible first|exact HB.out|apply below_alloc|apply pw_below_drewN|apply below_drew1)|exact HB.out)));(case aF=>exact (fun _ _=>trivial));(case aO=>exact (by (with_reducible repeat (first|apply Kd.R_alloc|apply Kd.R_drewN|apply Kd.R_drew));exact HO_3.out));(case aS=>exact (below_size (by repeat (first|(with_reducible first|exact HB.out|apply below_alloc|apply pw_below_drewN|apply below_drew1)|exact HB.out))));(case aL=>have:=LMc17.out;omega);intro v140 w18 ho hb hg hat;rw [← Ny139.out] at ho;have HO141:=mk0 (ho);replace HB:=mk0 (hb);clear HO_3;clear ho hb hg hat));go_roundg k1
           case measure=>have:=HK1.out;omega
           case rel=>exact ⟨(y139),(wrap64 (x8_1 + 1)),(by first|rfl|(simp;done)|(simp [*];done)),H',⟨by have:=HK1.out;omega⟩,⟨by (with_reducible repeat (first|apply Kd.R_alloc|apply Kd.R_drewN|apply Kd.R_drew));exact HO141.out⟩,⟨by repeat (first|(with_reducible first|exact HB.out|apply below_alloc|apply pw_below_drewN|apply below_drew1)|exact HB.out)⟩⟩
          ·
           rw [if_neg c17] at H;exact absurd H (by simp)
        ·
         rw [if_neg c8] at H;exact absurd H (by simp)
       ·
        rw [if_neg c7] at H;exact absurd H (by simp)
      ·
       rw [if_neg c5] at H;have c5b0:decide (0 < x8_1)=false:=decide_eq_false c5;clear c5
       by_cases c19:x3_1.length < 17592186044416
       ·
        rw [if_pos c19] at H;have LMc19:=mk0 c19;clear c19;obtain ⟨y142,hy142⟩:∃ y_:List Int,y_=(x3_1 ++ [1]):=⟨_,rfl⟩
        replace H:(echo_runs.l0 k1 l0 y142 l0 (l0.length:Int) (wrap64 (x8_1 + 1)))=some r:=by first|(rw [hy142];with_reducible exact H)|(have H2_:=(Option.bind_some _ _).symm.trans H;rw [hy142];with_reducible exact H2_)|(have H2_:=(Option.bind_some _ _).symm.trans H;with_reducible exact H2_)|with_reducible exact H|(rw [hy142];exact H)|exact H
        have Ny142:=mk0 hy142;clear hy142;have H':=mk0 H;clear H;have p135:0 ≤ (x8_1:Int):=of_decide_eq_true (by first|(with_reducible assumption)|assumption);have q135:x8_1 < (l0.length:Int):=of_decide_eq_true (by first|(with_reducible assumption)|assumption);obtain ⟨ad135,e135,hx135_0⟩:=Kd.at_int HR0.out x8_1 p135 q135;cases e135;replace hx135_0:=(HB.out.cell (World.block_lt_of_cell? w _ hx135_0)).trans hx135_0;replace p135:=eq_true p135;replace q135:=eq_true q135;go_wp2_with (first|((with_reducible refine gate_builtin (b:=.append) (xs:=#[.tmp 32,.tmp 33]) rfl ?_);at_builtin;refine Kd.R_append (Kd.int .i64) (w0:=w) w.heap.size rfl (.tmp 32) (.tmp 33) 22 3 (.int .i64 0) 8 rfl Try.underlying22 info3 rfl (by decide) (by omega) u3 x3_1 1 [.int .i64 1] (fun _=>True) (fun _=>False) rfl rfl ?aP (fun _ hk=>hk.elim) ?aF ?aO ?aB ?aS ?aL ?_;(case aP=>exact rfl);(case aB=>exact (by repeat (first|(with_reducible first|exact HB.out|apply below_alloc|apply pw_below_drewN|apply below_drew1)|exact HB.out)));(case aF=>exact (fun _ _=>trivial));(case aO=>exact (by (with_reducible repeat (first|apply Kd.R_alloc|apply Kd.R_drewN|apply Kd.R_drew));exact HO_3.out));(case aS=>exact (below_size (by repeat (first|(with_reducible first|exact HB.out|apply below_alloc|apply pw_below_drewN|apply below_drew1)|exact HB.out))));(case aL=>have:=LMc19.out;omega);intro v143 w20 ho hb hg hat;rw [← Ny142.out] at ho;have HO144:=mk0 (ho);replace HB:=mk0 (hb);clear HO_3;clear ho hb hg hat));go_roundg k1
        case measure=>have:=HK1.out;omega
        case rel=>exact ⟨(y142),(wrap64 (x8_1 + 1)),(by first|rfl|(simp;done)|(simp [*];done)),H',⟨by have:=HK1.out;omega⟩,⟨by (with_reducible repeat (first|apply Kd.R_alloc|apply Kd.R_drewN|apply Kd.R_drew));exact HO144.out⟩,⟨by repeat (first|(with_reducible first|exact HB.out|apply below_alloc|apply pw_below_drewN|apply below_drew1)|exact HB.out)⟩⟩
       ·
        rw [if_neg c19] at H;exact absurd H (by simp)
     ·
      rw [if_neg c4] at H;exact absurd H (by simp)
    ·
     rw [if_neg c3] at H;exact absurd H (by simp)
   ·
    rw [if_neg c2] at H;have c2b0:decide (x8_1 < (l0.length:Int))=false:=decide_eq_false c2;clear c2;obtain rfl:=Option.some.inj H;go_wp2;go_ret;exact ⟨_,by first|rfl|(simp [errW_none,errW_some] <;> rfl)|(simp [*,errW_none,errW_some] <;> rfl),by (with_reducible repeat (first|apply Kd.R_alloc|apply Kd.R_drewN|apply Kd.R_drew));exact HO_3.out,by repeat (first|(with_reducible first|exact HB.out|apply below_alloc|apply pw_below_drewN|apply below_drew1)|exact HB.out)⟩
/-! ### ContainsFunc_derivative1: function 54, with a function value -/
def ContainsFunc_derivative1.f (l0:List Int):Option (Bool):=some (l0.any (fun x=>decide (2 < x)))
set_option maxHeartbeats 1000000 in
theorem ContainsFunc_derivative1.calls (A0:Option Addr) (c0:Nat) (l0:List Int) (r:Bool) (w:World) (hr0:Kd.C (Kd.int .i64) w A0 l0.length l0) (hc0:l0.length ≤ c0) (h:ContainsFunc_derivative1.f l0=some r) :
    Calls Try.prog 54 #[.slice A0 l0.length c0,.func (.func 56) #[] #[]] w fun e w'=>e=.returned (.bool r)∧Below w.heap.size w w':=by
  obtain rfl:=Option.some.inj h
  have eg:∀ args w,(callFunc 56 args).run Try.prog w=.ok (.enter 56 args) w:=enters_of Try.func56 (by kernel_rfl) rfl
  refine ContainsFunc_int.calls 56 #[] (fun x=>decide (2 < x)) A0 c0 l0 w hr0 hc0 eg (fun W x hb=>?_)
  clear eg hr0
  show Calls Try.prog 56 #[.int .i64 x] W (fun e w'=>e=.returned (.bool (decide (2 < x)))∧Below W.heap.size W w')
  go_enter Try.func56,Try.ntmps56
  go_wp2
  go_ret
  exact ⟨rfl,Below.refl _ _⟩

/-! ### echo_derivative: function 46 -/
def echo_derivative.j0:Nat → List Int → Bool → Option (List Int × Bool)
  | 0,_,_=>none
  | k + 1,x4,x17=>if x17=true then (if 1 ≤ (x4.length:Int) then ((some (x4.drop (1:Int).toNat:List Int)).bind fun y150=>(if (y150.length:Int) > 0 then (if 0 ≤ (wrap64 ((y150.length:Int) - 1)) then (if (wrap64 ((y150.length:Int) - 1)) < (y150.length:Int) then (if (rd y150 (wrap64 ((y150.length:Int) - 1)))=1 then (if (wrap64 ((y150.length:Int) - 1)) ≤ (y150.length:Int) then (some ((y150.take ((wrap64 ((y150.length:Int) - 1)):Int).toNat),true)) else (none)) else (some (y150,true))) else (none)) else (none)) else (some (y150,true)))) else (none)) else (if (x4.length:Int) > 0 then (if 0 ≤ (wrap64 ((x4.length:Int) - 1)) then (if (wrap64 ((x4.length:Int) - 1)) < (x4.length:Int) then (if (rd x4 (wrap64 ((x4.length:Int) - 1)))=1 then (if (wrap64 ((x4.length:Int) - 1)) ≤ (x4.length:Int) then (some ((x4.take ((wrap64 ((x4.length:Int) - 1)):Int).toNat),true)) else (none)) else (some (x4,true))) else (none)) else (none)) else (some (x4,true)))
def echo_derivative.f (k:Nat) (l0:List Int):Option (List Int × Bool):=(echo_runs.f k l0).bind fun t145=>((ContainsFunc_derivative1.f t145).bind fun t148=>(if t148=true then (some (([]:List Int),false)) else (if (t145.length:Int) > 0 then (if 0 < (t145.length:Int) then (echo_derivative.j0 k t145 ((rd t145 0) == 1)) else (none)) else (echo_derivative.j0 k t145 false))))
theorem echo_derivative.mono_l:∀ k,(∀ y0 y1,LeO (echo_derivative.j0 k y0 y1) (echo_derivative.j0 (k + 1) y0 y1))
  | 0=>fun _ _ r h=>by simp [echo_derivative.j0] at h
  | k + 1=>by
    have ih0:=echo_derivative.mono_l k
    · intro y0 y1
      unfold echo_derivative.j0
      with_reducible repeat' first|exact ih0 _ _|exact echo_runs.mono _ _|exact LeO.refl _|exact LeO.none _|refine LeO.ite ?_ ?_|refine LeO.bind ?_ (fun _=>?_)
theorem echo_derivative.mono:∀ a0 k,LeO (echo_derivative.f k a0) (echo_derivative.f (k + 1) a0):=by
  intro a0 k
  have ih0:=echo_derivative.mono_l k
  unfold echo_derivative.f
  with_reducible repeat' first|exact ih0 _ _|exact echo_runs.mono _ _|exact LeO.refl _|exact LeO.none _|refine LeO.ite ?_ ?_|refine LeO.bind ?_ (fun _=>?_)
set_option maxHeartbeats 8000000 in
set_option maxRecDepth 100000 in
theorem echo_derivative.calls (k:Nat) (A0:Option Addr) (c0:Nat) (l0:List Int) (r1:List Int) (r2:Bool) (w:World) (hr0:Kd.C (Kd.int .i64) w A0 l0.length l0) (hc0:l0.length ≤ c0) (h:echo_derivative.f k l0=some (r1,r2)) :
    Calls Try.prog 46 #[.slice A0 l0.length c0] w fun e w'=>∃ v0_:Value,e=.returned (.tuple #[v0_,.bool r2])∧Kd.Q (Kd.int .i64) 3 w' w.heap.size (fun _=>True) v0_ r1∧Below w.heap.size w w':=by
 have HR0:=mk0 hr0;have HC0:=mk0 hc0;clear hr0 hc0;have HB:=mk0 (Below.refl w.heap.size w);have H:((echo_runs.f k l0).bind fun t145=>((ContainsFunc_derivative1.f t145).bind fun t148=>(if t148=true then (some (([]:List Int),false)) else (if (t145.length:Int) > 0 then (if 0 < (t145.length:Int) then (echo_derivative.j0 k t145 ((rd t145 0) == 1)) else (none)) else (echo_derivative.j0 k t145 false)))))=some (r1,r2):=h;clear h;replace H:=Option.bind_eq_some_iff.mp H;obtain ⟨t145,A20,H⟩:=H;(try dsimp only at H);have A2:=mk0 A20;clear A20;replace H:=Option.bind_eq_some_iff.mp H;obtain ⟨t148,A30,H⟩:=H;(try dsimp only at H);have A3:=mk0 A30;clear A30
 by_cases c4:t148=true
 ·
  subst c4;have H1:(some (([]:List Int),false))=some (r1,r2):=by rw [if_pos rfl] at H;exact H
  clear H;have H:=H1;clear H1;simp only [Option.some.injEq,Prod.mk.injEq] at H;obtain ⟨rfl,rfl⟩:=H;go_enter Try.func46,Try.ntmps46;go_wp2_with (first|((with_reducible refine gate_callee (f:=48) rfl ?_);refine goesL_ (some 6) rfl rfl Try.func48 (by kernel_rfl) rfl #[.slice A0 l0.length c0] rfl (by (try simp only [List.map_toArray,List.map_cons,List.map_nil]);first|done|rfl|(simp only [List.length_drop,List.length_take];rfl)) ?_;(with_reducible refine (echo_runs.calls k _ _ l0 t145 _ ?side1 ?side2 A2.out).mono ?_);(case side1=>repeat (first|exact HR0.out|(with_reducible refine Kd.C_alloc ?_ _)|(with_reducible refine Kd.C_drewN ?_ _)|(with_reducible refine Kd.C_drew ?_)));(case side2=>exact HC0.out);rintro e w5 ⟨v146,rfl,ho0,hb⟩;refine ⟨_,rfl,?_⟩;have HO147:=mk0 (Kd.R_lower ho0 (below_size HB.out));replace HB:=bst HB hb;(try clear hb);(try clear ho0);obtain ⟨Ao6,co6,eo6⟩:=Kd.R_slice HO147.out;subst eo6)|((with_reducible refine gate_callee (f:=54) rfl ?_);refine goesL_ (some 8) rfl rfl Try.func54 (by kernel_rfl) rfl #[.slice Ao6 t145.length co6,.func (.func 56) #[] #[]] rfl (by (try simp only [List.map_toArray,List.map_cons,List.map_nil]);first|done|rfl|(simp only [List.length_drop,List.length_take];rfl)) ?_;(with_reducible refine (ContainsFunc_derivative1.calls _ _ t145 true _ ?side1 ?side2 A3.out).mono ?_);(case side1=>repeat (first|exact (Kd.R_reads' HO147.out).2.2|(with_reducible refine Kd.C_alloc ?_ _)|(with_reducible refine Kd.C_drewN ?_ _)|(with_reducible refine Kd.C_drew ?_)));(case side2=>exact (Kd.R_reads' HO147.out).2.1);rintro e w7 ⟨rfl,hb⟩;refine ⟨_,rfl,?_⟩;replace HO147:=rbl HO147 hb;replace HB:=bst HB hb;(try clear hb)));go_ret2;exact ⟨_,by first|rfl|(simp [errW_none,errW_some] <;> rfl)|(simp [*,errW_none,errW_some] <;> rfl),Kd.Q_of_R (by first|exact Kd.R_nil _ _ _ _ _|exact Kd.N_nil _ _ _ _ _|exact Kd.V_nil _ _ _ _ _|exact Kd.Q_nil _ _ _ _ _|exact Kd.S_nil _ _ _ _ _),by repeat (first|(with_reducible first|exact HB.out|apply below_alloc|apply pw_below_drewN|apply below_drew1)|exact HB.out)⟩
 ·
  replace c4:=Bool.eq_false_iff.mpr c4;subst c4;have H1:(if (t145.length:Int) > 0 then (if 0 < (t145.length:Int) then (echo_derivative.j0 k t145 ((rd t145 0) == 1)) else (none)) else (echo_derivative.j0 k t145 false))=some (r1,r2):=by rw [if_neg (show ¬ (false=true) by decide)] at H;exact H
  clear H;have H:=H1;clear H1;have HC8:=mk0 H;clear H;go_enter Try.func46,Try.ntmps46;go_upto_region 4 with (first|((with_reducible refine gate_callee (f:=48) rfl ?_);refine goesL_ (some 6) rfl rfl Try.func48 (by kernel_rfl) rfl #[.slice A0 l0.length c0] rfl (by (try simp only [List.map_toArray,List.map_cons,List.map_nil]);first|done|rfl|(simp only [List.length_drop,List.length_take];rfl)) ?_;(with_reducible refine (echo_runs.calls k _ _ l0 t145 _ ?side1 ?side2 A2.out).mono ?_);(case side1=>repeat (first|exact HR0.out|(with_reducible refine Kd.C_alloc ?_ _)|(with_reducible refine Kd.C_drewN ?_ _)|(with_reducible refine Kd.C_drew ?_)));(case side2=>exact HC0.out);rintro e w9 ⟨v146,rfl,ho0,hb⟩;refine ⟨_,rfl,?_⟩;have HO147:=mk0 (Kd.R_lower ho0 (below_size HB.out));replace HB:=bst HB hb;(try clear hb);(try clear ho0);obtain ⟨Ao10,co10,eo10⟩:=Kd.R_slice HO147.out;subst eo10)|((with_reducible refine gate_callee (f:=54) rfl ?_);refine goesL_ (some 8) rfl rfl Try.func54 (by kernel_rfl) rfl #[.slice Ao10 t145.length co10,.func (.func 56) #[] #[]] rfl (by (try simp only [List.map_toArray,List.map_cons,List.map_nil]);first|done|rfl|(simp only [List.length_drop,List.length_take];rfl)) ?_;(with_reducible refine (ContainsFunc_derivative1.calls _ _ t145 false _ ?side1 ?side2 A3.out).mono ?_);(case side1=>repeat (first|exact (Kd.R_reads' HO147.out).2.2|(with_reducible refine Kd.C_alloc ?_ _)|(with_reducible refine Kd.C_drewN ?_ _)|(with_reducible refine Kd.C_drew ?_)));(case side2=>exact (Kd.R_reads' HO147.out).2.1);rintro e w11 ⟨rfl,hb⟩;refine ⟨_,rfl,?_⟩;replace HO147:=rbl HO147 hb;replace HB:=bst HB hb;(try clear hb)));(try simp only [Act.put,List.setIfInBounds_toArray,List.set_cons_zero,List.set_cons_succ])
  go_cut [17] (fun v17 wc=>∃ (kq:Nat) (x17_7:Bool),v17=.bool x17_7∧Aside0 (echo_derivative.j0 kq t145 x17_7=some (r1,r2))∧Aside0 (kq ≤ k)∧Aside0 (Kd.Q (Kd.int .i64) 3 wc w.heap.size (fun _=>True) (.slice Ao10 t145.length co10) t145)∧Aside0 (Below w.heap.size w wc))
  case first =>
   have H:=HC8.out;clear HC8
   by_cases c12:(t145.length:Int) > 0
   ·
    rw [if_pos c12] at H;have c12b0:decide (0 < (t145.length:Int))=true:=decide_eq_true c12;have c12b1:decide (0 < t145.length)=true:=decide_eq_true (by omega);clear c12;(first|rw [c12b0]|(simp only [i64_w,i32_w];rw [c12b0])|skip)
    by_cases c13:0 < (t145.length:Int)
    ·
     rw [if_pos c13] at H;have c13b0:decide (0 < (t145.length:Int))=true:=decide_eq_true c13;have c13b1:decide (0 < t145.length)=true:=decide_eq_true (by omega);clear c13;have H':=mk0 H;clear H;have p149:0 ≤ (0:Int):=(by omega)
     have q149:0 < (t145.length:Int):=of_decide_eq_true (by first|(with_reducible assumption)|assumption);obtain ⟨ad149,e149,hx149_0⟩:=Kd.at_int (Kd.R_reads' HO147.out).2.2 0 p149 q149;cases e149;have qi149:(0 < t145.length)=True:=eq_true (by omega);(try rw [show ((0:Int)).toNat=0 from rfl] at hx149_0);(try rw [Addr.add_zero'] at hx149_0);replace p149:=eq_true p149;replace q149:=eq_true q149;go_wp2;go_meet
     case rel=>exact ⟨_,(((rd t145 0) == 1)),(by first|rfl|(simp;done)|(simp [*];done)),H',⟨by first|omega|exact Nat.le_refl _⟩,⟨Kd.Q_of_R HO147.out⟩,⟨by repeat (first|(with_reducible first|exact HB.out|apply below_alloc|apply pw_below_drewN|apply below_drew1)|exact HB.out)⟩⟩
    ·
     rw [if_neg c13] at H;exact absurd H (by simp)
   ·
    rw [if_neg c12] at H;have c12b0:decide (0 < (t145.length:Int))=false:=decide_eq_false c12;have c12b1:decide (0 < t145.length)=false:=decide_eq_false (by omega);clear c12;(first|rw [c12b0]|(simp only [i64_w,i32_w];rw [c12b0])|skip);have H':=mk0 H;clear H;go_wp2;go_meet
    case rel=>exact ⟨_,(false),(by first|rfl|(simp;done)|(simp [*];done)),H',⟨by first|omega|exact Nat.le_refl _⟩,⟨Kd.Q_of_R HO147.out⟩,⟨by repeat (first|(with_reducible first|exact HB.out|apply below_alloc|apply pw_below_drewN|apply below_drew1)|exact HB.out)⟩⟩
  case rest =>
   clear HC8;try clear c1
   try clear p1
   try clear q1
   try clear hx1
   try clear qi1
   try clear c2
   try clear p2
   try clear c4
   try clear c12
   try clear c12b0
   try clear c12b1
   try clear c13
   try clear c13b0
   try clear c13b1
   try clear hx149_0
   try clear p149
   try clear q149
   obtain ⟨kq,x17_7,rfl,HA,HJ7,HO_4,HB⟩:=hcut;cases kq with
   | zero=>exact absurd HA.out (by simp [echo_derivative.j0])
   | succ kj7 =>
    have H:=HA.out;clear HA;simp only [echo_derivative.j0] at H
    by_cases c14:x17_7=true
    ·
     subst c14;have H1:(if 1 ≤ (t145.length:Int) then ((some (t145.drop (1:Int).toNat:List Int)).bind fun y150=>(if (y150.length:Int) > 0 then (if 0 ≤ (wrap64 ((y150.length:Int) - 1)) then (if (wrap64 ((y150.length:Int) - 1)) < (y150.length:Int) then (if (rd y150 (wrap64 ((y150.length:Int) - 1)))=1 then (if (wrap64 ((y150.length:Int) - 1)) ≤ (y150.length:Int) then (some ((y150.take ((wrap64 ((y150.length:Int) - 1)):Int).toNat),true)) else (none)) else (some (y150,true))) else (none)) else (none)) else (some (y150,true)))) else (none))=some (r1,r2):=by rw [if_pos rfl] at H;exact H
     clear H;have H:=H1;clear H1
     by_cases c15:1 ≤ (t145.length:Int)
     ·
      rw [if_pos c15] at H;have c15b0:=eq_true c15;have c15b1:decide (1 ≤ (t145.length:Int))=true:=decide_eq_true c15;clear c15;obtain ⟨y150,hy150⟩:∃ y_:List Int,y_=(t145.drop (1:Int).toNat):=⟨_,rfl⟩
      replace H:(if (y150.length:Int) > 0 then (if 0 ≤ (wrap64 ((y150.length:Int) - 1)) then (if (wrap64 ((y150.length:Int) - 1)) < (y150.length:Int) then (if (rd y150 (wrap64 ((y150.length:Int) - 1)))=1 then (if (wrap64 ((y150.length:Int) - 1)) ≤ (y150.length:Int) then (some ((y150.take ((wrap64 ((y150.length:Int) - 1)):Int).toNat),true)) else (none)) else (some (y150,true))) else (none)) else (none)) else (some (y150,true)))=some (r1,r2):=by first|(rw [hy150];with_reducible exact H)|(have H2_:=(Option.bind_some _ _).symm.trans H;rw [hy150];with_reducible exact H2_)|(have H2_:=(Option.bind_some _ _).symm.trans H;with_reducible exact H2_)|with_reducible exact H|(rw [hy150];exact H)|exact H
      have Ny150:=mk0 hy150;clear hy150
      by_cases c16:(y150.length:Int) > 0
      ·
       rw [if_pos c16] at H;have c16b0:decide (0 < (y150.length:Int))=true:=decide_eq_true c16;have c16b1:decide (0 < y150.length)=true:=decide_eq_true (by omega);clear c16;obtain ⟨ji17,hji17⟩:∃ j_:Int,(wrap64 ((y150.length:Int) - 1))=j_:=⟨_,rfl⟩
       replace H:(if 0 ≤ (ji17) then (if (ji17) < (y150.length:Int) then (if (rd y150 (ji17))=1 then (if (ji17) ≤ (y150.length:Int) then (some ((y150.take ((ji17):Int).toNat),true)) else (none)) else (some (y150,true))) else (none)) else (none))=some (r1,r2):=by first|(rw [hji17] at H;exact H)|(simp only [hji17] at H ⊢;exact H)
       have hji17w:(IntKind.i64.wrap ((y150.length:Int) - 1))=ji17:=(i64_w _).trans hji17
       by_cases c18:0 ≤ (ji17)
       ·
        rw [if_pos c18] at H;have c18b0:decide (0 ≤ (ji17))=true:=decide_eq_true c18;clear c18
        by_cases c19:(ji17) < (y150.length:Int)
        ·
         rw [if_pos c19] at H;have c19b0:decide ((ji17) < (y150.length:Int))=true:=decide_eq_true c19;clear c19
         by_cases c20:(rd y150 (ji17))=1
         ·
          rw [if_pos c20] at H;have c20b0:((rd y150 (ji17)) == 1)=true:=beq_iff_eq.mpr c20;have c20b1:((rd y150 (ji17)) != 1)=false:=bne_eq_false_iff_eq.mpr c20;clear c20
          by_cases c21:(ji17) ≤ (y150.length:Int)
          ·
           rw [if_pos c21] at H;have c21b0:=eq_true c21;have c21b1:decide ((ji17) ≤ (y150.length:Int))=true:=decide_eq_true c21;clear c21;obtain ⟨y154,hy154⟩:∃ y_:List Int,y_=(y150.take ((ji17):Int).toNat):=⟨_,rfl⟩
           replace H:(some (y154,true))=some (r1,r2):=by first|(rw [hy154];with_reducible exact H)|(have H2_:=(Option.bind_some _ _).symm.trans H;rw [hy154];with_reducible exact H2_)|(have H2_:=(Option.bind_some _ _).symm.trans H;with_reducible exact H2_)|with_reducible exact H|(rw [hy154];exact H)|exact H
           have Ny154:=mk0 hy154;clear hy154;simp only [Option.some.injEq,Prod.mk.injEq] at H;obtain ⟨rfl,rfl⟩:=H;have q22:(1:Int) ≤ ((t145.length:Int):Int):=of_decide_eq_true (by first|(with_reducible assumption)|assumption);obtain ⟨i022,hi022,_,hsz22,_⟩:=info_parts info3;have hcut22:=cut_from (P:=Try.prog) 22 3 .i64 Try.underlying22 hi022 1 hsz22 Ao10 t145.length co10 1 (by omega) q22;have hr22:=Kd.Q_drop (k:=(1:Int).toNat) HO_4.out (by omega);obtain ⟨A22,hA22⟩:∃ A1,A1=(if co10=(1:Int).toNat then Ao10 else (Ao10:Option Addr).map (·.add ((1:Int).toNat * 1))):=⟨_,rfl⟩
           obtain ⟨c22,hc22⟩:∃ c1,c1=co10 - (1:Int).toNat:=⟨_,rfl⟩
           have hy22:y150.length=t145.length - (1:Int).toNat:=(by rw [Ny150.out,List.length_drop])
           rw [← Ny150.out] at hr22;rw [← hy22,← hA22,← hc22] at hcut22;replace hr22:Kd.Q (Kd.int .i64) 3 wc w.heap.size (fun _=>True) (.slice A22 y150.length c22) y150:=(by rw [hA22,hc22,hy22];exact hr22)
           have HE22:Aside0 ((Value.slice A22 y150.length c22).ownBlock=(.slice Ao10 t145.length co10:Value).ownBlock):=⟨by rw [hA22];split <;> (cases (Ao10:Option Addr) <;> rfl)⟩
           clear hy22 hi022 hsz22 HO_4 hA22 hc22;have HO152:=mk0 hr22;clear hr22;replace q22:=eq_true q22;have p153:0 ≤ ((ji17):Int):=of_decide_eq_true (by first|(with_reducible assumption)|assumption);have q153:(ji17) < (y150.length:Int):=of_decide_eq_true (by first|(with_reducible assumption)|assumption);obtain ⟨ad153,e153,hx153_0⟩:=Kd.at_int (Kd.Q_reads' HO152.out).2.2 (ji17) p153 q153;cases e153;replace p153:=eq_true p153;replace q153:=eq_true q153;have q23:((ji17):Int) ≤ ((y150.length:Int):Int):=of_decide_eq_true (by first|(with_reducible assumption)|assumption);obtain ⟨i023,hi023,_,hsz23,_⟩:=info_parts info3;have hcut23:=cut_to (P:=Try.prog) 22 3 .i64 Try.underlying22 hi023 (some ad153) y150.length c22 (ji17) (of_decide_eq_true (by first|(with_reducible assumption)|assumption)) q23 (Kd.Q_reads' HO152.out).2.1;have hr23:=Kd.Q_take (m:=((ji17):Int).toNat) HO152.out (by omega);have hy23:y154.length=((ji17):Int).toNat:=(by rw [Ny154.out,List.length_take];omega)
           rw [← Ny154.out] at hr23;rw [← hy23] at hr23 hcut23;clear hy23 hi023 hsz23 HO152;have HO156:=mk0 hr23;clear hr23;replace q23:=eq_true q23;go_wp2;go_ret2;exact ⟨_,by first|rfl|(simp [errW_none,errW_some] <;> rfl)|(simp only [← hji17];first|rfl|(simp [errW_none,errW_some] <;> rfl))|(simp [*,errW_none,errW_some] <;> rfl),by (with_reducible repeat (first|apply Kd.Q_alloc|apply Kd.Q_drewN|apply Kd.Q_drew));exact HO156.out,by repeat (first|(with_reducible first|exact HB.out|apply below_alloc|apply pw_below_drewN|apply below_drew1)|exact HB.out)⟩
          ·
           rw [if_neg c21] at H;exact absurd H (by simp)
         ·
          rw [if_neg c20] at H;have c20b0:((rd y150 (ji17)) == 1)=false:=beq_eq_false_iff_ne.mpr c20;have c20b1:((rd y150 (ji17)) != 1)=true:=bne_iff_ne.mpr c20;simp only [Option.some.injEq,Prod.mk.injEq] at H;obtain ⟨rfl,rfl⟩:=H;have q24:(1:Int) ≤ ((t145.length:Int):Int):=of_decide_eq_true (by first|(with_reducible assumption)|assumption);obtain ⟨i024,hi024,_,hsz24,_⟩:=info_parts info3;have hcut24:=cut_from (P:=Try.prog) 22 3 .i64 Try.underlying22 hi024 1 hsz24 Ao10 t145.length co10 1 (by omega) q24;have hr24:=Kd.Q_drop (k:=(1:Int).toNat) HO_4.out (by omega);obtain ⟨A24,hA24⟩:∃ A1,A1=(if co10=(1:Int).toNat then Ao10 else (Ao10:Option Addr).map (·.add ((1:Int).toNat * 1))):=⟨_,rfl⟩
          obtain ⟨c24,hc24⟩:∃ c1,c1=co10 - (1:Int).toNat:=⟨_,rfl⟩
          have hy24:y150.length=t145.length - (1:Int).toNat:=(by rw [Ny150.out,List.length_drop])
          rw [← Ny150.out] at hr24;rw [← hy24,← hA24,← hc24] at hcut24;replace hr24:Kd.Q (Kd.int .i64) 3 wc w.heap.size (fun _=>True) (.slice A24 y150.length c24) y150:=(by rw [hA24,hc24,hy24];exact hr24)
          have HE24:Aside0 ((Value.slice A24 y150.length c24).ownBlock=(.slice Ao10 t145.length co10:Value).ownBlock):=⟨by rw [hA24];split <;> (cases (Ao10:Option Addr) <;> rfl)⟩
          clear hy24 hi024 hsz24 HO_4 hA24 hc24;have HO152:=mk0 hr24;clear hr24;replace q24:=eq_true q24;have p153:0 ≤ ((ji17):Int):=of_decide_eq_true (by first|(with_reducible assumption)|assumption);have q153:(ji17) < (y150.length:Int):=of_decide_eq_true (by first|(with_reducible assumption)|assumption);obtain ⟨ad153,e153,hx153_0⟩:=Kd.at_int (Kd.Q_reads' HO152.out).2.2 (ji17) p153 q153;cases e153;replace p153:=eq_true p153;replace q153:=eq_true q153;go_wp2;go_ret2;exact ⟨_,by first|rfl|(simp [errW_none,errW_some] <;> rfl)|(simp only [← hji17];first|rfl|(simp [errW_none,errW_some] <;> rfl))|(simp [*,errW_none,errW_some] <;> rfl),by (with_reducible repeat (first|apply Kd.Q_alloc|apply Kd.Q_drewN|apply Kd.Q_drew));exact HO152.out,by repeat (first|(with_reducible first|exact HB.out|apply below_alloc|apply pw_below_drewN|apply below_drew1)|exact HB.out)⟩
        ·
         rw [if_neg c19] at H;exact absurd H (by simp)
       ·
        rw [if_neg c18] at H;exact absurd H (by simp)
      ·
       rw [if_neg c16] at H;have c16b0:decide (0 < (y150.length:Int))=false:=decide_eq_false c16;have c16b1:decide (0 < y150.length)=false:=decide_eq_false (by omega);clear c16;simp only [Option.some.injEq,Prod.mk.injEq] at H;obtain ⟨rfl,rfl⟩:=H;have q25:(1:Int) ≤ ((t145.length:Int):Int):=of_decide_eq_true (by first|(with_reducible assumption)|assumption);obtain ⟨i025,hi025,_,hsz25,_⟩:=info_parts info3;have hcut25:=cut_from (P:=Try.prog) 22 3 .i64 Try.underlying22 hi025 1 hsz25 Ao10 t145.length co10 1 (by omega) q25;have hr25:=Kd.Q_drop (k:=(1:Int).toNat) HO_4.out (by omega);obtain ⟨A25,hA25⟩:∃ A1,A1=(if co10=(1:Int).toNat then Ao10 else (Ao10:Option Addr).map (·.add ((1:Int).toNat * 1))):=⟨_,rfl⟩
       obtain ⟨c25,hc25⟩:∃ c1,c1=co10 - (1:Int).toNat:=⟨_,rfl⟩
       have hy25:y150.length=t145.length - (1:Int).toNat:=(by rw [Ny150.out,List.length_drop])
       rw [← Ny150.out] at hr25;rw [← hy25,← hA25,← hc25] at hcut25;replace hr25:Kd.Q (Kd.int .i64) 3 wc w.heap.size (fun _=>True) (.slice A25 y150.length c25) y150:=(by rw [hA25,hc25,hy25];exact hr25)
       have HE25:Aside0 ((Value.slice A25 y150.length c25).ownBlock=(.slice Ao10 t145.length co10:Value).ownBlock):=⟨by rw [hA25];split <;> (cases (Ao10:Option Addr) <;> rfl)⟩
       clear hy25 hi025 hsz25 HO_4 hA25 hc25;have HO152:=mk0 hr25;clear hr25;replace q25:=eq_true q25;go_wp2;go_ret2;exact ⟨_,by first|rfl|(simp [errW_none,errW_some] <;> rfl)|(simp [*,errW_none,errW_some] <;> rfl),by (with_reducible repeat (first|apply Kd.Q_alloc|apply Kd.Q_drewN|apply Kd.Q_drew));exact HO152.out,by repeat (first|(with_reducible first|exact HB.out|apply below_alloc|apply pw_below_drewN|apply below_drew1)|exact HB.out)⟩
     ·
      rw [if_neg c15] at H;exact absurd H (by simp)
    ·
     replace c14:=Bool.eq_false_iff.mpr c14;subst c14;have H1:(if (t145.length:Int) > 0 then (if 0 ≤ (wrap64 ((t145.length:Int) - 1)) then (if (wrap64 ((t145.length:Int) - 1)) < (t145.length:Int) then (if (rd t145 (wrap64 ((t145.length:Int) - 1)))=1 then (if (wrap64 ((t145.length:Int) - 1)) ≤ (t145.length:Int) then (some ((t145.take ((wrap64 ((t145.length:Int) - 1)):Int).toNat),true)) else (none)) else (some (t145,true))) else (none)) else (none)) else (some (t145,true)))=some (r1,r2):=by rw [if_neg (show ¬ (false=true) by decide)] at H;exact H
     clear H;have H:=H1;clear H1
     by_cases c26:(t145.length:Int) > 0
     ·
      rw [if_pos c26] at H;have c26b0:decide (0 < (t145.length:Int))=true:=decide_eq_true c26;have c26b1:decide (0 < t145.length)=true:=decide_eq_true (by omega);clear c26;obtain ⟨ji27,hji27⟩:∃ j_:Int,(wrap64 ((t145.length:Int) - 1))=j_:=⟨_,rfl⟩
      replace H:(if 0 ≤ (ji27) then (if (ji27) < (t145.length:Int) then (if (rd t145 (ji27))=1 then (if (ji27) ≤ (t145.length:Int) then (some ((t145.take ((ji27):Int).toNat),true)) else (none)) else (some (t145,true))) else (none)) else (none))=some (r1,r2):=by first|(rw [hji27] at H;exact H)|(simp only [hji27] at H ⊢;exact H)
      have hji27w:(IntKind.i64.wrap ((t145.length:Int) - 1))=ji27:=(i64_w _).trans hji27
      by_cases c28:0 ≤ (ji27)
      ·
       rw [if_pos c28] at H;have c28b0:decide (0 ≤ (ji27))=true:=decide_eq_true c28;clear c28
       by_cases c29:(ji27) < (t145.length:Int)
       ·
        rw [if_pos c29] at H;have c29b0:decide ((ji27) < (t145.length:Int))=true:=decide_eq_true c29;clear c29
        by_cases c30:(rd t145 (ji27))=1
        ·
         rw [if_pos c30] at H;have c30b0:((rd t145 (ji27)) == 1)=true:=beq_iff_eq.mpr c30;have c30b1:((rd t145 (ji27)) != 1)=false:=bne_eq_false_iff_eq.mpr c30;clear c30
         by_cases c31:(ji27) ≤ (t145.length:Int)
         ·
          rw [if_pos c31] at H;have c31b0:=eq_true c31;have c31b1:decide ((ji27) ≤ (t145.length:Int))=true:=decide_eq_true c31;clear c31;obtain ⟨y158,hy158⟩:∃ y_:List Int,y_=(t145.take ((ji27):Int).toNat):=⟨_,rfl⟩
          replace H:(some (y158,true))=some (r1,r2):=by first|(rw [hy158];with_reducible exact H)|(have H2_:=(Option.bind_some _ _).symm.trans H;rw [hy158];with_reducible exact H2_)|(have H2_:=(Option.bind_some _ _).symm.trans H;with_reducible exact H2_)|with_reducible exact H|(rw [hy158];exact H)|exact H
          have Ny158:=mk0 hy158;clear hy158;simp only [Option.some.injEq,Prod.mk.injEq] at H;obtain ⟨rfl,rfl⟩:=H;have p157:0 ≤ ((ji27):Int):=of_decide_eq_true (by first|(with_reducible assumption)|assumption);have q157:(ji27) < (t145.length:Int):=of_decide_eq_true (by first|(with_reducible assumption)|assumption);obtain ⟨ad157,e157,hx157_0⟩:=Kd.at_int (Kd.Q_reads' HO_4.out).2.2 (ji27) p157 q157;cases e157;replace p157:=eq_true p157;replace q157:=eq_true q157;have q32:((ji27):Int) ≤ ((t145.length:Int):Int):=of_decide_eq_true (by first|(with_reducible assumption)|assumption);obtain ⟨i032,hi032,_,hsz32,_⟩:=info_parts info3;have hcut32:=cut_to (P:=Try.prog) 22 3 .i64 Try.underlying22 hi032 (some ad157) t145.length co10 (ji27) (of_decide_eq_true (by first|(with_reducible assumption)|assumption)) q32 (Kd.Q_reads' HO_4.out).2.1;have hr32:=Kd.Q_take (m:=((ji27):Int).toNat) HO_4.out (by omega);have hy32:y158.length=((ji27):Int).toNat:=(by rw [Ny158.out,List.length_take];omega)
          rw [← Ny158.out] at hr32;rw [← hy32] at hr32 hcut32;clear hy32 hi032 hsz32 HO_4;have HO160:=mk0 hr32;clear hr32;replace q32:=eq_true q32;go_wp2;go_ret2;exact ⟨_,by first|rfl|(simp [errW_none,errW_some] <;> rfl)|(simp only [← hji27];first|rfl|(simp [errW_none,errW_some] <;> rfl))|(simp [*,errW_none,errW_some] <;> rfl),by (with_reducible repeat (first|apply Kd.Q_alloc|apply Kd.Q_drewN|apply Kd.Q_drew));exact HO160.out,by repeat (first|(with_reducible first|exact HB.out|apply below_alloc|apply pw_below_drewN|apply below_drew1)|exact HB.out)⟩
         ·
          rw [if_neg c31] at H;exact absurd H (by simp)
        ·
         rw [if_neg c30] at H;have c30b0:((rd t145 (ji27)) == 1)=false:=beq_eq_false_iff_ne.mpr c30;have c30b1:((rd t145 (ji27)) != 1)=true:=bne_iff_ne.mpr c30;simp only [Option.some.injEq,Prod.mk.injEq] at H;obtain ⟨rfl,rfl⟩:=H;have p157:0 ≤ ((ji27):Int):=of_decide_eq_true (by first|(with_reducible assumption)|assumption);have q157:(ji27) < (t145.length:Int):=of_decide_eq_true (by first|(with_reducible assumption)|assumption);obtain ⟨ad157,e157,hx157_0⟩:=Kd.at_int (Kd.Q_reads' HO_4.out).2.2 (ji27) p157 q157;cases e157;replace p157:=eq_true p157;replace q157:=eq_true q157;go_wp2;go_ret2;exact ⟨_,by first|rfl|(simp [errW_none,errW_some] <;> rfl)|(simp only [← hji27];first|rfl|(simp [errW_none,errW_some] <;> rfl))|(simp [*,errW_none,errW_some] <;> rfl),by (with_reducible repeat (first|apply Kd.Q_alloc|apply Kd.Q_drewN|apply Kd.Q_drew));exact HO_4.out,by repeat (first|(with_reducible first|exact HB.out|apply below_alloc|apply pw_below_drewN|apply below_drew1)|exact HB.out)⟩
       ·
        rw [if_neg c29] at H;exact absurd H (by simp)
      ·
       rw [if_neg c28] at H;exact absurd H (by simp)
     ·
      rw [if_neg c26] at H;have c26b0:decide (0 < (t145.length:Int))=false:=decide_eq_false c26;have c26b1:decide (0 < t145.length)=false:=decide_eq_false (by omega);clear c26;simp only [Option.some.injEq,Prod.mk.injEq] at H;obtain ⟨rfl,rfl⟩:=H;go_wp2;go_ret2;exact ⟨_,by first|rfl|(simp [errW_none,errW_some] <;> rfl)|(simp [*,errW_none,errW_some] <;> rfl),by (with_reducible repeat (first|apply Kd.Q_alloc|apply Kd.Q_drewN|apply Kd.Q_drew));exact HO_4.out,by repeat (first|(with_reducible first|exact HB.out|apply below_alloc|apply pw_below_drewN|apply below_drew1)|exact HB.out)⟩
/-! ### echo_height: function 47 -/
def echo_height.l0:Nat → List Int → Int → Option (Int × Bool)
  | 0,_,_=>none
  | k + 1,x0,x4=>if (x0.length:Int)=0 then (some (x4,true)) else ((echo_derivative.f k x0).bind fun bt161=>(if bt161.2=true then (echo_height.l0 k bt161.1 (wrap64 (x4 + 1))) else (some (0,false))))
def echo_height.f (k:Nat) (l0:List Int):Option (Int × Bool):=echo_height.l0 k l0 0
theorem echo_height.mono_l:∀ k,(∀ y0 y1,LeO (echo_height.l0 k y0 y1) (echo_height.l0 (k + 1) y0 y1))
  | 0=>fun _ _ r h=>by simp [echo_height.l0] at h
  | k + 1=>by
    have ih0:=echo_height.mono_l k
    · intro y0 y1
      unfold echo_height.l0
      with_reducible repeat' first|exact ih0 _ _|exact echo_derivative.mono _ _|exact LeO.refl _|exact LeO.none _|refine LeO.ite ?_ ?_|refine LeO.bind ?_ (fun _=>?_)
theorem echo_height.mono:∀ a0 k,LeO (echo_height.f k a0) (echo_height.f (k + 1) a0):=by
  intro a0 k
  have ih0:=echo_height.mono_l k
  unfold echo_height.f
  with_reducible repeat' first|exact ih0 _ _|exact echo_derivative.mono _ _|exact LeO.refl _|exact LeO.none _|refine LeO.ite ?_ ?_|refine LeO.bind ?_ (fun _=>?_)
set_option maxHeartbeats 8000000 in
set_option maxRecDepth 100000 in
theorem echo_height.calls (k:Nat) (P0_:Nat → Prop) (A0:Option Addr) (c0:Nat) (l0:List Int) (r1:Int) (r2:Bool) (w:World) (hs0:Kd.V (Kd.int .i64) 3 w w.heap.size (fun k_=>P0_ k_) (.slice A0 l0.length c0) l0) (h:echo_height.f k l0=some (r1,r2)) :
    Calls Try.prog 47 #[.slice A0 l0.length c0] w fun e w'=>e=.returned (.tuple #[.int .i64 r1,.bool r2])∧Below w.heap.size w w':=by
 have HO0:=mk0 (show Kd.V (Kd.int .i64) 3 w w.heap.size (fun k_=>(P0_ k_ ∨ w.heap.size ≤ k_)) (.slice A0 l0.length c0) l0 from Kd.V_mono hs0 (fun k_ hk=>.inl hk));have HB:=mk0 (Below.refl w.heap.size w);have H:(echo_height.l0 k l0 0)=some (r1,r2):=h;clear h;have H':=mk0 H;clear H;go_enter Try.func47,Try.ntmps47;go_wp2
 go_loopg [0,4] k (fun kq v0 v4 w'=>∃ (x0_1:List Int) (x4_1:Int),v4=.int .i64 x4_1∧Aside0 (echo_height.l0 kq x0_1 x4_1=some (r1,r2))∧Aside0 (kq ≤ k)∧Aside0 (Kd.V (Kd.int .i64) 3 w' w.heap.size (fun k_=>(P0_ k_ ∨ w.heap.size ≤ k_)) v0 x0_1)∧Aside0 (Below w.heap.size w w'))
 case atStart=>exact ⟨(l0),(0),(by first|rfl|(simp;done)|(simp [*];done)),H',⟨Nat.le_refl _⟩,⟨by (with_reducible repeat (first|apply Kd.V_alloc|apply Kd.V_drewN|apply Kd.V_drew));exact HO0.out⟩,⟨by repeat (first|(with_reducible first|exact HB.out|apply below_alloc|apply pw_below_drewN|apply below_drew1)|exact HB.out)⟩⟩
 case round =>
  clear H';obtain ⟨x0_1,x4_1,rfl,HA,HK1,HO_0,HB⟩:=hrel;cases gk with
  | zero=>exact absurd HA.out (by simp [echo_height.l0])
  | succ k1 =>
   have H:=HA.out;clear HA;simp only [echo_height.l0] at H
   by_cases c2:(x0_1.length:Int)=0
   ·
    rw [if_pos c2] at H;have c2b0:((x0_1.length:Int) == 0)=true:=beq_iff_eq.mpr c2;have c2b1:((x0_1.length:Int) != 0)=false:=bne_eq_false_iff_eq.mpr c2;clear c2;simp only [Option.some.injEq,Prod.mk.injEq] at H;obtain ⟨rfl,rfl⟩:=H;obtain ⟨Ao3,co3,eo3⟩:=Kd.V_slice HO_0.out;subst eo3;go_wp2;go_ret2;exact ⟨by first|rfl|(simp [errW_none,errW_some] <;> rfl)|(simp [*,errW_none,errW_some] <;> rfl),by repeat (first|(with_reducible first|exact HB.out|apply below_alloc|apply pw_below_drewN|apply below_drew1)|exact HB.out)⟩
   ·
    rw [if_neg c2] at H;have c2b0:((x0_1.length:Int) == 0)=false:=beq_eq_false_iff_ne.mpr c2;have c2b1:((x0_1.length:Int) != 0)=true:=bne_iff_ne.mpr c2;have c2b2:¬ (x0_1=[]):=fun h_=>c2 (by rw [h_];rfl);replace H:=Option.bind_eq_some_iff.mp H;obtain ⟨⟨t161,t162⟩,A40,H⟩:=H;(try dsimp only at H);have A4:=mk0 A40;clear A40
    by_cases c5:t162=true
    ·
     subst c5;have H1:(echo_height.l0 k1 t161 (wrap64 (x4_1 + 1)))=some (r1,r2):=by rw [if_pos rfl] at H;exact H
     clear H;have H:=H1;clear H1;have H':=mk0 H;clear H;obtain ⟨Ao6,co6,eo6⟩:=Kd.V_slice HO_0.out;subst eo6;go_wp2_with (first|((with_reducible refine gate_callee (f:=46) rfl ?_);refine goesL_ (some 15) rfl rfl Try.func46 (by kernel_rfl) rfl #[.slice Ao6 x0_1.length co6] rfl (by (try simp only [List.map_toArray,List.map_cons,List.map_nil]);first|done|rfl|(simp only [List.length_drop,List.length_take];rfl)) ?_;(with_reducible refine (echo_derivative.calls k1 _ _ x0_1 t161 true _ ?side1 ?side2 A4.out).mono ?_);(case side1=>repeat (first|exact (Kd.V_reads' HO_0.out).2.2|(with_reducible refine Kd.C_alloc ?_ _)|(with_reducible refine Kd.C_drewN ?_ _)|(with_reducible refine Kd.C_drew ?_)));(case side2=>exact (Kd.V_reads' HO_0.out).2.1);rintro e w7 ⟨v163,rfl,ho0,hb⟩;refine ⟨_,rfl,?_⟩;have HO164:=mk0 (Kd.Q_lower (Kd.Q_newM (M:=fun k_=>(w.heap.size ≤ k_)) ho0 (below_size HB.out) (fun k_ h_=>h_)) (below_size HB.out));replace HO_0:=mk0 (Kd.V_elder' HO_0.out (Kd.Q_base ho0) hb);replace HB:=bst HB hb;(try clear hb);(try clear ho0)));go_roundg k1
     case measure=>have:=HK1.out;omega
     case rel=>exact ⟨(t161),(wrap64 (x4_1 + 1)),(by first|rfl|(simp;done)|(simp [*];done)),H',⟨by have:=HK1.out;omega⟩,⟨Kd.V_mono (Kd.Q_V (by (with_reducible repeat (first|apply Kd.Q_alloc|apply Kd.Q_drewN|apply Kd.Q_drew));exact Kd.Q_mono HO164.out (fun _ hk=>hk.1))) (fun k_ hk=>by first|exact ⟨(.inr (hk.1)),hk.2⟩|exact (.inr (hk)))⟩,⟨by repeat (first|(with_reducible first|exact HB.out|apply below_alloc|apply pw_below_drewN|apply below_drew1)|exact HB.out)⟩⟩
    ·
     replace c5:=Bool.eq_false_iff.mpr c5;subst c5;have H1:(some (0,false))=some (r1,r2):=by rw [if_neg (show ¬ (false=true) by decide)] at H;exact H
     clear H;have H:=H1;clear H1;simp only [Option.some.injEq,Prod.mk.injEq] at H;obtain ⟨rfl,rfl⟩:=H;obtain ⟨Ao8,co8,eo8⟩:=Kd.V_slice HO_0.out;subst eo8;go_wp2_with (first|((with_reducible refine gate_callee (f:=46) rfl ?_);refine goesL_ (some 15) rfl rfl Try.func46 (by kernel_rfl) rfl #[.slice Ao8 x0_1.length co8] rfl (by (try simp only [List.map_toArray,List.map_cons,List.map_nil]);first|done|rfl|(simp only [List.length_drop,List.length_take];rfl)) ?_;(with_reducible refine (echo_derivative.calls k1 _ _ x0_1 t161 false _ ?side1 ?side2 A4.out).mono ?_);(case side1=>repeat (first|exact (Kd.V_reads' HO_0.out).2.2|(with_reducible refine Kd.C_alloc ?_ _)|(with_reducible refine Kd.C_drewN ?_ _)|(with_reducible refine Kd.C_drew ?_)));(case side2=>exact (Kd.V_reads' HO_0.out).2.1);rintro e w9 ⟨v163,rfl,ho0,hb⟩;refine ⟨_,rfl,?_⟩;have HO164:=mk0 (Kd.Q_lower (Kd.Q_newM (M:=fun k_=>(w.heap.size ≤ k_)) ho0 (below_size HB.out) (fun k_ h_=>h_)) (below_size HB.out));replace HO_0:=mk0 (Kd.V_elder' HO_0.out (Kd.Q_base ho0) hb);replace HB:=bst HB hb;(try clear hb);(try clear ho0)));go_ret2;exact ⟨by first|rfl|(simp [errW_none,errW_some] <;> rfl)|(simp [*,errW_none,errW_some] <;> rfl),by repeat (first|(with_reducible first|exact HB.out|apply below_alloc|apply pw_below_drewN|apply below_drew1)|exact HB.out)⟩
/-! ### echo_smooth: function 45 -/
def echo_smooth.f (k:Nat) (l0:List Int):Option (Bool):=(echo_height.f k l0).bind fun bt165=>(some bt165.2)
theorem echo_smooth.mono:∀ a0 k,LeO (echo_smooth.f k a0) (echo_smooth.f (k + 1) a0):=by
  intro a0 k
  unfold echo_smooth.f
  with_reducible repeat' first|exact echo_height.mono _ _|exact LeO.refl _|exact LeO.none _|refine LeO.ite ?_ ?_|refine LeO.bind ?_ (fun _=>?_)
set_option maxHeartbeats 8000000 in
set_option maxRecDepth 100000 in
theorem echo_smooth.calls (k:Nat) (A0:Option Addr) (c0:Nat) (l0:List Int) (r:Bool) (w:World) (hr0:Kd.C (Kd.int .i64) w A0 l0.length l0) (hc0:l0.length ≤ c0) (h:echo_smooth.f k l0=some r) :
    Calls Try.prog 45 #[.slice A0 l0.length c0] w fun e w'=>e=.returned (.bool r)∧Below w.heap.size w w':=by
 have HR0:=mk0 hr0;have HC0:=mk0 hc0;clear hr0 hc0;have HB:=mk0 (Below.refl w.heap.size w);have H:((echo_height.f k l0).bind fun bt165=>(some bt165.2))=some r:=h;clear h;replace H:=Option.bind_eq_some_iff.mp H;obtain ⟨⟨t165,t166⟩,A20,H⟩:=H;(try dsimp only at H);have A2:=mk0 A20;clear A20;obtain rfl:=Option.some.inj H;go_enter Try.func45,Try.ntmps45;go_wp2_with (first|((with_reducible refine gate_callee (f:=47) rfl ?_);refine goesL_ (some 7) rfl rfl Try.func47 (by kernel_rfl) rfl #[.slice A0 l0.length c0] rfl (by (try simp only [List.map_toArray,List.map_cons,List.map_nil]);first|done|rfl|(simp only [List.length_drop,List.length_take];rfl)) ?_;(with_reducible refine (echo_height.calls k (fun k_=>k_ < w.heap.size) _ _ l0 t165 t166 _ ?side1 A2.out).mono ?_);(case side1=>exact Kd.V_mk HC0.out (Kd.F_below (Kd.C_F (Kd.heap_int .i64) HR0.out) HB.out));rintro e w3 ⟨rfl,hb⟩;refine ⟨_,rfl,?_⟩;replace HB:=bst HB hb;(try clear hb)));go_ret;exact ⟨by first|rfl|(simp [errW_none,errW_some] <;> rfl)|(simp [*,errW_none,errW_some] <;> rfl),by repeat (first|(with_reducible first|exact HB.out|apply below_alloc|apply pw_below_drewN|apply below_drew1)|exact HB.out)⟩
/-! ### echo_Smooth: function 28 -/
def echo_Smooth.f (k:Nat) (l0:List Int):Option (Bool × Int):=(echo_check.f l0 2).bind fun t167=>(if t167=0 then ((echo_smooth.f k l0).bind fun t168=>(some (t168,0))) else (some (false,t167)))
theorem echo_Smooth.mono:∀ a0 k,LeO (echo_Smooth.f k a0) (echo_Smooth.f (k + 1) a0):=by
  intro a0 k
  unfold echo_Smooth.f
  with_reducible repeat' first|exact echo_smooth.mono _ _|exact LeO.refl _|exact LeO.none _|refine LeO.ite ?_ ?_|refine LeO.bind ?_ (fun _=>?_)
set_option maxHeartbeats 8000000 in
set_option maxRecDepth 100000 in
theorem echo_Smooth.calls (k:Nat) (A0:Option Addr) (c0:Nat) (l0:List Int) (r1:Bool) (r2:Int) (w:World) (hr0:Kd.C (Kd.int .i64) w A0 l0.length l0) (hc0:l0.length ≤ c0) (h:echo_Smooth.f k l0=some (r1,r2)) :
    Calls Try.prog 28 #[.slice A0 l0.length c0] w fun e w'=>e=.returned (.tuple #[.bool r1,.int .i64 r2])∧Below w.heap.size w w':=by
 have HR0:=mk0 hr0;have HC0:=mk0 hc0;clear hr0 hc0;have HB:=mk0 (Below.refl w.heap.size w);have H:((echo_check.f l0 2).bind fun t167=>(if t167=0 then ((echo_smooth.f k l0).bind fun t168=>(some (t168,0))) else (some (false,t167))))=some (r1,r2):=h;clear h;replace H:=Option.bind_eq_some_iff.mp H;obtain ⟨t167,A20,H⟩:=H;(try dsimp only at H);have A2:=mk0 A20;clear A20
 by_cases c3:t167=0
 ·
  rw [if_pos c3] at H;have c3b0:(t167 == 0)=true:=beq_iff_eq.mpr c3;have c3b1:(t167 != 0)=false:=bne_eq_false_iff_eq.mpr c3;clear c3;replace H:=Option.bind_eq_some_iff.mp H;obtain ⟨t168,A40,H⟩:=H;(try dsimp only at H);have A4:=mk0 A40;clear A40;simp only [Option.some.injEq,Prod.mk.injEq] at H;obtain ⟨rfl,rfl⟩:=H;go_enter Try.func28,Try.ntmps28;go_wp2_with (first|((with_reducible refine gate_callee (f:=44) rfl ?_);refine goesL_ (some 6) rfl rfl Try.func44 (by kernel_rfl) rfl #[.slice A0 l0.length c0,.int .i64 2] rfl (by (try simp only [List.map_toArray,List.map_cons,List.map_nil]);first|done|rfl|(simp only [List.length_drop,List.length_take];rfl)) ?_;(with_reducible refine (echo_check.calls _ _ l0 2 t167 _ ?side1 ?side2 A2.out).mono ?_);(case side1=>repeat (first|exact HR0.out|(with_reducible refine Kd.C_alloc ?_ _)|(with_reducible refine Kd.C_drewN ?_ _)|(with_reducible refine Kd.C_drew ?_)));(case side2=>exact HC0.out);rintro e w5 ⟨rfl,hb⟩;refine ⟨_,rfl,?_⟩;replace HB:=bst HB hb;(try clear hb))|((with_reducible refine gate_callee (f:=45) rfl ?_);refine goesL_ (some 11) rfl rfl Try.func45 (by kernel_rfl) rfl #[.slice A0 l0.length c0] rfl (by (try simp only [List.map_toArray,List.map_cons,List.map_nil]);first|done|rfl|(simp only [List.length_drop,List.length_take];rfl)) ?_;(with_reducible refine (echo_smooth.calls k _ _ l0 t168 _ ?side1 ?side2 A4.out).mono ?_);(case side1=>repeat (first|exact (Kd.C_below HR0.out HB.out)|(with_reducible refine Kd.C_alloc ?_ _)|(with_reducible refine Kd.C_drewN ?_ _)|(with_reducible refine Kd.C_drew ?_)));(case side2=>exact HC0.out);rintro e w6 ⟨rfl,hb⟩;refine ⟨_,rfl,?_⟩;replace HB:=bst HB hb;(try clear hb)));go_ret2;exact ⟨by first|rfl|(simp [errW_none,errW_some] <;> rfl)|(simp [*,errW_none,errW_some] <;> rfl),by repeat (first|(with_reducible first|exact HB.out|apply below_alloc|apply pw_below_drewN|apply below_drew1)|exact HB.out)⟩
 ·
  rw [if_neg c3] at H;have c3b0:(t167 == 0)=false:=beq_eq_false_iff_ne.mpr c3;have c3b1:(t167 != 0)=true:=bne_iff_ne.mpr c3;simp only [Option.some.injEq,Prod.mk.injEq] at H;obtain ⟨rfl,rfl⟩:=H;go_enter Try.func28,Try.ntmps28;go_wp2_with (first|((with_reducible refine gate_callee (f:=44) rfl ?_);refine goesL_ (some 6) rfl rfl Try.func44 (by kernel_rfl) rfl #[.slice A0 l0.length c0,.int .i64 2] rfl (by (try simp only [List.map_toArray,List.map_cons,List.map_nil]);first|done|rfl|(simp only [List.length_drop,List.length_take];rfl)) ?_;(with_reducible refine (echo_check.calls _ _ l0 2 t167 _ ?side1 ?side2 A2.out).mono ?_);(case side1=>repeat (first|exact HR0.out|(with_reducible refine Kd.C_alloc ?_ _)|(with_reducible refine Kd.C_drewN ?_ _)|(with_reducible refine Kd.C_drew ?_)));(case side2=>exact HC0.out);rintro e w7 ⟨rfl,hb⟩;refine ⟨_,rfl,?_⟩;replace HB:=bst HB hb;(try clear hb)));go_ret2;exact ⟨by first|rfl|(simp [errW_none,errW_some] <;> rfl)|(simp [*,errW_none,errW_some] <;> rfl),by repeat (first|(with_reducible first|exact HB.out|apply below_alloc|apply pw_below_drewN|apply below_drew1)|exact HB.out)⟩
/-! ### echo_Derivative: function 29 -/
def echo_Derivative.f (k:Nat) (l0:List Int):Option (List Int × Int):=(echo_check.f l0 2).bind fun t169=>(if t169=0 then ((echo_derivative.f k l0).bind fun bt170=>(if bt170.2=true then (some (bt170.1,0)) else (some (([]:List Int),5)))) else (some (([]:List Int),t169)))
theorem echo_Derivative.mono:∀ a0 k,LeO (echo_Derivative.f k a0) (echo_Derivative.f (k + 1) a0):=by
  intro a0 k
  unfold echo_Derivative.f
  with_reducible repeat' first|exact echo_derivative.mono _ _|exact LeO.refl _|exact LeO.none _|refine LeO.ite ?_ ?_|refine LeO.bind ?_ (fun _=>?_)
set_option maxHeartbeats 8000000 in
set_option maxRecDepth 100000 in
theorem echo_Derivative.calls (k:Nat) (A0:Option Addr) (c0:Nat) (l0:List Int) (r1:List Int) (r2:Int) (w:World) (hr0:Kd.C (Kd.int .i64) w A0 l0.length l0) (hc0:l0.length ≤ c0) (h:echo_Derivative.f k l0=some (r1,r2)) :
    Calls Try.prog 29 #[.slice A0 l0.length c0] w fun e w'=>∃ v0_:Value,e=.returned (.tuple #[v0_,.int .i64 r2])∧Kd.Q (Kd.int .i64) 3 w' w.heap.size (fun _=>True) v0_ r1∧Below w.heap.size w w':=by
 have HR0:=mk0 hr0;have HC0:=mk0 hc0;clear hr0 hc0;have HB:=mk0 (Below.refl w.heap.size w);have H:((echo_check.f l0 2).bind fun t169=>(if t169=0 then ((echo_derivative.f k l0).bind fun bt170=>(if bt170.2=true then (some (bt170.1,0)) else (some (([]:List Int),5)))) else (some (([]:List Int),t169))))=some (r1,r2):=h;clear h;replace H:=Option.bind_eq_some_iff.mp H;obtain ⟨t169,A20,H⟩:=H;(try dsimp only at H);have A2:=mk0 A20;clear A20
 by_cases c3:t169=0
 ·
  rw [if_pos c3] at H;have c3b0:(t169 == 0)=true:=beq_iff_eq.mpr c3;have c3b1:(t169 != 0)=false:=bne_eq_false_iff_eq.mpr c3;clear c3;replace H:=Option.bind_eq_some_iff.mp H;obtain ⟨⟨t170,t171⟩,A40,H⟩:=H;(try dsimp only at H);have A4:=mk0 A40;clear A40
  by_cases c5:t171=true
  ·
   subst c5;have H1:(some (t170,0))=some (r1,r2):=by rw [if_pos rfl] at H;exact H
   clear H;have H:=H1;clear H1;simp only [Option.some.injEq,Prod.mk.injEq] at H;obtain ⟨rfl,rfl⟩:=H;go_enter Try.func29,Try.ntmps29;go_wp2_with (first|((with_reducible refine gate_callee (f:=44) rfl ?_);refine goesL_ (some 8) rfl rfl Try.func44 (by kernel_rfl) rfl #[.slice A0 l0.length c0,.int .i64 2] rfl (by (try simp only [List.map_toArray,List.map_cons,List.map_nil]);first|done|rfl|(simp only [List.length_drop,List.length_take];rfl)) ?_;(with_reducible refine (echo_check.calls _ _ l0 2 t169 _ ?side1 ?side2 A2.out).mono ?_);(case side1=>repeat (first|exact HR0.out|(with_reducible refine Kd.C_alloc ?_ _)|(with_reducible refine Kd.C_drewN ?_ _)|(with_reducible refine Kd.C_drew ?_)));(case side2=>exact HC0.out);rintro e w6 ⟨rfl,hb⟩;refine ⟨_,rfl,?_⟩;replace HB:=bst HB hb;(try clear hb))|((with_reducible refine gate_callee (f:=46) rfl ?_);refine goesL_ (some 14) rfl rfl Try.func46 (by kernel_rfl) rfl #[.slice A0 l0.length c0] rfl (by (try simp only [List.map_toArray,List.map_cons,List.map_nil]);first|done|rfl|(simp only [List.length_drop,List.length_take];rfl)) ?_;(with_reducible refine (echo_derivative.calls k _ _ l0 t170 true _ ?side1 ?side2 A4.out).mono ?_);(case side1=>repeat (first|exact (Kd.C_below HR0.out HB.out)|(with_reducible refine Kd.C_alloc ?_ _)|(with_reducible refine Kd.C_drewN ?_ _)|(with_reducible refine Kd.C_drew ?_)));(case side2=>exact HC0.out);rintro e w7 ⟨v172,rfl,ho0,hb⟩;refine ⟨_,rfl,?_⟩;have HO173:=mk0 (Kd.Q_lower ho0 (below_size HB.out));replace HB:=bst HB hb;(try clear hb);(try clear ho0)));go_ret2;exact ⟨_,by first|rfl|(simp [errW_none,errW_some] <;> rfl)|(simp [*,errW_none,errW_some] <;> rfl),by (with_reducible repeat (first|apply Kd.Q_alloc|apply Kd.Q_drewN|apply Kd.Q_drew));exact HO173.out,by repeat (first|(with_reducible first|exact HB.out|apply below_alloc|apply pw_below_drewN|apply below_drew1)|exact HB.out)⟩
  ·
   replace c5:=Bool.eq_false_iff.mpr c5;subst c5;have H1:(some (([]:List Int),5))=some (r1,r2):=by rw [if_neg (show ¬ (false=true) by decide)] at H;exact H
   clear H;have H:=H1;clear H1;simp only [Option.some.injEq,Prod.mk.injEq] at H;obtain ⟨rfl,rfl⟩:=H;go_enter Try.func29,Try.ntmps29;go_wp2_with (first|((with_reducible refine gate_callee (f:=44) rfl ?_);refine goesL_ (some 8) rfl rfl Try.func44 (by kernel_rfl) rfl #[.slice A0 l0.length c0,.int .i64 2] rfl (by (try simp only [List.map_toArray,List.map_cons,List.map_nil]);first|done|rfl|(simp only [List.length_drop,List.length_take];rfl)) ?_;(with_reducible refine (echo_check.calls _ _ l0 2 t169 _ ?side1 ?side2 A2.out).mono ?_);(case side1=>repeat (first|exact HR0.out|(with_reducible refine Kd.C_alloc ?_ _)|(with_reducible refine Kd.C_drewN ?_ _)|(with_reducible refine Kd.C_drew ?_)));(case side2=>exact HC0.out);rintro e w8 ⟨rfl,hb⟩;refine ⟨_,rfl,?_⟩;replace HB:=bst HB hb;(try clear hb))|((with_reducible refine gate_callee (f:=46) rfl ?_);refine goesL_ (some 14) rfl rfl Try.func46 (by kernel_rfl) rfl #[.slice A0 l0.length c0] rfl (by (try simp only [List.map_toArray,List.map_cons,List.map_nil]);first|done|rfl|(simp only [List.length_drop,List.length_take];rfl)) ?_;(with_reducible refine (echo_derivative.calls k _ _ l0 t170 false _ ?side1 ?side2 A4.out).mono ?_);(case side1=>repeat (first|exact (Kd.C_below HR0.out HB.out)|(with_reducible refine Kd.C_alloc ?_ _)|(with_reducible refine Kd.C_drewN ?_ _)|(with_reducible refine Kd.C_drew ?_)));(case side2=>exact HC0.out);rintro e w9 ⟨v172,rfl,ho0,hb⟩;refine ⟨_,rfl,?_⟩;have HO173:=mk0 (Kd.Q_lower ho0 (below_size HB.out));replace HB:=bst HB hb;(try clear hb);(try clear ho0)));go_ret2;exact ⟨_,by first|rfl|(simp [errW_none,errW_some] <;> rfl)|(simp [*,errW_none,errW_some] <;> rfl),Kd.Q_of_R (by first|exact Kd.R_nil _ _ _ _ _|exact Kd.N_nil _ _ _ _ _|exact Kd.V_nil _ _ _ _ _|exact Kd.Q_nil _ _ _ _ _|exact Kd.S_nil _ _ _ _ _),by repeat (first|(with_reducible first|exact HB.out|apply below_alloc|apply pw_below_drewN|apply below_drew1)|exact HB.out)⟩
 ·
  rw [if_neg c3] at H;have c3b0:(t169 == 0)=false:=beq_eq_false_iff_ne.mpr c3;have c3b1:(t169 != 0)=true:=bne_iff_ne.mpr c3;simp only [Option.some.injEq,Prod.mk.injEq] at H;obtain ⟨rfl,rfl⟩:=H;go_enter Try.func29,Try.ntmps29;go_wp2_with (first|((with_reducible refine gate_callee (f:=44) rfl ?_);refine goesL_ (some 8) rfl rfl Try.func44 (by kernel_rfl) rfl #[.slice A0 l0.length c0,.int .i64 2] rfl (by (try simp only [List.map_toArray,List.map_cons,List.map_nil]);first|done|rfl|(simp only [List.length_drop,List.length_take];rfl)) ?_;(with_reducible refine (echo_check.calls _ _ l0 2 t169 _ ?side1 ?side2 A2.out).mono ?_);(case side1=>repeat (first|exact HR0.out|(with_reducible refine Kd.C_alloc ?_ _)|(with_reducible refine Kd.C_drewN ?_ _)|(with_reducible refine Kd.C_drew ?_)));(case side2=>exact HC0.out);rintro e w10 ⟨rfl,hb⟩;refine ⟨_,rfl,?_⟩;replace HB:=bst HB hb;(try clear hb)));go_ret2;exact ⟨_,by first|rfl|(simp [errW_none,errW_some] <;> rfl)|(simp [*,errW_none,errW_some] <;> rfl),Kd.Q_of_R (by first|exact Kd.R_nil _ _ _ _ _|exact Kd.N_nil _ _ _ _ _|exact Kd.V_nil _ _ _ _ _|exact Kd.Q_nil _ _ _ _ _|exact Kd.S_nil _ _ _ _ _),by repeat (first|(with_reducible first|exact HB.out|apply below_alloc|apply pw_below_drewN|apply below_drew1)|exact HB.out)⟩
/-! ### echo_Height: function 30 -/
def echo_Height.f (k:Nat) (l0:List Int):Option (Int × Int):=(echo_check.f l0 2).bind fun t174=>(if t174=0 then ((echo_height.f k l0).bind fun bt175=>(if bt175.2=true then (some (bt175.1,0)) else (some (0,5)))) else (some (0,t174)))
theorem echo_Height.mono:∀ a0 k,LeO (echo_Height.f k a0) (echo_Height.f (k + 1) a0):=by
  intro a0 k
  unfold echo_Height.f
  with_reducible repeat' first|exact echo_height.mono _ _|exact LeO.refl _|exact LeO.none _|refine LeO.ite ?_ ?_|refine LeO.bind ?_ (fun _=>?_)
set_option maxHeartbeats 8000000 in
set_option maxRecDepth 100000 in
theorem echo_Height.calls (k:Nat) (A0:Option Addr) (c0:Nat) (l0:List Int) (r1:Int) (r2:Int) (w:World) (hr0:Kd.C (Kd.int .i64) w A0 l0.length l0) (hc0:l0.length ≤ c0) (h:echo_Height.f k l0=some (r1,r2)) :
    Calls Try.prog 30 #[.slice A0 l0.length c0] w fun e w'=>e=.returned (.tuple #[.int .i64 r1,.int .i64 r2])∧Below w.heap.size w w':=by
 have HR0:=mk0 hr0;have HC0:=mk0 hc0;clear hr0 hc0;have HB:=mk0 (Below.refl w.heap.size w);have H:((echo_check.f l0 2).bind fun t174=>(if t174=0 then ((echo_height.f k l0).bind fun bt175=>(if bt175.2=true then (some (bt175.1,0)) else (some (0,5)))) else (some (0,t174))))=some (r1,r2):=h;clear h;replace H:=Option.bind_eq_some_iff.mp H;obtain ⟨t174,A20,H⟩:=H;(try dsimp only at H);have A2:=mk0 A20;clear A20
 by_cases c3:t174=0
 ·
  rw [if_pos c3] at H;have c3b0:(t174 == 0)=true:=beq_iff_eq.mpr c3;have c3b1:(t174 != 0)=false:=bne_eq_false_iff_eq.mpr c3;clear c3;replace H:=Option.bind_eq_some_iff.mp H;obtain ⟨⟨t175,t176⟩,A40,H⟩:=H;(try dsimp only at H);have A4:=mk0 A40;clear A40
  by_cases c5:t176=true
  ·
   subst c5;have H1:(some (t175,0))=some (r1,r2):=by rw [if_pos rfl] at H;exact H
   clear H;have H:=H1;clear H1;simp only [Option.some.injEq,Prod.mk.injEq] at H;obtain ⟨rfl,rfl⟩:=H;go_enter Try.func30,Try.ntmps30;go_wp2_with (first|((with_reducible refine gate_callee (f:=44) rfl ?_);refine goesL_ (some 8) rfl rfl Try.func44 (by kernel_rfl) rfl #[.slice A0 l0.length c0,.int .i64 2] rfl (by (try simp only [List.map_toArray,List.map_cons,List.map_nil]);first|done|rfl|(simp only [List.length_drop,List.length_take];rfl)) ?_;(with_reducible refine (echo_check.calls _ _ l0 2 t174 _ ?side1 ?side2 A2.out).mono ?_);(case side1=>repeat (first|exact HR0.out|(with_reducible refine Kd.C_alloc ?_ _)|(with_reducible refine Kd.C_drewN ?_ _)|(with_reducible refine Kd.C_drew ?_)));(case side2=>exact HC0.out);rintro e w6 ⟨rfl,hb⟩;refine ⟨_,rfl,?_⟩;replace HB:=bst HB hb;(try clear hb))|((with_reducible refine gate_callee (f:=47) rfl ?_);refine goesL_ (some 14) rfl rfl Try.func47 (by kernel_rfl) rfl #[.slice A0 l0.length c0] rfl (by (try simp only [List.map_toArray,List.map_cons,List.map_nil]);first|done|rfl|(simp only [List.length_drop,List.length_take];rfl)) ?_;(with_reducible refine (echo_height.calls k (fun k_=>k_ < w.heap.size) _ _ l0 t175 true _ ?side1 A4.out).mono ?_);(case side1=>exact Kd.V_mk HC0.out (Kd.F_below (Kd.C_F (Kd.heap_int .i64) HR0.out) HB.out));rintro e w7 ⟨rfl,hb⟩;refine ⟨_,rfl,?_⟩;replace HB:=bst HB hb;(try clear hb)));go_ret2;exact ⟨by first|rfl|(simp [errW_none,errW_some] <;> rfl)|(simp [*,errW_none,errW_some] <;> rfl),by repeat (first|(with_reducible first|exact HB.out|apply below_alloc|apply pw_below_drewN|apply below_drew1)|exact HB.out)⟩
  ·
   replace c5:=Bool.eq_false_iff.mpr c5;subst c5;have H1:(some (0,5))=some (r1,r2):=by rw [if_neg (show ¬ (false=true) by decide)] at H;exact H
   clear H;have H:=H1;clear H1;simp only [Option.some.injEq,Prod.mk.injEq] at H;obtain ⟨rfl,rfl⟩:=H;go_enter Try.func30,Try.ntmps30;go_wp2_with (first|((with_reducible refine gate_callee (f:=44) rfl ?_);refine goesL_ (some 8) rfl rfl Try.func44 (by kernel_rfl) rfl #[.slice A0 l0.length c0,.int .i64 2] rfl (by (try simp only [List.map_toArray,List.map_cons,List.map_nil]);first|done|rfl|(simp only [List.length_drop,List.length_take];rfl)) ?_;(with_reducible refine (echo_check.calls _ _ l0 2 t174 _ ?side1 ?side2 A2.out).mono ?_);(case side1=>repeat (first|exact HR0.out|(with_reducible refine Kd.C_alloc ?_ _)|(with_reducible refine Kd.C_drewN ?_ _)|(with_reducible refine Kd.C_drew ?_)));(case side2=>exact HC0.out);rintro e w8 ⟨rfl,hb⟩;refine ⟨_,rfl,?_⟩;replace HB:=bst HB hb;(try clear hb))|((with_reducible refine gate_callee (f:=47) rfl ?_);refine goesL_ (some 14) rfl rfl Try.func47 (by kernel_rfl) rfl #[.slice A0 l0.length c0] rfl (by (try simp only [List.map_toArray,List.map_cons,List.map_nil]);first|done|rfl|(simp only [List.length_drop,List.length_take];rfl)) ?_;(with_reducible refine (echo_height.calls k (fun k_=>k_ < w.heap.size) _ _ l0 t175 false _ ?side1 A4.out).mono ?_);(case side1=>exact Kd.V_mk HC0.out (Kd.F_below (Kd.C_F (Kd.heap_int .i64) HR0.out) HB.out));rintro e w9 ⟨rfl,hb⟩;refine ⟨_,rfl,?_⟩;replace HB:=bst HB hb;(try clear hb)));go_ret2;exact ⟨by first|rfl|(simp [errW_none,errW_some] <;> rfl)|(simp [*,errW_none,errW_some] <;> rfl),by repeat (first|(with_reducible first|exact HB.out|apply below_alloc|apply pw_below_drewN|apply below_drew1)|exact HB.out)⟩
 ·
  rw [if_neg c3] at H;have c3b0:(t174 == 0)=false:=beq_eq_false_iff_ne.mpr c3;have c3b1:(t174 != 0)=true:=bne_iff_ne.mpr c3;simp only [Option.some.injEq,Prod.mk.injEq] at H;obtain ⟨rfl,rfl⟩:=H;go_enter Try.func30,Try.ntmps30;go_wp2_with (first|((with_reducible refine gate_callee (f:=44) rfl ?_);refine goesL_ (some 8) rfl rfl Try.func44 (by kernel_rfl) rfl #[.slice A0 l0.length c0,.int .i64 2] rfl (by (try simp only [List.map_toArray,List.map_cons,List.map_nil]);first|done|rfl|(simp only [List.length_drop,List.length_take];rfl)) ?_;(with_reducible refine (echo_check.calls _ _ l0 2 t174 _ ?side1 ?side2 A2.out).mono ?_);(case side1=>repeat (first|exact HR0.out|(with_reducible refine Kd.C_alloc ?_ _)|(with_reducible refine Kd.C_drewN ?_ _)|(with_reducible refine Kd.C_drew ?_)));(case side2=>exact HC0.out);rintro e w10 ⟨rfl,hb⟩;refine ⟨_,rfl,?_⟩;replace HB:=bst HB hb;(try clear hb)));go_ret2;exact ⟨by first|rfl|(simp [errW_none,errW_some] <;> rfl)|(simp [*,errW_none,errW_some] <;> rfl),by repeat (first|(with_reducible first|exact HB.out|apply below_alloc|apply pw_below_drewN|apply below_drew1)|exact HB.out)⟩
/-! ### bellpulllaw02_lives: function 19 -/
def bellpulllaw02_lives.f (k:Nat) :Option (Bool):=(echo_Kolakoski.f k 1 2 10).bind fun bt177=>((echo_Golomb.f k 9).bind fun bt181=>((echo_Ones.f k 10).bind fun bt185=>((echo_Derivative.f k (([1,2,2,1]:List Int))).bind fun bt190=>((echo_Height.f k (([1,2,2,1]:List Int))).bind fun bt197=>((echo_Smooth.f k (([1,2,1,2,1]:List Int))).bind fun bt202=>((bellpullref01_Same.f k bt177.1 (([1,2,2,1,1,2,1,2,2,1]:List Int))).bind fun t207=>(if t207=true then (if bt177.2=0 then ((bellpullref01_Same.f k bt181.1 (([1,2,2,3,3,4,4,4,5]:List Int))).bind fun t211=>(if t211=true then (if bt181.2=0 then (if bt185.1=5 then (if bt185.2=0 then ((bellpullref01_Same.f k bt190.1 (([2]:List Int))).bind fun t215=>(if t215=true then (if bt190.2=0 then (if bt197.1=2 then (if bt197.2=0 then (if bt202.1=true then (none) else (some (bt202.2 == 0))) else (none)) else (none)) else (none)) else (none))) else (none)) else (none)) else (none)) else (none))) else (none)) else (none))))))))
theorem bellpulllaw02_lives.mono:∀ k,LeO (bellpulllaw02_lives.f k ) (bellpulllaw02_lives.f (k + 1) ):=by
  intro  k
  unfold bellpulllaw02_lives.f
  with_reducible repeat' first|exact bellpullref01_Same.mono _ _ _|exact echo_Derivative.mono _ _|exact echo_Golomb.mono _ _|exact echo_Height.mono _ _|exact echo_Kolakoski.mono _ _ _ _|exact echo_Ones.mono _ _|exact echo_Smooth.mono _ _|exact LeO.refl _|exact LeO.none _|refine LeO.ite ?_ ?_|refine LeO.bind ?_ (fun _=>?_)
set_option maxHeartbeats 8000000 in
set_option maxRecDepth 100000 in
theorem bellpulllaw02_lives.calls (k:Nat)  (r:Bool) (w:World) (h:bellpulllaw02_lives.f k =some r) :
    Calls Try.prog 19 #[] w fun e w'=>e=.returned (.bool r)∧Below w.heap.size w w':=by
 have HB:=mk0 (Below.refl w.heap.size w);have H:((echo_Kolakoski.f k 1 2 10).bind fun bt177=>((echo_Golomb.f k 9).bind fun bt181=>((echo_Ones.f k 10).bind fun bt185=>((echo_Derivative.f k (([1,2,2,1]:List Int))).bind fun bt190=>((echo_Height.f k (([1,2,2,1]:List Int))).bind fun bt197=>((echo_Smooth.f k (([1,2,1,2,1]:List Int))).bind fun bt202=>((bellpullref01_Same.f k bt177.1 (([1,2,2,1,1,2,1,2,2,1]:List Int))).bind fun t207=>(if t207=true then (if bt177.2=0 then ((bellpullref01_Same.f k bt181.1 (([1,2,2,3,3,4,4,4,5]:List Int))).bind fun t211=>(if t211=true then (if bt181.2=0 then (if bt185.1=5 then (if bt185.2=0 then ((bellpullref01_Same.f k bt190.1 (([2]:List Int))).bind fun t215=>(if t215=true then (if bt190.2=0 then (if bt197.1=2 then (if bt197.2=0 then (if bt202.1=true then (none) else (some (bt202.2 == 0))) else (none)) else (none)) else (none)) else (none))) else (none)) else (none)) else (none)) else (none))) else (none)) else (none)))))))))=some r:=h;clear h;replace H:=Option.bind_eq_some_iff.mp H;obtain ⟨⟨t177,t180⟩,A10,H⟩:=H;(try dsimp only at H);have A1:=mk0 A10;clear A10;replace H:=Option.bind_eq_some_iff.mp H;obtain ⟨⟨t181,t184⟩,A20,H⟩:=H;(try dsimp only at H);have A2:=mk0 A20;clear A20;replace H:=Option.bind_eq_some_iff.mp H;obtain ⟨⟨t185,t186⟩,A30,H⟩:=H;(try dsimp only at H);have A3:=mk0 A30;clear A30;obtain ⟨y187,hy187⟩:∃ y_:List Int,y_=(([1,2,2,1]:List Int)):=⟨_,rfl⟩
 replace H:((echo_Derivative.f k y187).bind fun bt190=>((echo_Height.f k (([1,2,2,1]:List Int))).bind fun bt197=>((echo_Smooth.f k (([1,2,1,2,1]:List Int))).bind fun bt202=>((bellpullref01_Same.f k t177 (([1,2,2,1,1,2,1,2,2,1]:List Int))).bind fun t207=>(if t207=true then (if t180=0 then ((bellpullref01_Same.f k t181 (([1,2,2,3,3,4,4,4,5]:List Int))).bind fun t211=>(if t211=true then (if t184=0 then (if t185=5 then (if t186=0 then ((bellpullref01_Same.f k bt190.1 (([2]:List Int))).bind fun t215=>(if t215=true then (if bt190.2=0 then (if bt197.1=2 then (if bt197.2=0 then (if bt202.1=true then (none) else (some (bt202.2 == 0))) else (none)) else (none)) else (none)) else (none))) else (none)) else (none)) else (none)) else (none))) else (none)) else (none))))))=some r:=by first|(rw [hy187];with_reducible exact H)|(have H2_:=(Option.bind_some _ _).symm.trans H;rw [hy187];with_reducible exact H2_)|(have H2_:=(Option.bind_some _ _).symm.trans H;with_reducible exact H2_)|with_reducible exact H|(rw [hy187];exact H)|exact H
 have Ny187:=mk0 hy187;clear hy187;replace H:=Option.bind_eq_some_iff.mp H;obtain ⟨⟨t190,t191⟩,A40,H⟩:=H;(try dsimp only at H);have A4:=mk0 A40;clear A40;obtain ⟨y194,hy194⟩:∃ y_:List Int,y_=(([1,2,2,1]:List Int)):=⟨_,rfl⟩
 replace H:((echo_Height.f k y194).bind fun bt197=>((echo_Smooth.f k (([1,2,1,2,1]:List Int))).bind fun bt202=>((bellpullref01_Same.f k t177 (([1,2,2,1,1,2,1,2,2,1]:List Int))).bind fun t207=>(if t207=true then (if t180=0 then ((bellpullref01_Same.f k t181 (([1,2,2,3,3,4,4,4,5]:List Int))).bind fun t211=>(if t211=true then (if t184=0 then (if t185=5 then (if t186=0 then ((bellpullref01_Same.f k t190 (([2]:List Int))).bind fun t215=>(if t215=true then (if t191=0 then (if bt197.1=2 then (if bt197.2=0 then (if bt202.1=true then (none) else (some (bt202.2 == 0))) else (none)) else (none)) else (none)) else (none))) else (none)) else (none)) else (none)) else (none))) else (none)) else (none)))))=some r:=by first|(rw [hy194];with_reducible exact H)|(have H2_:=(Option.bind_some _ _).symm.trans H;rw [hy194];with_reducible exact H2_)|(have H2_:=(Option.bind_some _ _).symm.trans H;with_reducible exact H2_)|with_reducible exact H|(rw [hy194];exact H)|exact H
 have Ny194:=mk0 hy194;clear hy194;replace H:=Option.bind_eq_some_iff.mp H;obtain ⟨⟨t197,t198⟩,A50,H⟩:=H;(try dsimp only at H);have A5:=mk0 A50;clear A50;obtain ⟨y199,hy199⟩:∃ y_:List Int,y_=(([1,2,1,2,1]:List Int)):=⟨_,rfl⟩
 replace H:((echo_Smooth.f k y199).bind fun bt202=>((bellpullref01_Same.f k t177 (([1,2,2,1,1,2,1,2,2,1]:List Int))).bind fun t207=>(if t207=true then (if t180=0 then ((bellpullref01_Same.f k t181 (([1,2,2,3,3,4,4,4,5]:List Int))).bind fun t211=>(if t211=true then (if t184=0 then (if t185=5 then (if t186=0 then ((bellpullref01_Same.f k t190 (([2]:List Int))).bind fun t215=>(if t215=true then (if t191=0 then (if t197=2 then (if t198=0 then (if bt202.1=true then (none) else (some (bt202.2 == 0))) else (none)) else (none)) else (none)) else (none))) else (none)) else (none)) else (none)) else (none))) else (none)) else (none))))=some r:=by first|(rw [hy199];with_reducible exact H)|(have H2_:=(Option.bind_some _ _).symm.trans H;rw [hy199];with_reducible exact H2_)|(have H2_:=(Option.bind_some _ _).symm.trans H;with_reducible exact H2_)|with_reducible exact H|(rw [hy199];exact H)|exact H
 have Ny199:=mk0 hy199;clear hy199;replace H:=Option.bind_eq_some_iff.mp H;obtain ⟨⟨t202,t203⟩,A60,H⟩:=H;(try dsimp only at H);have A6:=mk0 A60;clear A60;obtain ⟨y204,hy204⟩:∃ y_:List Int,y_=(([1,2,2,1,1,2,1,2,2,1]:List Int)):=⟨_,rfl⟩
 replace H:((bellpullref01_Same.f k t177 y204).bind fun t207=>(if t207=true then (if t180=0 then ((bellpullref01_Same.f k t181 (([1,2,2,3,3,4,4,4,5]:List Int))).bind fun t211=>(if t211=true then (if t184=0 then (if t185=5 then (if t186=0 then ((bellpullref01_Same.f k t190 (([2]:List Int))).bind fun t215=>(if t215=true then (if t191=0 then (if t197=2 then (if t198=0 then (if t202=true then (none) else (some (t203 == 0))) else (none)) else (none)) else (none)) else (none))) else (none)) else (none)) else (none)) else (none))) else (none)) else (none)))=some r:=by first|(rw [hy204];with_reducible exact H)|(have H2_:=(Option.bind_some _ _).symm.trans H;rw [hy204];with_reducible exact H2_)|(have H2_:=(Option.bind_some _ _).symm.trans H;with_reducible exact H2_)|with_reducible exact H|(rw [hy204];exact H)|exact H
 have Ny204:=mk0 hy204;clear hy204;replace H:=Option.bind_eq_some_iff.mp H;obtain ⟨t207,A70,H⟩:=H;(try dsimp only at H);have A7:=mk0 A70;clear A70
 by_cases c8:t207=true
 ·
  subst c8;have H1:(if t180=0 then ((bellpullref01_Same.f k t181 (([1,2,2,3,3,4,4,4,5]:List Int))).bind fun t211=>(if t211=true then (if t184=0 then (if t185=5 then (if t186=0 then ((bellpullref01_Same.f k t190 (([2]:List Int))).bind fun t215=>(if t215=true then (if t191=0 then (if t197=2 then (if t198=0 then (if t202=true then (none) else (some (t203 == 0))) else (none)) else (none)) else (none)) else (none))) else (none)) else (none)) else (none)) else (none))) else (none))=some r:=by rw [if_pos rfl] at H;exact H
  clear H;have H:=H1;clear H1
  by_cases c9:t180=0
  ·
   rw [if_pos c9] at H;have c9b0:(t180 == 0)=true:=beq_iff_eq.mpr c9;have c9b1:(t180 != 0)=false:=bne_eq_false_iff_eq.mpr c9;clear c9;obtain ⟨y208,hy208⟩:∃ y_:List Int,y_=(([1,2,2,3,3,4,4,4,5]:List Int)):=⟨_,rfl⟩
   replace H:((bellpullref01_Same.f k t181 y208).bind fun t211=>(if t211=true then (if t184=0 then (if t185=5 then (if t186=0 then ((bellpullref01_Same.f k t190 (([2]:List Int))).bind fun t215=>(if t215=true then (if t191=0 then (if t197=2 then (if t198=0 then (if t202=true then (none) else (some (t203 == 0))) else (none)) else (none)) else (none)) else (none))) else (none)) else (none)) else (none)) else (none)))=some r:=by first|(rw [hy208];with_reducible exact H)|(have H2_:=(Option.bind_some _ _).symm.trans H;rw [hy208];with_reducible exact H2_)|(have H2_:=(Option.bind_some _ _).symm.trans H;with_reducible exact H2_)|with_reducible exact H|(rw [hy208];exact H)|exact H
   have Ny208:=mk0 hy208;clear hy208;replace H:=Option.bind_eq_some_iff.mp H;obtain ⟨t211,A100,H⟩:=H;(try dsimp only at H);have A10:=mk0 A100;clear A100
   by_cases c11:t211=true
   ·
    subst c11;have H1:(if t184=0 then (if t185=5 then (if t186=0 then ((bellpullref01_Same.f k t190 (([2]:List Int))).bind fun t215=>(if t215=true then (if t191=0 then (if t197=2 then (if t198=0 then (if t202=true then (none) else (some (t203 == 0))) else (none)) else (none)) else (none)) else (none))) else (none)) else (none)) else (none))=some r:=by rw [if_pos rfl] at H;exact H
    clear H;have H:=H1;clear H1
    by_cases c12:t184=0
    ·
     rw [if_pos c12] at H;have c12b0:(t184 == 0)=true:=beq_iff_eq.mpr c12;have c12b1:(t184 != 0)=false:=bne_eq_false_iff_eq.mpr c12;clear c12
     by_cases c13:t185=5
     ·
      rw [if_pos c13] at H;have c13b0:(t185 == 5)=true:=beq_iff_eq.mpr c13;have c13b1:(t185 != 5)=false:=bne_eq_false_iff_eq.mpr c13;clear c13
      by_cases c14:t186=0
      ·
       rw [if_pos c14] at H;have c14b0:(t186 == 0)=true:=beq_iff_eq.mpr c14;have c14b1:(t186 != 0)=false:=bne_eq_false_iff_eq.mpr c14;clear c14;obtain ⟨y212,hy212⟩:∃ y_:List Int,y_=(([2]:List Int)):=⟨_,rfl⟩
       replace H:((bellpullref01_Same.f k t190 y212).bind fun t215=>(if t215=true then (if t191=0 then (if t197=2 then (if t198=0 then (if t202=true then (none) else (some (t203 == 0))) else (none)) else (none)) else (none)) else (none)))=some r:=by first|(rw [hy212];with_reducible exact H)|(have H2_:=(Option.bind_some _ _).symm.trans H;rw [hy212];with_reducible exact H2_)|(have H2_:=(Option.bind_some _ _).symm.trans H;with_reducible exact H2_)|with_reducible exact H|(rw [hy212];exact H)|exact H
       have Ny212:=mk0 hy212;clear hy212;replace H:=Option.bind_eq_some_iff.mp H;obtain ⟨t215,A150,H⟩:=H;(try dsimp only at H);have A15:=mk0 A150;clear A150
       by_cases c16:t215=true
       ·
        subst c16;have H1:(if t191=0 then (if t197=2 then (if t198=0 then (if t202=true then (none) else (some (t203 == 0))) else (none)) else (none)) else (none))=some r:=by rw [if_pos rfl] at H;exact H
        clear H;have H:=H1;clear H1
        by_cases c17:t191=0
        ·
         rw [if_pos c17] at H;have c17b0:(t191 == 0)=true:=beq_iff_eq.mpr c17;have c17b1:(t191 != 0)=false:=bne_eq_false_iff_eq.mpr c17;clear c17
         by_cases c18:t197=2
         ·
          rw [if_pos c18] at H;have c18b0:(t197 == 2)=true:=beq_iff_eq.mpr c18;have c18b1:(t197 != 2)=false:=bne_eq_false_iff_eq.mpr c18;clear c18
          by_cases c19:t198=0
          ·
           rw [if_pos c19] at H;have c19b0:(t198 == 0)=true:=beq_iff_eq.mpr c19;have c19b1:(t198 != 0)=false:=bne_eq_false_iff_eq.mpr c19;clear c19
           by_cases c20:t202=true
           ·
            subst c20;have H1:(none)=some r:=by rw [if_pos rfl] at H;exact H
            clear H;have H:=H1;clear H1;exact absurd H (by simp)
           ·
            replace c20:=Bool.eq_false_iff.mpr c20;subst c20;have H1:(some (t203 == 0))=some r:=by rw [if_neg (show ¬ (false=true) by decide)] at H;exact H
            clear H;have H:=H1;clear H1;obtain rfl:=Option.some.inj H;go_enter Try.func19,Try.ntmps19;go_wp2_with (first|((with_reducible refine gate_callee (f:=15) rfl ?_);refine goesL_ (some 14) rfl rfl Try.func15 (by kernel_rfl) rfl #[.int .i64 1,.int .i64 2,.int .i64 10] rfl (by (try simp only [List.map_toArray,List.map_cons,List.map_nil]);first|done|rfl|(simp only [List.length_drop,List.length_take];rfl)) ?_;(with_reducible refine (echo_Kolakoski.calls k 1 2 10 t177 t180 _ A1.out).mono ?_);rintro e w21 ⟨v178,rfl,ho0,hb⟩;refine ⟨_,rfl,?_⟩;have HO179:=mk0 (Kd.V_lower (Kd.V_mono (ok':=fun k_=>True) ho0 (fun k_ hk_=>trivial)) (below_size (by repeat (first|(with_reducible first|exact HB.out|apply below_alloc|apply pw_below_drewN|apply below_drew1)|exact HB.out))));replace HB:=mk0 (below_step (by repeat (first|(with_reducible first|exact HB.out|apply below_alloc|apply pw_below_drewN|apply below_drew1)|exact HB.out)) hb);(try clear hb);(try clear hk);(try clear ho0))|((with_reducible refine gate_callee (f:=16) rfl ?_);refine goesL_ (some 18) rfl rfl Try.func16 (by kernel_rfl) rfl #[.int .i64 9] rfl (by (try simp only [List.map_toArray,List.map_cons,List.map_nil]);first|done|rfl|(simp only [List.length_drop,List.length_take];rfl)) ?_;(with_reducible refine (echo_Golomb.calls k 9 t181 t184 _ A2.out).mono ?_);rintro e w22 ⟨v182,rfl,ho0,hb⟩;refine ⟨_,rfl,?_⟩;have HO183:=mk0 (Kd.V_lower (Kd.V_mono (ok':=fun k_=>True) ho0 (fun k_ hk_=>trivial)) (below_size (by repeat (first|(with_reducible first|exact HB.out|apply below_alloc|apply pw_below_drewN|apply below_drew1)|exact HB.out))));replace HO179:=mk0 (Kd.V_below (by (with_reducible repeat (first|apply Kd.V_alloc|apply Kd.V_drewN|apply Kd.V_drew));exact HO179.out) hb);replace HB:=mk0 (below_step (by repeat (first|(with_reducible first|exact HB.out|apply below_alloc|apply pw_below_drewN|apply below_drew1)|exact HB.out)) hb);(try clear hb);(try clear hk);(try clear ho0))|((with_reducible refine gate_callee (f:=17) rfl ?_);refine goesL_ (some 22) rfl rfl Try.func17 (by kernel_rfl) rfl #[.int .i64 10] rfl (by (try simp only [List.map_toArray,List.map_cons,List.map_nil]);first|done|rfl|(simp only [List.length_drop,List.length_take];rfl)) ?_;(with_reducible refine (echo_Ones.calls k 10 t185 t186 _ A3.out).mono ?_);rintro e w23 ⟨rfl,hb⟩;refine ⟨_,rfl,?_⟩;replace HO179:=mk0 (Kd.V_below (by (with_reducible repeat (first|apply Kd.V_alloc|apply Kd.V_drewN|apply Kd.V_drew));exact HO179.out) hb);replace HO183:=mk0 (Kd.V_below (by (with_reducible repeat (first|apply Kd.V_alloc|apply Kd.V_drewN|apply Kd.V_drew));exact HO183.out) hb);replace HB:=mk0 (below_step (by repeat (first|(with_reducible first|exact HB.out|apply below_alloc|apply pw_below_drewN|apply below_drew1)|exact HB.out)) hb);(try clear hb);(try clear hk))|((with_reducible refine gate_dst (N:=26) rfl ?_);(try (refine gate_guard (by rfl) ?_;dsimp only));refine Kd.R_lit (Kd.int .i64) _ 3 ?hg (N:=26) ?hd (xs:=([1,2,2,1]:List Int)) (inner:=[.int .i64 1,.int .i64 2,.int .i64 2,.int .i64 1]) (ok:=fun _=>True) (okp:=fun _=>True) ?hr ?hp (fun _ hk=>hk) trivial (Below.refl _ _) (Nat.le_refl _) (by simp) ?_;(case hd=>rfl);(case hg=>rfl);(case hr=>first|(go_simp;done)|(go_simp;rfl));(case hp=>exact (Reps.one (show Kd.M (Kd.int .i64) _ _ _ 1 [.int .i64 1] from rfl) (Reps.one (show Kd.M (Kd.int .i64) _ _ _ 2 [.int .i64 2] from rfl) (Reps.one (show Kd.M (Kd.int .i64) _ _ _ 2 [.int .i64 2] from rfl) (Reps.one (show Kd.M (Kd.int .i64) _ _ _ 1 [.int .i64 1] from rfl) (Reps.none _ _))))));intro v188 w24 ho25 hb hg_ hnew_;clear hg_ hnew_;(first|rw [← Ny187.out] at ho25|(simp only [Int.reduceToNat] at ho25;rw [← Ny187.out] at ho25));have HO189:=mk0 (Kd.R_lower ho25 (below_size (by repeat (first|(with_reducible first|exact HB.out|apply below_alloc|apply pw_below_drewN|apply below_drew1)|exact HB.out))));replace HO179:=mk0 (Kd.V_elder' (by (with_reducible repeat (first|apply Kd.V_alloc|apply Kd.V_drewN|apply Kd.V_drew));exact HO179.out) (Kd.R_base ho25) hb);replace HO183:=mk0 (Kd.V_elder' (by (with_reducible repeat (first|apply Kd.V_alloc|apply Kd.V_drewN|apply Kd.V_drew));exact HO183.out) (Kd.R_base ho25) hb);replace HB:=mk0 (below_step (by repeat (first|(with_reducible first|exact HB.out|apply below_alloc|apply pw_below_drewN|apply below_drew1)|exact HB.out)) hb);clear hb ho25;obtain ⟨Ao26,co26,eo26⟩:=Kd.R_slice HO189.out;subst eo26)|((with_reducible refine gate_callee (f:=29) rfl ?_);refine goesL_ (some 27) rfl rfl Try.func29 (by kernel_rfl) rfl #[.slice Ao26 y187.length co26] rfl (by (try simp only [List.map_toArray,List.map_cons,List.map_nil]);first|done|rfl|(simp only [List.length_drop,List.length_take];rfl)) ?_;(with_reducible refine (echo_Derivative.calls k _ _ y187 t190 t191 _ ?side1 ?side2 A4.out).mono ?_);(case side1=>repeat (first|exact (Kd.R_reads' HO189.out).2.2|(with_reducible refine Kd.C_alloc ?_ _)|(with_reducible refine Kd.C_drewN ?_ _)|(with_reducible refine Kd.C_drew ?_)));(case side2=>exact (Kd.R_reads' HO189.out).2.1);rintro e w27 ⟨v192,rfl,ho0,hb⟩;refine ⟨_,rfl,?_⟩;have HO193:=mk0 (Kd.Q_lower (Kd.Q_new' ho0 (Kd.R_lt (by (with_reducible repeat (first|apply Kd.R_alloc|apply Kd.R_drewN|apply Kd.R_drew));exact HO189.out))) (below_size (by repeat (first|(with_reducible first|exact HB.out|apply below_alloc|apply pw_below_drewN|apply below_drew1)|exact HB.out))));replace HO179:=mk0 (Kd.V_elder' (by (with_reducible repeat (first|apply Kd.V_alloc|apply Kd.V_drewN|apply Kd.V_drew));exact HO179.out) (Kd.Q_base ho0) hb);replace HO183:=mk0 (Kd.V_elder' (by (with_reducible repeat (first|apply Kd.V_alloc|apply Kd.V_drewN|apply Kd.V_drew));exact HO183.out) (Kd.Q_base ho0) hb);replace HO189:=mk0 (Kd.R_elder' (by (with_reducible repeat (first|apply Kd.R_alloc|apply Kd.R_drewN|apply Kd.R_drew));exact HO189.out) (Kd.Q_base ho0) hb);replace HB:=mk0 (below_step (by repeat (first|(with_reducible first|exact HB.out|apply below_alloc|apply pw_below_drewN|apply below_drew1)|exact HB.out)) hb);(try clear hb);(try clear hk);(try clear ho0))|((with_reducible refine gate_dst (N:=31) rfl ?_);(try (refine gate_guard (by rfl) ?_;dsimp only));refine Kd.R_lit (Kd.int .i64) _ 3 ?hg (N:=31) ?hd (xs:=([1,2,2,1]:List Int)) (inner:=[.int .i64 1,.int .i64 2,.int .i64 2,.int .i64 1]) (ok:=fun _=>True) (okp:=fun _=>True) ?hr ?hp (fun _ hk=>hk) trivial (Below.refl _ _) (Nat.le_refl _) (by simp) ?_;(case hd=>rfl);(case hg=>rfl);(case hr=>first|(go_simp;done)|(go_simp;rfl));(case hp=>exact (Reps.one (show Kd.M (Kd.int .i64) _ _ _ 1 [.int .i64 1] from rfl) (Reps.one (show Kd.M (Kd.int .i64) _ _ _ 2 [.int .i64 2] from rfl) (Reps.one (show Kd.M (Kd.int .i64) _ _ _ 2 [.int .i64 2] from rfl) (Reps.one (show Kd.M (Kd.int .i64) _ _ _ 1 [.int .i64 1] from rfl) (Reps.none _ _))))));intro v195 w28 ho29 hb hg_ hnew_;clear hg_ hnew_;(first|rw [← Ny194.out] at ho29|(simp only [Int.reduceToNat] at ho29;rw [← Ny194.out] at ho29));have HO196:=mk0 (Kd.R_lower (Kd.R_new' (Kd.R_new' ho29 (Kd.R_lt (by (with_reducible repeat (first|apply Kd.R_alloc|apply Kd.R_drewN|apply Kd.R_drew));exact HO189.out))) (Kd.Q_lt (by (with_reducible repeat (first|apply Kd.Q_alloc|apply Kd.Q_drewN|apply Kd.Q_drew));exact HO193.out))) (below_size (by repeat (first|(with_reducible first|exact HB.out|apply below_alloc|apply pw_below_drewN|apply below_drew1)|exact HB.out))));replace HO179:=mk0 (Kd.V_elder' (by (with_reducible repeat (first|apply Kd.V_alloc|apply Kd.V_drewN|apply Kd.V_drew));exact HO179.out) (Kd.R_base ho29) hb);replace HO183:=mk0 (Kd.V_elder' (by (with_reducible repeat (first|apply Kd.V_alloc|apply Kd.V_drewN|apply Kd.V_drew));exact HO183.out) (Kd.R_base ho29) hb);replace HO189:=mk0 (Kd.R_elder' (by (with_reducible repeat (first|apply Kd.R_alloc|apply Kd.R_drewN|apply Kd.R_drew));exact HO189.out) (Kd.R_base ho29) hb);replace HO193:=mk0 (Kd.Q_elder' (by (with_reducible repeat (first|apply Kd.Q_alloc|apply Kd.Q_drewN|apply Kd.Q_drew));exact HO193.out) (Kd.R_base ho29) hb);replace HB:=mk0 (below_step (by repeat (first|(with_reducible first|exact HB.out|apply below_alloc|apply pw_below_drewN|apply below_drew1)|exact HB.out)) hb);clear hb ho29;obtain ⟨Ao30,co30,eo30⟩:=Kd.R_slice HO196.out;subst eo30)|((with_reducible refine gate_callee (f:=30) rfl ?_);refine goesL_ (some 32) rfl rfl Try.func30 (by kernel_rfl) rfl #[.slice Ao30 y194.length co30] rfl (by (try simp only [List.map_toArray,List.map_cons,List.map_nil]);first|done|rfl|(simp only [List.length_drop,List.length_take];rfl)) ?_;(with_reducible refine (echo_Height.calls k _ _ y194 t197 t198 _ ?side1 ?side2 A5.out).mono ?_);(case side1=>repeat (first|exact (Kd.R_reads' HO196.out).2.2|(with_reducible refine Kd.C_alloc ?_ _)|(with_reducible refine Kd.C_drewN ?_ _)|(with_reducible refine Kd.C_drew ?_)));(case side2=>exact (Kd.R_reads' HO196.out).2.1);rintro e w31 ⟨rfl,hb⟩;refine ⟨_,rfl,?_⟩;replace HO179:=mk0 (Kd.V_below (by (with_reducible repeat (first|apply Kd.V_alloc|apply Kd.V_drewN|apply Kd.V_drew));exact HO179.out) hb);replace HO183:=mk0 (Kd.V_below (by (with_reducible repeat (first|apply Kd.V_alloc|apply Kd.V_drewN|apply Kd.V_drew));exact HO183.out) hb);replace HO189:=mk0 (Kd.R_below (by (with_reducible repeat (first|apply Kd.R_alloc|apply Kd.R_drewN|apply Kd.R_drew));exact HO189.out) hb);replace HO193:=mk0 (Kd.Q_below (by (with_reducible repeat (first|apply Kd.Q_alloc|apply Kd.Q_drewN|apply Kd.Q_drew));exact HO193.out) hb);replace HO196:=mk0 (Kd.R_below (by (with_reducible repeat (first|apply Kd.R_alloc|apply Kd.R_drewN|apply Kd.R_drew));exact HO196.out) hb);replace HB:=mk0 (below_step (by repeat (first|(with_reducible first|exact HB.out|apply below_alloc|apply pw_below_drewN|apply below_drew1)|exact HB.out)) hb);(try clear hb);(try clear hk))|((with_reducible refine gate_dst (N:=36) rfl ?_);(try (refine gate_guard (by rfl) ?_;dsimp only));refine Kd.R_lit (Kd.int .i64) _ 3 ?hg (N:=36) ?hd (xs:=([1,2,1,2,1]:List Int)) (inner:=[.int .i64 1,.int .i64 2,.int .i64 1,.int .i64 2,.int .i64 1]) (ok:=fun _=>True) (okp:=fun _=>True) ?hr ?hp (fun _ hk=>hk) trivial (Below.refl _ _) (Nat.le_refl _) (by simp) ?_;(case hd=>rfl);(case hg=>rfl);(case hr=>first|(go_simp;done)|(go_simp;rfl));(case hp=>exact (Reps.one (show Kd.M (Kd.int .i64) _ _ _ 1 [.int .i64 1] from rfl) (Reps.one (show Kd.M (Kd.int .i64) _ _ _ 2 [.int .i64 2] from rfl) (Reps.one (show Kd.M (Kd.int .i64) _ _ _ 1 [.int .i64 1] from rfl) (Reps.one (show Kd.M (Kd.int .i64) _ _ _ 2 [.int .i64 2] from rfl) (Reps.one (show Kd.M (Kd.int .i64) _ _ _ 1 [.int .i64 1] from rfl) (Reps.none _ _)))))));intro v200 w32 ho33 hb hg_ hnew_;clear hg_ hnew_;(first|rw [← Ny199.out] at ho33|(simp only [Int.reduceToNat] at ho33;rw [← Ny199.out] at ho33));have HO201:=mk0 (Kd.R_lower (Kd.R_new' (Kd.R_new' (Kd.R_new' ho33 (Kd.R_lt (by (with_reducible repeat (first|apply Kd.R_alloc|apply Kd.R_drewN|apply Kd.R_drew));exact HO189.out))) (Kd.Q_lt (by (with_reducible repeat (first|apply Kd.Q_alloc|apply Kd.Q_drewN|apply Kd.Q_drew));exact HO193.out))) (Kd.R_lt (by (with_reducible repeat (first|apply Kd.R_alloc|apply Kd.R_drewN|apply Kd.R_drew));exact HO196.out))) (below_size (by repeat (first|(with_reducible first|exact HB.out|apply below_alloc|apply pw_below_drewN|apply below_drew1)|exact HB.out))));replace HO179:=mk0 (Kd.V_elder' (by (with_reducible repeat (first|apply Kd.V_alloc|apply Kd.V_drewN|apply Kd.V_drew));exact HO179.out) (Kd.R_base ho33) hb);replace HO183:=mk0 (Kd.V_elder' (by (with_reducible repeat (first|apply Kd.V_alloc|apply Kd.V_drewN|apply Kd.V_drew));exact HO183.out) (Kd.R_base ho33) hb);replace HO189:=mk0 (Kd.R_elder' (by (with_reducible repeat (first|apply Kd.R_alloc|apply Kd.R_drewN|apply Kd.R_drew));exact HO189.out) (Kd.R_base ho33) hb);replace HO193:=mk0 (Kd.Q_elder' (by (with_reducible repeat (first|apply Kd.Q_alloc|apply Kd.Q_drewN|apply Kd.Q_drew));exact HO193.out) (Kd.R_base ho33) hb);replace HO196:=mk0 (Kd.R_elder' (by (with_reducible repeat (first|apply Kd.R_alloc|apply Kd.R_drewN|apply Kd.R_drew));exact HO196.out) (Kd.R_base ho33) hb);replace HB:=mk0 (below_step (by repeat (first|(with_reducible first|exact HB.out|apply below_alloc|apply pw_below_drewN|apply below_drew1)|exact HB.out)) hb);clear hb ho33;obtain ⟨Ao34,co34,eo34⟩:=Kd.R_slice HO201.out;subst eo34)|((with_reducible refine gate_callee (f:=28) rfl ?_);refine goesL_ (some 37) rfl rfl Try.func28 (by kernel_rfl) rfl #[.slice Ao34 y199.length co34] rfl (by (try simp only [List.map_toArray,List.map_cons,List.map_nil]);first|done|rfl|(simp only [List.length_drop,List.length_take];rfl)) ?_;(with_reducible refine (echo_Smooth.calls k _ _ y199 false t203 _ ?side1 ?side2 A6.out).mono ?_);(case side1=>repeat (first|exact (Kd.R_reads' HO201.out).2.2|(with_reducible refine Kd.C_alloc ?_ _)|(with_reducible refine Kd.C_drewN ?_ _)|(with_reducible refine Kd.C_drew ?_)));(case side2=>exact (Kd.R_reads' HO201.out).2.1);rintro e w35 ⟨rfl,hb⟩;refine ⟨_,rfl,?_⟩;replace HO179:=mk0 (Kd.V_below (by (with_reducible repeat (first|apply Kd.V_alloc|apply Kd.V_drewN|apply Kd.V_drew));exact HO179.out) hb);replace HO183:=mk0 (Kd.V_below (by (with_reducible repeat (first|apply Kd.V_alloc|apply Kd.V_drewN|apply Kd.V_drew));exact HO183.out) hb);replace HO189:=mk0 (Kd.R_below (by (with_reducible repeat (first|apply Kd.R_alloc|apply Kd.R_drewN|apply Kd.R_drew));exact HO189.out) hb);replace HO193:=mk0 (Kd.Q_below (by (with_reducible repeat (first|apply Kd.Q_alloc|apply Kd.Q_drewN|apply Kd.Q_drew));exact HO193.out) hb);replace HO196:=mk0 (Kd.R_below (by (with_reducible repeat (first|apply Kd.R_alloc|apply Kd.R_drewN|apply Kd.R_drew));exact HO196.out) hb);replace HO201:=mk0 (Kd.R_below (by (with_reducible repeat (first|apply Kd.R_alloc|apply Kd.R_drewN|apply Kd.R_drew));exact HO201.out) hb);replace HB:=mk0 (below_step (by repeat (first|(with_reducible first|exact HB.out|apply below_alloc|apply pw_below_drewN|apply below_drew1)|exact HB.out)) hb);(try clear hb);(try clear hk))|((with_reducible refine gate_dst (N:=41) rfl ?_);(try (refine gate_guard (by rfl) ?_;dsimp only));refine Kd.R_lit (Kd.int .i64) _ 3 ?hg (N:=41) ?hd (xs:=([1,2,2,1,1,2,1,2,2,1]:List Int)) (inner:=[.int .i64 1,.int .i64 2,.int .i64 2,.int .i64 1,.int .i64 1,.int .i64 2,.int .i64 1,.int .i64 2,.int .i64 2,.int .i64 1]) (ok:=fun _=>True) (okp:=fun _=>True) ?hr ?hp (fun _ hk=>hk) trivial (Below.refl _ _) (Nat.le_refl _) (by simp) ?_;(case hd=>rfl);(case hg=>rfl);(case hr=>first|(go_simp;done)|(go_simp;rfl));(case hp=>exact (Reps.one (show Kd.M (Kd.int .i64) _ _ _ 1 [.int .i64 1] from rfl) (Reps.one (show Kd.M (Kd.int .i64) _ _ _ 2 [.int .i64 2] from rfl) (Reps.one (show Kd.M (Kd.int .i64) _ _ _ 2 [.int .i64 2] from rfl) (Reps.one (show Kd.M (Kd.int .i64) _ _ _ 1 [.int .i64 1] from rfl) (Reps.one (show Kd.M (Kd.int .i64) _ _ _ 1 [.int .i64 1] from rfl) (Reps.one (show Kd.M (Kd.int .i64) _ _ _ 2 [.int .i64 2] from rfl) (Reps.one (show Kd.M (Kd.int .i64) _ _ _ 1 [.int .i64 1] from rfl) (Reps.one (show Kd.M (Kd.int .i64) _ _ _ 2 [.int .i64 2] from rfl) (Reps.one (show Kd.M (Kd.int .i64) _ _ _ 2 [.int .i64 2] from rfl) (Reps.one (show Kd.M (Kd.int .i64) _ _ _ 1 [.int .i64 1] from rfl) (Reps.none _ _))))))))))));intro v205 w36 ho37 hb hg_ hnew_;clear hg_ hnew_;(first|rw [← Ny204.out] at ho37|(simp only [Int.reduceToNat] at ho37;rw [← Ny204.out] at ho37));have HO206:=mk0 (Kd.R_lower (Kd.R_new' (Kd.R_new' (Kd.R_new' (Kd.R_new' ho37 (Kd.R_lt (by (with_reducible repeat (first|apply Kd.R_alloc|apply Kd.R_drewN|apply Kd.R_drew));exact HO189.out))) (Kd.Q_lt (by (with_reducible repeat (first|apply Kd.Q_alloc|apply Kd.Q_drewN|apply Kd.Q_drew));exact HO193.out))) (Kd.R_lt (by (with_reducible repeat (first|apply Kd.R_alloc|apply Kd.R_drewN|apply Kd.R_drew));exact HO196.out))) (Kd.R_lt (by (with_reducible repeat (first|apply Kd.R_alloc|apply Kd.R_drewN|apply Kd.R_drew));exact HO201.out))) (below_size (by repeat (first|(with_reducible first|exact HB.out|apply below_alloc|apply pw_below_drewN|apply below_drew1)|exact HB.out))));replace HO179:=mk0 (Kd.V_elder' (by (with_reducible repeat (first|apply Kd.V_alloc|apply Kd.V_drewN|apply Kd.V_drew));exact HO179.out) (Kd.R_base ho37) hb);replace HO183:=mk0 (Kd.V_elder' (by (with_reducible repeat (first|apply Kd.V_alloc|apply Kd.V_drewN|apply Kd.V_drew));exact HO183.out) (Kd.R_base ho37) hb);replace HO189:=mk0 (Kd.R_elder' (by (with_reducible repeat (first|apply Kd.R_alloc|apply Kd.R_drewN|apply Kd.R_drew));exact HO189.out) (Kd.R_base ho37) hb);replace HO193:=mk0 (Kd.Q_elder' (by (with_reducible repeat (first|apply Kd.Q_alloc|apply Kd.Q_drewN|apply Kd.Q_drew));exact HO193.out) (Kd.R_base ho37) hb);replace HO196:=mk0 (Kd.R_elder' (by (with_reducible repeat (first|apply Kd.R_alloc|apply Kd.R_drewN|apply Kd.R_drew));exact HO196.out) (Kd.R_base ho37) hb);replace HO201:=mk0 (Kd.R_elder' (by (with_reducible repeat (first|apply Kd.R_alloc|apply Kd.R_drewN|apply Kd.R_drew));exact HO201.out) (Kd.R_base ho37) hb);replace HB:=mk0 (below_step (by repeat (first|(with_reducible first|exact HB.out|apply below_alloc|apply pw_below_drewN|apply below_drew1)|exact HB.out)) hb);clear hb ho37;obtain ⟨Ao38,co38,eo38⟩:=Kd.V_slice HO179.out;subst eo38;obtain ⟨Ao39,co39,eo39⟩:=Kd.R_slice HO206.out;subst eo39)|((with_reducible refine gate_callee (f:=20) rfl ?_);refine goesL_ (some 42) rfl rfl Try.func20 (by kernel_rfl) rfl #[.slice Ao38 t177.length co38,.slice Ao39 y204.length co39] rfl (by (try simp only [List.map_toArray,List.map_cons,List.map_nil]);first|done|rfl|(simp only [List.length_drop,List.length_take];rfl)) ?_;(with_reducible refine (bellpullref01_Same.calls k _ _ t177 _ _ y204 true _ ?side1 ?side2 ?side3 ?side4 A7.out).mono ?_);(case side1=>repeat (first|exact (Kd.V_reads' HO179.out).2.2|(with_reducible refine Kd.C_alloc ?_ _)|(with_reducible refine Kd.C_drewN ?_ _)|(with_reducible refine Kd.C_drew ?_)));(case side2=>exact (Kd.V_reads' HO179.out).2.1);(case side3=>repeat (first|exact (Kd.R_reads' HO206.out).2.2|(with_reducible refine Kd.C_alloc ?_ _)|(with_reducible refine Kd.C_drewN ?_ _)|(with_reducible refine Kd.C_drew ?_)));(case side4=>exact (Kd.R_reads' HO206.out).2.1);rintro e w' ⟨rfl,⟨nd,rfl⟩⟩;refine ⟨_,rfl,?_⟩)|((with_reducible refine gate_dst (N:=49) rfl ?_);(try (refine gate_guard (by rfl) ?_;dsimp only));refine Kd.R_lit (Kd.int .i64) _ 3 ?hg (N:=49) ?hd (xs:=([1,2,2,3,3,4,4,4,5]:List Int)) (inner:=[.int .i64 1,.int .i64 2,.int .i64 2,.int .i64 3,.int .i64 3,.int .i64 4,.int .i64 4,.int .i64 4,.int .i64 5]) (ok:=fun _=>True) (okp:=fun _=>True) ?hr ?hp (fun _ hk=>hk) trivial (Below.refl _ _) (Nat.le_refl _) (by simp) ?_;(case hd=>rfl);(case hg=>rfl);(case hr=>first|(go_simp;done)|(go_simp;rfl));(case hp=>exact (Reps.one (show Kd.M (Kd.int .i64) _ _ _ 1 [.int .i64 1] from rfl) (Reps.one (show Kd.M (Kd.int .i64) _ _ _ 2 [.int .i64 2] from rfl) (Reps.one (show Kd.M (Kd.int .i64) _ _ _ 2 [.int .i64 2] from rfl) (Reps.one (show Kd.M (Kd.int .i64) _ _ _ 3 [.int .i64 3] from rfl) (Reps.one (show Kd.M (Kd.int .i64) _ _ _ 3 [.int .i64 3] from rfl) (Reps.one (show Kd.M (Kd.int .i64) _ _ _ 4 [.int .i64 4] from rfl) (Reps.one (show Kd.M (Kd.int .i64) _ _ _ 4 [.int .i64 4] from rfl) (Reps.one (show Kd.M (Kd.int .i64) _ _ _ 4 [.int .i64 4] from rfl) (Reps.one (show Kd.M (Kd.int .i64) _ _ _ 5 [.int .i64 5] from rfl) (Reps.none _ _)))))))))));intro v209 w40 ho41 hb hg_ hnew_;clear hg_ hnew_;(first|rw [← Ny208.out] at ho41|(simp only [Int.reduceToNat] at ho41;rw [← Ny208.out] at ho41));have HO210:=mk0 (Kd.R_lower (Kd.R_new' (Kd.R_new' (Kd.R_new' (Kd.R_new' (Kd.R_new' ho41 (Kd.R_lt (by (with_reducible repeat (first|apply Kd.R_alloc|apply Kd.R_drewN|apply Kd.R_drew));exact HO189.out))) (Kd.Q_lt (by (with_reducible repeat (first|apply Kd.Q_alloc|apply Kd.Q_drewN|apply Kd.Q_drew));exact HO193.out))) (Kd.R_lt (by (with_reducible repeat (first|apply Kd.R_alloc|apply Kd.R_drewN|apply Kd.R_drew));exact HO196.out))) (Kd.R_lt (by (with_reducible repeat (first|apply Kd.R_alloc|apply Kd.R_drewN|apply Kd.R_drew));exact HO201.out))) (Kd.R_lt (by (with_reducible repeat (first|apply Kd.R_alloc|apply Kd.R_drewN|apply Kd.R_drew));exact HO206.out))) (below_size (by repeat (first|(with_reducible first|exact HB.out|apply below_alloc|apply pw_below_drewN|apply below_drew1)|exact HB.out))));replace HO179:=mk0 (Kd.V_elder' (by (with_reducible repeat (first|apply Kd.V_alloc|apply Kd.V_drewN|apply Kd.V_drew));exact HO179.out) (Kd.R_base ho41) hb);replace HO183:=mk0 (Kd.V_elder' (by (with_reducible repeat (first|apply Kd.V_alloc|apply Kd.V_drewN|apply Kd.V_drew));exact HO183.out) (Kd.R_base ho41) hb);replace HO189:=mk0 (Kd.R_elder' (by (with_reducible repeat (first|apply Kd.R_alloc|apply Kd.R_drewN|apply Kd.R_drew));exact HO189.out) (Kd.R_base ho41) hb);replace HO193:=mk0 (Kd.Q_elder' (by (with_reducible repeat (first|apply Kd.Q_alloc|apply Kd.Q_drewN|apply Kd.Q_drew));exact HO193.out) (Kd.R_base ho41) hb);replace HO196:=mk0 (Kd.R_elder' (by (with_reducible repeat (first|apply Kd.R_alloc|apply Kd.R_drewN|apply Kd.R_drew));exact HO196.out) (Kd.R_base ho41) hb);replace HO201:=mk0 (Kd.R_elder' (by (with_reducible repeat (first|apply Kd.R_alloc|apply Kd.R_drewN|apply Kd.R_drew));exact HO201.out) (Kd.R_base ho41) hb);replace HO206:=mk0 (Kd.R_elder' (by (with_reducible repeat (first|apply Kd.R_alloc|apply Kd.R_drewN|apply Kd.R_drew));exact HO206.out) (Kd.R_base ho41) hb);replace HB:=mk0 (below_step (by repeat (first|(with_reducible first|exact HB.out|apply below_alloc|apply pw_below_drewN|apply below_drew1)|exact HB.out)) hb);clear hb ho41;obtain ⟨Ao42,co42,eo42⟩:=Kd.V_slice HO183.out;subst eo42;obtain ⟨Ao43,co43,eo43⟩:=Kd.R_slice HO210.out;subst eo43)|(go_at_call 20;(with_reducible refine (bellpullref01_Same.calls k _ _ t181 _ _ y208 true _ ?side1 ?side2 ?side3 ?side4 A10.out).mono ?_);(case side1=>repeat (first|exact (Kd.V_reads' HO183.out).2.2|(with_reducible refine Kd.C_alloc ?_ _)|(with_reducible refine Kd.C_drewN ?_ _)|(with_reducible refine Kd.C_drew ?_)));(case side2=>exact (Kd.V_reads' HO183.out).2.1);(case side3=>repeat (first|exact (Kd.R_reads' HO210.out).2.2|(with_reducible refine Kd.C_alloc ?_ _)|(with_reducible refine Kd.C_drewN ?_ _)|(with_reducible refine Kd.C_drew ?_)));(case side4=>exact (Kd.R_reads' HO210.out).2.1);rintro e w' ⟨rfl,⟨nd,rfl⟩⟩)|((with_reducible refine gate_dst (N:=66) rfl ?_);(try (refine gate_guard (by rfl) ?_;dsimp only));refine Kd.R_lit (Kd.int .i64) _ 3 ?hg (N:=66) ?hd (xs:=([2]:List Int)) (inner:=[.int .i64 2]) (ok:=fun _=>True) (okp:=fun _=>True) ?hr ?hp (fun _ hk=>hk) trivial (Below.refl _ _) (Nat.le_refl _) (by simp) ?_;(case hd=>rfl);(case hg=>rfl);(case hr=>first|(go_simp;done)|(go_simp;rfl));(case hp=>exact (Reps.one (show Kd.M (Kd.int .i64) _ _ _ 2 [.int .i64 2] from rfl) (Reps.none _ _)));intro v213 w44 ho45 hb hg_ hnew_;clear hg_ hnew_;(first|rw [← Ny212.out] at ho45|(simp only [Int.reduceToNat] at ho45;rw [← Ny212.out] at ho45));have HO214:=mk0 (Kd.R_lower (Kd.R_new' (Kd.R_new' (Kd.R_new' (Kd.R_new' (Kd.R_new' (Kd.R_new' ho45 (Kd.R_lt (by (with_reducible repeat (first|apply Kd.R_alloc|apply Kd.R_drewN|apply Kd.R_drew));exact HO189.out))) (Kd.Q_lt (by (with_reducible repeat (first|apply Kd.Q_alloc|apply Kd.Q_drewN|apply Kd.Q_drew));exact HO193.out))) (Kd.R_lt (by (with_reducible repeat (first|apply Kd.R_alloc|apply Kd.R_drewN|apply Kd.R_drew));exact HO196.out))) (Kd.R_lt (by (with_reducible repeat (first|apply Kd.R_alloc|apply Kd.R_drewN|apply Kd.R_drew));exact HO201.out))) (Kd.R_lt (by (with_reducible repeat (first|apply Kd.R_alloc|apply Kd.R_drewN|apply Kd.R_drew));exact HO206.out))) (Kd.R_lt (by (with_reducible repeat (first|apply Kd.R_alloc|apply Kd.R_drewN|apply Kd.R_drew));exact HO210.out))) (below_size (by repeat (first|(with_reducible first|exact HB.out|apply below_alloc|apply pw_below_drewN|apply below_drew1)|exact HB.out))));replace HO179:=mk0 (Kd.V_elder' (by (with_reducible repeat (first|apply Kd.V_alloc|apply Kd.V_drewN|apply Kd.V_drew));exact HO179.out) (Kd.R_base ho45) hb);replace HO183:=mk0 (Kd.V_elder' (by (with_reducible repeat (first|apply Kd.V_alloc|apply Kd.V_drewN|apply Kd.V_drew));exact HO183.out) (Kd.R_base ho45) hb);replace HO189:=mk0 (Kd.R_elder' (by (with_reducible repeat (first|apply Kd.R_alloc|apply Kd.R_drewN|apply Kd.R_drew));exact HO189.out) (Kd.R_base ho45) hb);replace HO193:=mk0 (Kd.Q_elder' (by (with_reducible repeat (first|apply Kd.Q_alloc|apply Kd.Q_drewN|apply Kd.Q_drew));exact HO193.out) (Kd.R_base ho45) hb);replace HO196:=mk0 (Kd.R_elder' (by (with_reducible repeat (first|apply Kd.R_alloc|apply Kd.R_drewN|apply Kd.R_drew));exact HO196.out) (Kd.R_base ho45) hb);replace HO201:=mk0 (Kd.R_elder' (by (with_reducible repeat (first|apply Kd.R_alloc|apply Kd.R_drewN|apply Kd.R_drew));exact HO201.out) (Kd.R_base ho45) hb);replace HO206:=mk0 (Kd.R_elder' (by (with_reducible repeat (first|apply Kd.R_alloc|apply Kd.R_drewN|apply Kd.R_drew));exact HO206.out) (Kd.R_base ho45) hb);replace HO210:=mk0 (Kd.R_elder' (by (with_reducible repeat (first|apply Kd.R_alloc|apply Kd.R_drewN|apply Kd.R_drew));exact HO210.out) (Kd.R_base ho45) hb);replace HB:=mk0 (below_step (by repeat (first|(with_reducible first|exact HB.out|apply below_alloc|apply pw_below_drewN|apply below_drew1)|exact HB.out)) hb);clear hb ho45;obtain ⟨Ao46,co46,eo46,_⟩:=Kd.Q_slice HO193.out;subst eo46;obtain ⟨Ao47,co47,eo47⟩:=Kd.R_slice HO214.out;subst eo47)|(go_at_call 20;(with_reducible refine (bellpullref01_Same.calls k _ _ t190 _ _ y212 true _ ?side1 ?side2 ?side3 ?side4 A15.out).mono ?_);(case side1=>repeat (first|exact (Kd.Q_reads' HO193.out).2.2|(with_reducible refine Kd.C_alloc ?_ _)|(with_reducible refine Kd.C_drewN ?_ _)|(with_reducible refine Kd.C_drew ?_)));(case side2=>exact (Kd.Q_reads' HO193.out).2.1);(case side3=>repeat (first|exact (Kd.R_reads' HO214.out).2.2|(with_reducible refine Kd.C_alloc ?_ _)|(with_reducible refine Kd.C_drewN ?_ _)|(with_reducible refine Kd.C_drew ?_)));(case side4=>exact (Kd.R_reads' HO214.out).2.1);rintro e w' ⟨rfl,⟨nd,rfl⟩⟩))
            go_ret;exact ⟨by first|rfl|(simp [errW_none,errW_some] <;> rfl)|(simp [*,errW_none,errW_some] <;> rfl),by repeat (first|(with_reducible first|exact HB.out|apply below_alloc|apply pw_below_drewN|apply below_drew1)|exact HB.out)⟩
          ·
           rw [if_neg c19] at H;exact absurd H (by simp)
         ·
          rw [if_neg c18] at H;exact absurd H (by simp)
        ·
         rw [if_neg c17] at H;exact absurd H (by simp)
       ·
        replace c16:=Bool.eq_false_iff.mpr c16;subst c16;have H1:(none)=some r:=by rw [if_neg (show ¬ (false=true) by decide)] at H;exact H
        clear H;have H:=H1;clear H1;exact absurd H (by simp)
      ·
       rw [if_neg c14] at H;exact absurd H (by simp)
     ·
      rw [if_neg c13] at H;exact absurd H (by simp)
    ·
     rw [if_neg c12] at H;exact absurd H (by simp)
   ·
    replace c11:=Bool.eq_false_iff.mpr c11;subst c11;have H1:(none)=some r:=by rw [if_neg (show ¬ (false=true) by decide)] at H;exact H
    clear H;have H:=H1;clear H1;exact absurd H (by simp)
  ·
   rw [if_neg c9] at H;exact absurd H (by simp)
 ·
  replace c8:=Bool.eq_false_iff.mpr c8;subst c8;have H1:(none)=some r:=by rw [if_neg (show ¬ (false=true) by decide)] at H;exact H
  clear H;have H:=H1;clear H1;exact absurd H (by simp)
end Go.Proofs.Ytploaicljkennaa.PW
