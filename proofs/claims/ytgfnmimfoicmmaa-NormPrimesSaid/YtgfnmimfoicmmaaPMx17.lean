-- Written by pr2.py, a program of this session's, for this claim (through the kit's print).
import Derived.Test.YtgfnmimfoicmmaaPMx0
import Derived.Test.YtgfnmimfoicmmaaPMx6
namespace Go.Proofs.Ytgfnmimfoicmmaa.PM
open Go.Proofs.MyWords Go.RowKit Go.Proofs.YtgfnmimfoicmmaaW.PrintWords Go.Proofs.YtgfnmimfoicmmaaW.PrintLast Go.Proofs.YtgfnmimfoicmmaaW.PrintMore
attribute [local go_sem] max2_int min2_int max_two min_two max_three min_three max_four min_four   -- for this text's walks alone
set_option linter.unusedVariables false
set_option linter.unusedSimpArgs false

attribute [local go_sem] idx67_0 idx67_1 idx67_2 idx67_3
attribute [local go_sem] eqGuard_slices eqlnil36 neqnil36
/-! ### bellpullref04_Squares: function 27 -/
mutual
def sqrN.l0 : Nat → Int → Int → Int → Option (Option (List Int))
  | 0, _, _, _ => none
  | k + 1, x0, x1, x7 => if (wrap64 (x7 * x7)) > x0 then (sqrN.l0 k x0 x1 (wrap64 (x7 - 1))) else (sqrN.l1 k x0 x1 x7)
def sqrN.l1 : Nat → Int → Int → Int → Option (Option (List Int))
  | 0, _, _, _ => none
  | k + 1, x0, x1, x7 => if x7 ≥ 0 then (sqrN.j2 k x0 x1 x7 (decide ((wrap64 ((wrap64 (x1 * x7)) * x7)) ≥ x0))) else (sqrN.j2 k x0 x1 x7 false)
def sqrN.j2 : Nat → Int → Int → Int → Bool → Option (Option (List Int))
  | 0, _, _, _, _ => none
  | k + 1, x0, x1, x7, x32 => if x32 = true then ((sqrN.f k (wrap64 (x0 - (wrap64 (x7 * x7)))) (wrap64 (x1 - 1)) x7).bind fun t370 => (if t370.isSome = true then ((some (([x7] : List Int) : List Int)).bind fun y373 => (if y373.length + (t370.getD []).length < 17592186044416 then (some (some (y373 ++ t370.getD []))) else (none))) else (sqrN.l1 k x0 x1 (wrap64 (x7 - 1))))) else (some (none : Option (List Int)))
def sqrN.f : Nat → Int → Int → Int → Option (Option (List Int))
  | 0, _, _, _ => none
  | k + 1, a0, a1, a2 => if a1 = 0 then (if a0 = 0 then (some (some ([] : List Int))) else (some (none : Option (List Int)))) else (sqrN.l0 k a0 a1 a2)
end
theorem sqrN.mono_l : ∀ k, (∀ y0 y1 y2, LeO (sqrN.f k y0 y1 y2) (sqrN.f (k + 1) y0 y1 y2)) ∧ (∀ y0 y1 y2, LeO (sqrN.l0 k y0 y1 y2) (sqrN.l0 (k + 1) y0 y1 y2)) ∧ (∀ y0 y1 y2, LeO (sqrN.l1 k y0 y1 y2) (sqrN.l1 (k + 1) y0 y1 y2)) ∧ (∀ y0 y1 y2 y3, LeO (sqrN.j2 k y0 y1 y2 y3) (sqrN.j2 (k + 1) y0 y1 y2 y3))
  | 0 => ⟨fun _ _ _ r h => by simp [sqrN.f] at h, fun _ _ _ r h => by simp [sqrN.l0] at h, fun _ _ _ r h => by simp [sqrN.l1] at h, fun _ _ _ _ r h => by simp [sqrN.j2] at h⟩
  | k + 1 => by
    obtain ⟨ih0, ih1, ih2, ih3⟩ := sqrN.mono_l k
    refine ⟨?_, ?_, ?_, ?_⟩
    · intro y0 y1 y2
      unfold sqrN.f
      repeat' first
      | (with_reducible exact ih0 _ _ _)
      | (with_reducible exact ih1 _ _ _)
      | (with_reducible exact ih2 _ _ _)
      | (with_reducible exact ih3 _ _ _ _)
      | (with_reducible exact LeO.refl _)
      | (with_reducible exact LeO.none _)
      | (with_reducible refine LeO.ite ?_ ?_)
      | (with_reducible refine LeO.bind ?_ (fun _ => ?_))
      | exact ih0 _ _ _
      | exact ih1 _ _ _
      | exact ih2 _ _ _
      | exact ih3 _ _ _ _
      | exact LeO.none _
      | refine LeO.ite ?_ ?_
      | refine LeO.bind ?_ (fun _ => ?_)
    · intro y0 y1 y2
      unfold sqrN.l0
      repeat' first
      | (with_reducible exact ih0 _ _ _)
      | (with_reducible exact ih1 _ _ _)
      | (with_reducible exact ih2 _ _ _)
      | (with_reducible exact ih3 _ _ _ _)
      | (with_reducible exact LeO.refl _)
      | (with_reducible exact LeO.none _)
      | (with_reducible refine LeO.ite ?_ ?_)
      | (with_reducible refine LeO.bind ?_ (fun _ => ?_))
      | exact ih0 _ _ _
      | exact ih1 _ _ _
      | exact ih2 _ _ _
      | exact ih3 _ _ _ _
      | exact LeO.none _
      | refine LeO.ite ?_ ?_
      | refine LeO.bind ?_ (fun _ => ?_)
    · intro y0 y1 y2
      unfold sqrN.l1
      repeat' first
      | (with_reducible exact ih0 _ _ _)
      | (with_reducible exact ih1 _ _ _)
      | (with_reducible exact ih2 _ _ _)
      | (with_reducible exact ih3 _ _ _ _)
      | (with_reducible exact LeO.refl _)
      | (with_reducible exact LeO.none _)
      | (with_reducible refine LeO.ite ?_ ?_)
      | (with_reducible refine LeO.bind ?_ (fun _ => ?_))
      | exact ih0 _ _ _
      | exact ih1 _ _ _
      | exact ih2 _ _ _
      | exact ih3 _ _ _ _
      | exact LeO.none _
      | refine LeO.ite ?_ ?_
      | refine LeO.bind ?_ (fun _ => ?_)
    · intro y0 y1 y2 y3
      unfold sqrN.j2
      repeat' first
      | (with_reducible exact ih0 _ _ _)
      | (with_reducible exact ih1 _ _ _)
      | (with_reducible exact ih2 _ _ _)
      | (with_reducible exact ih3 _ _ _ _)
      | (with_reducible exact LeO.refl _)
      | (with_reducible exact LeO.none _)
      | (with_reducible refine LeO.ite ?_ ?_)
      | (with_reducible refine LeO.bind ?_ (fun _ => ?_))
      | exact ih0 _ _ _
      | exact ih1 _ _ _
      | exact ih2 _ _ _
      | exact ih3 _ _ _ _
      | exact LeO.none _
      | refine LeO.ite ?_ ?_
      | refine LeO.bind ?_ (fun _ => ?_)
theorem sqrN.mono : ∀ a0 a1 a2 k, LeO (sqrN.f k a0 a1 a2) (sqrN.f (k + 1) a0 a1 a2) := by
  intro a0 a1 a2 k
  obtain ⟨ih0, ih1, ih2, ih3⟩ := sqrN.mono_l k
  exact ih0 a0 a1 a2
theorem sqrN.ne : ∀ k, (∀ y0 y1 y2 r, sqrN.l0 k y0 y1 y2 = some (some r) → r ≠ []) ∧ (∀ y0 y1 y2 r, sqrN.l1 k y0 y1 y2 = some (some r) → r ≠ []) ∧ (∀ y0 y1 y2 y3 r, sqrN.j2 k y0 y1 y2 y3 = some (some r) → r ≠ [])
  | 0 => ⟨fun _ _ _ r h => by simp [sqrN.l0] at h, fun _ _ _ r h => by simp [sqrN.l1] at h, fun _ _ _ _ r h => by simp [sqrN.j2] at h⟩
  | k + 1 => by
    obtain ⟨ih0, ih1, ih2⟩ := sqrN.ne k
    refine ⟨?_, ?_, ?_⟩
    · intro y0 y1 y2 r h
      unfold sqrN.l0 at h
      repeat' split at h
      all_goals first | exact ih0 _ _ _ _ h | exact ih1 _ _ _ _ h | exact ih2 _ _ _ _ _ h | (cases h; done) | exact NilRow.cons_ne h (fun h => by first | exact ih0 _ _ _ _ h | exact ih1 _ _ _ _ h | exact ih2 _ _ _ _ _ h)
    · intro y0 y1 y2 r h
      unfold sqrN.l1 at h
      repeat' split at h
      all_goals first | exact ih0 _ _ _ _ h | exact ih1 _ _ _ _ h | exact ih2 _ _ _ _ _ h | (cases h; done) | exact NilRow.cons_ne h (fun h => by first | exact ih0 _ _ _ _ h | exact ih1 _ _ _ _ h | exact ih2 _ _ _ _ _ h)
    · intro y0 y1 y2 y3 r h
      unfold sqrN.j2 at h
      repeat' split at h
      all_goals first | exact ih0 _ _ _ _ h | exact ih1 _ _ _ _ h | exact ih2 _ _ _ _ _ h | (cases h; done) | exact NilRow.cons_ne h (fun h => by first | exact ih0 _ _ _ _ h | exact ih1 _ _ _ _ h | exact ih2 _ _ _ _ _ h)
set_option maxHeartbeats 8000000 in
set_option maxRecDepth 100000 in
theorem sqrN.calls (k : Nat) : ∀ (a0 : Int) (a1 : Int) (a2 : Int) (r : Option (List Int)) (w : World) (h : sqrN.f k a0 a1 a2 = some r),
    Calls Try.prog 27 #[.int .i64 a0, .int .i64 a1, .int .i64 a2] w fun e w' => ∃ v0_ : Value, e = .returned (v0_) ∧ NilRow w' w.heap.size v0_ r ∧ Below w.heap.size w w' := by
  induction k using Nat.strongRecOn with
  | _ k ih =>
  intro a0 a1 a2 r w h
  cases k with
  | zero => exact absurd h (by simp [sqrN.f])
  | succ k =>
  simp only [sqrN.f] at h
  have HB := Aside0.mk (Below.refl w.heap.size w)
  have H : (if a1 = 0 then (if a0 = 0 then (some (some ([] : List Int))) else (some (none : Option (List Int)))) else (sqrN.l0 k a0 a1 a2)) = some r := h
  clear h
  by_cases c4 : a1 = 0
  · rw [if_pos c4] at H
    have c4b0 : (a1 == 0) = true := beq_iff_eq.mpr c4
    have c4b1 : (a1 != 0) = false := bne_eq_false_iff_eq.mpr c4
    clear c4
    by_cases c5 : a0 = 0
    · rw [if_pos c5] at H
      have c5b0 : (a0 == 0) = true := beq_iff_eq.mpr c5
      have c5b1 : (a0 != 0) = false := bne_eq_false_iff_eq.mpr c5
      clear c5
      obtain ⟨y367, hy367⟩ : ∃ y_ : List Int, y_ = (([] : List Int)) := ⟨_, rfl⟩
      replace H : (some (some y367)) = some r := by first | (rw [hy367]; with_reducible exact H) | (have H2_ := (Option.bind_some _ _).symm.trans H; rw [hy367]; with_reducible exact H2_) | (have H2_ := (Option.bind_some _ _).symm.trans H; with_reducible exact H2_) | with_reducible exact H | (rw [hy367]; exact H) | exact H
      have Ny367 := Aside0.mk hy367
      clear hy367
      obtain rfl := Option.some.inj H
      go_enter Try.func27, Try.ntmps27
      go_wp2_with (first | ((with_reducible refine gate_dst (N := 13) rfl ?_); refine Kd.R_lit (Kd.int .i64) _ 3 ?hg (N := 13) ?hd (xs := ([] : List Int)) (inner := []) (ok := fun _ => True) (okp := fun _ => True) ?hr ?hp (fun _ hk => hk) trivial (Below.refl _ _) (Nat.le_refl _) (by simp) ?_; (case hd => rfl); (case hg => rfl); (case hr => first | (go_simp; done) | (go_simp; rfl)); (case hp => exact (Reps.none _ _)); intro v368 w6 ho7 hb hg_ hnew_; clear hg_; have HNEW := Aside0.mk hnew_; clear hnew_; (first | rw [← Ny367.out] at ho7 | (simp only [Int.reduceToNat] at ho7; rw [← Ny367.out] at ho7)); have n0_ := Aside0.mk (Kd.R_lower ho7 (below_size (by repeat (first | (with_reducible first | exact HB.out | apply below_alloc | apply pw_below_drewN | apply below_drew1) | exact HB.out)))); have n1_ := Aside0.mk (below_step (by repeat (first | (with_reducible first | exact HB.out | apply below_alloc | apply pw_below_drewN | apply below_drew1) | exact HB.out)) hb); clear HB; have HO369 := n0_; have HB := n1_; clear n0_ n1_; clear hb ho7))
      go_ret
      exact ⟨_, by first | rfl | (simp [errW_none, errW_some] <;> rfl) | (simp [*, errW_none, errW_some] <;> rfl), ⟨(HNEW.out.elim fun b_ h_ => ⟨b_, h_.1⟩), (by (with_reducible repeat (first | apply Kd.R_alloc | apply Kd.R_drewN | apply Kd.R_drew)); exact HO369.out)⟩, by repeat (first | (with_reducible first | exact HB.out | apply below_alloc | apply pw_below_drewN | apply below_drew1) | exact HB.out)⟩
    · rw [if_neg c5] at H
      have c5b0 : (a0 == 0) = false := beq_eq_false_iff_ne.mpr c5
      have c5b1 : (a0 != 0) = true := bne_iff_ne.mpr c5
      obtain rfl := Option.some.inj H
      go_enter Try.func27, Try.ntmps27
      go_wp2
      go_ret
      exact ⟨_, by first | rfl | (simp [errW_none, errW_some] <;> rfl) | (simp [*, errW_none, errW_some] <;> rfl), rfl, by repeat (first | (with_reducible first | exact HB.out | apply below_alloc | apply pw_below_drewN | apply below_drew1) | exact HB.out)⟩
  · rw [if_neg c4] at H
    have c4b0 : (a1 == 0) = false := beq_eq_false_iff_ne.mpr c4
    have c4b1 : (a1 != 0) = true := bne_iff_ne.mpr c4
    have H' := Aside0.mk H
    clear H
    go_enter Try.func27, Try.ntmps27
    go_wp2
    go_loopg [7] k (fun kq v7 w' => ∃ (x7_1 : Int), v7 = .int .i64 x7_1 ∧ Aside0 (sqrN.l0 kq a0 a1 x7_1 = some r) ∧ Aside0 (kq ≤ k) ∧ Aside0 (Below w.heap.size w w'))
    case atStart => exact ⟨(a2), (by first | rfl | (simp; done) | (simp [*]; done)), H', ⟨Nat.le_refl _⟩, ⟨by repeat (first | (with_reducible first | exact HB.out | apply below_alloc | apply pw_below_drewN | apply below_drew1) | exact HB.out)⟩⟩
    case round =>
      clear H'
      try clear c2
      try clear p2
      try clear c4
      try clear c4b0
      try clear c4b1
      try clear c5
      try clear c5b0
      try clear c5b1
      obtain ⟨x7_1, rfl, HA, HK1, HB⟩ := hrel
      cases gk with
      | zero => exact absurd HA.out (by simp [sqrN.l0])
      | succ k1 =>
        have H := HA.out
        clear HA
        simp only [sqrN.l0] at H
        by_cases c8 : (wrap64 (x7_1 * x7_1)) > a0
        · rw [if_pos c8] at H
          have c8b0 : decide (a0 < (wrap64 (x7_1 * x7_1))) = true := decide_eq_true c8
          clear c8
          have H' := Aside0.mk H
          clear H
          go_wp2
          go_roundg k1
          case measure => have := HK1.out; omega
          case rel => exact ⟨(wrap64 (x7_1 - 1)), (by first | rfl | (simp; done) | (simp [*]; done)), H', ⟨by have := HK1.out; omega⟩, ⟨by repeat (first | (with_reducible first | exact HB.out | apply below_alloc | apply pw_below_drewN | apply below_drew1) | exact HB.out)⟩⟩
        · rw [if_neg c8] at H
          have c8b0 : decide (a0 < (wrap64 (x7_1 * x7_1))) = false := decide_eq_false c8
          clear c8
          have H' := Aside0.mk H
          clear H
          go_wp2
          go_loopg [7] k1 (fun kq v7 w' => ∃ (x7_2 : Int), v7 = .int .i64 x7_2 ∧ Aside0 (sqrN.l1 kq a0 a1 x7_2 = some r) ∧ Aside0 (kq ≤ k1) ∧ Aside0 (Below w.heap.size w w'))
          case atStart => exact ⟨(x7_1), (by first | rfl | (simp; done) | (simp [*]; done)), H', ⟨Nat.le_refl _⟩, ⟨by repeat (first | (with_reducible first | exact HB.out | apply below_alloc | apply pw_below_drewN | apply below_drew1) | exact HB.out)⟩⟩
          case round =>
            clear H'
            try clear c2
            try clear p2
            try clear c4
            try clear c4b0
            try clear c4b1
            try clear c5
            try clear c5b0
            try clear c5b1
            try clear p6
            try clear c8
            try clear c8b0
            try clear p2
            obtain ⟨x7_2, rfl, HA, HK2, HB⟩ := hrel
            cases gk with
            | zero => exact absurd HA.out (by simp [sqrN.l1])
            | succ k2 =>
              have H := HA.out
              clear HA
              simp only [sqrN.l1] at H
              have HC9 := Aside0.mk H
              clear H
              go_upto_region 8 with (fail)
              go_cut [32] (fun v32 wc => ∃ (kq : Nat) (x32_8 : Bool), v32 = .bool x32_8 ∧ Aside0 (sqrN.j2 kq a0 a1 x7_2 x32_8 = some r) ∧ Aside0 (kq ≤ k2) ∧ Aside0 (Below w.heap.size w wc))
              case first =>
                have H := HC9.out
                clear HC9
                by_cases c10 : x7_2 ≥ 0
                · rw [if_pos c10] at H
                  have c10b0 : decide (0 ≤ x7_2) = true := decide_eq_true c10
                  clear c10
                  (first | rw [c10b0] | (simp only [i64_w, i32_w]; rw [c10b0]) | skip)
                  have H' := Aside0.mk H
                  clear H
                  go_wp2
                  go_meet
                  case rel => exact ⟨_, (decide ((wrap64 ((wrap64 (a1 * x7_2)) * x7_2)) ≥ a0)), (by first | rfl | (simp; done) | (simp [*]; done)), H', ⟨by have := HK1.out; have := HK2.out; first | omega | exact Nat.le_refl _⟩, ⟨by repeat (first | (with_reducible first | exact HB.out | apply below_alloc | apply pw_below_drewN | apply below_drew1) | exact HB.out)⟩⟩
                · rw [if_neg c10] at H
                  have c10b0 : decide (0 ≤ x7_2) = false := decide_eq_false c10
                  clear c10
                  (first | rw [c10b0] | (simp only [i64_w, i32_w]; rw [c10b0]) | skip)
                  have H' := Aside0.mk H
                  clear H
                  go_wp2
                  go_meet
                  case rel => exact ⟨_, (false), (by first | rfl | (simp; done) | (simp [*]; done)), H', ⟨by have := HK1.out; have := HK2.out; first | omega | exact Nat.le_refl _⟩, ⟨by repeat (first | (with_reducible first | exact HB.out | apply below_alloc | apply pw_below_drewN | apply below_drew1) | exact HB.out)⟩⟩
              case rest =>
                clear HC9
                try clear c1
                try clear c2
                try clear p2
                try clear c4
                try clear c4b0
                try clear c4b1
                try clear c5
                try clear c5b0
                try clear c5b1
                try clear p6
                try clear c8
                try clear c8b0
                try clear c10
                try clear c10b0
                try clear p2
                try clear p6
                obtain ⟨kq, x32_8, rfl, HA, HJ8, HB⟩ := hcut
                cases kq with
                | zero => exact absurd HA.out (by simp [sqrN.j2])
                | succ kj8 =>
                  have H := HA.out
                  clear HA
                  simp only [sqrN.j2] at H
                  by_cases c11 : x32_8 = true
                  · subst c11
                    have H1 : ((sqrN.f kj8 (wrap64 (a0 - (wrap64 (x7_2 * x7_2)))) (wrap64 (a1 - 1)) x7_2).bind fun t370 => (if t370.isSome = true then ((some (([x7_2] : List Int) : List Int)).bind fun y373 => (if y373.length + (t370.getD []).length < 17592186044416 then (some (some (y373 ++ t370.getD []))) else (none))) else (sqrN.l1 kj8 a0 a1 (wrap64 (x7_2 - 1))))) = some r := by rw [if_pos rfl] at H; exact H
                    clear H
                    have H := H1
                    clear H1
                    replace H := Option.bind_eq_some_iff.mp H
                    obtain ⟨t370, A120, H⟩ := H
                    replace H : (if t370.isSome = true then ((some (([x7_2] : List Int) : List Int)).bind fun y373 => (if y373.length + (t370.getD []).length < 17592186044416 then (some (some (y373 ++ t370.getD []))) else (none))) else (sqrN.l1 kj8 a0 a1 (wrap64 (x7_2 - 1)))) = some r := H
                    have A12 := Aside0.mk A120
                    clear A120
                    by_cases c13 : t370.isSome = true
                    · rw [if_pos c13] at H
                      obtain ⟨l370, e_⟩ := Option.isSome_iff_exists.mp c13
                      clear c13
                      subst e_
                      simp only [Option.getD_some] at H
                      obtain ⟨y373, hy373⟩ : ∃ y_ : List Int, y_ = (([x7_2] : List Int)) := ⟨_, rfl⟩
                      replace H : (if y373.length + l370.length < 17592186044416 then (some (some (y373 ++ l370))) else (none)) = some r := by first | (rw [hy373]; with_reducible exact H) | (have H2_ := (Option.bind_some _ _).symm.trans H; rw [hy373]; with_reducible exact H2_) | (have H2_ := (Option.bind_some _ _).symm.trans H; with_reducible exact H2_) | with_reducible exact H | (rw [hy373]; exact H) | exact H
                      have Ny373 := Aside0.mk hy373
                      clear hy373
                      by_cases c14 : y373.length + l370.length < 17592186044416
                      · rw [if_pos c14] at H
                        have LMc14 := Aside0.mk c14
                        clear c14
                        obtain ⟨y376, hy376⟩ : ∃ y_ : List Int, y_ = (y373 ++ l370) := ⟨_, rfl⟩
                        replace H : (some (some y376)) = some r := by first | (rw [hy376]; with_reducible exact H) | (have H2_ := (Option.bind_some _ _).symm.trans H; rw [hy376]; with_reducible exact H2_) | (have H2_ := (Option.bind_some _ _).symm.trans H; with_reducible exact H2_) | with_reducible exact H | (rw [hy376]; exact H) | exact H
                        have Ny376 := Aside0.mk hy376
                        clear hy376
                        obtain rfl := Option.some.inj H
                        go_wp2_with (first | ((with_reducible refine gate_callee (f := 27) rfl ?_); refine goesL_ (some 43) rfl rfl Try.func27 (by kernel_rfl) rfl #[.int .i64 (wrap64 (a0 - (wrap64 (x7_2 * x7_2)))), .int .i64 (wrap64 (a1 - 1)), .int .i64 x7_2] rfl (by (try simp only [List.map_toArray, List.map_cons, List.map_nil]); first | done | rfl | (simp only [List.length_drop, List.length_take]; rfl)) ?_; (with_reducible refine (ih kj8 (by have := HK1.out; have := HK2.out; have := HJ8.out; omega) (wrap64 (a0 - (wrap64 (x7_2 * x7_2)))) (wrap64 (a1 - 1)) x7_2 (some l370) _ A12.out).mono ?_); rintro e w15 ⟨v371, rfl, ho1, hb⟩; obtain ⟨Ad_, Ac_, ev_, ho0⟩ := NilRow.open ho1; clear ho1; subst ev_; refine ⟨_, rfl, ?_⟩; have n0_ := Aside0.mk (Kd.R_lower ho0 (below_size (by repeat (first | (with_reducible first | exact HB.out | apply below_alloc | apply pw_below_drewN | apply below_drew1) | exact HB.out)))); have n1_ := Aside0.mk (below_step (by repeat (first | (with_reducible first | exact HB.out | apply below_alloc | apply pw_below_drewN | apply below_drew1) | exact HB.out)) hb); clear HB; have HO372 := n0_; have HB := n1_; clear n0_ n1_; (try clear hb); (try clear hb2); (try clear hk); (try clear hi); (try clear ho0)) | ((with_reducible refine gate_dst (N := 47) rfl ?_); refine Kd.R_lit (Kd.int .i64) _ 3 ?hg (N := 47) ?hd (xs := ([x7_2] : List Int)) (inner := [.int .i64 x7_2]) (ok := fun _ => True) (okp := fun _ => True) ?hr ?hp (fun _ hk => hk) trivial (Below.refl _ _) (Nat.le_refl _) (by simp) ?_; (case hd => rfl); (case hg => rfl); (case hr => first | (go_simp; done) | (go_simp; rfl)); (case hp => exact (Reps.one (show Kd.M (Kd.int .i64) _ _ _ x7_2 [.int .i64 x7_2] from rfl) (Reps.none _ _))); intro v374 w16 ho17 hb hg_ hnew_; clear hg_; have HNEW := Aside0.mk hnew_; clear hnew_; (first | rw [← Ny373.out] at ho17 | (simp only [Int.reduceToNat] at ho17; rw [← Ny373.out] at ho17)); have n0_ := Aside0.mk (Kd.R_elder' (by (with_reducible repeat (first | apply Kd.R_alloc | apply Kd.R_drewN | apply Kd.R_drew)); exact HO372.out) (Kd.R_base ho17) hb); have n1_ := Aside0.mk (Kd.R_lower (Kd.R_new' ho17 (Kd.R_lt (by (with_reducible repeat (first | apply Kd.R_alloc | apply Kd.R_drewN | apply Kd.R_drew)); exact HO372.out))) (below_size (by repeat (first | (with_reducible first | exact HB.out | apply below_alloc | apply pw_below_drewN | apply below_drew1) | exact HB.out)))); have n2_ := Aside0.mk (below_step (by repeat (first | (with_reducible first | exact HB.out | apply below_alloc | apply pw_below_drewN | apply below_drew1) | exact HB.out)) hb); clear HO372; clear HB; have HO372 := n0_; have HO375 := n1_; have HB := n2_; clear n0_ n1_ n2_; clear hb ho17) | ((with_reducible refine gate_builtin (b := .append) (xs := #[.tmp 47, .tmp 48]) rfl ?_); at_builtin; refine Kd.R_append_rows (Kd.int .i64) (w0 := w) w.heap.size rfl (.tmp 47) (.tmp 48) 36 3 (.int .i64 0) 8 rfl Try.underlying36 info3 rfl (by decide) (by omega) v374 y373 l370 _ _ _ (fun k_ => some k_ ≠ (.slice (some Ad_) l370.length Ac_ : Value).ownBlock) (fun _ => False) rfl rfl ?aO ?aR (fun _ _ h => h) (fun _ h => h.elim) ?aF ?aB ?aS ?aL ?_; (case aR => repeat (first | exact (Kd.R_reads' HO372.out).2.2 | (with_reducible refine Kd.C_alloc ?_ _) | (with_reducible refine Kd.C_drewN ?_ _) | (with_reducible refine Kd.C_drew ?_))); (case aB => exact (by repeat (first | (with_reducible first | exact HB.out | apply below_alloc | apply pw_below_drewN | apply below_drew1) | exact HB.out))); (case aF => exact (fun k_ hk => Kd.fresh' (Kd.R_lt (by (with_reducible repeat (first | apply Kd.R_alloc | apply Kd.R_drewN | apply Kd.R_drew)); exact HO372.out)) k_ hk)); (case aO => exact (by (with_reducible repeat (first | apply Kd.R_alloc | apply Kd.R_drewN | apply Kd.R_drew)); exact Kd.R_mono HO375.out (fun _ hk => hk.2))); (case aS => exact (below_size (by repeat (first | (with_reducible first | exact HB.out | apply below_alloc | apply pw_below_drewN | apply below_drew1) | exact HB.out)))); (case aL => have := LMc14.out; omega); intro v377 w18 ho hb hg hat; have HAT := Aside0.mk hat; rw [← Ny376.out] at ho; have n0_ := Aside0.mk (Kd.R_after (ok := (fun _ => True)) (by (with_reducible repeat (first | apply Kd.R_alloc | apply Kd.R_drewN | apply Kd.R_drew)); exact HO372.out) hg hat); have n1_ := Aside0.mk (hb); have n2_ := Aside0.mk (ho); clear HO372; clear HB; clear HO375; have HO372 := n0_; have HB := n1_; have HO378 := n2_; clear n0_ n1_ n2_; clear ho hb hg hat))
                        go_ret
                        exact ⟨_, by first | rfl | (simp [errW_none, errW_some] <;> rfl) | (simp [*, errW_none, errW_some] <;> rfl), ⟨(HNEW.out.elim fun b_ h_ => HAT.out.elim (fun e_ => ⟨b_, e_.trans h_.1⟩) (fun h2_ => h2_.elim fun b2_ h3_ => ⟨b2_, h3_.1⟩)), (by (with_reducible repeat (first | apply Kd.R_alloc | apply Kd.R_drewN | apply Kd.R_drew)); exact Kd.R_mono HO378.out (fun _ hk => trivial))⟩, by repeat (first | (with_reducible first | exact HB.out | apply below_alloc | apply pw_below_drewN | apply below_drew1) | exact HB.out)⟩
                      · rw [if_neg c14] at H
                        exact absurd H (by simp)
                    · rw [if_neg c13] at H
                      obtain e_ : t370 = none := by cases t370 with
                        | none => rfl
                        | some z => exact absurd rfl c13
                      clear c13
                      subst e_
                      have H' := Aside0.mk H
                      clear H
                      go_wp2_with (first | ((with_reducible refine gate_callee (f := 27) rfl ?_); refine goesL_ (some 43) rfl rfl Try.func27 (by kernel_rfl) rfl #[.int .i64 (wrap64 (a0 - (wrap64 (x7_2 * x7_2)))), .int .i64 (wrap64 (a1 - 1)), .int .i64 x7_2] rfl (by (try simp only [List.map_toArray, List.map_cons, List.map_nil]); first | done | rfl | (simp only [List.length_drop, List.length_take]; rfl)) ?_; (with_reducible refine (ih kj8 (by have := HK1.out; have := HK2.out; have := HJ8.out; omega) (wrap64 (a0 - (wrap64 (x7_2 * x7_2)))) (wrap64 (a1 - 1)) x7_2 none _ A12.out).mono ?_); rintro e w20 ⟨v371, rfl, ho0, hb⟩; (have ev_ : v371 = .slice none 0 0 := ho0); clear ho0; subst ev_; refine ⟨_, rfl, ?_⟩; have n1_ := Aside0.mk (below_step (by repeat (first | (with_reducible first | exact HB.out | apply below_alloc | apply pw_below_drewN | apply below_drew1) | exact HB.out)) hb); clear HB; have HB := n1_; clear n1_; (try clear hb); (try clear hb2); (try clear hk); (try clear hi); (try clear ho0)))
                      go_roundg kj8
                      case measure => have := HK1.out; have := HK2.out; have := HJ8.out; omega
                      case rel => exact ⟨(wrap64 (x7_2 - 1)), (by first | rfl | (simp; done) | (simp [*]; done)), H', ⟨by have := HK1.out; have := HK2.out; have := HJ8.out; omega⟩, ⟨by repeat (first | (with_reducible first | exact HB.out | apply below_alloc | apply pw_below_drewN | apply below_drew1) | exact HB.out)⟩⟩
                  · replace c11 := Bool.eq_false_iff.mpr c11
                    subst c11
                    have H1 : (some (none : Option (List Int))) = some r := by rw [if_neg (show ¬ (false = true) by decide)] at H; exact H
                    clear H
                    have H := H1
                    clear H1
                    obtain rfl := Option.some.inj H
                    go_wp2
                    go_ret
                    exact ⟨_, by first | rfl | (simp [errW_none, errW_some] <;> rfl) | (simp [*, errW_none, errW_some] <;> rfl), rfl, by repeat (first | (with_reducible first | exact HB.out | apply below_alloc | apply pw_below_drewN | apply below_drew1) | exact HB.out)⟩

def bellpullref04_Squares.f (k : Nat) (a0 a1 a2 : Int) : Option (List Int) := if a1 = 0 then none else (sqrN.f k a0 a1 a2).bind fun o => some (o.getD [])
theorem bellpullref04_Squares.mono : ∀ a0 a1 a2 k, LeO (bellpullref04_Squares.f k a0 a1 a2) (bellpullref04_Squares.f (k + 1) a0 a1 a2) := by
  intro a0 a1 a2 k
  unfold bellpullref04_Squares.f
  exact LeO.ite (LeO.none _) (LeO.bind (sqrN.mono a0 a1 a2 k) (fun _ => LeO.refl _))
theorem bellpullref04_Squares.calls (k : Nat) (a0 : Int) (a1 : Int) (a2 : Int) (r : List Int) (w : World) (h : bellpullref04_Squares.f k a0 a1 a2 = some r) :
    Calls Try.prog 27 #[.int .i64 a0, .int .i64 a1, .int .i64 a2] w fun e w' => ∃ v0_ : Value, e = .returned (v0_) ∧ Kd.R (Kd.int .i64) 3 w' w.heap.size (fun _ => True) v0_ r ∧ (r = [] → v0_ = .slice none 0 0) ∧ Below w.heap.size w w' := by
  unfold bellpullref04_Squares.f at h
  by_cases h0 : a1 = 0
  · rw [if_pos h0] at h
    exact absurd h (by simp)
  · rw [if_neg h0] at h
    obtain ⟨o, ho, h⟩ := Option.bind_eq_some_iff.mp h
    obtain rfl := Option.some.inj h
    refine (sqrN.calls k a0 a1 a2 o w ho).mono ?_
    rintro e w' ⟨v, rfl, hn, hb⟩
    refine ⟨v, rfl, hn.row, ?_, hb⟩
    intro e0
    cases o with
    | none => exact hn
    | some l =>
      exfalso
      cases k with
      | zero => exact absurd ho (by simp [sqrN.f])
      | succ k =>
        simp only [sqrN.f] at ho
        rw [if_neg h0] at ho
        exact (sqrN.ne k).1 _ _ _ _ ho (by simpa using e0)

end Go.Proofs.Ytgfnmimfoicmmaa.PM
