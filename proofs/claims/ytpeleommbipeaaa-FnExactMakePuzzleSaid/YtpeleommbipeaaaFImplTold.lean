-- written by wip/gen.py (this session's) with the kit's printer; Lean checks it.
import Derived.Test.YtpeleommbipeaaaK
namespace Go.Proofs.Ytpeleommbipeaaa.P
open Go.RowKit Go.Proofs.YtpeleommbipeaaaW.PrintWords Go.Proofs.YtpeleommbipeaaaW.PrintLast Go.Proofs.YtpeleommbipeaaaW.PrintMore
attribute [local go_sem] max2_int min2_int max_two min_two max_three min_three max_four min_four
set_option linter.unusedVariables false
set_option linter.unusedSimpArgs false

/-! ### impl_told: function 44 -/
def impl_told.digits (m : Int) : Int := wrap64 (wrap64 (wrap64 (wrap64 (Int.tdiv (wrap64 (Int.tdiv m 60)) 10) + Int.tmod (wrap64 (Int.tdiv m 60)) 10) + wrap64 (Int.tdiv (Int.tmod m 60) 10)) + Int.tmod m 10)
def impl_told.f (a0 : Int) (a1 : Int) (a2 : Int) (a3 : Int) : Option (Int × Int × Int) :=
  if a2 = 0 then some (0, wrap64 (Int.tdiv a1 60), 0)
  else if a2 = 1 then (if a3 = 0 then none else some (1, a3, Int.tmod (Int.tmod a1 60) a3))
  else if a2 = 2 then some (2, impl_told.digits a1, 0)
  else if a2 = 3 then (if wrap64 (60 * a0) = 0 then none else if wrap64 (2 * Int.tmod (wrap64 (a1 * wrap64 (a0 - 1))) (wrap64 (60 * a0))) < wrap64 (60 * a0) then some (3, 1, 0) else some (3, 0, 0))
  else if a2 = 4 then some (4, wrap64 (wrap64 (Int.tdiv a1 60) + 1), 0)
  else if a2 = 5 then some (5, mx (wrap64 (wrap64 (Int.tdiv a1 60) - Int.tmod a1 60)) (wrap64 (Int.tmod a1 60 - wrap64 (Int.tdiv a1 60))), 0)
  else some (a2, 0, 0)
set_option maxHeartbeats 8000000 in
set_option maxRecDepth 100000 in
theorem impl_told.calls (a0 : Int) (a1 : Int) (a2 : Int) (a3 : Int) (r1 : Int) (r2 : Int) (r3 : Int) (w : World) (h : impl_told.f a0 a1 a2 a3 = some (r1, r2, r3)) :
    Calls Try.prog 44 #[.int .i64 a0, .int .i64 a1, .int .i64 a2, .int .i64 a3] w fun e w' => e = .returned (.agg #[.int .i64 r1, .int .i64 r2, .int .i64 r3]) ∧ Below w.heap.size w w' := by
  have hu := Try.underlying38
  unfold impl_told.f at h
  by_cases c0 : a2 = 0
  · rw [if_pos c0] at h
    subst c0
    simp only [Option.some.injEq, Prod.mk.injEq] at h
    obtain ⟨rfl, rfl, rfl⟩ := h
    go_enter Try.func44, Try.ntmps44
    go_wp2
    exact bodyPost_ret (v := .agg #[.int .i64 0, .int .i64 (wrap64 (Int.tdiv a1 60)), .int .i64 0]) (by simp [results, Try.results44, go_sem]) rfl ⟨rfl, by repeat (first | exact Below.refl _ _ | apply below_alloc)⟩
  rw [if_neg c0] at h
  by_cases c1 : a2 = 1
  · rw [if_pos c1] at h
    subst c1
    by_cases z : a3 = 0
    · rw [if_pos z] at h; cases h
    rw [if_neg z] at h
    simp only [Option.some.injEq, Prod.mk.injEq] at h
    obtain ⟨rfl, rfl, rfl⟩ := h
    have z0 : (a3 == 0) = false := beq_eq_false_iff_ne.mpr z
    go_enter Try.func44, Try.ntmps44
    go_wp2
    go_region
    all_goals (try go_wp2)
    all_goals exact bodyPost_ret (v := .agg #[.int .i64 1, .int .i64 a3, .int .i64 (Int.tmod (Int.tmod a1 60) a3)]) (by simp [results, Try.results44, go_sem]) rfl ⟨rfl, by repeat (first | exact Below.refl _ _ | apply below_alloc | apply below_drew1 | apply pw_below_drewN)⟩
  rw [if_neg c1] at h
  by_cases c2 : a2 = 2
  · rw [if_pos c2] at h
    subst c2
    simp only [Option.some.injEq, Prod.mk.injEq] at h
    obtain ⟨rfl, rfl, rfl⟩ := h
    go_enter Try.func44, Try.ntmps44
    go_wp2
    exact bodyPost_ret (v := .agg #[.int .i64 2, .int .i64 (impl_told.digits a1), .int .i64 0]) (by simp [results, Try.results44, go_sem, impl_told.digits]) rfl ⟨rfl, by repeat (first | exact Below.refl _ _ | apply below_alloc)⟩
  rw [if_neg c2] at h
  by_cases c3 : a2 = 3
  · rw [if_pos c3] at h
    subst c3
    by_cases z : wrap64 (60 * a0) = 0
    · rw [if_pos z] at h; cases h
    rw [if_neg z] at h
    have z0 : (wrap64 (60 * a0) == 0) = false := beq_eq_false_iff_ne.mpr z
    by_cases y : wrap64 (2 * Int.tmod (wrap64 (a1 * wrap64 (a0 - 1))) (wrap64 (60 * a0))) < wrap64 (60 * a0)
    · rw [if_pos y] at h
      simp only [Option.some.injEq, Prod.mk.injEq] at h
      obtain ⟨rfl, rfl, rfl⟩ := h
      have y0 : decide (wrap64 (2 * Int.tmod (wrap64 (a1 * wrap64 (a0 - 1))) (wrap64 (60 * a0))) < wrap64 (60 * a0)) = true := decide_eq_true y
      go_enter Try.func44, Try.ntmps44
      go_wp2
      exact bodyPost_ret (v := .agg #[.int .i64 3, .int .i64 1, .int .i64 0]) (by simp [results, Try.results44, go_sem]) rfl ⟨rfl, by repeat (first | exact Below.refl _ _ | apply below_alloc)⟩
    · rw [if_neg y] at h
      simp only [Option.some.injEq, Prod.mk.injEq] at h
      obtain ⟨rfl, rfl, rfl⟩ := h
      have y0 : decide (wrap64 (2 * Int.tmod (wrap64 (a1 * wrap64 (a0 - 1))) (wrap64 (60 * a0))) < wrap64 (60 * a0)) = false := decide_eq_false y
      go_enter Try.func44, Try.ntmps44
      go_wp2
      exact bodyPost_ret (v := .agg #[.int .i64 3, .int .i64 0, .int .i64 0]) (by simp [results, Try.results44, go_sem]) rfl ⟨rfl, by repeat (first | exact Below.refl _ _ | apply below_alloc)⟩
  rw [if_neg c3] at h
  by_cases c4 : a2 = 4
  · rw [if_pos c4] at h
    subst c4
    simp only [Option.some.injEq, Prod.mk.injEq] at h
    obtain ⟨rfl, rfl, rfl⟩ := h
    go_enter Try.func44, Try.ntmps44
    go_wp2
    exact bodyPost_ret (v := .agg #[.int .i64 4, .int .i64 (wrap64 (wrap64 (Int.tdiv a1 60) + 1)), .int .i64 0]) (by simp [results, Try.results44, go_sem]) rfl ⟨rfl, by repeat (first | exact Below.refl _ _ | apply below_alloc)⟩
  rw [if_neg c4] at h
  by_cases c5 : a2 = 5
  · rw [if_pos c5] at h
    subst c5
    simp only [Option.some.injEq, Prod.mk.injEq] at h
    obtain ⟨rfl, rfl, rfl⟩ := h
    go_enter Try.func44, Try.ntmps44
    go_wp2
    all_goals exact bodyPost_ret (v := .agg #[.int .i64 5, .int .i64 (mx (wrap64 (wrap64 (Int.tdiv a1 60) - Int.tmod a1 60)) (wrap64 (Int.tmod a1 60 - wrap64 (Int.tdiv a1 60)))), .int .i64 0]) (by simp [results, Try.results44, go_sem] <;> (unfold mx; split <;> omega)) rfl ⟨rfl, by repeat (first | exact Below.refl _ _ | apply below_alloc)⟩
  rw [if_neg c5] at h
  simp only [Option.some.injEq, Prod.mk.injEq] at h
  obtain ⟨rfl, rfl, rfl⟩ := h
  have e0 : (a2 == 0) = false := beq_eq_false_iff_ne.mpr c0
  have e1 : (a2 == 1) = false := beq_eq_false_iff_ne.mpr c1
  have e2 : (a2 == 2) = false := beq_eq_false_iff_ne.mpr c2
  have e3 : (a2 == 3) = false := beq_eq_false_iff_ne.mpr c3
  have e4 : (a2 == 4) = false := beq_eq_false_iff_ne.mpr c4
  have e5 : (a2 == 5) = false := beq_eq_false_iff_ne.mpr c5
  go_enter Try.func44, Try.ntmps44
  go_wp2
  exact bodyPost_ret (v := .agg #[.int .i64 a2, .int .i64 0, .int .i64 0]) (by simp [results, Try.results44, go_sem]) rfl ⟨rfl, by repeat (first | exact Below.refl _ _ | apply below_alloc)⟩

end Go.Proofs.Ytpeleommbipeaaa.P
