/- Made puzzles: the program and the reference make the same. -/
import Derived.Test.YtpeleommbipeaaaLPuzzle0
import Derived.Test.YtpeleommbipeaaaFImplMakePuzzle
import Derived.Test.YtpeleommbipeaaaFSpecMakePuzzle
namespace Go.Proofs.Ytpeleommbipeaaa.P
open Go.RowKit Go.Proofs.YtpeleommbipeaaaW.PrintWords Go.Proofs.YtpeleommbipeaaaW.PrintLast
set_option linter.unusedVariables false
set_option linter.unusedSimpArgs false

theorem told_ahead2 {h m : Int} (h1 : 2 ≤ h) (h2 : h ≤ 24) (m1 : 0 ≤ m) (m2 : m < 60 * h) :
    wrap64 (60 * h) = 60 * h ∧ wrap64 (30 * h) = 30 * h ∧ wrap64 ((wrap64 (h - 1)) * m) = (h - 1) * m ∧ wrap64 (m * (wrap64 (h - 1))) = (h - 1) * m ∧ Int.tmod ((h - 1) * m) (60 * h) = (h - 1) * m % (60 * h) ∧ 0 ≤ (h - 1) * m % (60 * h) ∧ (h - 1) * m % (60 * h) < 60 * h := by
  have hm : 0 ≤ (h - 1) * m := Int.mul_nonneg (by omega) m1
  have hm2 : (h - 1) * m ≤ 23 * 1440 := Int.mul_le_mul (by omega) (by omega) m1 (by omega)
  have e : m * (h - 1) = (h - 1) * m := Int.mul_comm _ _
  refine ⟨wsm (by omega) (by omega), wsm (by omega) (by omega), ?_, ?_, Int.tmod_eq_emod_of_nonneg hm, Int.emod_nonneg _ (by omega), Int.emod_lt_of_pos _ (by omega)⟩
  · rw [wsm (n := h - 1) (by omega) (by omega), wsm (by omega) (by omega)]
  · rw [wsm (n := h - 1) (by omega) (by omega), e, wsm (by omega) (by omega)]
theorem told_of {h m kd a b : Int} (h1 : 2 ≤ h) (h2 : h ≤ 24) (m1 : 0 ≤ m) (m2 : m < 60 * h) (k0 : 0 ≤ kd) (k5 : kd ≤ 5) (ha : kd = 1 → a = b ∧ 2 ≤ a) : ∃ t, impl_told.f h m kd a = some t ∧ spec_pzOf.f h kd b m = some t := by
  obtain ⟨w1, w2, w3, w4, w5, w6, w7⟩ := told_ahead2 h1 h2 m1 m2
  have q : Int.tdiv m 60 = m / 60 := Int.tdiv_eq_ediv_of_nonneg m1
  have r : Int.tmod m 60 = m % 60 := Int.tmod_eq_emod_of_nonneg m1
  have q0 : 0 ≤ m / 60 := by omega
  have r0 : 0 ≤ m % 60 := by omega
  have wq : wrap64 (m / 60) = m / 60 := wsm (by omega) (by omega)
  unfold impl_told.f spec_pzOf.f
  have hk : kd = 0 ∨ kd = 1 ∨ kd = 2 ∨ kd = 3 ∨ kd = 4 ∨ kd = 5 := by omega
  rcases hk with rfl | rfl | rfl | rfl | rfl | rfl
  · exact ⟨_, rfl, rfl⟩
  · obtain ⟨rfl, h2a⟩ := ha rfl
    simp only [Int.reduceEq, if_false, if_true]
    rw [if_neg (by omega)]
    exact ⟨_, rfl, rfl⟩
  · exact ⟨_, rfl, rfl⟩
  · simp only [Int.reduceEq, if_false, if_true, spec_pzAhead.f]
    rw [w1, if_neg (show ¬ 60 * h = 0 by omega), if_neg (show ¬ 60 * h = 0 by omega), w2, w3, w4, w5, wsm (n := 2 * ((h - 1) * m % (60 * h))) (by omega) (by omega), wsm (n := (h - 1) * m % (60 * h) + 60 * h) (by omega) (by omega), Int.tmod_eq_emod_of_nonneg (by omega), Int.add_emod_right, Int.emod_emod_of_dvd _ (Int.dvd_refl _)]
    simp only [Option.bind_some]
    by_cases e : (h - 1) * m % (60 * h) < 30 * h
    · rw [if_pos (by omega), if_pos e]; exact ⟨_, rfl, rfl⟩
    · rw [if_neg (by omega), if_neg e]; exact ⟨_, rfl, rfl⟩
  · simp only [Int.reduceEq, if_false, if_true, spec_pzNext.f]
    rw [if_neg (by omega), q, wq, wsm (n := m / 60 + 1) (by omega) (by omega), Int.tmod_eq_emod_of_nonneg (by omega)]
    by_cases e : m / 60 + 1 = h
    · rw [e, Int.emod_self, wsm (n := 2 * 0) (by omega) (by omega)]
      exact ⟨_, rfl, rfl⟩
    · rw [Int.emod_eq_of_lt (by omega) (by omega), wsm (n := 2 * (m / 60 + 1)) (by omega) (by omega)]
      unfold spec_stAt.f
      rw [Int.tmod_eq_emod_of_nonneg (by omega), if_neg (by omega), if_neg (by omega), Int.tdiv_eq_ediv_of_nonneg (by omega), wsm (by omega) (by omega), show 2 * (m / 60 + 1) / 2 = m / 60 + 1 by omega]
      exact ⟨_, rfl, rfl⟩
  · simp only [Int.reduceEq, if_false, if_true, spec_l1Abs.f, spec_l1Most.f]
    rw [q, r, wq, wsm (n := m / 60 - m % 60) (by omega) (by omega), wsm (n := m % 60 - m / 60) (by omega) (by omega), wsm (n := -(m / 60 - m % 60)) (by omega) (by omega)]
    unfold mx
    refine ⟨(5, if m / 60 - m % 60 > -(m / 60 - m % 60) then m / 60 - m % 60 else -(m / 60 - m % 60), 0), ?_, ?_⟩
    · congr 3
      split <;> split <;> omega
    · by_cases e : m / 60 - m % 60 > -(m / 60 - m % 60)
      · simp only [if_pos e, Option.bind_some]
      · simp only [if_neg e, Option.bind_some]
theorem nx_eq {z : Int} (h0 : 0 ≤ z) (h1 : z ≤ 10008) : 0 ≤ impl_MakePuzzle.nx z ∧ impl_MakePuzzle.nx z ≤ 10008 := by
  unfold impl_MakePuzzle.nx
  rw [wsm (n := z * 163) (by omega) (by omega), wsm (n := z * 163 + 2917) (by omega) (by omega), Int.tmod_eq_emod_of_nonneg (by omega)]
  omega
theorem nx_spec (z : Int) : Int.tmod (wrap64 ((wrap64 (163 * z)) + 2917)) 10009 = impl_MakePuzzle.nx z := by
  unfold impl_MakePuzzle.nx
  rw [Int.mul_comm]
set_option maxHeartbeats 2000000 in
theorem make_both {h m n : Int} (h1 : 2 ≤ h) (h2 : h ≤ 24) (m1 : 0 ≤ m) (m2 : m < 60 * h) (n0 : 0 ≤ n) (n6 : n ≤ 6) : ∀ (d i : Nat) (z : Int) (acc : List IClue), (i : Int) + d = n → 0 ≤ z → z ≤ 10008 → acc.length = i →
    ∃ L : List IClue, (L.length : Int) = n ∧ Ev (fun k => impl_MakePuzzle.l0 k h m n z i acc) (h, L, true) ∧ Ev (fun k => spec_MakePuzzle.l0 k h m d z h acc) (h, L, true) := by
  intro d
  induction d with
  | zero =>
    intro i z acc hi z0 z1 ha
    refine ⟨acc, by omega, ev_succ ?_, ev_succ ?_⟩
    · simp only [impl_MakePuzzle.l0]
      exact ev_neg (by omega) (Ev.now _)
    · simp only [spec_MakePuzzle.l0]
      exact ev_neg (by omega) (Ev.now _)
  | succ d ih =>
    intro i z acc hi z0 z1 ha
    have e1 : wrap64 ((i : Int) + 1) = ((i + 1 : Nat) : Int) := wrap_succ (n := 100) (by omega) (by omega)
    have e2 : wrap64 (((d + 1 : Nat) : Int) - 1) = (d : Int) := by rw [wsm (by omega) (by omega)]; omega
    have e3 : (i : Int) < n := by omega
    have e4 : (((d + 1 : Nat) : Int)) > 0 := by omega
    have e5 : acc.length < 5864062014805 := by omega
    have Y := nx_eq z0 z1
    generalize hy : impl_MakePuzzle.nx z = y at Y
    obtain ⟨y0, y1⟩ := Y
    have X := nx_eq y0 y1
    generalize hx : impl_MakePuzzle.nx y = x at X
    obtain ⟨x0, x1⟩ := X
    have t6 : Int.tmod y 6 = y % 6 := Int.tmod_eq_emod_of_nonneg y0
    have t59 : Int.tmod x 59 = x % 59 := Int.tmod_eq_emod_of_nonneg x0
    have u0 : 0 ≤ Int.tmod y 6 := by rw [t6]; omega
    have u5 : Int.tmod y 6 ≤ 5 := by rw [t6]; omega
    have u2 : 2 ≤ wrap64 ((Int.tmod x 59) + 2) := by rw [t59, wsm (by omega) (by omega)]; omega
    by_cases c : Int.tmod y 6 = 1
    · obtain ⟨t, ht1, ht2⟩ := told_of (kd := Int.tmod y 6) (a := wrap64 ((Int.tmod x 59) + 2)) (b := wrap64 ((Int.tmod x 59) + 2)) h1 h2 m1 m2 u0 u5 (fun _ => ⟨rfl, u2⟩)
      obtain ⟨L, hL, g1, g2⟩ := ih (i + 1) x (acc ++ [⟨t.1, t.2.1, t.2.2⟩]) (by omega) x0 x1 (by rw [List.length_append, List.length_singleton]; omega)
      refine ⟨L, hL, ev_succ ?_, ev_succ ?_⟩
      · simp only [impl_MakePuzzle.l0, hy, hx, ht1, e1, Option.bind_some]
        exact ev_pos e3 (ev_pos c (ev_pos e5 g1))
      · simp only [spec_MakePuzzle.l0, nx_spec, hy, hx, ht2, e2, Option.bind_some]
        exact ev_pos e4 (ev_pos c (ev_pos e5 g2))
    · obtain ⟨t, ht1, ht2⟩ := told_of (kd := Int.tmod y 6) (a := 0) (b := 2) h1 h2 m1 m2 u0 u5 (fun z => absurd z c)
      obtain ⟨L, hL, g1, g2⟩ := ih (i + 1) y (acc ++ [⟨t.1, t.2.1, t.2.2⟩]) (by omega) y0 y1 (by rw [List.length_append, List.length_singleton]; omega)
      refine ⟨L, hL, ev_succ ?_, ev_succ ?_⟩
      · simp only [impl_MakePuzzle.l0, hy, ht1, e1, Option.bind_some]
        exact ev_pos e3 (ev_neg c (ev_pos e5 g1))
      · simp only [spec_MakePuzzle.l0, nx_spec, hy, ht2, e2, Option.bind_some]
        exact ev_pos e4 (ev_neg c (ev_pos e5 g2))
theorem isMinute_eq2 {h : Int} (m : Int) : impl_isMinute.f h m = some (wi h 2 24 && wi m 0 (60 * h - 1)) := by
  simp only [impl_isMinute.f, isDial_eq, within_eq, Option.bind_some]
  by_cases h0 : wi h 2 24 = true
  · simp only [h0, if_true, Bool.true_and]
    rw [wi_true] at h0
    rw [wsm (n := 60 * h) (by omega) (by omega), wsm (by omega) (by omega)]
  · simp only [Bool.not_eq_true] at h0; simp [h0]
/-- Both make the same puzzle, or both none. -/
theorem make_ev (h m n s : Int) : ∃ r : Int × List IClue × Bool, r.2.1.length ≤ 6 ∧ Ev (fun k => impl_MakePuzzle.f k h m n s) r ∧ Ev (fun k => spec_MakePuzzle.f k h m n s) r := by
  unfold impl_MakePuzzle.f spec_MakePuzzle.f
  rw [isMinute_eq2, diHours_eq]
  simp only [Option.bind_some, within_eq, l1In_eq]
  have hj : Ev (fun k => spec_MakePuzzle.j0 k h m n s true) (0, [], false) := ev_succ (by simp only [spec_MakePuzzle.j0, if_true]; exact Ev.now _)
  by_cases c0 : wi h 2 24 = true
  · have hb := c0
    rw [wi_true] at hb
    rw [wsm (n := 60 * h) (by omega) (by omega), wsm (n := 60 * h - 1) (by omega) (by omega), c0, Bool.true_and]
    simp only [if_true]
    by_cases c1 : wi m 0 (60 * h - 1) = true
    · simp only [c1, if_true]
      rw [wi_true] at c1
      by_cases c2 : wi n 0 6 = true
      · simp only [c2, if_true]
        rw [wi_true] at c2
        by_cases c3 : wi s 0 9999 = true
        · simp only [c3, if_true, Bool.not_true]
          rw [wi_true] at c3
          obtain ⟨L, hL, g1, g2⟩ := make_both hb.1 hb.2 c1.1 (by omega) c2.1 c2.2 n.toNat 0 s [] (by omega) (by omega) (by omega) rfl
          rw [show ((n.toNat : Nat) : Int) = n by omega] at g2
          refine ⟨(h, L, true), by dsimp only; omega, g1, ev_succ ?_⟩
          simp only [spec_MakePuzzle.j0, Bool.false_eq_true, if_false]
          exact g2
        · simp only [Bool.not_eq_true] at c3
          simp only [c3, Bool.false_eq_true, if_false, Bool.not_false]
          exact ⟨_, by simp, Ev.now _, hj⟩
      · simp only [Bool.not_eq_true] at c2
        simp only [c2, Bool.false_eq_true, if_false]
        exact ⟨_, by simp, Ev.now _, hj⟩
    · simp only [Bool.not_eq_true] at c1
      simp only [c1, Bool.false_eq_true, if_false]
      exact ⟨_, by simp, Ev.now _, hj⟩
  · simp only [Bool.not_eq_true] at c0
    simp only [c0, Bool.false_and, Bool.false_eq_true, if_false]
    exact ⟨_, by simp, Ev.now _, hj⟩

end Go.Proofs.Ytpeleommbipeaaa.P
