/- Whether minutes fit a clue: the program's and the reference's answers are one plain test, for a dial, a clue of it and minutes of it. -/
import Derived.Test.YtjkkkinfclaikaaLClue
import Derived.Test.YtjkkkinfclaikaaFSpecPzFits
import Derived.Test.YtjkkkinfclaikaaFImplFits
import Derived.Test.YtjkkkinfclaikaaFImplIsMinute
namespace Go.Proofs.Ytjkkkinfclaikaa.P
open Go.RowKit Go.Proofs.YtjkkkinfclaikaaW.PrintWords Go.Proofs.YtjkkkinfclaikaaW.PrintLast
set_option linter.unusedVariables false
set_option linter.unusedSimpArgs false

def fitB (h k a b m : Int) : Bool :=
  if k = 0 then m / 60 == a
  else if k = 1 then m % 60 % a == b
  else if k = 2 then m / 60 / 10 + m / 60 % 10 + m % 60 / 10 + m % 10 == a
  else if k = 3 then decide ((h - 1) * m % (60 * h) < 30 * h) == (a == 1)
  else if k = 4 then m / 60 + 1 == a
  else mx (m / 60 - m % 60) (m % 60 - m / 60) == a
theorem told_ahead {h m : Int} (h1 : 2 ≤ h) (h2 : h ≤ 24) (m1 : 0 ≤ m) (m2 : m < 60 * h) :
    wrap64 (60 * h) = 60 * h ∧ wrap64 (30 * h) = 30 * h ∧ wrap64 ((wrap64 (h - 1)) * m) = (h - 1) * m ∧ wrap64 (m * (wrap64 (h - 1))) = (h - 1) * m ∧ Int.tmod ((h - 1) * m) (60 * h) = (h - 1) * m % (60 * h) ∧ 0 ≤ (h - 1) * m % (60 * h) ∧ (h - 1) * m % (60 * h) < 60 * h := by
  have hm : 0 ≤ (h - 1) * m := Int.mul_nonneg (by omega) m1
  have hm2 : (h - 1) * m ≤ 23 * 1440 := Int.mul_le_mul (by omega) (by omega) m1 (by omega)
  have e : m * (h - 1) = (h - 1) * m := Int.mul_comm _ _
  refine ⟨wsm (by omega) (by omega), wsm (by omega) (by omega), ?_, ?_, Int.tmod_eq_emod_of_nonneg hm, Int.emod_nonneg _ (by omega), Int.emod_lt_of_pos _ (by omega)⟩
  · rw [wsm (n := h - 1) (by omega) (by omega), wsm (by omega) (by omega)]
  · rw [wsm (n := h - 1) (by omega) (by omega), e, wsm (by omega) (by omega)]
theorem clueOk_facts {h k a b : Int} (hc : clueOk h k a b = true) : (k = 0 ∧ b = 0) ∨ (k = 1 ∧ 2 ≤ a ∧ a ≤ 60) ∨ (k = 2 ∧ b = 0) ∨ (k = 3 ∧ 0 ≤ a ∧ a ≤ 1 ∧ b = 0) ∨ (k = 4 ∧ b = 0) ∨ (k = 5 ∧ b = 0) := by
  simp only [clueOk, kindOk, Bool.and_eq_true, Bool.or_eq_true, decide_eq_true_eq] at hc
  obtain ⟨h1, h2⟩ := hc
  by_cases c0 : k = 0
  · subst c0; left; exact ⟨rfl, by omega⟩
  by_cases c1 : k = 1
  · subst c1
    simp only [Int.reduceEq, if_false, if_true, Bool.and_eq_true, wi_true] at h2
    right; left; exact ⟨rfl, h2.1.1, h2.1.2⟩
  by_cases c2 : k = 2
  · subst c2; right; right; left; exact ⟨rfl, by omega⟩
  by_cases c3 : k = 3
  · subst c3
    simp only [Int.reduceEq, if_false, if_true, wi_true] at h2
    right; right; right; left; exact ⟨rfl, h2.1, h2.2, by omega⟩
  by_cases c4 : k = 4
  · subst c4; right; right; right; right; left; exact ⟨rfl, by omega⟩
  by_cases c5 : k = 5
  · subst c5; right; right; right; right; right; exact ⟨rfl, by omega⟩
  · simp [c0, c1, c2, c3, c4, c5] at h2
theorem pzFits_eq {h k a b m : Int} (h1 : 2 ≤ h) (h2 : h ≤ 24) (m1 : 0 ≤ m) (m2 : m < 60 * h) (hc : clueOk h k a b = true) : spec_pzFits.f h k a b m = some (fitB h k a b m) := by
  obtain ⟨w1, w2, w3, w4, w5, w6, w7⟩ := told_ahead h1 h2 m1 m2
  have q : Int.tdiv m 60 = m / 60 := Int.tdiv_eq_ediv_of_nonneg m1
  have r : Int.tmod m 60 = m % 60 := Int.tmod_eq_emod_of_nonneg m1
  have q0 : 0 ≤ m / 60 := by omega
  have r0 : 0 ≤ m % 60 := by omega
  have wq : wrap64 (m / 60) = m / 60 := wsm (by omega) (by omega)
  unfold spec_pzFits.f fitB
  rw [q, r, wq]
  rcases clueOk_facts hc with ⟨rfl, _⟩ | ⟨rfl, a1, a2⟩ | ⟨rfl, _⟩ | ⟨rfl, a1, a2, _⟩ | ⟨rfl, _⟩ | ⟨rfl, _⟩
  · rfl
  · simp only [Int.reduceEq, if_false, if_true]
    rw [if_neg (by omega), Int.tmod_eq_emod_of_nonneg r0]
  · simp only [Int.reduceEq, if_false, if_true]
    rw [Int.tdiv_eq_ediv_of_nonneg q0, Int.tmod_eq_emod_of_nonneg q0, Int.tdiv_eq_ediv_of_nonneg r0, Int.tmod_eq_emod_of_nonneg m1]
    rw [wsm (n := m / 60 / 10) (by omega) (by omega), wsm (n := m % 60 / 10) (by omega) (by omega), wsm (n := m / 60 / 10 + m / 60 % 10) (by omega) (by omega)]
    rw [wsm (n := m / 60 / 10 + m / 60 % 10 + m % 60 / 10) (by omega) (by omega), wsm (by omega) (by omega)]
  · simp only [Int.reduceEq, if_false, if_true, spec_pzAhead.f]
    rw [w1, if_neg (by omega), w2, w3, w5, wsm (by omega) (by omega), Int.tmod_eq_emod_of_nonneg (by omega), Int.add_emod_right, Int.emod_emod_of_dvd _ (Int.dvd_refl _)]
    rfl
  · simp only [Int.reduceEq, if_false, if_true, spec_pzNext.f]
    rw [if_neg (by omega), q, wq, wsm (n := m / 60 + 1) (by omega) (by omega), Int.tmod_eq_emod_of_nonneg (by omega)]
    have hlt : m / 60 + 1 ≤ h := by omega
    by_cases e : m / 60 + 1 = h
    · rw [e, Int.emod_self, wsm (n := 2 * 0) (by omega) (by omega)]
      rfl
    · rw [Int.emod_eq_of_lt (by omega) (by omega), wsm (by omega) (by omega)]
      unfold spec_stAt.f
      rw [Int.tmod_eq_emod_of_nonneg (by omega), if_neg (by omega), if_neg (by omega), Int.tdiv_eq_ediv_of_nonneg (by omega), wsm (by omega) (by omega), show 2 * (m / 60 + 1) / 2 = m / 60 + 1 by omega]
      rfl
  · simp only [Int.reduceEq, if_false, spec_l1Abs.f, spec_l1Most.f]
    rw [wsm (n := m / 60 - m % 60) (by omega) (by omega), wsm (by omega) (by omega)]
    unfold mx
    by_cases e : m / 60 - m % 60 > -(m / 60 - m % 60)
    · rw [if_pos e, if_neg (by omega)]; rfl
    · rw [if_neg e]
      by_cases e2 : m / 60 - m % 60 < m % 60 - m / 60
      · rw [if_pos e2]
        simp only [Option.bind_some]
        rw [show -(m / 60 - m % 60) = m % 60 - m / 60 by omega]
      · rw [if_neg e2]
        simp only [Option.bind_some]
        rw [show -(m / 60 - m % 60) = m / 60 - m % 60 by omega]
theorem fits_eq {h k a b m : Int} (h1 : 2 ≤ h) (h2 : h ≤ 24) (m1 : 0 ≤ m) (m2 : m < 60 * h) (hc : clueOk h k a b = true) : impl_fits.f h m k a b = some (fitB h k a b m) := by
  obtain ⟨w1, w2, w3, w4, w5, w6, w7⟩ := told_ahead h1 h2 m1 m2
  have q : Int.tdiv m 60 = m / 60 := Int.tdiv_eq_ediv_of_nonneg m1
  have r : Int.tmod m 60 = m % 60 := Int.tmod_eq_emod_of_nonneg m1
  have q0 : 0 ≤ m / 60 := by omega
  have r0 : 0 ≤ m % 60 := by omega
  have wq : wrap64 (m / 60) = m / 60 := wsm (by omega) (by omega)
  unfold impl_fits.f fitB impl_told.f
  rcases clueOk_facts hc with ⟨rfl, rfl⟩ | ⟨rfl, a1, a2⟩ | ⟨rfl, rfl⟩ | ⟨rfl, a1, a2, rfl⟩ | ⟨rfl, rfl⟩ | ⟨rfl, rfl⟩
  · simp [q, wq]
  · simp only [Int.reduceEq, if_false, if_true]
    rw [if_neg (by omega), r, Int.tmod_eq_emod_of_nonneg r0]
    simp
  · simp only [Int.reduceEq, if_false, if_true, impl_told.digits]
    rw [q, r, wq, Int.tdiv_eq_ediv_of_nonneg q0, Int.tmod_eq_emod_of_nonneg q0, Int.tdiv_eq_ediv_of_nonneg r0, Int.tmod_eq_emod_of_nonneg m1]
    rw [wsm (n := m / 60 / 10) (by omega) (by omega), wsm (n := m % 60 / 10) (by omega) (by omega), wsm (n := m / 60 / 10 + m / 60 % 10) (by omega) (by omega)]
    rw [wsm (n := m / 60 / 10 + m / 60 % 10 + m % 60 / 10) (by omega) (by omega), wsm (by omega) (by omega)]
    simp
  · simp only [Int.reduceEq, if_false, if_true]
    rw [w1, if_neg (by omega), w4, w5, wsm (by omega) (by omega)]
    by_cases e : (h - 1) * m % (60 * h) < 30 * h
    · rw [if_pos (by omega), decide_eq_true e]
      by_cases e1 : a = 1
      · subst e1; simp
      · have : a = 0 := by omega
        subst this; simp
    · rw [if_neg (by omega), decide_eq_false e]
      by_cases e1 : a = 1
      · subst e1; simp
      · have : a = 0 := by omega
        subst this; simp
  · simp only [Int.reduceEq, if_false, if_true]
    rw [q, wq, wsm (by omega) (by omega)]
    simp
  · simp only [Int.reduceEq, if_false, if_true]
    rw [q, r, wq, wsm (n := m / 60 - m % 60) (by omega) (by omega), wsm (by omega) (by omega)]
    simp
theorem isMinute_eq {h : Int} (m : Int) : impl_isMinute.f h m = some (wi h 2 24 && wi m 0 (60 * h - 1)) := by
  simp only [impl_isMinute.f, isDial_eq, within_eq, Option.bind_some]
  by_cases h0 : wi h 2 24 = true
  · simp only [h0, if_true, Bool.true_and]
    rw [wi_true] at h0
    rw [wsm (n := 60 * h) (by omega) (by omega), wsm (by omega) (by omega)]
  · simp only [Bool.not_eq_true] at h0; simp [h0]

end Go.Proofs.Ytjkkkinfclaikaa.P
