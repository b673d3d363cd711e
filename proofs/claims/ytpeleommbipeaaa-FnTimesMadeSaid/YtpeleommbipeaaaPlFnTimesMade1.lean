/- Plain lemmas about what the functions compute (part 1). No conditions but those stated. -/
import Derived.Test.YtpeleommbipeaaaFnFnTimesMade3
namespace Go.Proofs.Ytpeleommbipeaaa.M
open Go Go.PM Go.Proofs.Ytpeleommbipeaaa.P
set_option linter.unusedVariables false
set_option linter.unusedSimpArgs false
def inB (a lo hi : Int) : Bool := decide (lo ≤ a) && decide (a ≤ hi)
theorem inB_iff {a lo hi : Int} : inB a lo hi = true ↔ lo ≤ a ∧ a ≤ hi := by simp [inB]
theorem inB_not {a lo hi : Int} : inB a lo hi = false ↔ ¬ (lo ≤ a ∧ a ≤ hi) := by rw [← inB_iff]; simp
theorem within_eq (N : Nat) (a b c : Int) : impl_within.g N a b c = some (inB a b c) := by
  unfold impl_within.g impl_within.o0 inB
  by_cases h : b ≤ a
  · rw [dcT (show a ≥ b from h)]; rfl
  · rw [dcF (show ¬ a ≥ b from h)]; rfl
theorem l1In_eq (N : Nat) (a b c : Int) : spec_l1In.g N a b c = some (inB a b c) := by
  unfold spec_l1In.g spec_l1In.o0 inB
  by_cases h : b ≤ a
  · rw [dcT (show a ≥ b from h)]; rfl
  · rw [dcF (show ¬ a ≥ b from h)]; rfl
theorem isDial_eq (N : Nat) (a : Int) : impl_isDial.g N a = some (inB a 2 24) := by
  unfold impl_isDial.g impl_isDial.o0; rw [within_eq]; rfl
theorem diHours_eq (N : Nat) (a : Int) : spec_diHours.g N a = some (inB a 2 24) := by
  unfold spec_diHours.g spec_diHours.o0; rw [l1In_eq]; rfl
theorem tmodN (a b : Nat) : Int.tmod (a : Int) (b : Int) = ((a % b : Nat) : Int) := (Int.ofNat_tmod a b).symm
theorem tdivN (a b : Nat) : Int.tdiv (a : Int) (b : Int) = ((a / b : Nat) : Int) := (Int.ofNat_tdiv a b).symm
theorem w2add {a b : Nat} (h : a + b < 9000000000000000000) : w64 ((a : Int) + (b : Int)) = ((a + b : Nat) : Int) := by rw [w64s (by omega) (by omega)]; omega
theorem w1add {a : Nat} (h : a < 9000000000000000000) : w64 ((a : Int) + 1) = ((a + 1 : Nat) : Int) := by rw [w64s (by omega) (by omega)]; omega
theorem kSame_loop (N : Nat) (l m : List Int) (hl : l.length = m.length) (hs : l.length < 1000000000) : ∀ (k i n : Nat), l.length = i + k → k < n → laws_kSame.l1 N n l m (l.length : Int) i = some (decide (l.drop i = m.drop i))
  | 0, i, n + 1, hi, hn => by
    unfold laws_kSame.l1 laws_kSame.d1 laws_kSame.o1
    rw [dcF (by omega), cond_false, List.drop_eq_nil_of_le (by omega), List.drop_eq_nil_of_le (by omega)]; rfl
  | k + 1, i, n + 1, hi, hn => by
    unfold laws_kSame.l1 laws_kSame.d1 laws_kSame.o1
    rw [dcT (by omega), dcT (by omega), cond_true, cond_true, cond_true, Int.toNat_natCast, getAt (by omega), cond_true, dcT (by omega), cond_true, getAt (by omega)]
    rw [List.drop_eq_getElem_cons (show i < l.length by omega), List.drop_eq_getElem_cons (show i < m.length by omega)]
    by_cases e : l[i] = m[i]
    · rw [ineF e, cond_false, w1add (by omega)]
      refine (kSame_loop N l m hl hs k (i+1) n (by omega) (by omega)).trans ?_
      rw [Option.some.injEq, e, decide_eq_decide]
      exact ⟨fun h => by rw [h], fun h => (List.cons.inj h).2⟩
    · rw [ineT e, cond_true, dcF (fun h => e (List.cons.inj h).1)]
  | _, _, 0, _, hn => by omega
theorem kSame_eq {N : Nat} (l m : List Int) (hs : l.length < 1000000000) (hN : l.length < N) : laws_kSame.g N l m = some (decide (l = m)) := by
  unfold laws_kSame.g laws_kSame.o0
  by_cases e : l.length = m.length
  · rw [ineF (by omega), cond_false]
    exact kSame_loop N l m e hs l.length 0 N (by omega) hN
  · rw [ineT (by omega), cond_true, dcF (fun e' => e (by rw [e']))]
end Go.Proofs.Ytpeleommbipeaaa.M

namespace Go.Proofs.Ytpeleommbipeaaa.M
open Go Go.PM Go.Proofs.Ytpeleommbipeaaa.P
set_option linter.unusedVariables false
set_option linter.unusedSimpArgs false
def kindOk (h k a b : Int) : Bool :=
  if k = 0 then inB a 0 (w64 (h - 1)) else if k = 1 then inB a 2 60 && inB b 0 (w64 (a - 1)) else if k = 2 then inB a 0 30 else if k = 3 then inB a 0 1 else if k = 4 then inB a 1 h else if k = 5 then inB a 0 59 else false
def clueOk (h k a b : Int) : Bool := (decide (k = 1) || decide (b = 0)) && kindOk h k a b
theorem bind_id {α : Type} (x : Option α) : (x.bind fun r => some r) = x := by cases x <;> rfl
theorem ieqD (a b : Int) : (a == b) = decide (a = b) := rfl
theorem condD {α : Type} {p : Prop} [Decidable p] (x y : α) : (bif decide p then x else y) = if p then x else y := by
  by_cases h : p
  · rw [dcT h, if_pos h]; rfl
  · rw [dcF h, if_neg h]; rfl
theorem ineD (a b : Int) : (a != b) = !decide (a = b) := rfl
theorem condN {α : Type} (b : Bool) (x y : α) : (bif !b then x else y) = bif b then y else x := by cases b <;> rfl
theorem pzClue_d (N : Nat) (h : Int) (e : Bool) (c a b : Int) : spec_pzClue.d1 N h e c a b = some (!e && kindOk h c a b) := by
  unfold spec_pzClue.d1 spec_pzClue.o1 kindOk
  cases e
  · rw [cond_false, Bool.not_false, Bool.true_and]
    simp only [l1In_eq, Option.bind_some, ieqD, condD]
    by_cases h1 : c = 1
    · subst h1
      simp only [Int.reduceEq, if_false, if_true]
      cases inB a 2 60 <;> rfl
    · simp only [h1, if_false]
      repeat' split
      all_goals rfl
  · rfl
theorem pzClue_eq (N : Nat) (h c a b : Int) : spec_pzClue.g N h c a b = some (clueOk h c a b) := by
  unfold spec_pzClue.g spec_pzClue.o0 clueOk
  simp only [pzClue_d, ineD, condN, condD]
  by_cases h1 : c = 1
  · simp [h1]
  · by_cases h2 : b = 0 <;> simp [h1, h2]
theorem isClue_d (N : Nat) (h : Int) (e : Bool) (c a b : Int) : impl_IsClue.d1 N h e c a b = some (!e && kindOk h c a b) := by
  unfold impl_IsClue.d1 impl_IsClue.o1 kindOk
  cases e
  · rw [cond_false, Bool.not_false, Bool.true_and]
    simp only [within_eq, Option.bind_some, ieqD, condD]
    by_cases h1 : c = 1
    · subst h1
      simp only [Int.reduceEq, if_false, if_true]
      cases inB a 2 60 <;> rfl
    · simp only [h1, if_false]
      repeat' split
      all_goals rfl
  · rfl
theorem isClue_eq (N : Nat) (h c a b : Int) : impl_IsClue.g N h c a b = some (inB h 2 24 && clueOk h c a b) := by
  unfold impl_IsClue.g impl_IsClue.o0 clueOk
  rw [isDial_eq, Option.bind_some]
  cases inB h 2 24
  · simp only [isClue_d, Bool.not_false, cond_true]; rfl
  · simp only [isClue_d, Bool.not_true, cond_false, ineD, condN, condD]
    by_cases h1 : c = 1
    · simp [h1]
    · by_cases h2 : b = 0 <;> simp [h1, h2]
theorem sIsClue_eq (N : Nat) (h c a b : Int) : spec_IsClue.g N h c a b = some (inB h 2 24 && clueOk h c a b) := by
  unfold spec_IsClue.g spec_IsClue.o0
  rw [diHours_eq, Option.bind_some, pzClue_eq]
  cases inB h 2 24 <;> rfl
/-! ### fitting -/
def mx (a b : Int) : Int := if a < b then b else a
def fitB (h k a b m : Int) : Bool :=
  if k = 0 then m / 60 == a
  else if k = 1 then m % 60 % a == b
  else if k = 2 then m / 60 / 10 + m / 60 % 10 + m % 60 / 10 + m % 10 == a
  else if k = 3 then decide ((h - 1) * m % (60 * h) < 30 * h) == (a == 1)
  else if k = 4 then m / 60 + 1 == a
  else mx (m / 60 - m % 60) (m % 60 - m / 60) == a
theorem told_ahead {h m : Int} (h1 : 2 ≤ h) (h2 : h ≤ 24) (m1 : 0 ≤ m) (m2 : m < 60 * h) :
    w64 (60 * h) = 60 * h ∧ w64 (30 * h) = 30 * h ∧ w64 ((w64 (h - 1)) * m) = (h - 1) * m ∧ w64 (m * (w64 (h - 1))) = (h - 1) * m ∧ Int.tmod ((h - 1) * m) (60 * h) = (h - 1) * m % (60 * h) ∧ 0 ≤ (h - 1) * m % (60 * h) ∧ (h - 1) * m % (60 * h) < 60 * h := by
  have hm : 0 ≤ (h - 1) * m := Int.mul_nonneg (by omega) m1
  have hm2 : (h - 1) * m ≤ 23 * 1440 := Int.mul_le_mul (by omega) (by omega) m1 (by omega)
  have e : m * (h - 1) = (h - 1) * m := Int.mul_comm _ _
  refine ⟨w64s (by omega) (by omega), w64s (by omega) (by omega), ?_, ?_, Int.tmod_eq_emod_of_nonneg hm, Int.emod_nonneg _ (by omega), Int.emod_lt_of_pos _ (by omega)⟩
  · rw [w64s (n := h - 1) (by omega) (by omega), w64s (by omega) (by omega)]
  · rw [w64s (n := h - 1) (by omega) (by omega), e, w64s (by omega) (by omega)]
theorem clueOk_facts {h k a b : Int} (hc : clueOk h k a b = true) : (k = 0 ∧ b = 0) ∨ (k = 1 ∧ 2 ≤ a ∧ a ≤ 60) ∨ (k = 2 ∧ b = 0) ∨ (k = 3 ∧ 0 ≤ a ∧ a ≤ 1 ∧ b = 0) ∨ (k = 4 ∧ b = 0) ∨ (k = 5 ∧ b = 0) := by
  simp only [clueOk, kindOk, Bool.and_eq_true, Bool.or_eq_true, decide_eq_true_eq] at hc
  obtain ⟨h1, h2⟩ := hc
  by_cases c0 : k = 0
  · subst c0; left; exact ⟨rfl, by omega⟩
  by_cases c1 : k = 1
  · subst c1
    simp only [Int.reduceEq, if_false, if_true, Bool.and_eq_true, inB_iff] at h2
    right; left; exact ⟨rfl, h2.1.1, h2.1.2⟩
  by_cases c2 : k = 2
  · subst c2; right; right; left; exact ⟨rfl, by omega⟩
  by_cases c3 : k = 3
  · subst c3
    simp only [Int.reduceEq, if_false, if_true, inB_iff] at h2
    right; right; right; left; exact ⟨rfl, h2.1, h2.2, by omega⟩
  by_cases c4 : k = 4
  · subst c4; right; right; right; right; left; exact ⟨rfl, by omega⟩
  by_cases c5 : k = 5
  · subst c5; right; right; right; right; right; exact ⟨rfl, by omega⟩
  · simp [c0, c1, c2, c3, c4, c5] at h2
theorem most_eq' (N : Nat) (a b : Int) : spec_l1Most.g N a b = some (if a > b then a else b) := by
  unfold spec_l1Most.g spec_l1Most.o0
  rw [condD]; split <;> rfl
/-- the strokes at the next full hour -/
theorem pzNext_eq (N : Nat) {h m : Int} (h1 : 2 ≤ h) (h2 : h ≤ 24) (m1 : 0 ≤ m) (m2 : m < 60 * h) : spec_pzNext.g N h m = some (m / 60 + 1) := by
  have q : Int.tdiv m 60 = m / 60 := Int.tdiv_eq_ediv_of_nonneg m1
  unfold spec_pzNext.g spec_pzNext.o0
  rw [ieqF (by omega), cond_false, bind_id, q, w64s (n := m / 60) (by omega) (by omega), w64s (n := m / 60 + 1) (by omega) (by omega), Int.tmod_eq_emod_of_nonneg (by omega)]
  have hlt : m / 60 + 1 ≤ h := by omega
  by_cases e : m / 60 + 1 = h
  · rw [e, Int.emod_self, w64s (n := 2 * 0) (by omega) (by omega)]
    rfl
  · rw [Int.emod_eq_of_lt (by omega) (by omega), w64s (by omega) (by omega)]
    unfold spec_stAt.g spec_stAt.o0
    rw [Int.tmod_eq_emod_of_nonneg (by omega), ieqF (by omega), cond_false, ieqF (by omega), cond_false, Int.tdiv_eq_ediv_of_nonneg (by omega), show 2 * (m / 60 + 1) / 2 = m / 60 + 1 by omega, w64s (by omega) (by omega)]
theorem pzAhead_eq (N : Nat) {h m : Int} (h1 : 2 ≤ h) (h2 : h ≤ 24) (m1 : 0 ≤ m) (m2 : m < 60 * h) : spec_pzAhead.g N h m = some ((h - 1) * m % (60 * h)) := by
  obtain ⟨w1, w2, w3, w4, w5, w6, w7⟩ := told_ahead h1 h2 m1 m2
  unfold spec_pzAhead.g spec_pzAhead.o0
  rw [w1, ieqF (by omega), cond_false, cond_false, w3, w5, w64s (by omega) (by omega), Int.tmod_eq_emod_of_nonneg (by omega), Int.add_emod_right, Int.emod_emod_of_dvd _ (Int.dvd_refl _)]
theorem pzAbs_eq (N : Nat) {m : Int} (m1 : 0 ≤ m) (m2 : m < 1440) : spec_l1Abs.g N (w64 (m / 60 - m % 60)) = some (mx (m / 60 - m % 60) (m % 60 - m / 60)) := by
  unfold spec_l1Abs.g spec_l1Abs.o0
  rw [bind_id, most_eq', w64s (n := m / 60 - m % 60) (by omega) (by omega), w64s (by omega) (by omega)]
  unfold mx
  by_cases e : m / 60 - m % 60 > 0 - (m / 60 - m % 60)
  · rw [if_pos e, if_neg (by omega)]
  · rw [if_neg e]
    by_cases e2 : m / 60 - m % 60 < m % 60 - m / 60
    · rw [if_pos e2, show 0 - (m / 60 - m % 60) = m % 60 - m / 60 by omega]
    · rw [if_neg e2, show 0 - (m / 60 - m % 60) = m / 60 - m % 60 by omega]
theorem digits_eq {m : Int} (m1 : 0 ≤ m) (m2 : m < 1440) : w64 (w64 (w64 (w64 (Int.tdiv (w64 (Int.tdiv m 60)) 10) + Int.tmod (w64 (Int.tdiv m 60)) 10) + w64 (Int.tdiv (Int.tmod m 60) 10)) + Int.tmod (Int.tmod m 60) 10) = m / 60 / 10 + m / 60 % 10 + m % 60 / 10 + m % 10 := by
  have q0 : 0 ≤ m / 60 := by omega
  have r0 : 0 ≤ m % 60 := by omega
  rw [Int.tdiv_eq_ediv_of_nonneg m1, Int.tmod_eq_emod_of_nonneg m1, w64s (n := m / 60) (by omega) (by omega), Int.tdiv_eq_ediv_of_nonneg q0, Int.tmod_eq_emod_of_nonneg q0, Int.tdiv_eq_ediv_of_nonneg r0, Int.tmod_eq_emod_of_nonneg r0]
  rw [w64s (n := m / 60 / 10) (by omega) (by omega), w64s (n := m % 60 / 10) (by omega) (by omega), w64s (n := m / 60 / 10 + m / 60 % 10) (by omega) (by omega), w64s (n := m / 60 / 10 + m / 60 % 10 + m % 60 / 10) (by omega) (by omega), w64s (by omega) (by omega)]
  omega
theorem pzFits_eq (N : Nat) {h k a b m : Int} (h1 : 2 ≤ h) (h2 : h ≤ 24) (m1 : 0 ≤ m) (m2 : m < 60 * h) (hc : clueOk h k a b = true) : spec_pzFits.g N h k a b m = some (fitB h k a b m) := by
  obtain ⟨w1, w2, w3, w4, w5, w6, w7⟩ := told_ahead h1 h2 m1 m2
  have q : Int.tdiv m 60 = m / 60 := Int.tdiv_eq_ediv_of_nonneg m1
  have r : Int.tmod m 60 = m % 60 := Int.tmod_eq_emod_of_nonneg m1
  have wq : w64 (m / 60) = m / 60 := w64s (by omega) (by omega)
  unfold spec_pzFits.g spec_pzFits.o0 fitB
  rw [digits_eq m1 (by omega), q, r, wq, pzAhead_eq N h1 h2 m1 m2, pzNext_eq N h1 h2 m1 m2, pzAbs_eq N m1 (by omega), w2]
  simp only [ieqD, condD, Option.bind_some]
  rcases clueOk_facts hc with ⟨rfl, _⟩ | ⟨rfl, a1, a2⟩ | ⟨rfl, _⟩ | ⟨rfl, a1, a2, _⟩ | ⟨rfl, _⟩ | ⟨rfl, _⟩
  · rfl
  · simp only [Int.reduceEq, if_false, if_true]
    rw [if_neg (by omega), Int.tmod_eq_emod_of_nonneg (by omega)]
  all_goals rfl
/-- the clue of a kind as minutes have it: its A and its B -/
def toldA (h k a m : Int) : Int :=
  if k = 0 then m / 60 else if k = 1 then a else if k = 2 then m / 60 / 10 + m / 60 % 10 + m % 60 / 10 + m % 10
  else if k = 3 then (if (h - 1) * m % (60 * h) < 30 * h then 1 else 0) else if k = 4 then m / 60 + 1 else if k = 5 then mx (m / 60 - m % 60) (m % 60 - m / 60) else 0
def toldB (k a m : Int) : Int := if k = 1 then m % 60 % a else 0
theorem told_eq (N : Nat) {h k a m : Int} (h1 : 2 ≤ h) (h2 : h ≤ 24) (m1 : 0 ≤ m) (m2 : m < 60 * h) (ha : k = 1 → 2 ≤ a) : impl_told.g N h m k a = some (k, toldA h k a m, toldB k a m) := by
  obtain ⟨w1, w2, w3, w4, w5, w6, w7⟩ := told_ahead h1 h2 m1 m2
  have q : Int.tdiv m 60 = m / 60 := Int.tdiv_eq_ediv_of_nonneg m1
  have r : Int.tmod m 60 = m % 60 := Int.tmod_eq_emod_of_nonneg m1
  have wq : w64 (m / 60) = m / 60 := w64s (by omega) (by omega)
  unfold impl_told.g impl_told.o0 impl_told.d1 impl_told.o1 toldA toldB
  rw [digits_eq m1 (by omega), q, r, wq, w1, w4, w5, w64s (n := 2 * ((h - 1) * m % (60 * h))) (by omega) (by omega), w64s (n := m % 60 - m / 60) (by omega) (by omega), w64s (n := m / 60 - m % 60) (by omega) (by omega), w64s (n := m / 60 + 1) (by omega) (by omega)]
  simp only [ieqD, condD]
  by_cases c0 : k = 0
  · subst c0; rfl
  by_cases c1 : k = 1
  · subst c1
    have := ha rfl
    simp only [Int.reduceEq, if_false, if_true]
    rw [if_neg (by omega), Int.tmod_eq_emod_of_nonneg (by omega)]
  by_cases c2 : k = 2
  · subst c2; rfl
  by_cases c3 : k = 3
  · subst c3
    simp only [Int.reduceEq, if_false, if_true]
    rw [if_neg (by omega)]
    by_cases e : (h - 1) * m % (60 * h) < 30 * h
    · rw [if_pos (by omega), if_pos e]
    · rw [if_neg (by omega), if_neg e]
  by_cases c4 : k = 4
  · subst c4; rfl
  by_cases c5 : k = 5
  · subst c5
    simp only [Int.reduceEq, if_false, if_true]
    unfold mx
    by_cases e : m / 60 - m % 60 < m % 60 - m / 60
    · simp only [if_pos e, gt_iff_lt]
    · simp only [if_neg e, gt_iff_lt]
  · simp only [c0, c1, c2, c3, c4, c5, if_false]
theorem fits_eq (N : Nat) {h k a b m : Int} (h1 : 2 ≤ h) (h2 : h ≤ 24) (m1 : 0 ≤ m) (m2 : m < 60 * h) (hc : clueOk h k a b = true) : impl_fits.g N h m k a b = some (fitB h k a b m) := by
  unfold impl_fits.g impl_fits.o0 fitB
  have fs := clueOk_facts hc
  rw [told_eq N h1 h2 m1 m2 (by omega), Option.bind_some]
  unfold toldA toldB
  rcases fs with ⟨rfl, rfl⟩ | ⟨rfl, a1, a2⟩ | ⟨rfl, rfl⟩ | ⟨rfl, a1, a2, rfl⟩ | ⟨rfl, rfl⟩ | ⟨rfl, rfl⟩
  · simp
  · simp
  · simp
  · simp only [Int.reduceEq, if_false, if_true]
    by_cases e : (h - 1) * m % (60 * h) < 30 * h
    · rw [if_pos e, dcT e]
      by_cases e1 : a = 1
      · subst e1; simp
      · have : a = 0 := by omega
        subst this; simp
    · rw [if_neg e, dcF e]
      by_cases e1 : a = 1
      · subst e1; simp
      · have : a = 0 := by omega
        subst this; simp
  · simp
  · simp
theorem isMinute_eq (N : Nat) (h m : Int) : impl_isMinute.g N h m = some (inB h 2 24 && inB m 0 (60 * h - 1)) := by
  unfold impl_isMinute.g impl_isMinute.o0
  rw [isDial_eq, Option.bind_some]
  cases e : inB h 2 24 with
  | false => rfl
  | true =>
    have := inB_iff.1 e
    rw [cond_true, bind_id, w64s (n := 60 * h) (by omega) (by omega), w64s (by omega) (by omega), within_eq]; rfl
/-- an answer to 'does it fit' -/
def dfit (h k a b m : Int) : Bool × Bool := if (inB h 2 24 && (clueOk h k a b && inB m 0 (60 * h - 1))) = true then (fitB h k a b m, true) else (false, false)
theorem doesFit_eq (N : Nat) (h k a b m : Int) : impl_DoesFit.g N h k a b m = some (dfit h k a b m) := by
  unfold impl_DoesFit.g impl_DoesFit.o0 impl_DoesFit.d1 impl_DoesFit.o1 dfit
  rw [isClue_eq, isMinute_eq, Option.bind_some, Option.bind_some]
  cases e : inB h 2 24 with
  | false => rfl
  | true =>
    cases e' : clueOk h k a b with
    | false => rfl
    | true =>
      cases e'' : inB m 0 (60 * h - 1) with
      | false => rfl
      | true =>
        have := inB_iff.1 e
        have := inB_iff.1 e''
        dsimp only
        rw [fits_eq N (by omega) (by omega) (by omega) (by omega) e']; rfl
theorem sDoesFit_eq (N : Nat) (h k a b m : Int) : spec_DoesFit.g N h k a b m = some (dfit h k a b m) := by
  unfold spec_DoesFit.g spec_DoesFit.o0 spec_DoesFit.d1 spec_DoesFit.o1 dfit
  rw [diHours_eq, Option.bind_some, pzClue_eq, Option.bind_some]
  cases e : inB h 2 24 with
  | false => rfl
  | true =>
    cases e' : clueOk h k a b with
    | false => rfl
    | true =>
      have := inB_iff.1 e
      rw [w64s (n := 60 * h) (by omega) (by omega), w64s (by omega) (by omega), l1In_eq, Option.bind_some]
      cases e'' : inB m 0 (60 * h - 1) with
      | false => rfl
      | true =>
        have := inB_iff.1 e''
        dsimp only
        rw [pzFits_eq N (by omega) (by omega) (by omega) (by omega) e']; rfl
/-! ### puzzles -/
abbrev IClue := S38
def cok (h : Int) (c : IClue) : Bool := clueOk h c.f0 c.f1 c.f2
def puzzleOk (h : Int) (l : List IClue) : Bool := inB h 2 24 && (decide (l.length ≤ 6) && l.all (cok h))
theorem puzzleOk_facts {h : Int} {l : List IClue} (hp : puzzleOk h l = true) : 2 ≤ h ∧ h ≤ 24 ∧ l.length ≤ 6 ∧ l.all (cok h) = true := by
  unfold puzzleOk at hp
  simp only [Bool.and_eq_true, inB_iff, decide_eq_true_eq] at hp
  exact ⟨hp.1.1, hp.1.2, hp.2.1, hp.2.2⟩
theorem puzzleOk_mk {h : Int} {l : List IClue} (h1 : 2 ≤ h) (h2 : h ≤ 24) (h3 : l.length ≤ 6) (h4 : l.all (cok h) = true) : puzzleOk h l = true := by
  unfold puzzleOk
  simp only [Bool.and_eq_true, inB_iff, decide_eq_true_eq]
  exact ⟨⟨h1, h2⟩, h3, h4⟩
theorem pzGood_loop (N : Nat) (h : Int) (hd : inB h 2 24 = true) (l : List IClue) (hl : l.length ≤ 6) : ∀ (k i n : Nat), l.length = i + k → k < n → spec_pzGood.l2 N n l (l.length : Int) i h l = some ((l.drop i).all (cok h))
  | 0, i, n + 1, hi, hn => by
    unfold spec_pzGood.l2 spec_pzGood.d2 spec_pzGood.o2
    rw [dcF (by omega), cond_false, List.drop_eq_nil_of_le (by omega)]; rfl
  | k + 1, i, n + 1, hi, hn => by
    unfold spec_pzGood.l2 spec_pzGood.d2 spec_pzGood.o2
    rw [dcT (by omega), cond_true, dcT (by omega), cond_true, cond_true, Int.toNat_natCast, getAt (by omega), pzClue_eq, Option.bind_some, List.drop_eq_getElem_cons (show i < l.length by omega), List.all_cons]
    show cond (!cok h l[i]) _ _ = _
    cases cok h l[i] with
    | false => rfl
    | true =>
      rw [Bool.not_true, cond_false, w1add (by omega), Bool.true_and]
      exact pzGood_loop N h hd l hl k (i+1) n (by omega) (by omega)
  | _, _, 0, _, hn => by omega
theorem pzGood_eq {N : Nat} (hN : 10000 ≤ N) (h : Int) (l : List IClue) : spec_pzGood.g N h l = some (puzzleOk h l) := by
  unfold spec_pzGood.g spec_pzGood.o0 spec_pzGood.d1 spec_pzGood.o1 puzzleOk
  rw [diHours_eq, Option.bind_some]
  cases e : inB h 2 24 with
  | false => rfl
  | true =>
    rw [Bool.not_true, cond_false, Bool.true_and]
    by_cases c : l.length ≤ 6
    · rw [dcF (by omega), dcT c, Bool.true_and]
      exact pzGood_loop N h e l c l.length 0 N (by omega) (by omega)
    · rw [dcT (show (l.length : Int) > 6 by omega), dcF c]; rfl
theorem isPz_loop (N : Nat) (h : Int) (hd : inB h 2 24 = true) (l m : List IClue) (hl : l.length ≤ 6) : ∀ (k i n : Nat), l.length = i + k → k < n → ∃ r, slices_IndexFunc_impl_Clue_impl_Clue.l1 N n l (l.length : Int) i h m = some (r, h, m) ∧ decide (r ≥ 0) = !(l.drop i).all (cok h)
  | 0, i, n + 1, hi, hn => by
    unfold slices_IndexFunc_impl_Clue_impl_Clue.l1 slices_IndexFunc_impl_Clue_impl_Clue.d1 slices_IndexFunc_impl_Clue_impl_Clue.o1
    rw [dcF (by omega), cond_false, List.drop_eq_nil_of_le (by omega)]
    exact ⟨_, rfl, rfl⟩
  | k + 1, i, n + 1, hi, hn => by
    unfold slices_IndexFunc_impl_Clue_impl_Clue.l1 slices_IndexFunc_impl_Clue_impl_Clue.d1 slices_IndexFunc_impl_Clue_impl_Clue.o1
    rw [dcT (by omega), cond_true, dcT (by omega), cond_true, cond_true, Int.toNat_natCast, getAt (by omega)]
    unfold impl_IsPuzzle_1.g impl_IsPuzzle_1.o0
    rw [isClue_eq, hd, Bool.true_and, Option.bind_some, Option.bind_some, List.drop_eq_getElem_cons (show i < l.length by omega), List.all_cons]
    show ∃ r, cond (!cok h l[i]) _ _ = _ ∧ _
    cases cok h l[i] with
    | false => exact ⟨_, rfl, by rw [dcT (show ((i : Nat) : Int) ≥ 0 by omega)]; rfl⟩
    | true =>
      rw [Bool.not_true, cond_false, w1add (by omega), Bool.true_and]
      exact isPz_loop N h hd l m hl k (i+1) n (by omega) (by omega)
  | _, _, 0, _, hn => by omega
theorem isPuzzle_eq {N : Nat} (hN : 10000 ≤ N) (h : Int) (l : List IClue) : impl_IsPuzzle.g N h l = some (puzzleOk h l) := by
  unfold impl_IsPuzzle.g impl_IsPuzzle.o0 puzzleOk
  rw [isDial_eq, Option.bind_some]
  cases e : inB h 2 24 with
  | false => rfl
  | true =>
    rw [cond_true, Bool.true_and]
    by_cases c : l.length ≤ 6
    · rw [dcT (show (l.length : Int) ≤ 6 by omega), dcT c, Bool.true_and, cond_true]
      unfold slices_ContainsFunc_impl_Clue_impl_Clue.g slices_ContainsFunc_impl_Clue_impl_Clue.o0 slices_IndexFunc_impl_Clue_impl_Clue.g slices_IndexFunc_impl_Clue_impl_Clue.o0
      obtain ⟨r, h1, h2⟩ := isPz_loop N h e l l c l.length 0 N (by omega) (by omega)
      rw [show (fun w0 w1 w2 w3 w4 => slices_IndexFunc_impl_Clue_impl_Clue.l1 N N w0 w1 w2 w3 w4) l (↑l.length) 0 h l = some (r, h, l) from h1, Option.bind_some, Option.bind_some]
      dsimp only
      rw [h2, Bool.not_not, List.drop_zero]
    · rw [dcF (show ¬ (l.length : Int) ≤ 6 by omega), dcF c]; rfl
end Go.Proofs.Ytpeleommbipeaaa.M

namespace Go.Proofs.Ytpeleommbipeaaa.M
open Go Go.PM Go.Proofs.Ytpeleommbipeaaa.P
set_option linter.unusedVariables false
set_option linter.unusedSimpArgs false
/-- the numbers below n that have a property, in order -/
def hvs (p : Nat → Bool) : Nat → List Int
  | 0 => []
  | n + 1 => hvs p n ++ (bif p n then [(n : Int)] else [])
theorem hvs_len_le (p : Nat → Bool) : ∀ n, (hvs p n).length ≤ n
  | 0 => Nat.le_refl _
  | n + 1 => by have := hvs_len_le p n; simp only [hvs, List.length_append]; cases p n <;> simp <;> omega
theorem hvs_mem (p : Nat → Bool) {x : Nat} : ∀ {n : Nat}, x < n → p x = true → (x : Int) ∈ hvs p n
  | n + 1, h, hp => by
    simp only [hvs]
    by_cases e : x = n
    · subst e; rw [hp]; simp
    · exact List.mem_append_left _ (hvs_mem p (by omega) hp)
theorem hvs_mono {p q : Nat → Bool} (h : ∀ x, p x = true → q x = true) : ∀ n, (hvs p n).length ≤ (hvs q n).length
  | 0 => Nat.le_refl _
  | n + 1 => by
    have := hvs_mono h n
    have h' := h n
    simp only [hvs, List.length_append]
    cases hp : p n with
    | false => simp; omega
    | true => rw [h' hp]; simp; omega
theorem hvs_same {p q : Nat → Bool} (h : ∀ x, p x = true → q x = true) : ∀ n, (hvs p n).length = (hvs q n).length → hvs p n = hvs q n
  | 0, _ => rfl
  | n + 1, he => by
    have m := hvs_mono h n
    have h' := h n
    simp only [hvs, List.length_append] at he ⊢
    cases hp : p n with
    | false =>
      cases hq : q n with
      | false => simp only [hp, hq, cond_false, List.length_nil] at he ⊢; rw [hvs_same h n (by omega)]
      | true => simp only [hp, hq, cond_false, cond_true, List.length_nil, List.length_cons] at he; omega
    | true =>
      have hq := h' hp
      simp only [hp, hq, cond_true, List.length_cons, List.length_nil] at he ⊢
      rw [hvs_same h n (by omega)]
/-- the minutes that fit all clues -/
def fitsAll (h : Int) (l : List IClue) (m : Int) : Bool := l.all fun c => fitB h c.f0 c.f1 c.f2 m
def sols (h : Int) (l : List IClue) : List Int := hvs (fun x => fitsAll h l x) (60 * h.toNat)
theorem sols_len {h : Int} (h2 : h ≤ 24) (l : List IClue) : (sols h l).length ≤ 1440 := by
  have := hvs_len_le (fun x => fitsAll h l x) (60 * h.toNat)
  unfold sols; omega
theorem w60 {h : Int} (h1 : 2 ≤ h) (h2 : h ≤ 24) : w64 (60 * h) = ((60 * h.toNat : Nat) : Int) := by rw [w64s (by omega) (by omega)]; omega
theorem solIdx_loop (N : Nat) {h : Int} (h1 : 2 ≤ h) (h2 : h ≤ 24) (l : List IClue) (hl : l.length ≤ 100) (hc : l.all (cok h) = true) {m : Int} (m1 : 0 ≤ m) (m2 : m < 60 * h) : ∀ (k i n : Nat), l.length = i + k → k < n → ∃ r, slices_IndexFunc_impl_Clue_impl_Clue_1.l1 N n l (l.length : Int) i h m = some (r, h, m) ∧ decide (r ≥ 0) = !fitsAll h (l.drop i) m
  | 0, i, n + 1, hi, hn => by
    unfold slices_IndexFunc_impl_Clue_impl_Clue_1.l1 slices_IndexFunc_impl_Clue_impl_Clue_1.d1 slices_IndexFunc_impl_Clue_impl_Clue_1.o1
    rw [dcF (by omega), cond_false, List.drop_eq_nil_of_le (by omega)]
    exact ⟨_, rfl, rfl⟩
  | k + 1, i, n + 1, hi, hn => by
    have hci := List.all_eq_true.1 hc l[i] (List.getElem_mem (by omega))
    unfold slices_IndexFunc_impl_Clue_impl_Clue_1.l1 slices_IndexFunc_impl_Clue_impl_Clue_1.d1 slices_IndexFunc_impl_Clue_impl_Clue_1.o1
    rw [dcT (by omega), cond_true, dcT (by omega), cond_true, cond_true, Int.toNat_natCast, getAt (by omega)]
    unfold impl_solutions_1.g impl_solutions_1.o0 fitsAll
    rw [fits_eq N h1 h2 m1 m2 hci, Option.bind_some, Option.bind_some, List.drop_eq_getElem_cons (show i < l.length by omega), List.all_cons]
    dsimp only
    cases fitB h l[i].f0 l[i].f1 l[i].f2 m with
    | false => exact ⟨_, rfl, by rw [dcT (show ((i : Nat) : Int) ≥ 0 by omega)]; rfl⟩
    | true =>
      rw [Bool.not_true, cond_false, w1add (by omega), Bool.true_and]
      exact solIdx_loop N h1 h2 l hl hc m1 m2 k (i+1) n (by omega) (by omega)
  | _, _, 0, _, hn => by omega
theorem solHas_eq {N : Nat} (hN : 10000 ≤ N) {h : Int} (h1 : 2 ≤ h) (h2 : h ≤ 24) (l : List IClue) (hl : l.length ≤ 100) (hc : l.all (cok h) = true) {m : Int} (m1 : 0 ≤ m) (m2 : m < 60 * h) : slices_ContainsFunc_impl_Clue_impl_Clue_1.g N l h m = some (!fitsAll h l m, h, m) := by
  unfold slices_ContainsFunc_impl_Clue_impl_Clue_1.g slices_ContainsFunc_impl_Clue_impl_Clue_1.o0 slices_IndexFunc_impl_Clue_impl_Clue_1.g slices_IndexFunc_impl_Clue_impl_Clue_1.o0
  obtain ⟨r, e1, e2⟩ := solIdx_loop N h1 h2 l hl hc m1 m2 l.length 0 N (by omega) (by omega)
  rw [show (fun w0 w1 w2 w3 w4 => slices_IndexFunc_impl_Clue_impl_Clue_1.l1 N N w0 w1 w2 w3 w4) l (↑l.length) 0 h m = some (r, h, m) from e1, Option.bind_some]
  dsimp only
  rw [e2, List.drop_zero]
theorem solutions_loop {N : Nat} (hN : 10000 ≤ N) {h : Int} (h1 : 2 ≤ h) (h2 : h ≤ 24) (l : List IClue) (hl : l.length ≤ 100) (hc : l.all (cok h) = true) : ∀ (k i n : Nat), 60 * h.toNat = i + k → k < n → impl_solutions.l1 N n l (hvs (fun x => fitsAll h l x) i) ((60 * h.toNat : Nat) : Int) i h = some (sols h l)
  | 0, i, n + 1, hi, hn => by
    have : i = 60 * h.toNat := by omega
    subst this
    unfold impl_solutions.l1 impl_solutions.d1 impl_solutions.o1
    rw [dcF (by omega)]; rfl
  | k + 1, i, n + 1, hi, hn => by
    have hle := hvs_len_le (fun x => fitsAll h l x) i
    unfold impl_solutions.l1 impl_solutions.d1 impl_solutions.o1
    rw [dcT (by omega), cond_true, solHas_eq hN h1 h2 l hl hc (by omega) (by omega), Option.bind_some, w1add (by omega)]
    dsimp only
    rw [Bool.not_not]
    have ih := solutions_loop hN h1 h2 l hl hc k (i+1) n (by omega) (by omega)
    simp only [hvs] at ih
    cases hp : fitsAll h l i with
    | true =>
      rw [hp, cond_true] at ih
      rw [cond_true, blT (by simp; omega), cond_true]
      exact ih
    | false =>
      rw [hp, cond_false, List.append_nil] at ih
      rw [cond_false]
      exact ih
  | _, _, 0, _, hn => by omega
theorem solutions_eq {N : Nat} (hN : 10000 ≤ N) {h : Int} (h1 : 2 ≤ h) (h2 : h ≤ 24) (l : List IClue) (hl : l.length ≤ 100) (hc : l.all (cok h) = true) : impl_solutions.g N h l = some (sols h l) := by
  unfold impl_solutions.g impl_solutions.o0
  dsimp only
  rw [w60 h1 h2]
  exact solutions_loop hN h1 h2 l hl hc (60 * h.toNat) 0 N (by omega) (by omega)
theorem pzIn6 (N : Nat) {h : Int} (h1 : 2 ≤ h) (h2 : h ≤ 24) (l : List IClue) (hl : l.length ≤ 100) (hc : l.all (cok h) = true) {m : Nat} (m2 : (m : Int) < 60 * h) (out : List Int) (ho : out.length ≤ 2000) (C1 : Int → List IClue → Int → Option spec_pzAll.R) (C5 : Int → List IClue → List Int → Int → Option spec_pzAll.R) : ∀ (k i n : Nat) (b : Bool), l.length = i + k → k < n →
    spec_pzAll.l6 N n h l out m b l (l.length : Int) i C1 C5 = bif b && fitsAll h (l.drop i) m then C5 h l (out ++ [(m : Int)]) ((m + 1 : Nat) : Int) else C5 h l out ((m + 1 : Nat) : Int)
  | 0, i, n + 1, b, hi, hn => by
    unfold spec_pzAll.l6 spec_pzAll.d6 spec_pzAll.o6 spec_pzAll.d3 spec_pzAll.o3
    rw [dcF (by omega), cond_false, List.drop_eq_nil_of_le (by omega)]
    cases b with
    | true => rw [cond_true, blT (by simp; omega), cond_true]; dsimp only; rw [w1add (by omega)]; rfl
    | false => rw [cond_false]; dsimp only; rw [w1add (by omega)]; rfl
  | k + 1, i, n + 1, b, hi, hn => by
    have hci := List.all_eq_true.1 hc l[i] (List.getElem_mem (by omega))
    unfold spec_pzAll.l6 spec_pzAll.d6 spec_pzAll.o6
    rw [dcT (by omega), cond_true, dcT (by omega), cond_true, cond_true, Int.toNat_natCast, getAt (by omega), w1add (by omega)]
    have e : fitsAll h (l.drop i) m = (fitB h l[i].f0 l[i].f1 l[i].f2 m && fitsAll h (l.drop (i+1)) m) := by
      unfold fitsAll; rw [List.drop_eq_getElem_cons (show i < l.length by omega), List.all_cons]
    rw [e]
    cases b with
    | true =>
      rw [cond_true, pzFits_eq N h1 h2 (by omega) m2 hci, Option.bind_some, Bool.true_and]
      exact pzIn6 N h1 h2 l hl hc m2 out ho C1 C5 k (i+1) n _ (by omega) (by omega)
    | false =>
      rw [cond_false]
      refine (pzIn6 N h1 h2 l hl hc m2 out ho C1 C5 k (i+1) n _ (by omega) (by omega)).trans ?_
      rw [Bool.false_and, Bool.false_and]
  | _, _, 0, _, _, hn => by omega
theorem pzIn2 (N : Nat) {h : Int} (h1 : 2 ≤ h) (h2 : h ≤ 24) (l : List IClue) (hl : l.length ≤ 100) (hc : l.all (cok h) = true) {m : Nat} (m2 : (m : Int) < 60 * h) (C1 : Int → List IClue → Int → Option spec_pzAll.R) (C5 : Int → List IClue → List Int → Int → Option spec_pzAll.R) : ∀ (k i n : Nat) (b : Bool), l.length = i + k → k < n →
    spec_pzAll.l2 N n h l m b l (l.length : Int) i C1 C5 = bif b && fitsAll h (l.drop i) m then C5 h l [(m : Int)] ((m + 1 : Nat) : Int) else C1 h l ((m + 1 : Nat) : Int)
  | 0, i, n + 1, b, hi, hn => by
    unfold spec_pzAll.l2 spec_pzAll.d2 spec_pzAll.o2 spec_pzAll.d3 spec_pzAll.o3 spec_pzAll.d4 spec_pzAll.o4
    rw [dcF (by omega), cond_false, List.drop_eq_nil_of_le (by omega)]
    cases b with
    | true => rw [cond_true, blT (by simp), cond_true]; dsimp only; rw [w1add (by omega)]; rfl
    | false => rw [cond_false]; dsimp only; rw [w1add (by omega)]; rfl
  | k + 1, i, n + 1, b, hi, hn => by
    have hci := List.all_eq_true.1 hc l[i] (List.getElem_mem (by omega))
    unfold spec_pzAll.l2 spec_pzAll.d2 spec_pzAll.o2
    rw [dcT (by omega), cond_true, dcT (by omega), cond_true, cond_true, Int.toNat_natCast, getAt (by omega), w1add (by omega)]
    have e : fitsAll h (l.drop i) m = (fitB h l[i].f0 l[i].f1 l[i].f2 m && fitsAll h (l.drop (i+1)) m) := by
      unfold fitsAll; rw [List.drop_eq_getElem_cons (show i < l.length by omega), List.all_cons]
    rw [e]
    cases b with
    | true =>
      rw [cond_true, pzFits_eq N h1 h2 (by omega) m2 hci, Option.bind_some, Bool.true_and]
      exact pzIn2 N h1 h2 l hl hc m2 C1 C5 k (i+1) n _ (by omega) (by omega)
    | false =>
      rw [cond_false]
      refine (pzIn2 N h1 h2 l hl hc m2 C1 C5 k (i+1) n _ (by omega) (by omega)).trans ?_
      rw [Bool.false_and, Bool.false_and]
  | _, _, 0, _, _, hn => by omega
theorem pzAll_loop {N : Nat} (hN : 10000 ≤ N) {h : Int} (h1 : 2 ≤ h) (h2 : h ≤ 24) (l : List IClue) (hl : l.length ≤ 100) (hc : l.all (cok h) = true) : ∀ (k i n : Nat), 60 * h.toNat = i + k → k < n → spec_pzAll.l5 N n h l (hvs (fun x => fitsAll h l x) i) i = some (sols h l)
  | 0, i, n + 1, hi, hn => by
    have : i = 60 * h.toNat := by omega
    subst this
    unfold spec_pzAll.l5 spec_pzAll.d5 spec_pzAll.o5
    rw [w60 h1 h2, dcF (by omega)]; rfl
  | k + 1, i, n + 1, hi, hn => by
    have hle := hvs_len_le (fun x => fitsAll h l x) i
    unfold spec_pzAll.l5 spec_pzAll.d5 spec_pzAll.o5
    rw [w60 h1 h2, dcT (by omega), cond_true]
    have := pzIn6 N h1 h2 l hl hc (m := i) (by omega) (hvs (fun x => fitsAll h l x) i) (by omega) (fun w0 w1 w2 => spec_pzAll.l1 N n w0 w1 w2) (fun w0 w1 w2 w3 => spec_pzAll.l5 N n w0 w1 w2 w3) l.length 0 N true (by omega) (by omega)
    refine this.trans ?_
    have ih := pzAll_loop hN h1 h2 l hl hc k (i+1) n (by omega) (by omega)
    simp only [hvs] at ih
    rw [List.drop_zero, Bool.true_and]
    cases hp : fitsAll h l i with
    | true => rw [hp, cond_true] at ih; exact ih
    | false => rw [hp, cond_false, List.append_nil] at ih; exact ih
  | _, _, 0, _, hn => by omega
theorem pzAll_loop1 {N : Nat} (hN : 10000 ≤ N) {h : Int} (h1 : 2 ≤ h) (h2 : h ≤ 24) (l : List IClue) (hl : l.length ≤ 100) (hc : l.all (cok h) = true) : ∀ (k i n : Nat), 60 * h.toNat = i + k → k < n → hvs (fun x => fitsAll h l x) i = [] → spec_pzAll.l1 N n h l i = some (sols h l)
  | 0, i, n + 1, hi, hn, h0 => by
    have : i = 60 * h.toNat := by omega
    subst this
    unfold spec_pzAll.l1 spec_pzAll.d1 spec_pzAll.o1 sols
    rw [w60 h1 h2, dcF (by omega), h0]; rfl
  | k + 1, i, n + 1, hi, hn, h0 => by
    unfold spec_pzAll.l1 spec_pzAll.d1 spec_pzAll.o1
    rw [w60 h1 h2, dcT (by omega), cond_true]
    have := pzIn2 N h1 h2 l hl hc (m := i) (by omega) (fun w0 w1 w2 => spec_pzAll.l1 N n w0 w1 w2) (fun w0 w1 w2 w3 => spec_pzAll.l5 N n w0 w1 w2 w3) l.length 0 N true (by omega) (by omega)
    refine this.trans ?_
    rw [List.drop_zero, Bool.true_and]
    cases hp : fitsAll h l i with
    | true =>
      have ih := pzAll_loop hN h1 h2 l hl hc k (i+1) n (by omega) (by omega)
      simp only [hvs] at ih
      rw [hp, cond_true, h0] at ih
      exact ih
    | false =>
      exact pzAll_loop1 hN h1 h2 l hl hc k (i+1) n (by omega) (by omega) (by simp only [hvs]; rw [hp, h0]; rfl)
  | _, _, 0, _, hn, _ => by omega
theorem pzAll_eq {N : Nat} (hN : 10000 ≤ N) {h : Int} (h1 : 2 ≤ h) (h2 : h ≤ 24) (l : List IClue) (hl : l.length ≤ 100) (hc : l.all (cok h) = true) : spec_pzAll.g N h l = some (sols h l) :=
  pzAll_loop1 hN h1 h2 l hl hc (60 * h.toNat) 0 N (by omega) (by omega) rfl
theorem pzSolved_eq {N : Nat} (hN : 10000 ≤ N) {h : Int} (h1 : 2 ≤ h) (h2 : h ≤ 24) (l : List IClue) (hl : l.length ≤ 100) (hc : l.all (cok h) = true) : spec_pzSolved.g N h l = some (((sols h l).length : Int) == 1) := by
  unfold spec_pzSolved.g spec_pzSolved.o0
  rw [pzAll_eq hN h1 h2 l hl hc]; rfl
def solsB (h : Int) (l : List IClue) : List Int × Bool := if puzzleOk h l = true then (sols h l, true) else ([], false)
theorem Solutions_eq {N : Nat} (hN : 10000 ≤ N) (h : Int) (l : List IClue) : impl_Solutions.g N h l = some (solsB h l) := by
  unfold impl_Solutions.g impl_Solutions.o0 solsB
  rw [isPuzzle_eq hN, Option.bind_some]
  cases e : puzzleOk h l with
  | false => rfl
  | true =>
    obtain ⟨h1, h2, h3, h4⟩ := puzzleOk_facts e
    rw [Bool.not_true, cond_false, solutions_eq hN h1 h2 l (by omega) h4]; rfl
theorem Count_eq {N : Nat} (hN : 10000 ≤ N) (h : Int) (l : List IClue) : impl_CountSolutions.g N h l = some (((solsB h l).1.length : Int), (solsB h l).2) := by
  unfold impl_CountSolutions.g impl_CountSolutions.o0
  rw [Solutions_eq hN]; rfl
theorem IsSolved_eq {N : Nat} (hN : 10000 ≤ N) (h : Int) (l : List IClue) : impl_IsSolved.g N h l = some (((solsB h l).1.length : Int) == 1, (solsB h l).2) := by
  unfold impl_IsSolved.g impl_IsSolved.o0
  rw [Count_eq hN]; rfl
theorem without_eq (N : Nat) {l : List IClue} (hl : l.length ≤ 100) {k : Nat} (hk : k < l.length) : impl_without.g N l k = some (l.eraseIdx k) := by
  unfold impl_without.g
  rw [dcT (by omega), dcT (by omega), cond_true, cond_true, show Nat.ble (l.length * 24) 140737488355328 = true by rw [Nat.ble_eq]; omega, cond_true, Int.toNat_natCast]
theorem pzWithout_eq (N : Nat) {l : List IClue} (hl : l.length ≤ 100) {k : Nat} (hk : k < l.length) : spec_pzWithout.g N l k = some (l.eraseIdx k) := by
  unfold spec_pzWithout.g spec_pzWithout.o0
  rw [dcT (by omega), dcT (by omega), cond_true, cond_true, cond_true, w1add (by omega), Int.toNat_natCast, Int.toNat_natCast, Int.toNat_natCast, List.take_length, blT (by simp; omega), cond_true, dcT (by omega), cond_true, dcT (by omega), cond_true, dcT (by omega), cond_true, dcT (by omega), cond_true, blT (by simp; omega), cond_true]
  rw [List.eraseIdx_eq_take_drop_succ]
  simp
end Go.Proofs.Ytpeleommbipeaaa.M

namespace Go.Proofs.Ytpeleommbipeaaa.M
open Go Go.PM Go.Proofs.Ytpeleommbipeaaa.P
set_option linter.unusedVariables false
set_option linter.unusedSimpArgs false
/-! ### harder puzzles -/
def hard (h : Int) : Nat → List IClue → Nat → List IClue
  | 0, l, _ => l
  | d + 1, l, k => if (sols h (l.eraseIdx k)).length = 1 then hard h d (l.eraseIdx k) k else hard h d l (k + 1)
theorem all_erase {h : Int} {l : List IClue} (hc : l.all (cok h) = true) (k : Nat) : (l.eraseIdx k).all (cok h) = true :=
  List.all_eq_true.2 fun c hm => List.all_eq_true.1 hc c ((List.eraseIdx_sublist l k).subset hm)
theorem hard_loop {N : Nat} (hN : 10000 ≤ N) {h : Int} (h1 : 2 ≤ h) (h2 : h ≤ 24) (x : List IClue) (y : Int) : ∀ (d k n : Nat) (l : List IClue), l.length ≤ 100 → l.all (cok h) = true → l.length = k + d → d < n → impl_HarderPuzzle.l2 N n l k h x y = some (h, hard h d l k, true)
  | 0, k, n + 1, l, hl, hc, hi, hn => by
    unfold impl_HarderPuzzle.l2 impl_HarderPuzzle.d2 impl_HarderPuzzle.o2
    rw [dcF (by omega)]; rfl
  | d + 1, k, n + 1, l, hl, hc, hi, hn => by
    have hle : (l.eraseIdx k).length = l.length - 1 := by rw [List.length_eraseIdx, if_pos (by omega)]
    unfold impl_HarderPuzzle.l2 impl_HarderPuzzle.d2 impl_HarderPuzzle.o2 hard
    rw [dcT (by omega), cond_true, without_eq N hl (by omega), Option.bind_some, solutions_eq hN h1 h2 _ (by omega) (all_erase hc k), Option.bind_some]
    by_cases e : (sols h (l.eraseIdx k)).length = 1
    · rw [if_pos e, ieqT (by omega), cond_true]
      exact hard_loop hN h1 h2 x y d k n _ (by omega) (all_erase hc k) (by omega) (by omega)
    · rw [if_neg e, ieqF (by omega), cond_false, w1add (by omega)]
      exact hard_loop hN h1 h2 x y d (k+1) n l hl hc (by omega) (by omega)
  | _, _, 0, _, _, _, _, hn => by omega
theorem shard_loop {N : Nat} (hN : 10000 ≤ N) {h : Int} (h1 : 2 ≤ h) (h2 : h ≤ 24) (x : List IClue) (y : Int) : ∀ (d k n : Nat) (l : List IClue), l.length ≤ 100 → l.all (cok h) = true → l.length = k + d → d < n → spec_HarderPuzzle.l3 N n l k h x y = some (h, hard h d l k, true)
  | 0, k, n + 1, l, hl, hc, hi, hn => by
    unfold spec_HarderPuzzle.l3 spec_HarderPuzzle.d3 spec_HarderPuzzle.o3
    rw [dcF (by omega)]; rfl
  | d + 1, k, n + 1, l, hl, hc, hi, hn => by
    have hle : (l.eraseIdx k).length = l.length - 1 := by rw [List.length_eraseIdx, if_pos (by omega)]
    unfold spec_HarderPuzzle.l3 spec_HarderPuzzle.d3 spec_HarderPuzzle.o3 hard
    rw [dcT (by omega), cond_true, pzWithout_eq N hl (by omega), Option.bind_some, pzSolved_eq hN h1 h2 _ (by omega) (all_erase hc k), Option.bind_some]
    by_cases e : (sols h (l.eraseIdx k)).length = 1
    · rw [if_pos e, ieqT (by omega), cond_true]
      exact shard_loop hN h1 h2 x y d k n _ (by omega) (all_erase hc k) (by omega) (by omega)
    · rw [if_neg e, ieqF (by omega), cond_false, w1add (by omega)]
      exact shard_loop hN h1 h2 x y d (k+1) n l hl hc (by omega) (by omega)
  | _, _, 0, _, _, _, _, hn => by omega
def solvedB (h : Int) (l : List IClue) : Bool := puzzleOk h l && decide ((sols h l).length = 1)
def harderR (h : Int) (l : List IClue) : Int × List IClue × Bool := if solvedB h l = true then (h, hard h l.length l 0, true) else (0, [], false)
theorem solvedB_of (h : Int) (l : List IClue) : (((solsB h l).1.length : Int) == 1) = solvedB h l := by
  unfold solsB solvedB
  cases e : puzzleOk h l with
  | false => rfl
  | true =>
    rw [if_pos rfl, Bool.true_and, ieqD]
    by_cases c : (sols h l).length = 1
    · rw [dcT c, dcT (by dsimp only; omega)]
    · rw [dcF c, dcF (by dsimp only; omega)]
theorem l1_l2 (N n : Nat) (a : List S38) (b c : Int) (d : List S38) (e : Int) : impl_HarderPuzzle.l1 N n a b c d e = impl_HarderPuzzle.l2 N n a b c d e := by cases n <;> rfl
theorem sl2_l3 (N n : Nat) (a : List S38) (b c : Int) (d : List S38) (e : Int) : spec_HarderPuzzle.l2 N n a b c d e = spec_HarderPuzzle.l3 N n a b c d e := by cases n <;> rfl
theorem Harder_eq {N : Nat} (hN : 10000 ≤ N) (h : Int) (l : List IClue) : impl_HarderPuzzle.g N h l = some (harderR h l) := by
  unfold impl_HarderPuzzle.g impl_HarderPuzzle.o0 harderR
  rw [IsSolved_eq hN, Option.bind_some]
  dsimp only
  rw [solvedB_of]
  cases e : solvedB h l with
  | false => rfl
  | true =>
    have e' := e
    unfold solvedB at e'
    rw [Bool.and_eq_true] at e'
    obtain ⟨h1, h2, h3, h4⟩ := puzzleOk_facts e'.1
    rw [Bool.not_true, cond_false]
    unfold slices_Clone_impl_Clue_impl_Clue.g
    rw [show Nat.ble (l.length * 24) 140737488355328 = true by rw [Nat.ble_eq]; omega, cond_true, Option.bind_some, l1_l2]
    exact hard_loop hN h1 h2 l 0 l.length 0 N l (by omega) h4 (by omega) (by omega)
theorem sHarder_eq {N : Nat} (hN : 10000 ≤ N) (h : Int) (l : List IClue) : spec_HarderPuzzle.g N h l = some (harderR h l) := by
  unfold spec_HarderPuzzle.g spec_HarderPuzzle.o0 spec_HarderPuzzle.d1 spec_HarderPuzzle.o1 harderR
  rw [pzGood_eq hN, Option.bind_some]
  unfold solvedB
  cases e : puzzleOk h l with
  | false => rfl
  | true =>
    obtain ⟨h1, h2, h3, h4⟩ := puzzleOk_facts e
    rw [Bool.not_true, cond_false, pzSolved_eq hN h1 h2 l (by omega) h4, Option.bind_some, Bool.true_and]
    dsimp only
    by_cases c : (sols h l).length = 1
    · rw [dcT c, if_pos rfl, ieqT (by omega), Bool.not_true, cond_false, blT (by simp; omega), cond_true, sl2_l3, List.nil_append]
      exact shard_loop hN h1 h2 l 0 l.length 0 N l (by omega) h4 (by omega) (by omega)
    · rw [dcF c, ieqF (by omega)]; rfl
theorem erase2 : ∀ (l : List IClue) (j k : Nat), j < k → ((l.eraseIdx k).eraseIdx j).Sublist (l.eraseIdx j)
  | [], j, k, _ => List.Sublist.refl _
  | a :: l, 0, k + 1, _ => by
    show (l.eraseIdx k).Sublist l
    exact List.eraseIdx_sublist l k
  | a :: l, j + 1, k + 1, h => by
    show (a :: ((l.eraseIdx k).eraseIdx j)).Sublist (a :: l.eraseIdx j)
    exact (erase2 l j k (by omega)).cons_cons a
theorem fits_sub {h : Int} {l m : List IClue} (hs : l.Sublist m) (x : Nat) (hx : fitsAll h m x = true) : fitsAll h l x = true :=
  List.all_eq_true.2 fun c hc => List.all_eq_true.1 hx c (hs.subset hc)
theorem sols_sub {h : Int} {l m : List IClue} (hs : l.Sublist m) : (sols h m).length ≤ (sols h l).length := hvs_mono (fun x => fits_sub hs x) _
theorem sols_sub_eq {h : Int} {l m : List IClue} (hs : l.Sublist m) (he : (sols h m).length = (sols h l).length) : sols h m = sols h l := hvs_same (fun x => fits_sub hs x) _ he
/-- what a harder puzzle is -/
structure HardOk (h : Int) (l0 l : List IClue) : Prop where
  sub : l.Sublist l0
  sol : sols h l = sols h l0
  need : ∀ j, j < l.length → (sols h (l.eraseIdx j)).length ≠ 1
theorem hard_ok {h : Int} {l0 : List IClue} (h0 : (sols h l0).length = 1) : ∀ (d k : Nat) (l : List IClue), l.length = k + d → l.Sublist l0 → sols h l = sols h l0 → (∀ j, j < k → 2 ≤ (sols h (l.eraseIdx j)).length) → HardOk h l0 (hard h d l k)
  | 0, k, l, hi, hs, he, hn => ⟨hs, he, fun j hj => by
      have hj' : j < l.length := hj
      have := hn j (by omega)
      show (sols h (l.eraseIdx j)).length ≠ 1
      omega⟩
  | d + 1, k, l, hi, hs, he, hn => by
    have hle : (l.eraseIdx k).length = l.length - 1 := by rw [List.length_eraseIdx, if_pos (by omega)]
    have hsub := List.eraseIdx_sublist l k
    have hge := sols_sub (h := h) hsub
    unfold hard
    by_cases e : (sols h (l.eraseIdx k)).length = 1
    · rw [if_pos e]
      refine hard_ok h0 d k _ (by omega) (hsub.trans hs) ?_ ?_
      · rw [← sols_sub_eq hsub (by rw [e, he, h0]), he]
      · intro j hj
        have a := hn j hj
        have b := sols_sub (h := h) (erase2 l j k hj)
        omega
    · rw [if_neg e]
      refine hard_ok h0 d (k + 1) l (by omega) hs he ?_
      intro j hj
      by_cases c : j = k
      · subst c
        rw [he, h0] at hge
        omega
      · exact hn j (by omega)
theorem harder_ok {h : Int} {l : List IClue} (h0 : (sols h l).length = 1) : HardOk h l (hard h l.length l 0) :=
  hard_ok h0 l.length 0 l (by omega) (List.Sublist.refl _) rfl (fun j hj => by omega)
/-! ### needless clues -/
def needP (h : Int) (l : List IClue) (k : Nat) : Bool := decide ((sols h (l.eraseIdx k)).length = (sols h l).length)
theorem need_loop {N : Nat} (hN : 10000 ≤ N) {h : Int} (h1 : 2 ≤ h) (h2 : h ≤ 24) (l : List IClue) (hl : l.length ≤ 100) (hc : l.all (cok h) = true) : ∀ (d k n : Nat), l.length = k + d → d < n → impl_NeedlessClues.l1 N n ((sols h l).length : Int) (hvs (needP h l) k) (l.length : Int) k h l = some (hvs (needP h l) l.length, true)
  | 0, k, n + 1, hi, hn => by
    have : k = l.length := by omega
    subst this
    unfold impl_NeedlessClues.l1 impl_NeedlessClues.d1 impl_NeedlessClues.o1
    rw [dcF (by omega)]; rfl
  | d + 1, k, n + 1, hi, hn => by
    have hle : (l.eraseIdx k).length = l.length - 1 := by rw [List.length_eraseIdx, if_pos (by omega)]
    have hvl := hvs_len_le (needP h l) k
    unfold impl_NeedlessClues.l1 impl_NeedlessClues.d1 impl_NeedlessClues.o1
    rw [dcT (by omega), cond_true, without_eq N hl (by omega), Option.bind_some, solutions_eq hN h1 h2 _ (by omega) (all_erase hc k), Option.bind_some, w1add (by omega)]
    have ih := need_loop hN h1 h2 l hl hc d (k+1) n (by omega) (by omega)
    simp only [hvs] at ih
    by_cases e : (sols h (l.eraseIdx k)).length = (sols h l).length
    · have e' : needP h l k = true := dcT e
      rw [e', cond_true] at ih
      rw [ieqT (by omega), cond_true, blT (by simp; omega), cond_true]
      exact ih
    · have e' : needP h l k = false := dcF e
      rw [e', cond_false, List.append_nil] at ih
      rw [ieqF (by omega), cond_false]
      exact ih
  | _, _, 0, _, hn => by omega
theorem Needless_eq {N : Nat} (hN : 10000 ≤ N) (h : Int) (l : List IClue) : impl_NeedlessClues.g N h l = some (if puzzleOk h l = true then (hvs (needP h l) l.length, true) else ([], false)) := by
  unfold impl_NeedlessClues.g impl_NeedlessClues.o0
  rw [Count_eq hN, Option.bind_some]
  unfold solsB
  cases e : puzzleOk h l with
  | false => rfl
  | true =>
    obtain ⟨h1, h2, h3, h4⟩ := puzzleOk_facts e
    rw [if_pos rfl, if_pos rfl]
    dsimp only
    rw [Bool.not_true, cond_false]
    exact need_loop hN h1 h2 l (by omega) h4 l.length 0 N (by omega) (by omega)
theorem hvs_none {p : Nat → Bool} : ∀ {n : Nat}, (∀ k, k < n → p k = false) → hvs p n = []
  | 0, _ => rfl
  | n + 1, h => by simp only [hvs]; rw [hvs_none (fun k hk => h k (by omega)), h n (by omega)]; rfl
/-! ### dropping and adding -/
def dropR (h : Int) (l : List IClue) (k : Int) : Int × List IClue × Bool := if (puzzleOk h l && inB k 0 ((l.length : Int) - 1)) = true then (h, l.eraseIdx k.toNat, true) else (0, [], false)
theorem Drop_eq {N : Nat} (hN : 10000 ≤ N) (h : Int) (l : List IClue) (k : Int) : impl_DropClue.g N h l k = some (dropR h l k) := by
  unfold impl_DropClue.g impl_DropClue.o0 impl_DropClue.d1 impl_DropClue.o1 dropR
  rw [isPuzzle_eq hN, Option.bind_some]
  cases e : puzzleOk h l with
  | false => rfl
  | true =>
    obtain ⟨h1, h2, h3, h4⟩ := puzzleOk_facts e
    rw [Bool.not_true, cond_false, w64s (by omega) (by omega), within_eq, Option.bind_some, Bool.true_and]
    cases e' : inB k 0 ((l.length : Int) - 1) with
    | false => rfl
    | true =>
      have e2 := inB_iff.1 e'
      obtain ⟨k, rfl⟩ := Int.eq_ofNat_of_zero_le (show 0 ≤ k by omega)
      dsimp only
      rw [Bool.not_true, cond_false, without_eq N (by omega) (by omega)]; rfl
theorem sDrop_eq {N : Nat} (hN : 10000 ≤ N) (h : Int) (l : List IClue) (k : Int) : spec_DropClue.g N h l k = some (dropR h l k) := by
  unfold spec_DropClue.g spec_DropClue.o0 spec_DropClue.d1 spec_DropClue.o1 dropR
  rw [pzGood_eq hN, Option.bind_some]
  cases e : puzzleOk h l with
  | false => rfl
  | true =>
    obtain ⟨h1, h2, h3, h4⟩ := puzzleOk_facts e
    rw [Bool.not_true, cond_false, w64s (by omega) (by omega), l1In_eq, Option.bind_some, Bool.true_and]
    cases e' : inB k 0 ((l.length : Int) - 1) with
    | false => rfl
    | true =>
      have e2 := inB_iff.1 e'
      obtain ⟨k, rfl⟩ := Int.eq_ofNat_of_zero_le (show 0 ≤ k by omega)
      dsimp only
      rw [Bool.not_true, cond_false, pzWithout_eq N (by omega) (by omega)]; rfl
def addR (h : Int) (l : List IClue) (c : IClue) : Int × List IClue × Bool := if (puzzleOk h l && (cok h c && !decide (l.length = 6))) = true then (h, l ++ [c], true) else (0, [], false)
theorem puzzleOk_add {h : Int} {l : List IClue} (hp : puzzleOk h l = true) (c : IClue) : puzzleOk h (l ++ [c]) = (cok h c && !decide (l.length = 6)) := by
  obtain ⟨h1, h2, h3, h4⟩ := puzzleOk_facts hp
  unfold puzzleOk
  rw [inB_iff.2 ⟨h1, h2⟩, Bool.true_and, List.all_append, h4, Bool.true_and, List.all_cons, List.all_nil, Bool.and_true, List.length_append, Bool.and_comm]
  by_cases e : l.length = 6
  · rw [dcT e, dcF (show ¬ l.length + [c].length ≤ 6 by simp; omega)]; rfl
  · rw [dcF e, dcT (show l.length + [c].length ≤ 6 by simp; omega)]; rfl
theorem Add_eq {N : Nat} (hN : 10000 ≤ N) (h : Int) (l : List IClue) (hl : l.length * 24 ≤ 140737488351232) (a b c : Int) : impl_AddClue.g N h l a b c = some (addR h l ⟨a, b, c⟩) := by
  unfold impl_AddClue.g impl_AddClue.o0 impl_AddClue.d1 impl_AddClue.o1 slices_Clone_impl_Clue_impl_Clue.g addR
  rw [show Nat.ble (l.length * 24) 140737488355328 = true by rw [Nat.ble_eq]; omega, cond_true, Option.bind_some, blT (by simp; omega), cond_true, isPuzzle_eq hN, Option.bind_some]
  cases e : puzzleOk h l with
  | false => rfl
  | true =>
    rw [Bool.not_true, cond_false, isPuzzle_eq hN, Option.bind_some, puzzleOk_add e, Bool.true_and]
    cases (cok h ⟨a, b, c⟩ && !decide (l.length = 6)) <;> rfl
theorem sAdd_eq {N : Nat} (hN : 10000 ≤ N) (h : Int) (l : List IClue) (a b c : Int) : spec_AddClue.g N h l a b c = some (addR h l ⟨a, b, c⟩) := by
  unfold spec_AddClue.g spec_AddClue.o0 spec_AddClue.d1 spec_AddClue.o1 addR
  rw [pzGood_eq hN, Option.bind_some]
  cases e : puzzleOk h l with
  | false => rfl
  | true =>
    obtain ⟨h1, h2, h3, h4⟩ := puzzleOk_facts e
    rw [Bool.not_true, cond_false, pzClue_eq, Option.bind_some, Bool.true_and]
    show cond (!cok h ⟨a, b, c⟩) _ _ = _
    cases cok h ⟨a, b, c⟩ with
    | false => rfl
    | true =>
      rw [Bool.not_true, cond_false, Bool.true_and]
      dsimp only
      by_cases e' : l.length = 6
      · rw [dcT e', ieqT (by omega)]; rfl
      · rw [dcF e', ieqF (by omega), cond_false, blT (by simp; omega), cond_true, blT (by simp; omega), cond_true]; rfl
/-! ### made puzzles -/
theorem pzOf_eq (N : Nat) {h k a m : Int} (h1 : 2 ≤ h) (h2 : h ≤ 24) (m1 : 0 ≤ m) (m2 : m < 60 * h) (k1 : 0 ≤ k) (k2 : k ≤ 5) (ha : k = 1 → 2 ≤ a) : spec_pzOf.g N h k a m = some (k, toldA h k a m, toldB k a m) := by
  obtain ⟨w1, w2, w3, w4, w5, w6, w7⟩ := told_ahead h1 h2 m1 m2
  have q : Int.tdiv m 60 = m / 60 := Int.tdiv_eq_ediv_of_nonneg m1
  have r : Int.tmod m 60 = m % 60 := Int.tmod_eq_emod_of_nonneg m1
  have wq : w64 (m / 60) = m / 60 := w64s (by omega) (by omega)
  unfold spec_pzOf.g spec_pzOf.o0 toldA toldB
  rw [digits_eq m1 (by omega), q, r, wq, pzAhead_eq N h1 h2 m1 m2, pzNext_eq N h1 h2 m1 m2, pzAbs_eq N m1 (by omega), w2]
  simp only [ieqD, condD, Option.bind_some]
  by_cases c0 : k = 0
  · subst c0; rfl
  by_cases c1 : k = 1
  · subst c1
    have := ha rfl
    simp only [Int.reduceEq, if_false, if_true]
    rw [if_neg (by omega), Int.tmod_eq_emod_of_nonneg (by omega)]
  by_cases c2 : k = 2
  · subst c2; rfl
  by_cases c3 : k = 3
  · subst c3
    simp only [Int.reduceEq, if_false, if_true]
    by_cases e : (h - 1) * m % (60 * h) < 30 * h
    · rw [if_pos e, if_pos e]
    · rw [if_neg e, if_neg e]
  by_cases c4 : k = 4
  · subst c4; rfl
  have c5 : k = 5 := by omega
  subst c5; rfl
def nx (z : Int) : Int := (163 * z + 2917) % 10009
theorem nx_range (z : Int) : 0 ≤ nx z ∧ nx z < 10009 := by unfold nx; omega
theorem nx_w {z : Int} (h1 : 0 ≤ z) (h2 : z < 10009) : Int.tmod (w64 (w64 (163 * z) + 2917)) 10009 = nx z := by
  rw [w64s (n := 163 * z) (by omega) (by omega), w64s (by omega) (by omega), Int.tmod_eq_emod_of_nonneg (by omega)]; rfl
theorem nx_w' {z : Int} (h1 : 0 ≤ z) (h2 : z < 10009) : Int.tmod (w64 (w64 (z * 163) + 2917)) 10009 = nx z := by
  rw [Int.mul_comm, nx_w h1 h2]
def mkA (z : Int) : Int := if nx z % 6 = 1 then nx (nx z) % 59 + 2 else 0
def mkZ (z : Int) : Int := if nx z % 6 = 1 then nx (nx z) else nx z
def mkC (h m z : Int) : IClue := ⟨nx z % 6, toldA h (nx z % 6) (mkA z) m, toldB (nx z % 6) (mkA z) m⟩
def mk (h m : Int) : Nat → Int → List IClue
  | 0, _ => []
  | n + 1, z => mkC h m z :: mk h m n (mkZ z)
theorem mk_len (h m : Int) : ∀ n z, (mk h m n z).length = n
  | 0, _ => rfl
  | n + 1, z => by simp only [mk, List.length_cons, mk_len h m n]
theorem mkZ_range (z : Int) : 0 ≤ mkZ z ∧ mkZ z < 10009 := by
  unfold mkZ
  by_cases c : nx z % 6 = 1
  · rw [if_pos c]; exact nx_range _
  · rw [if_neg c]; exact nx_range _
theorem make1_eq (N : Nat) {a z : Int} (ha : 0 < a) (h1 : 0 ≤ z) (h2 : z < 10009) : impl_MakePuzzle_1.g N a z = some (nx z % a, nx z) := by
  unfold impl_MakePuzzle_1.g impl_MakePuzzle_1.o0
  have := nx_range z
  rw [ieqF (by omega), cond_false, nx_w' h1 h2, Int.tmod_eq_emod_of_nonneg (by omega)]
theorem make_loop (N : Nat) {h m : Int} (h1 : 2 ≤ h) (h2 : h ≤ 24) (m1 : 0 ≤ m) (m2 : m < 60 * h) {c : Nat} (hc : c ≤ 6) (x : Int) : ∀ (k i n : Nat) (z : Int) (out : List IClue), c = i + k → k < n → 0 ≤ z → z < 10009 → out.length = i → impl_MakePuzzle.l4 N n h m c i z x h out = some (h, out ++ mk h m k z, true)
  | 0, i, n + 1, z, out, hi, hn, z1, z2, ho => by
    unfold impl_MakePuzzle.l4 impl_MakePuzzle.d4 impl_MakePuzzle.o4
    rw [dcF (by omega), cond_false]
    simp only [mk, List.append_nil]
  | k + 1, i, n + 1, z, out, hi, hn, z1, z2, ho => by
    have r1 := nx_range z
    have r2 := nx_range (nx z)
    have rz := mkZ_range z
    have fin : impl_MakePuzzle.d5 N h m (nx z % 6) (mkA z) c i (mkZ z) x h out (fun w0 w1 w2 w3 w4 w5 w6 w7 => impl_MakePuzzle.l4 N n w0 w1 w2 w3 w4 w5 w6 w7) = some (h, out ++ mk h m (k + 1) z, true) := by
      unfold impl_MakePuzzle.d5 impl_MakePuzzle.o5
      rw [told_eq N h1 h2 m1 m2 (fun hk => by unfold mkA; rw [if_pos hk]; omega), Option.bind_some]
      dsimp only
      rw [blT (by simp; omega), cond_true, w1add (by omega)]
      refine (make_loop N h1 h2 m1 m2 hc x k (i+1) n (mkZ z) _ (by omega) (by omega) rz.1 rz.2 (by simp [ho])).trans ?_
      simp only [mk, List.append_assoc, List.singleton_append]
      rfl
    unfold impl_MakePuzzle.l4 impl_MakePuzzle.d4 impl_MakePuzzle.o4
    rw [dcT (by omega), cond_true, make1_eq N (by omega) z1 z2, Option.bind_some]
    dsimp only
    by_cases c1 : nx z % 6 = 1
    · rw [ieqT c1, cond_true, make1_eq N (by omega) r1.1 r1.2, Option.bind_some]
      dsimp only
      rw [w64s (by omega) (by omega)]
      have ea : mkA z = nx (nx z) % 59 + 2 := if_pos c1
      have ez : mkZ z = nx (nx z) := if_pos c1
      rw [← ea, ← ez]
      exact fin
    · rw [ieqF c1, cond_false]
      have ea : mkA z = 0 := if_neg c1
      have ez : mkZ z = nx z := if_neg c1
      rw [ea, ez] at fin
      exact fin
  | _, _, 0, _, _, _, hn, _, _, _ => by omega
theorem tolds_of {h k a a' m : Int} (hk : k ≠ 1) : toldA h k a m = toldA h k a' m ∧ toldB k a m = toldB k a' m := by
  unfold toldA toldB
  simp only [hk, if_false, and_self]
theorem smake_loop (N : Nat) {h m : Int} (h1 : 2 ≤ h) (h2 : h ≤ 24) (m1 : 0 ≤ m) (m2 : m < 60 * h) (x : Int) : ∀ (k n : Nat) (z : Int) (out : List IClue), k < n → k ≤ 6 → 0 ≤ z → z < 10009 → out.length ≤ 6 - k → spec_MakePuzzle.l4 N n h m k z x h out = some (h, out ++ mk h m k z, true)
  | 0, n + 1, z, out, hn, hk, z1, z2, ho => by
    unfold spec_MakePuzzle.l4 spec_MakePuzzle.d4 spec_MakePuzzle.o4
    rw [dcF (by omega), cond_false]
    simp only [mk, List.append_nil]
  | k + 1, n + 1, z, out, hn, hk, z1, z2, ho => by
    have r1 := nx_range z
    have r2 := nx_range (nx z)
    have rz := mkZ_range z
    have fin : ∀ a, (nx z % 6 = 1 → 2 ≤ a) → toldA h (nx z % 6) a m = toldA h (nx z % 6) (mkA z) m → toldB (nx z % 6) a m = toldB (nx z % 6) (mkA z) m → spec_MakePuzzle.d5 N h m ((k + 1 : Nat) : Int) (mkZ z) (nx z % 6) a x h out (fun w0 w1 w2 w3 w4 w5 w6 => spec_MakePuzzle.l4 N n w0 w1 w2 w3 w4 w5 w6) = some (h, out ++ mk h m (k + 1) z, true) := by
      intro a ha hA hB
      unfold spec_MakePuzzle.d5 spec_MakePuzzle.o5
      rw [pzOf_eq N h1 h2 m1 m2 (by omega) (by omega) ha, Option.bind_some, hA, hB]
      dsimp only
      rw [blT (by simp; omega), cond_true, show w64 (((k + 1 : Nat) : Int) - 1) = (k : Int) by rw [w64s (by omega) (by omega)]; omega]
      refine (smake_loop N h1 h2 m1 m2 x k n (mkZ z) _ (by omega) (by omega) rz.1 rz.2 (by simp; omega)).trans ?_
      simp only [mk, List.append_assoc, List.singleton_append]
      rfl
    unfold spec_MakePuzzle.l4 spec_MakePuzzle.d4 spec_MakePuzzle.o4
    rw [dcT (by omega), cond_true, nx_w z1 z2, nx_w r1.1 r1.2, Int.tmod_eq_emod_of_nonneg (show 0 ≤ nx z by omega), Int.tmod_eq_emod_of_nonneg (show 0 ≤ nx (nx z) by omega)]
    by_cases c1 : nx z % 6 = 1
    · rw [ieqT c1, cond_true, w64s (by omega) (by omega)]
      have ea : mkA z = nx (nx z) % 59 + 2 := if_pos c1
      have ez : mkZ z = nx (nx z) := if_pos c1
      have := fin (nx (nx z) % 59 + 2) (by omega) (by rw [ea]) (by rw [ea])
      rw [ez] at this
      exact this
    · rw [ieqF c1, cond_false]
      have ez : mkZ z = nx z := if_neg c1
      have := fin 2 (by omega) (tolds_of c1).1 (tolds_of (h := h) c1).2
      rw [ez] at this
      exact this
  | _, 0, _, _, hn, _, _, _, _ => by omega
def makeB (h m c s : Int) : Bool := inB h 2 24 && (inB m 0 (60 * h - 1) && (inB c 0 6 && inB s 0 9999))
def makeR (h m c s : Int) : Int × List IClue × Bool := if makeB h m c s = true then (h, mk h m c.toNat s, true) else (0, [], false)
theorem ml2_l4 (N n : Nat) (a b c d e f g : Int) : impl_MakePuzzle.l2 N n a b c d e f g = impl_MakePuzzle.l4 N n a b c d e f g [] := by cases n <;> rfl
theorem sml2_l4 (N n : Nat) (a b c d e f : Int) : spec_MakePuzzle.l2 N n a b c d e f = spec_MakePuzzle.l4 N n a b c d e f [] := by cases n <;> rfl
theorem Make_eq {N : Nat} (hN : 10000 ≤ N) (h m c s : Int) : impl_MakePuzzle.g N h m c s = some (makeR h m c s) := by
  unfold impl_MakePuzzle.g impl_MakePuzzle.o0 impl_MakePuzzle.d1 impl_MakePuzzle.o1 makeR makeB
  rw [isMinute_eq, Option.bind_some]
  cases e : inB h 2 24 with
  | false => rfl
  | true =>
    rw [Bool.true_and]
    cases e' : inB m 0 (60 * h - 1) with
    | false => rfl
    | true =>
      rw [Bool.not_true, cond_false, within_eq, Option.bind_some]
      cases e2 : inB c 0 6 with
      | false => rfl
      | true =>
        rw [Bool.not_true, cond_false, within_eq, Option.bind_some]
        cases e3 : inB s 0 9999 with
        | false => rfl
        | true =>
          have f := inB_iff.1 e
          have f1 := inB_iff.1 e'
          have f2 := inB_iff.1 e2
          have f3 := inB_iff.1 e3
          obtain ⟨c, rfl⟩ := Int.eq_ofNat_of_zero_le (show 0 ≤ c by omega)
          dsimp only
          rw [Bool.not_true, cond_false, ml2_l4]
          refine (make_loop N f.1 f.2 f1.1 (by omega) (c := c) (by omega) 0 c 0 N s [] (by omega) (by omega) (by omega) (by omega) rfl).trans ?_
          rfl
theorem sMake_eq {N : Nat} (hN : 10000 ≤ N) (h m c s : Int) : spec_MakePuzzle.g N h m c s = some (makeR h m c s) := by
  unfold spec_MakePuzzle.g spec_MakePuzzle.o0 spec_MakePuzzle.d1 spec_MakePuzzle.o1 makeR makeB
  rw [diHours_eq, Option.bind_some]
  cases e : inB h 2 24 with
  | false => rfl
  | true =>
    have f := inB_iff.1 e
    rw [Bool.not_true, cond_false, w64s (n := 60 * h) (by omega) (by omega), w64s (by omega) (by omega), l1In_eq, Option.bind_some, Bool.true_and]
    cases e' : inB m 0 (60 * h - 1) with
    | false => rfl
    | true =>
      rw [Bool.not_true, cond_false, l1In_eq, Option.bind_some]
      cases e2 : inB c 0 6 with
      | false => rfl
      | true =>
        rw [Bool.not_true, cond_false, l1In_eq, Option.bind_some]
        cases e3 : inB s 0 9999 with
        | false => rfl
        | true =>
          have f1 := inB_iff.1 e'
          have f2 := inB_iff.1 e2
          have f3 := inB_iff.1 e3
          obtain ⟨c, rfl⟩ := Int.eq_ofNat_of_zero_le (show 0 ≤ c by omega)
          dsimp only
          rw [Bool.not_true, cond_false, sml2_l4]
          refine (smake_loop N f.1 f.2 f1.1 (by omega) 0 c N s [] (by omega) (by omega) (by omega) (by omega) (by simp)).trans ?_
          rfl
/-- a told clue is one that the minutes fit -/
theorem told_ok {h k a m : Int} (h1 : 2 ≤ h) (h2 : h ≤ 24) (m1 : 0 ≤ m) (m2 : m < 60 * h) (k1 : 0 ≤ k) (k2 : k ≤ 5) (ha : k = 1 → 2 ≤ a ∧ a ≤ 60) : clueOk h k (toldA h k a m) (toldB k a m) = true ∧ fitB h k (toldA h k a m) (toldB k a m) m = true := by
  have hw : w64 (h - 1) = h - 1 := w64s (by omega) (by omega)
  by_cases c0 : k = 0
  · subst c0
    refine ⟨?_, ?_⟩
    · simp only [clueOk, kindOk, toldA, toldB, Int.reduceEq, if_false, if_true, decide_true, Bool.or_true, Bool.true_and, hw, inB_iff]; omega
    · simp [fitB, toldA, toldB]
  by_cases c1 : k = 1
  · subst c1
    have ha := ha rfl
    have hm := Int.emod_nonneg (m % 60) (show a ≠ 0 by omega)
    have hm2 := Int.emod_lt_of_pos (m % 60) (show 0 < a by omega)
    refine ⟨?_, ?_⟩
    · simp only [clueOk, kindOk, toldA, toldB, Int.reduceEq, if_false, if_true, decide_true, Bool.true_or, Bool.true_and, Bool.and_eq_true, inB_iff]
      rw [w64s (by omega) (by omega)]
      omega
    · simp [fitB, toldA, toldB]
  by_cases c2 : k = 2
  · subst c2
    refine ⟨?_, ?_⟩
    · simp only [clueOk, kindOk, toldA, toldB, Int.reduceEq, if_false, if_true, decide_true, Bool.or_true, Bool.true_and, inB_iff]; omega
    · simp [fitB, toldA, toldB]
  by_cases c3 : k = 3
  · subst c3
    refine ⟨?_, ?_⟩
    · simp only [clueOk, kindOk, toldA, toldB, Int.reduceEq, if_false, if_true, decide_true, Bool.or_true, Bool.true_and, inB_iff]
      split <;> omega
    · simp only [fitB, toldA, toldB, Int.reduceEq, if_false, if_true]
      by_cases e : (h - 1) * m % (60 * h) < 30 * h
      · rw [if_pos e, dcT e]; rfl
      · rw [if_neg e, dcF e]; rfl
  by_cases c4 : k = 4
  · subst c4
    refine ⟨?_, ?_⟩
    · simp only [clueOk, kindOk, toldA, toldB, Int.reduceEq, if_false, if_true, decide_true, Bool.or_true, Bool.true_and, inB_iff]; omega
    · simp [fitB, toldA, toldB]
  have c5 : k = 5 := by omega
  subst c5
  refine ⟨?_, ?_⟩
  · simp only [clueOk, kindOk, toldA, toldB, Int.reduceEq, if_false, if_true, decide_true, Bool.or_true, Bool.true_and, inB_iff]
    unfold mx
    split <;> omega
  · simp [fitB, toldA, toldB]
theorem mk_all {h m : Int} (h1 : 2 ≤ h) (h2 : h ≤ 24) (m1 : 0 ≤ m) (m2 : m < 60 * h) : ∀ (n : Nat) (z : Int), (mk h m n z).all (cok h) = true ∧ fitsAll h (mk h m n z) m = true
  | 0, _ => ⟨rfl, rfl⟩
  | n + 1, z => by
    have r1 := nx_range z
    have r2 := nx_range (nx z)
    obtain ⟨a, b⟩ := told_ok (h := h) (k := nx z % 6) (a := mkA z) h1 h2 m1 m2 (by omega) (by omega) (fun e => by unfold mkA; rw [if_pos e]; omega)
    obtain ⟨i1, i2⟩ := mk_all h1 h2 m1 m2 n (mkZ z)
    have a' : cok h (mkC h m z) = true := a
    refine ⟨?_, ?_⟩
    · simp only [mk, List.all_cons, a', i1, Bool.and_self]
    · unfold fitsAll at i2 ⊢
      simp only [mk, List.all_cons, i2, Bool.and_true]
      exact b
/-! ### comparing -/
theorem kPuzzle_loop (N : Nat) (h : Int) (l : List IClue) (hl : l.length ≤ 1000) : ∀ (k i n : Nat), l.length = i + k → k < n → laws_kPuzzle.l2 N n (l.length : Int) i h l h l = some true
  | 0, i, n + 1, hi, hn => by
    unfold laws_kPuzzle.l2 laws_kPuzzle.d2 laws_kPuzzle.o2
    rw [dcF (by omega)]; rfl
  | k + 1, i, n + 1, hi, hn => by
    unfold laws_kPuzzle.l2 laws_kPuzzle.d2 laws_kPuzzle.o2
    rw [dcT (by omega), dcT (by omega), cond_true, cond_true, cond_true, Int.toNat_natCast, getAt (by omega), cond_true, getAt (by omega), w1add (by omega)]
    simp only [beq_self_eq_true, Bool.and_self, Bool.not_true, cond_false]
    exact kPuzzle_loop N h l hl k (i+1) n (by omega) (by omega)
  | _, _, 0, _, hn => by omega
theorem kPuzzle_eq {N : Nat} (hN : 10000 ≤ N) (h : Int) (l : List IClue) (hl : l.length ≤ 1000) : laws_kPuzzle.g N h l h l = some true := by
  unfold laws_kPuzzle.g laws_kPuzzle.o0 laws_kPuzzle.d1 laws_kPuzzle.o1
  rw [ineF rfl, cond_false]
  dsimp only
  rw [ineF rfl, cond_false]
  exact kPuzzle_loop N h l hl l.length 0 N (by omega) (by omega)
theorem kHas_loop (N : Nat) (x : Int) (l : List Int) (hl : l.length ≤ 100000) : ∀ (k i n : Nat), l.length = i + k → k < n → laws_kHas.l1 N n x l (l.length : Int) i = some (decide (x ∈ l.drop i))
  | 0, i, n + 1, hi, hn => by
    unfold laws_kHas.l1 laws_kHas.d1 laws_kHas.o1
    rw [dcF (by omega), cond_false, List.drop_eq_nil_of_le (by omega)]; simp
  | k + 1, i, n + 1, hi, hn => by
    unfold laws_kHas.l1 laws_kHas.d1 laws_kHas.o1
    rw [dcT (by omega), dcT (by omega), cond_true, cond_true, cond_true, Int.toNat_natCast, getAt (by omega), List.drop_eq_getElem_cons (show i < l.length by omega)]
    by_cases e : l[i] = x
    · rw [ieqT e, cond_true, dcT (by rw [e]; exact List.mem_cons_self)]
    · rw [ieqF e, cond_false, w1add (by omega)]
      refine (kHas_loop N x l hl k (i+1) n (by omega) (by omega)).trans ?_
      rw [Option.some.injEq, decide_eq_decide, List.mem_cons]
      exact ⟨.inr, fun h => h.resolve_left (fun h' => e h'.symm)⟩
  | _, _, 0, _, hn => by omega
theorem kHas_eq {N : Nat} (x : Int) (l : List Int) (hl : l.length ≤ 100000) (hN : l.length < N) : laws_kHas.g N l x = some (decide (x ∈ l)) :=
  kHas_loop N x l hl l.length 0 N (by omega) hN
end Go.Proofs.Ytpeleommbipeaaa.M

namespace Go.Proofs.Ytpeleommbipeaaa.M
open Go Go.PM
set_option linter.unusedVariables false
set_option linter.unusedSimpArgs false
theorem and255 (x : Int) : 0 ≤ w64 (andK .u64 x 255) ∧ w64 (andK .u64 x 255) ≤ 255 := by
  have e : (BitVec.ofInt IntKind.u64.bits x &&& BitVec.ofInt IntKind.u64.bits 255).toNat ≤ 255 := by
    rw [BitVec.toNat_and]
    exact Nat.le_trans Nat.and_le_right (by decide)
  unfold andK
  generalize (BitVec.ofInt IntKind.u64.bits x &&& BitVec.ofInt IntKind.u64.bits 255).toNat = n at e
  have e1 : IntKind.wrap .u64 (n : Int) = n := by
    unfold IntKind.wrap
    have : (n : Int) % (2 ^ IntKind.u64.bits : Int) = n := by
      show (n : Int) % (18446744073709551616 : Int) = n
      omega
    rw [this]
    rfl
  rw [e1, w64s (by omega) (by omega)]
  omega
/-- bytes -/
def Bs (code : List Int) : Prop := code.length ≤ 1048576 ∧ ∀ x ∈ code, 0 ≤ x ∧ x ≤ 255
theorem next_tot (N : Nat) {code : List Int} (hc : Bs code) {pos : Int} (h1 : 0 ≤ pos) (h2 : pos ≤ 1000000000) (seed : Int) :
    Tot (spec_l1Cur_next.g N code pos seed) fun r => (0 ≤ r.1 ∧ r.1 ≤ 255) ∧ r.2.1 = code ∧ 0 ≤ r.2.2.1 ∧ r.2.2.1 ≤ pos + 1 := by
  have key : ∀ b, 0 ≤ b → b ≤ 255 → Tot (spec_l1Cur_next.d1 N b code pos seed) fun r => (0 ≤ r.1 ∧ r.1 ≤ 255) ∧ r.2.1 = code ∧ 0 ≤ r.2.2.1 ∧ r.2.2.1 ≤ pos + 1 := by
    intro b hb1 hb2
    unfold spec_l1Cur_next.d1 spec_l1Cur_next.o1
    rw [w64s (n := pos + 1) (by omega) (by omega)]
    refine Tot.bif (fun _ => Tot.now ⟨⟨hb1, hb2⟩, rfl, ?_, ?_⟩) (fun _ => Tot.now ⟨and255 _, rfl, ?_, ?_⟩)
    all_goals (dsimp only; omega)
  unfold spec_l1Cur_next.g spec_l1Cur_next.o0
  dsimp only
  refine Tot.dif (fun hlt => ?_) (fun hlt => key 0 (by omega) (by omega))
  have hl : pos.toNat < code.length := by omega
  rw [dcT h1, cond_true, dcT hlt, cond_true, getAt hl]
  have := hc.2 code[pos.toNat] (List.getElem_mem hl)
  rw [w64s (by omega) (by omega)]
  exact key _ this.1 this.2
theorem pick_tot (N : Nat) {code : List Int} (hc : Bs code) (n : Int) {pos : Int} (h1 : 0 ≤ pos) (h2 : pos ≤ 1000000) (seed : Int) :
    Tot (spec_l1Cur_pick.g N n code pos seed) fun r => (0 ≤ r.1 ∧ (r.1 < n ∨ r.1 = 0)) ∧ r.2.1 = code ∧ 0 ≤ r.2.2.1 ∧ r.2.2.1 ≤ pos + 2 := by
  have key : ∀ x p s, 1 < n → 0 ≤ x → 0 ≤ p → p ≤ pos + 2 → Tot (spec_l1Cur_pick.d1 N n x code p s) fun r => (0 ≤ r.1 ∧ (r.1 < n ∨ r.1 = 0)) ∧ r.2.1 = code ∧ 0 ≤ r.2.2.1 ∧ r.2.2.1 ≤ pos + 2 := by
    intro x p s hn hx hp1 hp2
    unfold spec_l1Cur_pick.d1 spec_l1Cur_pick.o1
    rw [ieqF (by omega), cond_false]
    refine Tot.now ⟨⟨Int.tmod_nonneg _ hx, .inl ?_⟩, rfl, hp1, hp2⟩
    exact Int.tmod_lt_of_pos _ (by omega)
  unfold spec_l1Cur_pick.g spec_l1Cur_pick.o0
  dsimp only
  refine Tot.dif (fun hlt => Tot.now ⟨⟨by dsimp only; omega, .inr rfl⟩, rfl, h1, by dsimp only; omega⟩) (fun hlt => ?_)
  refine Tot.bind (next_tot N hc h1 (by omega) seed) ?_
  rintro ⟨x, c, p, s⟩ ⟨⟨x1, x2⟩, rfl, p1, p2⟩
  dsimp only at x1 x2 p1 p2 ⊢
  refine Tot.dif (fun hgt => ?_) (fun hgt => ?_)
  · refine Tot.bind (next_tot N hc p1 (by omega) s) ?_
    rintro ⟨y, c, q, t⟩ ⟨⟨y1, y2⟩, rfl, q1, q2⟩
    dsimp only at y1 y2 q1 q2 ⊢
    rw [w64s (n := x * 256) (by omega) (by omega), w64s (by omega) (by omega)]
    exact key _ _ _ (by omega) (by omega) q1 (by omega)
  · exact key _ _ _ (by omega) x1 p1 (by omega)
theorem one_tot (N : Nat) {code : List Int} (hc : Bs code) (n : Int) {pos : Int} (h1 : 0 ≤ pos) (h2 : pos ≤ 1000000) (seed : Int) :
    Tot (spec_l1Cur_one.g N n code pos seed) fun r => r.2.1 = code ∧ 0 ≤ r.2.2.1 ∧ r.2.2.1 ≤ pos + 2 := by
  unfold spec_l1Cur_one.g spec_l1Cur_one.o0
  refine Tot.bind (pick_tot N hc n h1 h2 seed) ?_
  rintro ⟨x, c, p, s⟩ ⟨⟨x1, x2⟩, rfl, p1, p2⟩
  exact Tot.now ⟨rfl, p1, p2⟩
theorem among_tot (N : Nat) {code : List Int} (hc : Bs code) (l : List Int) (hl : 0 < l.length) {pos : Int} (h1 : 0 ≤ pos) (h2 : pos ≤ 1000000) (seed : Int) :
    Tot (spec_l1Cur_among.g N l code pos seed) fun r => r.1 ∈ l ∧ r.2.1 = code ∧ 0 ≤ r.2.2.1 ∧ r.2.2.1 ≤ pos + 2 := by
  unfold spec_l1Cur_among.g spec_l1Cur_among.o0
  refine Tot.bind (pick_tot N hc _ h1 h2 seed) ?_
  rintro ⟨x, c, p, s⟩ ⟨⟨x1, x2⟩, rfl, p1, p2⟩
  dsimp only at x1 x2 p1 p2 ⊢
  have hx : x.toNat < l.length := by omega
  rw [dcT x1, cond_true, dcT (by omega), cond_true, getAt hx]
  exact Tot.now ⟨List.getElem_mem hx, rfl, p1, p2⟩
theorem hours_tot (N : Nat) {code : List Int} (hc : Bs code) {pos : Int} (h1 : 0 ≤ pos) (h2 : pos ≤ 1000000) (seed : Int) :
    Tot (spec_l1Cur_hours.g N code pos seed) fun r => (0 ≤ r.1 ∧ r.1 ≤ 25) ∧ r.2.1 = code ∧ 0 ≤ r.2.2.1 ∧ r.2.2.1 ≤ pos + 2 := by
  unfold spec_l1Cur_hours.g spec_l1Cur_hours.o0
  refine Tot.bind (among_tot N hc _ (by decide) h1 h2 seed) ?_
  rintro ⟨x, c, p, s⟩ ⟨x1, rfl, p1, p2⟩
  refine Tot.now ⟨?_, rfl, p1, p2⟩
  have : ∀ y ∈ ([12, 24, 10, 12, 24, 6, 2, 3, 5, 12, 1, 25, 0] : List Int), 0 ≤ y ∧ y ≤ 25 := by decide
  exact this _ x1
theorem least_eq (N : Nat) (a b : Int) : spec_l1Least.g N a b = some (if a < b then a else b) := by
  unfold spec_l1Least.g spec_l1Least.o0
  by_cases h : a < b
  · rw [dcT h, if_pos h]; rfl
  · rw [dcF h, if_neg h]; rfl
theorem most_eq (N : Nat) (a b : Int) : spec_l1Most.g N a b = some (if a > b then a else b) := by
  unfold spec_l1Most.g spec_l1Most.o0
  by_cases h : a > b
  · rw [dcT h, if_pos h]; rfl
  · rw [dcF h, if_neg h]; rfl
end Go.Proofs.Ytpeleommbipeaaa.M

namespace Go.Proofs.Ytpeleommbipeaaa.M
open Go Go.PM Go.Proofs.Ytpeleommbipeaaa.P
set_option linter.unusedVariables false
set_option linter.unusedSimpArgs false
/-- where a cursor stands -/
def At (code : List Int) (b : Int) (c : List Int) (p : Int) : Prop := c = code ∧ 0 ≤ p ∧ p ≤ b
set_option maxRecDepth 100000 in
theorem sureLoop (N : Nat) {code : List Int} (hc : Bs code) {h m : Int} (h1 : 2 ≤ h) (h2 : h ≤ 24) (m1 : 0 ≤ m) (m2 : m < 60 * h) (x : Int) : ∀ (k n : Nat) (pos seed : Int) (out : List IClue), k < n → k ≤ 100 → 0 ≤ pos → pos ≤ 10000 - 4 * k → out.length + k ≤ 100 → out.all (cok h) = true → fitsAll h out m = true →
    Tot (spec_l1Cur_surePuzzle.l2 N n h m k code pos seed x h out) fun r => (r.1 = h ∧ r.2.1.length = out.length + k ∧ r.2.1.all (cok h) = true ∧ fitsAll h r.2.1 m = true) ∧ At code (pos + 4 * k) r.2.2.1 r.2.2.2.1
  | 0, n + 1, pos, seed, out, hn, hk, p1, p2, ho, a1, a2 => by
    unfold spec_l1Cur_surePuzzle.l2 spec_l1Cur_surePuzzle.d2 spec_l1Cur_surePuzzle.o2
    rw [dcF (by omega), cond_false]
    exact Tot.now ⟨⟨rfl, rfl, a1, a2⟩, rfl, p1, by dsimp only; omega⟩
  | k + 1, n + 1, pos, seed, out, hn, hk, p1, p2, ho, a1, a2 => by
    unfold spec_l1Cur_surePuzzle.l2 spec_l1Cur_surePuzzle.d2 spec_l1Cur_surePuzzle.o2
    rw [dcT (by omega), cond_true]
    refine Tot.bind (pick_tot N hc 6 p1 (by omega) seed) ?_
    rintro ⟨y, c, p, s⟩ ⟨⟨y1, y2⟩, rfl, q1, q2⟩
    dsimp only at y1 y2 q1 q2 ⊢
    refine Tot.bind (pick_tot N hc 59 q1 (by omega) s) ?_
    rintro ⟨z, c, p, s⟩ ⟨⟨z1, z2⟩, rfl, r1, r2⟩
    dsimp only at z1 z2 r1 r2 ⊢
    have ew : w64 (2 + z) = 2 + z := w64s (by omega) (by omega)
    rw [ew, pzOf_eq N h1 h2 m1 m2 y1 (by omega) (by omega), Option.bind_some]
    dsimp only
    rw [blT (by simp; omega), cond_true, show w64 (((k + 1 : Nat) : Int) - 1) = (k : Int) by rw [w64s (by omega) (by omega)]; omega]
    obtain ⟨b1, b2⟩ := told_ok (h := h) (k := y) (a := 2 + z) (m := m) h1 h2 m1 m2 y1 (by omega) (by omega)
    have e1 : (out ++ [(⟨y, toldA h y (2 + z) m, toldB y (2 + z) m⟩ : S38)]).all (cok h) = true := by
      rw [List.all_append, a1, List.all_cons, List.all_nil, Bool.true_and, Bool.and_true]; exact b1
    have e2 : fitsAll h (out ++ [(⟨y, toldA h y (2 + z) m, toldB y (2 + z) m⟩ : S38)]) m = true := by
      unfold fitsAll at a2 ⊢
      rw [List.all_append, a2, List.all_cons, List.all_nil, Bool.true_and, Bool.and_true]; exact b2
    refine (sureLoop N hc h1 h2 m1 m2 x k n p s _ (by omega) (by omega) r1 (by omega) (by simp; omega) e1 e2).mono ?_
    rintro r ⟨⟨f1, f2, f3, f4⟩, g1, g2, g3⟩
    refine ⟨⟨f1, by rw [f2]; simp; omega, f3, f4⟩, g1, g2, by omega⟩
  | _, 0, _, _, _, hn, _, _, _, _, _, _ => by omega
theorem sure_l1_l2 (N n : Nat) (a b c : Int) (d : List Int) (e f g h : Int) : spec_l1Cur_surePuzzle.l1 N n a b c d e f g h = spec_l1Cur_surePuzzle.l2 N n a b c d e f g h [] := by cases n <;> rfl
theorem sure_tot {N : Nat} (hN : 10000 ≤ N) {code : List Int} (hc : Bs code) {most : Nat} (hm : most ≤ 50) {pos : Int} (p1 : 0 ≤ pos) (p2 : pos ≤ 5000) (seed : Int) :
    Tot (spec_l1Cur_surePuzzle.g N most code pos seed) fun r => ((2 ≤ r.1 ∧ r.1 ≤ 12) ∧ r.2.1.length ≤ most ∧ r.2.1.all (cok r.1) = true ∧ ∃ m : Nat, (m : Int) < 60 * r.1 ∧ fitsAll r.1 r.2.1 m = true) ∧ At code (pos + 6 + 4 * most) r.2.2.1 r.2.2.2.1 := by
  unfold spec_l1Cur_surePuzzle.g spec_l1Cur_surePuzzle.o0
  refine Tot.bind (pick_tot N hc 11 p1 (by omega) seed) ?_
  rintro ⟨y, c, p, s⟩ ⟨⟨y1, y2⟩, rfl, q1, q2⟩
  dsimp only at y1 y2 q1 q2 ⊢
  rw [w64s (n := 2 + y) (by omega) (by omega), w64s (n := 60 * (2 + y)) (by omega) (by omega)]
  refine Tot.bind (pick_tot N hc _ q1 (by omega) s) ?_
  rintro ⟨m, c, p, s⟩ ⟨⟨m1, m2⟩, rfl, r1, r2⟩
  dsimp only at m1 m2 r1 r2 ⊢
  rw [w64s (n := (most : Int) + 1) (by omega) (by omega)]
  refine Tot.bind (pick_tot N hc _ r1 (by omega) s) ?_
  rintro ⟨k, c, p, s⟩ ⟨⟨k1, k2⟩, rfl, t1, t2⟩
  dsimp only at k1 k2 t1 t2 ⊢
  obtain ⟨k, rfl⟩ := Int.eq_ofNat_of_zero_le k1
  obtain ⟨m, rfl⟩ := Int.eq_ofNat_of_zero_le m1
  rw [sure_l1_l2]
  refine (sureLoop N hc (by omega) (by omega) m1 (by omega) 0 k N p s [] (by omega) (by omega) t1 (by omega) (by simp; omega) rfl rfl).mono ?_
  rintro r ⟨⟨f1, f2, f3, f4⟩, g1, g2, g3⟩
  rw [f1]
  refine ⟨⟨⟨by omega, by omega⟩, by rw [f2]; simp; omega, f3, m, by omega, f4⟩, g1, g2, by omega⟩
theorem clue_tot (N : Nat) {code : List Int} (hc : Bs code) (h : Int) {pos : Int} (p1 : 0 ≤ pos) (p2 : pos ≤ 9000) (seed : Int) :
    Tot (spec_l1Cur_clue.g N h code pos seed) fun r => At code (pos + 8) r.2.2.2.1 r.2.2.2.2.1 := by
  unfold spec_l1Cur_clue.g spec_l1Cur_clue.o0
  refine Tot.bind (one_tot N hc 5 p1 (by omega) seed) ?_
  rintro ⟨b, c, p, s⟩ ⟨rfl, q1, q2⟩
  dsimp only at q1 q2 ⊢
  refine Tot.bif (fun _ => ?_) (fun _ => ?_)
  · refine Tot.bind (pick_tot N hc 8 q1 (by omega) s) ?_
    rintro ⟨y, c, p, s⟩ ⟨_, rfl, r1, r2⟩
    dsimp only at r1 r2 ⊢
    refine Tot.bind (among_tot N hc _ (by decide) r1 (by omega) s) ?_
    rintro ⟨y, c, p, s⟩ ⟨_, rfl, t1, t2⟩
    dsimp only at t1 t2 ⊢
    refine Tot.bind (among_tot N hc _ (by decide) t1 (by omega) s) ?_
    rintro ⟨y, c, p, s⟩ ⟨_, rfl, u1, u2⟩
    exact Tot.now ⟨rfl, u1, by dsimp only at u2 ⊢; omega⟩
  · rw [diHours_eq, Option.bind_some]
    cases e : inB h 2 24 with
    | false => exact Tot.now ⟨rfl, q1, by dsimp only; omega⟩
    | true =>
      have hh := inB_iff.1 e
      rw [Bool.not_true, cond_false]
      refine Tot.bind (pick_tot N hc 6 q1 (by omega) s) ?_
      rintro ⟨y, c, p, s⟩ ⟨⟨y1, y2⟩, rfl, r1, r2⟩
      dsimp only at y1 y2 r1 r2 ⊢
      refine Tot.bind (pick_tot N hc 59 r1 (by omega) s) ?_
      rintro ⟨z, c, p, s⟩ ⟨⟨z1, z2⟩, rfl, t1, t2⟩
      dsimp only at z1 z2 t1 t2 ⊢
      rw [w64s (n := 60 * h) (by omega) (by omega)]
      refine Tot.bind (pick_tot N hc _ t1 (by omega) s) ?_
      rintro ⟨m, c, p, s⟩ ⟨⟨m1, m2⟩, rfl, u1, u2⟩
      dsimp only at m1 m2 u1 u2 ⊢
      rw [w64s (n := 2 + z) (by omega) (by omega), pzOf_eq N hh.1 hh.2 m1 (by omega) y1 (by omega) (by omega), Option.bind_some]
      exact Tot.now ⟨rfl, u1, by dsimp only; omega⟩
set_option maxRecDepth 100000 in
theorem fillLoop (N : Nat) {code : List Int} (hc : Bs code) (x h : Int) : ∀ (d n : Nat) (pos seed : Int) (out : List IClue), d < n → 8 ≤ out.length + d → d ≤ 8 → out.length ≤ 8 → 0 ≤ pos → pos ≤ 9000 - 2 * d →
    Tot (spec_l1Cur_puzzle.l2 N n code pos seed x h out) fun r => r.2.1.length ≤ 9 ∧ At code (pos + 2 * d + 2) r.2.2.1 r.2.2.2.1
  | 0, n + 1, pos, seed, out, hn, h8, hd, hl, p1, p2 => by
    unfold spec_l1Cur_puzzle.l2 spec_l1Cur_puzzle.d2 spec_l1Cur_puzzle.o2 spec_l1Cur_puzzle.d1 spec_l1Cur_puzzle.o1
    refine Tot.bind (pick_tot N hc 2 p1 (by omega) seed) ?_
    rintro ⟨y, c, p, s⟩ ⟨⟨y1, y2⟩, rfl, q1, q2⟩
    dsimp only at y1 y2 q1 q2 ⊢
    rw [w64s (by omega) (by omega), dcF (by omega), cond_false]
    exact Tot.now ⟨by dsimp only; omega, rfl, q1, by dsimp only; omega⟩
  | d + 1, n + 1, pos, seed, out, hn, h8, hd, hl, p1, p2 => by
    unfold spec_l1Cur_puzzle.l2 spec_l1Cur_puzzle.d2 spec_l1Cur_puzzle.o2 spec_l1Cur_puzzle.d1 spec_l1Cur_puzzle.o1
    refine Tot.bind (pick_tot N hc 2 p1 (by omega) seed) ?_
    rintro ⟨y, c, p, s⟩ ⟨⟨y1, y2⟩, rfl, q1, q2⟩
    dsimp only at y1 y2 q1 q2 ⊢
    rw [w64s (by omega) (by omega)]
    refine Tot.dif (fun hlt => ?_) (fun hlt => Tot.now ⟨by dsimp only; omega, rfl, q1, by dsimp only; omega⟩)
    rw [blT (by simp; omega), cond_true]
    refine (fillLoop N hc x h d n p s _ (by omega) (by simp; omega) (by omega) (by simp; omega) q1 (by omega)).mono ?_
    rintro r ⟨f1, g1, g2, g3⟩
    exact ⟨f1, g1, g2, by omega⟩
  | _, 0, _, _, _, hn, _, _, _, _, _ => by omega
theorem puzzle_tot {N : Nat} (hN : 10000 ≤ N) {code : List Int} (hc : Bs code) {pos : Int} (p1 : 0 ≤ pos) (p2 : pos ≤ 5000) (seed : Int) :
    Tot (spec_l1Cur_puzzle.g N code pos seed) fun r => r.2.1.length ≤ 9 ∧ At code (pos + 100) r.2.2.1 r.2.2.2.1 := by
  unfold spec_l1Cur_puzzle.g spec_l1Cur_puzzle.o0
  refine Tot.bind (sure_tot hN hc (most := 5) (by omega) p1 p2 seed) ?_
  rintro ⟨h, l, c, p, s⟩ ⟨⟨⟨h1, h2⟩, h3, h4, h5⟩, rfl, q1, q2⟩
  dsimp only at h1 h2 h3 h4 q1 q2 ⊢
  refine Tot.bind (pick_tot N hc 12 q1 (by omega) s) ?_
  rintro ⟨y, c, p, s⟩ ⟨_, rfl, r1, r2⟩
  dsimp only at r1 r2 ⊢
  have now : ∀ (c' : List Int) (p' s' x' h' : Int) (l' : List IClue), c' = c → 0 ≤ p' → p' ≤ pos + 100 → l'.length ≤ 9 → Tot (spec_l1Cur_puzzle.d1 N c' p' s' x' h' l') fun r => r.2.1.length ≤ 9 ∧ At c (pos + 100) r.2.2.1 r.2.2.2.1 :=
    fun c' p' s' x' h' l' e1 e2 e3 e4 => Tot.now ⟨e4, e1, e2, e3⟩
  refine Tot.bif (fun _ => ?_) (fun _ => ?_)
  · refine Tot.bind (among_tot N hc _ (by decide) r1 (by omega) s) ?_
    rintro ⟨y, c, p, s⟩ ⟨_, rfl, t1, t2⟩
    dsimp only at t1 t2 ⊢
    exact now _ _ _ _ _ _ rfl t1 (by omega) (by omega)
  · refine Tot.bif (fun _ => ?_) (fun _ => ?_)
    · refine Tot.bind (clue_tot N hc h r1 (by omega) s) ?_
      rintro ⟨a, b, d, c, p, s⟩ ⟨rfl, t1, t2⟩
      dsimp only at t1 t2 ⊢
      rw [blT (by simp; omega), cond_true]
      exact now _ _ _ _ _ _ rfl t1 (by omega) (by simp; omega)
    · refine Tot.bif (fun _ => ?_) (fun _ => now _ _ _ _ _ _ rfl r1 (by omega) (by omega))
      refine (fillLoop N hc 0 h 8 N p s l (by omega) (by omega) (by omega) (by omega) r1 (by omega)).mono ?_
      rintro r ⟨f1, g1, g2, g3⟩
      exact ⟨f1, g1, g2, by omega⟩
theorem hvs_of_mem (p : Nat → Bool) {x : Int} : ∀ {n : Nat}, x ∈ hvs p n → ∃ k : Nat, k < n ∧ x = k
  | n + 1, h => by
    simp only [hvs, List.mem_append] at h
    rcases h with h | h
    · obtain ⟨k, h1, h2⟩ := hvs_of_mem p h
      exact ⟨k, by omega, h2⟩
    · cases hp : p n with
      | true => rw [hp, cond_true, List.mem_singleton] at h; exact ⟨n, by omega, h⟩
      | false => rw [hp] at h; cases h
theorem drawHarder_tot {N : Nat} (hN : 10000 ≤ N) {code : List Int} (hc : Bs code) : Tot (spec_DrawHarderPuzzle.g N code) fun r => r.2.length ≤ 100 := by
  unfold spec_DrawHarderPuzzle.g spec_DrawHarderPuzzle.o0
  refine Tot.bind (sure_tot hN hc (most := 3) (by omega) (by omega) (by omega) 0) ?_
  rintro ⟨h, l, c, p, s⟩ ⟨⟨⟨h1, h2⟩, h3, h4, m, h5, h6⟩, rfl, q1, q2⟩
  dsimp only at h1 h2 h3 h4 h5 h6 q1 q2 ⊢
  rw [pzAll_eq hN h1 (by omega) l (by omega) h4, Option.bind_some]
  have hin : (m : Int) ∈ sols h l := hvs_mem _ (by omega) h6
  have hlen : 0 < (sols h l).length := List.length_pos_of_mem hin
  rw [dcT (by omega), cond_true, getAt (by simpa using hlen)]
  obtain ⟨k, k1, k2⟩ := hvs_of_mem (fun x => fitsAll h l x) (x := (sols h l)[(0 : Int).toNat]'(by simpa using hlen)) (List.getElem_mem _)
  rw [k2, pzOf_eq N h1 (by omega) (by omega) (by omega) (by omega) (by omega) (by omega), Option.bind_some, pzOf_eq N h1 (by omega) (by omega) (by omega) (by omega) (by omega) (by omega), Option.bind_some]
  dsimp only
  rw [blT (by simp; omega), cond_true]
  refine Tot.bind (one_tot N hc 5 q1 (by omega) s) ?_
  rintro ⟨b, c, p, s⟩ ⟨rfl, r1, r2⟩
  dsimp only at r1 r2 ⊢
  refine Tot.bif (fun _ => ?_) (fun _ => Tot.now (by simp; omega))
  refine Tot.bind (puzzle_tot hN hc r1 (by omega) s) ?_
  rintro ⟨h', l', c, p, s⟩ ⟨e, _⟩
  exact Tot.now (by dsimp only at e ⊢; omega)
theorem drawAdd_tot {N : Nat} (hN : 10000 ≤ N) {code : List Int} (hc : Bs code) : Tot (spec_DrawAddClue.g N code) fun r => r.2.1.length ≤ 100 := by
  unfold spec_DrawAddClue.g spec_DrawAddClue.o0
  refine Tot.bind (puzzle_tot hN hc (by omega) (by omega) 0) ?_
  rintro ⟨h, l, c, p, s⟩ ⟨h1, rfl, q1, q2⟩
  dsimp only at h1 q1 q2 ⊢
  refine Tot.bind (clue_tot N hc h q1 (by omega) s) ?_
  rintro r _
  exact Tot.now (by dsimp only; omega)
theorem drawDrop_tot {N : Nat} (hN : 10000 ≤ N) {code : List Int} (hc : Bs code) : Tot (spec_DrawDropClue.g N code) fun _ => True := by
  unfold spec_DrawDropClue.g spec_DrawDropClue.o0
  refine Tot.bind (puzzle_tot hN hc (by omega) (by omega) 0) ?_
  rintro ⟨h, l, c, p, s⟩ ⟨h1, rfl, q1, q2⟩
  dsimp only at h1 q1 q2 ⊢
  refine Tot.bind (pick_tot N hc 6 q1 (by omega) s) ?_
  rintro ⟨y, c, p, s⟩ ⟨_, rfl, r1, r2⟩
  dsimp only at r1 r2 ⊢
  exact Tot.bind (pick_tot N hc 9 r1 (by omega) s) fun r _ => Tot.now trivial
theorem drawFit_tot {N : Nat} (hN : 10000 ≤ N) {code : List Int} (hc : Bs code) : Tot (spec_DrawDoesFit.g N code) fun _ => True := by
  unfold spec_DrawDoesFit.g spec_DrawDoesFit.o0
  refine Tot.bind (hours_tot N hc (by omega) (by omega) 0) ?_
  rintro ⟨h, c, p, s⟩ ⟨_, rfl, q1, q2⟩
  dsimp only at q1 q2 ⊢
  refine Tot.bind (clue_tot N hc h q1 (by omega) s) ?_
  rintro ⟨a, b, d, c, p, s⟩ ⟨rfl, r1, r2⟩
  dsimp only at r1 r2 ⊢
  refine Tot.bind (one_tot N hc 12 r1 (by omega) s) ?_
  rintro ⟨b, c, p, s⟩ ⟨rfl, t1, t2⟩
  dsimp only at t1 t2 ⊢
  refine Tot.bif (fun _ => ?_) (fun _ => ?_)
  · exact Tot.bind (among_tot N hc _ (by decide) t1 (by omega) s) fun r _ => Tot.now trivial
  · rw [least_eq, Option.bind_some, most_eq, Option.bind_some, least_eq, Option.bind_some]
    exact Tot.bind (pick_tot N hc _ t1 (by omega) s) fun r _ => Tot.now trivial
theorem drawMake_tot (N : Nat) {code : List Int} (hc : Bs code) : Tot (spec_DrawMakePuzzle.g N code) fun _ => True := by
  unfold spec_DrawMakePuzzle.g spec_DrawMakePuzzle.o0
  refine Tot.bind (one_tot N hc 12 (by omega) (by omega) 0) ?_
  rintro ⟨b, c, p, s⟩ ⟨rfl, p1, p2⟩
  dsimp only at p1 p2 ⊢
  refine Tot.bif (fun _ => ?_) (fun _ => ?_)
  · refine Tot.bind (hours_tot N hc p1 (by omega) s) ?_
    rintro ⟨h, c, p, s⟩ ⟨_, rfl, p1, p2⟩
    dsimp only at p1 p2 ⊢
    refine Tot.bind (among_tot N hc _ (by decide) p1 (by omega) s) ?_
    rintro ⟨h, c, p, s⟩ ⟨_, rfl, p1, p2⟩
    dsimp only at p1 p2 ⊢
    refine Tot.bind (among_tot N hc _ (by decide) p1 (by omega) s) ?_
    rintro ⟨h, c, p, s⟩ ⟨_, rfl, p1, p2⟩
    dsimp only at p1 p2 ⊢
    exact Tot.bind (among_tot N hc _ (by decide) p1 (by omega) s) fun r _ => Tot.now trivial
  · refine Tot.bind (pick_tot N hc _ p1 (by omega) s) ?_
    rintro ⟨h, c, p, s⟩ ⟨_, rfl, p1, p2⟩
    dsimp only at p1 p2 ⊢
    refine Tot.bind (pick_tot N hc _ p1 (by omega) s) ?_
    rintro ⟨h, c, p, s⟩ ⟨_, rfl, p1, p2⟩
    dsimp only at p1 p2 ⊢
    refine Tot.bind (pick_tot N hc _ p1 (by omega) s) ?_
    rintro ⟨h, c, p, s⟩ ⟨_, rfl, p1, p2⟩
    dsimp only at p1 p2 ⊢
    exact Tot.bind (pick_tot N hc _ p1 (by omega) s) fun r _ => Tot.now trivial
end Go.Proofs.Ytpeleommbipeaaa.M

namespace Go.Proofs.Ytpeleommbipeaaa.M
open Go Go.PM Go.Proofs.Ytpeleommbipeaaa.P
set_option linter.unusedVariables false
set_option linter.unusedSimpArgs false
theorem dropR_len (h : Int) (l : List IClue) (k : Int) : (dropR h l k).2.1.length ≤ 6 := by
  unfold dropR
  by_cases e : (puzzleOk h l && inB k 0 ((l.length : Int) - 1)) = true
  · rw [if_pos e]
    rw [Bool.and_eq_true] at e
    obtain ⟨h1, h2, h3, h4⟩ := puzzleOk_facts e.1
    have := (List.eraseIdx_sublist l k.toNat).length_le
    show (l.eraseIdx k.toNat).length ≤ 6
    omega
  · rw [if_neg e]; exact Nat.zero_le _
theorem addR_len (h : Int) (l : List IClue) (c : IClue) : (addR h l c).2.1.length ≤ 6 := by
  unfold addR
  by_cases e : (puzzleOk h l && (cok h c && !decide (l.length = 6))) = true
  · rw [if_pos e]
    simp only [Bool.and_eq_true, Bool.not_eq_true', decide_eq_false_iff_not] at e
    obtain ⟨h1, h2, h3, h4⟩ := puzzleOk_facts e.1
    show (l ++ [c]).length ≤ 6
    rw [List.length_append, List.length_singleton]
    omega
  · rw [if_neg e]; exact Nat.zero_le _
theorem hard_len (h : Int) : ∀ (d : Nat) (l : List IClue) (k : Nat), (hard h d l k).length ≤ l.length
  | 0, l, k => Nat.le_refl _
  | d + 1, l, k => by
    unfold hard
    by_cases e : (sols h (l.eraseIdx k)).length = 1
    · rw [if_pos e]
      exact Nat.le_trans (hard_len h d _ k) (List.eraseIdx_sublist l k).length_le
    · rw [if_neg e]; exact hard_len h d l (k + 1)
theorem harderR_len (h : Int) (l : List IClue) : (harderR h l).2.1.length ≤ 6 := by
  unfold harderR
  by_cases e : solvedB h l = true
  · rw [if_pos e]
    unfold solvedB at e
    rw [Bool.and_eq_true] at e
    obtain ⟨h1, h2, h3, h4⟩ := puzzleOk_facts e.1
    have := hard_len h l.length l 0
    show (hard h l.length l 0).length ≤ 6
    omega
  · rw [if_neg e]; exact Nat.zero_le _
theorem makeR_len (h m c s : Int) : (makeR h m c s).2.1.length ≤ 6 := by
  unfold makeR
  by_cases e : makeB h m c s = true
  · rw [if_pos e]
    unfold makeB at e
    simp only [Bool.and_eq_true, inB_iff] at e
    show (mk h m c.toNat s).length ≤ 6
    rw [mk_len]
    omega
  · rw [if_neg e]; exact Nat.zero_le _
theorem puzzleOk_erase {h : Int} {l : List IClue} (hp : puzzleOk h l = true) (k : Nat) : puzzleOk h (l.eraseIdx k) = true := by
  obtain ⟨h1, h2, h3, h4⟩ := puzzleOk_facts hp
  have := (List.eraseIdx_sublist l k).length_le
  exact puzzleOk_mk h1 h2 (by omega) (all_erase h4 k)
theorem erase_last : ∀ (l : List IClue) (k : Nat) (hk : k < l.length), k + 1 = l.length → l.eraseIdx k ++ [l[k]] = l
  | a :: l, 0, _, h => by
    have : l = [] := List.length_eq_zero_iff.1 (by rw [List.length_cons] at h; omega)
    subst this; rfl
  | a :: l, k + 1, hk, h => by
    show a :: (l.eraseIdx k ++ [l[k]'(by rw [List.length_cons] at hk; omega)]) = a :: l
    rw [erase_last l k (by rw [List.length_cons] at hk; omega) (by rw [List.length_cons] at h; omega)]
theorem tm_d10 {N : Nat} (hN : 10000 ≤ N) (h : Int) (l : List IClue) (k : Int) :
    laws_FnTimesMadeOfAll.d9 N k (dropR h l k).2.2 h l (dropR h l k).1 (dropR h l k).2.1 = some true := by
  unfold laws_FnTimesMadeOfAll.d9 laws_FnTimesMadeOfAll.o9 dropR
  by_cases e : (puzzleOk h l && inB k 0 ((l.length : Int) - 1)) = true
  · rw [if_pos e]
    simp only [Bool.and_eq_true, inB_iff] at e
    obtain ⟨h1, h2, h3, h4⟩ := puzzleOk_facts e.1
    obtain ⟨k, rfl⟩ := Int.eq_ofNat_of_zero_le (show 0 ≤ k by omega)
    dsimp only
    rw [cond_true, w64s (by omega) (by omega)]
    unfold laws_FnTimesMadeOfAll.d10 laws_FnTimesMadeOfAll.o10
    by_cases c : (k : Int) = (l.length : Int) - 1
    · have hk : k < l.length := by omega
      have hle : (l.eraseIdx k).length = l.length - 1 := by rw [List.length_eraseIdx, if_pos hk]
      have hcl : cok h l[k] = true := List.all_eq_true.1 h4 _ (List.getElem_mem hk)
      rw [ieqT c, cond_true, dcT (by omega), cond_true, dcT (by omega), cond_true, Int.toNat_natCast, getAt hk, Add_eq hN h _ (by omega), Option.bind_some]
      have ea : addR h (l.eraseIdx k) ⟨l[k].f0, l[k].f1, l[k].f2⟩ = (h, l, true) := by
        unfold addR
        rw [if_pos]
        · rw [show (⟨l[k].f0, l[k].f1, l[k].f2⟩ : S38) = l[k] from rfl, erase_last l k hk (by omega)]
        · simp only [Bool.and_eq_true, Bool.not_eq_true', decide_eq_false_iff_not]
          exact ⟨puzzleOk_erase e.1 k, hcl, by omega⟩
      rw [ea]
      dsimp only
      rw [cond_true, kPuzzle_eq hN h l (by omega)]; rfl
    · rw [ieqF c]; rfl
  · rw [if_neg e]
    rfl
theorem tm_d6 {N : Nat} (hN : 10000 ≤ N) (k d m h : Int) (l : List IClue) (hl : l.length * 24 ≤ 140737488351232) (a b c h' : Int) (l' : List IClue) (x y z : Int) :
    laws_FnTimesMadeOfAll.d6 N k d m h l a b c h' l' x y z = some true := by
  unfold laws_FnTimesMadeOfAll.d6 laws_FnTimesMadeOfAll.o6
  have hal := addR_len h l ⟨a, b, c⟩
  have hdl := dropR_len h' l' k
  rw [Add_eq hN h l hl, sAdd_eq hN, Drop_eq hN, sDrop_eq hN, doesFit_eq, sDoesFit_eq, isClue_eq, sIsClue_eq]
  simp only [Option.bind_some, beq_self_eq_true, Bool.not_true, cond_false]
  rw [kPuzzle_eq hN _ _ (by omega), Option.bind_some, Bool.not_true, cond_false, kPuzzle_eq hN _ _ (by omega), Option.bind_some, Bool.not_true, cond_false]
  have key : laws_FnTimesMadeOfAll.d7 N k (addR h l ⟨a, b, c⟩).2.2 (dropR h' l' k).2.2 false h l a b c h' l' (addR h l ⟨a, b, c⟩).1 (addR h l ⟨a, b, c⟩).2.1 (dropR h' l' k).1 (dropR h' l' k).2.1 = some true := by
    have fin := tm_d10 hN h' l' k
    unfold laws_FnTimesMadeOfAll.d7 laws_FnTimesMadeOfAll.o7
    rw [cond_false]
    by_cases e : (puzzleOk h l && (cok h ⟨a, b, c⟩ && !decide (l.length = 6))) = true
    · have ea : addR h l ⟨a, b, c⟩ = (h, l ++ [⟨a, b, c⟩], true) := if_pos e
      rw [Bool.and_eq_true] at e
      have hp := puzzleOk_add e.1 ⟨a, b, c⟩
      rw [e.2] at hp
      obtain ⟨h1, h2, h3, h4⟩ := puzzleOk_facts e.1
      rw [ea]
      dsimp only
      have hlen : (l ++ [(⟨a, b, c⟩ : S38)]).length = l.length + 1 := by simp
      have ed : dropR h (l ++ [⟨a, b, c⟩]) (l.length : Int) = (h, l, true) := by
        unfold dropR
        rw [if_pos (by rw [hp, Bool.true_and, inB_iff, hlen]; omega), Int.toNat_natCast, List.eraseIdx_append_of_length_le (Nat.le_refl _), Nat.sub_self]
        simp
      rw [cond_true, Drop_eq hN, Option.bind_some, ed]
      dsimp only
      rw [Bool.not_true, cond_false, kPuzzle_eq hN h l (by omega), Option.bind_some, Bool.not_true, cond_false, dcT (by omega), cond_true, dcT (by rw [hlen]; omega), cond_true, Int.toNat_natCast, List.getElem?_append_right (Nat.le_refl _), Nat.sub_self]
      show laws_FnTimesMadeOfAll.d8 N k (dropR h' l' k).2.2 (!((a == a) && ((b == b) && ((c == c) && true)))) h' l' (dropR h' l' k).1 (dropR h' l' k).2.1 = some true
      simp only [beq_self_eq_true, Bool.and_self, Bool.not_true]
      exact fin
    · have ea : addR h l ⟨a, b, c⟩ = (0, [], false) := if_neg e
      rw [ea]
      exact fin
  have hd : (dfit d x y z m).2 = true → (inB d 2 24 && clueOk d x y z) = true := by
    unfold dfit
    by_cases e : (inB d 2 24 && (clueOk d x y z && inB m 0 (60 * d - 1))) = true
    · intro _
      simp only [Bool.and_eq_true] at e ⊢
      exact ⟨e.1, e.2.1⟩
    · rw [if_neg e]; intro h; cases h
  cases e : (dfit d x y z m).2 with
  | true =>
    rw [cond_true, hd e, Bool.not_true]
    exact key
  | false =>
    rw [cond_false]
    exact key
theorem tm_d3 {N : Nat} (hN : 10000 ≤ N) (k d m q : Int) (l0 : List IClue) (h : Int) (l : List IClue) (hl : l.length * 24 ≤ 140737488351232) (a b c h' : Int) (l' : List IClue) (x y z : Int) :
    laws_FnTimesMadeOfAll.d3 N k d m q l0 h l a b c h' l' x y z = some true := by
  have fin := tm_d6 hN k d m h l hl a b c h' l' x y z
  unfold laws_FnTimesMadeOfAll.d3 laws_FnTimesMadeOfAll.o3
  have hhl := harderR_len q l0
  rw [Harder_eq hN, sHarder_eq hN, IsSolved_eq hN]
  simp only [Option.bind_some, beq_self_eq_true, Bool.not_true, cond_false]
  rw [kPuzzle_eq hN _ _ (by omega), Option.bind_some, Bool.not_true, cond_false, solvedB_of]
  have key : laws_FnTimesMadeOfAll.d4 N k d m (harderR q l0).2.2 false q l0 h l a b c h' l' x y z (harderR q l0).1 (harderR q l0).2.1 = some true := by
    unfold laws_FnTimesMadeOfAll.d4 laws_FnTimesMadeOfAll.o4
    rw [cond_false]
    by_cases e : solvedB q l0 = true
    · have er : harderR q l0 = (q, hard q l0.length l0 0, true) := if_pos e
      unfold solvedB at e
      rw [Bool.and_eq_true] at e
      obtain ⟨h1, h2, h3, h4⟩ := puzzleOk_facts e.1
      have hs : (sols q l0).length = 1 := of_decide_eq_true e.2
      have ho := harder_ok hs
      have hhl' := hard_len q l0.length l0 0
      have hpo : puzzleOk q (hard q l0.length l0 0) = true := puzzleOk_mk h1 h2 (by omega) (List.all_eq_true.2 fun c hc => List.all_eq_true.1 h4 c (ho.sub.subset hc))
      rw [er]
      dsimp only
      have es : solsB q l0 = (sols q l0, true) := if_pos e.1
      have es' : solsB q (hard q l0.length l0 0) = (sols q l0, true) := by unfold solsB; rw [if_pos hpo, ho.sol]
      have en : hvs (needP q (hard q l0.length l0 0)) (hard q l0.length l0 0).length = [] := hvs_none fun j hj => by
        have := ho.need j hj
        unfold needP
        rw [dcF]
        rw [ho.sol, hs]
        exact this
      rw [cond_true, Solutions_eq hN, Solutions_eq hN, es, es', Needless_eq hN, if_pos hpo, en]
      simp only [Option.bind_some, Bool.not_true, cond_false]
      rw [kSame_eq _ _ (by omega) (by omega), Option.bind_some, dcT rfl, Bool.not_true, cond_false, dcF (by omega), cond_false]
      exact fin
    · have er : harderR q l0 = (0, [], false) := if_neg e
      rw [er]
      exact fin
  have e1 : (harderR q l0).2.2 = solvedB q l0 := by
    unfold harderR
    cases e : solvedB q l0 <;> rfl
  have e2 : solvedB q l0 = true → (solsB q l0).2 = true := by
    unfold solvedB solsB
    intro e
    rw [Bool.and_eq_true] at e
    rw [if_pos e.1]
  cases e : (solsB q l0).2 with
  | true =>
    rw [cond_true, e1, beq_self_eq_true, Bool.not_true]
    rw [e1] at key
    exact key
  | false =>
    have : solvedB q l0 = false := by
      cases e3 : solvedB q l0 with
      | false => rfl
      | true => rw [e2 e3] at e; cases e
    rw [cond_false, e1, this, beq_self_eq_true, Bool.not_true]
    rw [e1, this] at key
    exact key
theorem tm_d1 {N : Nat} (hN : 10000 ≤ N) (h0 mi cl se k d m q : Int) (l0 : List IClue) (h : Int) (l : List IClue) (hl : l.length * 24 ≤ 140737488351232) (a b c h' : Int) (l' : List IClue) (x y z : Int) :
    laws_FnTimesMadeOfAll.d1 N h0 mi cl k d m (makeR h0 mi cl se).2.2 false q l0 h l a b c h' l' x y z (makeR h0 mi cl se).1 (makeR h0 mi cl se).2.1 = some true := by
  have fin := tm_d3 hN k d m q l0 h l hl a b c h' l' x y z
  unfold laws_FnTimesMadeOfAll.d1 laws_FnTimesMadeOfAll.o1
  rw [cond_false]
  by_cases e : makeB h0 mi cl se = true
  · have er : makeR h0 mi cl se = (h0, mk h0 mi cl.toNat se, true) := if_pos e
    rw [er]
    unfold makeB at e
    simp only [Bool.and_eq_true, inB_iff] at e
    obtain ⟨⟨h1, h2⟩, ⟨m1, m2⟩, ⟨c1, c2⟩, s1, s2⟩ := e
    obtain ⟨mi, rfl⟩ := Int.eq_ofNat_of_zero_le m1
    obtain ⟨a1, a2⟩ := mk_all h1 h2 m1 (by omega) cl.toNat se
    have hlen := mk_len h0 mi cl.toNat se
    have hp : puzzleOk h0 (mk h0 mi cl.toNat se) = true := puzzleOk_mk h1 h2 (by omega) a1
    have hin : (mi : Int) ∈ sols h0 (mk h0 mi cl.toNat se) := hvs_mem _ (by omega) a2
    have hsl := sols_len h2 (mk h0 mi cl.toNat se)
    have es : solsB h0 (mk h0 mi cl.toNat se) = (sols h0 (mk h0 mi cl.toNat se), true) := if_pos hp
    dsimp only
    rw [cond_true, Solutions_eq hN, isPuzzle_eq hN, hp, es]
    simp only [Option.bind_some, Bool.not_true, cond_false]
    rw [kHas_eq _ _ (by omega) (by omega), Option.bind_some, dcT hin, Bool.not_true, cond_false, ineF (by omega), cond_false, ineF rfl]
    exact fin
  · have er : makeR h0 mi cl se = (0, [], false) := if_neg e
    rw [er]
    exact fin
theorem FnTimesMadeOfAll.pure : FnTimesMadeOfAll.Pure := by
  intro y0 y1 y2 y3 y4 y5 y6 y7 y8 y9 y10 y11 w0 w1 w2 w3 w4 w5 w6 w7 w8 w9 w10 w11
  suffices hs : ∀ N, 10000 ≤ N → laws_FnTimesMadeOfAll.g N y0 y1 y2 y3 y4.1 y4.2 y5.1 y5.2 y6.1 y6.2.1 y6.2.2 y7.1 y7.2 y8 y9 y10.1 y10.2.1 y10.2.2 y11 = some true from ⟨10000, hs _ (Nat.le_refl _)⟩
  intro N hN
  have hml := makeR_len y0 y1 y2 y3
  unfold laws_FnTimesMadeOfAll.g laws_FnTimesMadeOfAll.o0
  rw [Make_eq hN, sMake_eq hN]
  simp only [Option.bind_some, beq_self_eq_true, Bool.not_true, cond_false]
  rw [kPuzzle_eq hN _ _ (by omega), Option.bind_some, Bool.not_true]
  exact tm_d1 hN y0 y1 y2 y3 y8 y9 y11 y4.1 y4.2 y5.1 y5.2 w5.2.2.1 y6.1 y6.2.1 y6.2.2 y7.1 y7.2 y10.1 y10.2.1 y10.2.2
end Go.Proofs.Ytpeleommbipeaaa.M

namespace Go.Proofs.Ytpeleommbipeaaa.M
open Go Go.PM Go.Proofs.Ytpeleommbipeaaa.P
set_option linter.unusedVariables false
set_option linter.unusedSimpArgs false
theorem tt_d9 {N : Nat} (hN : 10000 ≤ N) (h : Int) (l : List IClue) (k : Int) :
    laws_FnTimesMade.d9 N k (dropR h l k).2.2 h l (dropR h l k).1 (dropR h l k).2.1 = some true := tm_d10 hN h l k
theorem tt_d6 {N : Nat} (hN : 10000 ≤ N) {code : List Int} (hc : Bs code) : laws_FnTimesMade.d6 N code = some true := by
  unfold laws_FnTimesMade.d6 laws_FnTimesMade.o6
  refine Tot.get (Tot.bind (drawAdd_tot hN hc) ?_)
  rintro ⟨h, l, a, b, c⟩ hl
  dsimp only at hl ⊢
  rw [Add_eq hN h l (by omega), sAdd_eq hN, Option.bind_some, Option.bind_some]
  refine Tot.bind (drawDrop_tot hN hc) ?_
  rintro ⟨h', l', k⟩ _
  dsimp only
  rw [Drop_eq hN, sDrop_eq hN, Option.bind_some, Option.bind_some]
  refine Tot.bind (drawFit_tot hN hc) ?_
  rintro ⟨d, x, y, z, m⟩ _
  dsimp only
  have hal := addR_len h l ⟨a, b, c⟩
  have hdl := dropR_len h' l' k
  rw [doesFit_eq, sDoesFit_eq, isClue_eq, sIsClue_eq]
  simp only [Option.bind_some, beq_self_eq_true, Bool.not_true, cond_false]
  rw [kPuzzle_eq hN _ _ (by omega), Option.bind_some, Bool.not_true, cond_false, kPuzzle_eq hN _ _ (by omega), Option.bind_some, Bool.not_true, cond_false]
  have key : laws_FnTimesMade.d7 N (addR h l ⟨a, b, c⟩).2.2 k (dropR h' l' k).2.2 false h l a b c (addR h l ⟨a, b, c⟩).1 (addR h l ⟨a, b, c⟩).2.1 h' l' (dropR h' l' k).1 (dropR h' l' k).2.1 = some true := by
    have fin := tt_d9 hN h' l' k
    unfold laws_FnTimesMade.d7 laws_FnTimesMade.o7
    rw [cond_false]
    by_cases e : (puzzleOk h l && (cok h ⟨a, b, c⟩ && !decide (l.length = 6))) = true
    · have ea : addR h l ⟨a, b, c⟩ = (h, l ++ [⟨a, b, c⟩], true) := if_pos e
      rw [Bool.and_eq_true] at e
      have hp := puzzleOk_add e.1 ⟨a, b, c⟩
      rw [e.2] at hp
      obtain ⟨h1, h2, h3, h4⟩ := puzzleOk_facts e.1
      rw [ea]
      dsimp only
      have hlen : (l ++ [(⟨a, b, c⟩ : S38)]).length = l.length + 1 := by simp
      have ed : dropR h (l ++ [⟨a, b, c⟩]) (l.length : Int) = (h, l, true) := by
        unfold dropR
        rw [if_pos (by rw [hp, Bool.true_and, inB_iff, hlen]; omega), Int.toNat_natCast, List.eraseIdx_append_of_length_le (Nat.le_refl _), Nat.sub_self]
        simp
      rw [cond_true, Drop_eq hN, Option.bind_some, ed]
      dsimp only
      rw [Bool.not_true, cond_false, kPuzzle_eq hN h l (by omega), Option.bind_some, Bool.not_true, cond_false, dcT (by omega), cond_true, dcT (by rw [hlen]; omega), cond_true, Int.toNat_natCast, List.getElem?_append_right (Nat.le_refl _), Nat.sub_self]
      show laws_FnTimesMade.d8 N k (dropR h' l' k).2.2 (!((a == a) && ((b == b) && ((c == c) && true)))) h' l' (dropR h' l' k).1 (dropR h' l' k).2.1 = some true
      simp only [beq_self_eq_true, Bool.and_self, Bool.not_true]
      exact fin
    · have ea : addR h l ⟨a, b, c⟩ = (0, [], false) := if_neg e
      rw [ea]
      exact fin
  have hd : (dfit d x y z m).2 = true → (inB d 2 24 && clueOk d x y z) = true := by
    unfold dfit
    by_cases e : (inB d 2 24 && (clueOk d x y z && inB m 0 (60 * d - 1))) = true
    · intro _
      simp only [Bool.and_eq_true] at e ⊢
      exact ⟨e.1, e.2.1⟩
    · rw [if_neg e]; intro h; cases h
  refine Tot.of ?_
  cases e : (dfit d x y z m).2 with
  | true =>
    rw [cond_true, hd e, Bool.not_true]
    exact key
  | false =>
    rw [cond_false]
    exact key
theorem tt_d3 {N : Nat} (hN : 10000 ≤ N) {code : List Int} (hc : Bs code) : laws_FnTimesMade.d3 N code = some true := by
  have fin := tt_d6 hN hc
  unfold laws_FnTimesMade.d3 laws_FnTimesMade.o3
  refine Tot.get (Tot.bind (drawHarder_tot hN hc) ?_)
  rintro ⟨q, l0⟩ _
  dsimp only
  have hhl := harderR_len q l0
  rw [Harder_eq hN, sHarder_eq hN, IsSolved_eq hN]
  simp only [Option.bind_some, beq_self_eq_true, Bool.not_true, cond_false]
  rw [kPuzzle_eq hN _ _ (by omega), Option.bind_some, Bool.not_true, cond_false, solvedB_of]
  have key : laws_FnTimesMade.d4 N code (harderR q l0).2.2 false q l0 (harderR q l0).1 (harderR q l0).2.1 = some true := by
    unfold laws_FnTimesMade.d4 laws_FnTimesMade.o4
    rw [cond_false]
    by_cases e : solvedB q l0 = true
    · have er : harderR q l0 = (q, hard q l0.length l0 0, true) := if_pos e
      unfold solvedB at e
      rw [Bool.and_eq_true] at e
      obtain ⟨h1, h2, h3, h4⟩ := puzzleOk_facts e.1
      have hs : (sols q l0).length = 1 := of_decide_eq_true e.2
      have ho := harder_ok hs
      have hhl' := hard_len q l0.length l0 0
      have hpo : puzzleOk q (hard q l0.length l0 0) = true := puzzleOk_mk h1 h2 (by omega) (List.all_eq_true.2 fun c hc => List.all_eq_true.1 h4 c (ho.sub.subset hc))
      rw [er]
      dsimp only
      have es : solsB q l0 = (sols q l0, true) := if_pos e.1
      have es' : solsB q (hard q l0.length l0 0) = (sols q l0, true) := by unfold solsB; rw [if_pos hpo, ho.sol]
      have en : hvs (needP q (hard q l0.length l0 0)) (hard q l0.length l0 0).length = [] := hvs_none fun j hj => by
        have := ho.need j hj
        unfold needP
        rw [dcF]
        rw [ho.sol, hs]
        exact this
      rw [cond_true, Solutions_eq hN, Solutions_eq hN, es, es', Needless_eq hN, if_pos hpo, en]
      simp only [Option.bind_some, Bool.not_true, cond_false]
      rw [kSame_eq _ _ (by omega) (by omega), Option.bind_some, dcT rfl, Bool.not_true, cond_false, dcF (by omega), cond_false]
      exact fin
    · have er : harderR q l0 = (0, [], false) := if_neg e
      rw [er]
      exact fin
  have e1 : (harderR q l0).2.2 = solvedB q l0 := by
    unfold harderR
    cases e : solvedB q l0 <;> rfl
  have e2 : solvedB q l0 = true → (solsB q l0).2 = true := by
    unfold solvedB solsB
    intro e
    rw [Bool.and_eq_true] at e
    rw [if_pos e.1]
  refine Tot.of ?_
  cases e : (solsB q l0).2 with
  | true =>
    rw [cond_true, e1, beq_self_eq_true, Bool.not_true]
    rw [e1] at key
    exact key
  | false =>
    have : solvedB q l0 = false := by
      cases e3 : solvedB q l0 with
      | false => rfl
      | true => rw [e2 e3] at e; cases e
    rw [cond_false, e1, this, beq_self_eq_true, Bool.not_true]
    rw [e1, this] at key
    exact key
theorem tt_d1 {N : Nat} (hN : 10000 ≤ N) {code : List Int} (hc : Bs code) (h0 mi cl se : Int) : laws_FnTimesMade.d1 N code h0 mi cl (makeR h0 mi cl se).2.2 false (makeR h0 mi cl se).1 (makeR h0 mi cl se).2.1 = some true := by
  have fin := tt_d3 hN hc
  unfold laws_FnTimesMade.d1 laws_FnTimesMade.o1
  rw [cond_false]
  by_cases e : makeB h0 mi cl se = true
  · have er : makeR h0 mi cl se = (h0, mk h0 mi cl.toNat se, true) := if_pos e
    rw [er]
    unfold makeB at e
    simp only [Bool.and_eq_true, inB_iff] at e
    obtain ⟨⟨h1, h2⟩, ⟨m1, m2⟩, ⟨c1, c2⟩, s1, s2⟩ := e
    obtain ⟨mi, rfl⟩ := Int.eq_ofNat_of_zero_le m1
    obtain ⟨a1, a2⟩ := mk_all h1 h2 m1 (by omega) cl.toNat se
    have hlen := mk_len h0 mi cl.toNat se
    have hp : puzzleOk h0 (mk h0 mi cl.toNat se) = true := puzzleOk_mk h1 h2 (by omega) a1
    have hin : (mi : Int) ∈ sols h0 (mk h0 mi cl.toNat se) := hvs_mem _ (by omega) a2
    have hsl := sols_len h2 (mk h0 mi cl.toNat se)
    have es : solsB h0 (mk h0 mi cl.toNat se) = (sols h0 (mk h0 mi cl.toNat se), true) := if_pos hp
    dsimp only
    rw [cond_true, Solutions_eq hN, isPuzzle_eq hN, hp, es]
    simp only [Option.bind_some, Bool.not_true, cond_false]
    rw [kHas_eq _ _ (by omega) (by omega), Option.bind_some, dcT hin, Bool.not_true, cond_false, ineF (by omega), cond_false, ineF rfl]
    exact fin
  · have er : makeR h0 mi cl se = (0, [], false) := if_neg e
    rw [er]
    exact fin
theorem bs_of {y : List Int} (h : ∀ x ∈ y, (Lit.int .u8 x).wf = true) (hl : y.length ≤ 1048576) : Bs y := by
  refine ⟨hl, fun x hx => ?_⟩
  have := h x hx
  simp [Lit.wf, IntKind.min, IntKind.max, IntKind.signed, IntKind.bits] at this
  omega
theorem big_eq (N : Nat) (a b : List Int) (ha : a.length * 1 ≤ 140737488351232) : laws_big.g N a b = some true ∨ (laws_big.g N a b = some false ∧ a.length ≤ 1048576 ∧ b.length ≤ 1048576) := by
  unfold laws_big.g laws_big.o0
  by_cases h : (a.length : Int) > 1048576
  · rw [dcT h]; exact .inl rfl
  · rw [dcF h, w64s (by omega) (by omega), cond_false]
    by_cases h' : (b.length : Int) > 1048576 - (a.length : Int)
    · rw [dcT h']; exact .inl rfl
    · rw [dcF h']; exact .inr ⟨rfl, by omega, by omega⟩
theorem FnTimesMade.pure : FnTimesMade.Pure := by
  intro y0 y1 w0 w1
  suffices hs : ∀ N, 10000 ≤ N → laws_FnTimesMade.g N y0 y1 = some true from ⟨10000, hs _ (Nat.le_refl _)⟩
  intro N hN
  refine Tot.get ?_
  unfold laws_FnTimesMade.g laws_FnTimesMade.o0
  rcases big_eq N y0 y1 w0.2.1 with h | ⟨h, l0, l1⟩
  · rw [h]; exact Tot.now rfl
  rw [h, Option.bind_some, cond_false]
  have c0 := bs_of w0.2.2 l0
  have c1 := bs_of w1.2.2 l1
  refine Tot.bind (drawMake_tot N c0) ?_
  rintro ⟨h, m, c, s⟩ _
  dsimp only
  have hml := makeR_len h m c s
  rw [Make_eq hN, sMake_eq hN]
  simp only [Option.bind_some, beq_self_eq_true, Bool.not_true, cond_false]
  rw [kPuzzle_eq hN _ _ (by omega), Option.bind_some, Bool.not_true]
  exact Tot.of (tt_d1 hN c1 h m c s)
end Go.Proofs.Ytpeleommbipeaaa.M
