/- Plain lemmas about what the functions compute (part 1). No conditions but those stated. -/
import Derived.Test.YtpeleommbipeaaaGreatDoorFnFnTimesSolved5
namespace Go.Proofs.YtpeleommbipeaaaGreatDoor.M
open Go Go.PM Go.Proofs.YtpeleommbipeaaaGreatDoor.P
set_option linter.unusedVariables false
set_option linter.unusedSimpArgs false
def inB (a lo hi : Int) : Bool := decide (lo ≤ a) && decide (a ≤ hi)
theorem inB_iff {a lo hi : Int} : inB a lo hi = true ↔ lo ≤ a ∧ a ≤ hi := by simp [inB]
theorem within_eq (N : Nat) (a b c : Int) : zq31.g N a b c = some (inB a b c) := by
  unfold zq31.g zq31.o0 inB
  by_cases h : b ≤ a
  · rw [dcT (show a ≥ b from h)]; rfl
  · rw [dcF (show ¬ a ≥ b from h)]; rfl
theorem l1In_eq (N : Nat) (a b c : Int) : zq72.g N a b c = some (inB a b c) := by
  unfold zq72.g zq72.o0 inB
  by_cases h : b ≤ a
  · rw [dcT (show a ≥ b from h)]; rfl
  · rw [dcF (show ¬ a ≥ b from h)]; rfl
theorem isDial_eq (N : Nat) (a : Int) : zq21.g N a = some (inB a 2 24) := by
  unfold zq21.g zq21.o0; rw [within_eq]; rfl
theorem diHours_eq (N : Nat) (a : Int) : zq60.g N a = some (inB a 2 24) := by
  unfold zq60.g zq60.o0; rw [l1In_eq]; rfl
theorem tmodN (a b : Nat) : Int.tmod (a : Int) (b : Int) = ((a % b : Nat) : Int) := (Int.ofNat_tmod a b).symm
theorem tdivN (a b : Nat) : Int.tdiv (a : Int) (b : Int) = ((a / b : Nat) : Int) := (Int.ofNat_tdiv a b).symm
theorem w2add {a b : Nat} (h : a + b < 9000000000000000000) : w64 ((a : Int) + (b : Int)) = ((a + b : Nat) : Int) := by rw [w64s (by omega) (by omega)]; omega
theorem w1add {a : Nat} (h : a < 9000000000000000000) : w64 ((a : Int) + 1) = ((a + 1 : Nat) : Int) := by rw [w64s (by omega) (by omega)]; omega
theorem kSame_loop (N : Nat) (l m : List Int) (hl : l.length = m.length) (hs : l.length < 1000000000) : ∀ (k i n : Nat), l.length = i + k → k < n → zq38.l1 N n l m (l.length : Int) i = some (decide (l.drop i = m.drop i))
  | 0, i, n + 1, hi, hn => by
    unfold zq38.l1 zq38.d1 zq38.o1
    rw [dcF (by omega), cond_false, List.drop_eq_nil_of_le (by omega), List.drop_eq_nil_of_le (by omega)]; rfl
  | k + 1, i, n + 1, hi, hn => by
    unfold zq38.l1 zq38.d1 zq38.o1
    rw [dcT (by omega), dcT (by omega), cond_true, cond_true, cond_true, Int.toNat_natCast, getAt (by omega), cond_true, dcT (by omega), cond_true, getAt (by omega)]
    rw [List.drop_eq_getElem_cons (show i < l.length by omega), List.drop_eq_getElem_cons (show i < m.length by omega)]
    by_cases e : l[i] = m[i]
    · rw [ineF e, cond_false, w1add (by omega)]
      refine (kSame_loop N l m hl hs k (i+1) n (by omega) (by omega)).trans ?_
      rw [Option.some.injEq, e, decide_eq_decide]
      exact ⟨fun h => by rw [h], fun h => (List.cons.inj h).2⟩
    · rw [ineT e, cond_true, dcF (fun h => e (List.cons.inj h).1)]
  | _, _, 0, _, hn => by omega
theorem kSame_eq {N : Nat} (l m : List Int) (hs : l.length < 1000000000) (hN : l.length < N) : zq38.g N l m = some (decide (l = m)) := by
  unfold zq38.g zq38.o0
  by_cases e : l.length = m.length
  · rw [ineF (by omega), cond_false]
    exact kSame_loop N l m e hs l.length 0 N (by omega) hN
  · rw [ineT (by omega), cond_true, dcF (fun e' => e (by rw [e']))]
def kindOk (h k a b : Int) : Bool :=
  if k = 0 then inB a 0 (w64 (h - 1)) else if k = 1 then inB a 2 60 && inB b 0 (w64 (a - 1)) else if k = 2 then inB a 0 30 else if k = 3 then inB a 0 1 else if k = 4 then inB a 1 h else if k = 5 then inB a 0 59 else false
def clueOk (h k a b : Int) : Bool := (decide (k = 1) || decide (b = 0)) && kindOk h k a b
theorem bind_id {α : Type} (x : Option α) : (x.bind fun r => some r) = x := by cases x <;> rfl
theorem ieqD (a b : Int) : (a == b) = decide (a = b) := rfl
theorem condD {α : Type} {p : Prop} [Decidable p] (x y : α) : (bif decide p then x else y) = if p then x else y := by
  by_cases h : p
  · rw [dcT h, if_pos h]; rfl
  · rw [dcF h, if_neg h]; rfl
theorem ineD (a b : Int) : (a != b) = !decide (a = b) := rfl
theorem condN {α : Type} (b : Bool) (x y : α) : (bif !b then x else y) = bif b then y else x := by cases b <;> rfl
theorem pzClue_d (N : Nat) (h : Int) (e : Bool) (c a b : Int) : zq80.d1 N h e c a b = some (!e && kindOk h c a b) := by
  unfold zq80.d1 zq80.o1 kindOk
  cases e
  · rw [cond_false, Bool.not_false, Bool.true_and]
    simp only [l1In_eq, Option.bind_some, ieqD, condD]
    by_cases h1 : c = 1
    · subst h1
      simp only [Int.reduceEq, if_false, if_true]
      cases inB a 2 60 <;> rfl
    · simp only [h1, if_false]
      repeat' split
      all_goals rfl
  · rfl
theorem pzClue_eq (N : Nat) (h c a b : Int) : zq80.g N h c a b = some (clueOk h c a b) := by
  unfold zq80.g zq80.o0 clueOk
  simp only [pzClue_d, ineD, condN, condD]
  by_cases h1 : c = 1
  · simp [h1]
  · by_cases h2 : b = 0 <;> simp [h1, h2]
theorem isClue_d (N : Nat) (h : Int) (e : Bool) (c a b : Int) : zq6.d1 N h e c a b = some (!e && kindOk h c a b) := by
  unfold zq6.d1 zq6.o1 kindOk
  cases e
  · rw [cond_false, Bool.not_false, Bool.true_and]
    simp only [within_eq, Option.bind_some, ieqD, condD]
    by_cases h1 : c = 1
    · subst h1
      simp only [Int.reduceEq, if_false, if_true]
      cases inB a 2 60 <;> rfl
    · simp only [h1, if_false]
      repeat' split
      all_goals rfl
  · rfl
theorem isClue_eq (N : Nat) (h c a b : Int) : zq6.g N h c a b = some (inB h 2 24 && clueOk h c a b) := by
  unfold zq6.g zq6.o0 clueOk
  rw [isDial_eq, Option.bind_some]
  cases inB h 2 24
  · simp only [isClue_d, Bool.not_false, cond_true]; rfl
  · simp only [isClue_d, Bool.not_true, cond_false, ineD, condN, condD]
    by_cases h1 : c = 1
    · simp [h1]
    · by_cases h2 : b = 0 <;> simp [h1, h2]
/-! ### fitting -/
def mx (a b : Int) : Int := if a < b then b else a
def fitB (h k a b m : Int) : Bool :=
  if k = 0 then m / 60 == a
  else if k = 1 then m % 60 % a == b
  else if k = 2 then m / 60 / 10 + m / 60 % 10 + m % 60 / 10 + m % 10 == a
  else if k = 3 then decide ((h - 1) * m % (60 * h) < 30 * h) == (a == 1)
  else if k = 4 then m / 60 + 1 == a
  else mx (m / 60 - m % 60) (m % 60 - m / 60) == a
theorem told_ahead {h m : Int} (h1 : 2 ≤ h) (h2 : h ≤ 24) (m1 : 0 ≤ m) (m2 : m < 60 * h) :
    w64 (60 * h) = 60 * h ∧ w64 (30 * h) = 30 * h ∧ w64 ((w64 (h - 1)) * m) = (h - 1) * m ∧ w64 (m * (w64 (h - 1))) = (h - 1) * m ∧ Int.tmod ((h - 1) * m) (60 * h) = (h - 1) * m % (60 * h) ∧ 0 ≤ (h - 1) * m % (60 * h) ∧ (h - 1) * m % (60 * h) < 60 * h := by
  have hm : 0 ≤ (h - 1) * m := Int.mul_nonneg (by omega) m1
  have hm2 : (h - 1) * m ≤ 23 * 1440 := Int.mul_le_mul (by omega) (by omega) m1 (by omega)
  have e : m * (h - 1) = (h - 1) * m := Int.mul_comm _ _
  refine ⟨w64s (by omega) (by omega), w64s (by omega) (by omega), ?_, ?_, Int.tmod_eq_emod_of_nonneg hm, Int.emod_nonneg _ (by omega), Int.emod_lt_of_pos _ (by omega)⟩
  · rw [w64s (n := h - 1) (by omega) (by omega), w64s (by omega) (by omega)]
  · rw [w64s (n := h - 1) (by omega) (by omega), e, w64s (by omega) (by omega)]
theorem clueOk_facts {h k a b : Int} (hc : clueOk h k a b = true) : (k = 0 ∧ b = 0) ∨ (k = 1 ∧ 2 ≤ a ∧ a ≤ 60) ∨ (k = 2 ∧ b = 0) ∨ (k = 3 ∧ 0 ≤ a ∧ a ≤ 1 ∧ b = 0) ∨ (k = 4 ∧ b = 0) ∨ (k = 5 ∧ b = 0) := by
  simp only [clueOk, kindOk, Bool.and_eq_true, Bool.or_eq_true, decide_eq_true_eq] at hc
  obtain ⟨h1, h2⟩ := hc
  by_cases c0 : k = 0
  · subst c0; left; exact ⟨rfl, by omega⟩
  by_cases c1 : k = 1
  · subst c1
    simp only [Int.reduceEq, if_false, if_true, Bool.and_eq_true, inB_iff] at h2
    right; left; exact ⟨rfl, h2.1.1, h2.1.2⟩
  by_cases c2 : k = 2
  · subst c2; right; right; left; exact ⟨rfl, by omega⟩
  by_cases c3 : k = 3
  · subst c3
    simp only [Int.reduceEq, if_false, if_true, inB_iff] at h2
    right; right; right; left; exact ⟨rfl, h2.1, h2.2, by omega⟩
  by_cases c4 : k = 4
  · subst c4; right; right; right; right; left; exact ⟨rfl, by omega⟩
  by_cases c5 : k = 5
  · subst c5; right; right; right; right; right; exact ⟨rfl, by omega⟩
  · simp [c0, c1, c2, c3, c4, c5] at h2
theorem most_eq' (N : Nat) (a b : Int) : zq73.g N a b = some (if a > b then a else b) := by
  unfold zq73.g zq73.o0
  rw [condD]; split <;> rfl
/-- the strokes at the next full hour -/
theorem pzNext_eq (N : Nat) {h m : Int} (h1 : 2 ≤ h) (h2 : h ≤ 24) (m1 : 0 ≤ m) (m2 : m < 60 * h) : zq83.g N h m = some (m / 60 + 1) := by
  have q : Int.tdiv m 60 = m / 60 := Int.tdiv_eq_ediv_of_nonneg m1
  unfold zq83.g zq83.o0
  rw [ieqF (by omega), cond_false, bind_id, q, w64s (n := m / 60) (by omega) (by omega), w64s (n := m / 60 + 1) (by omega) (by omega), Int.tmod_eq_emod_of_nonneg (by omega)]
  have hlt : m / 60 + 1 ≤ h := by omega
  by_cases e : m / 60 + 1 = h
  · rw [e, Int.emod_self, w64s (n := 2 * 0) (by omega) (by omega)]
    rfl
  · rw [Int.emod_eq_of_lt (by omega) (by omega), w64s (by omega) (by omega)]
    unfold zq89.g zq89.o0
    rw [Int.tmod_eq_emod_of_nonneg (by omega), ieqF (by omega), cond_false, ieqF (by omega), cond_false, Int.tdiv_eq_ediv_of_nonneg (by omega), show 2 * (m / 60 + 1) / 2 = m / 60 + 1 by omega, w64s (by omega) (by omega)]
theorem pzAhead_eq (N : Nat) {h m : Int} (h1 : 2 ≤ h) (h2 : h ≤ 24) (m1 : 0 ≤ m) (m2 : m < 60 * h) : zq78.g N h m = some ((h - 1) * m % (60 * h)) := by
  obtain ⟨w1, w2, w3, w4, w5, w6, w7⟩ := told_ahead h1 h2 m1 m2
  unfold zq78.g zq78.o0
  rw [w1, ieqF (by omega), cond_false, cond_false, w3, w5, w64s (by omega) (by omega), Int.tmod_eq_emod_of_nonneg (by omega), Int.add_emod_right, Int.emod_emod_of_dvd _ (Int.dvd_refl _)]
theorem pzAbs_eq (N : Nat) {m : Int} (m1 : 0 ≤ m) (m2 : m < 1440) : zq63.g N (w64 (m / 60 - m % 60)) = some (mx (m / 60 - m % 60) (m % 60 - m / 60)) := by
  unfold zq63.g zq63.o0
  rw [bind_id, most_eq', w64s (n := m / 60 - m % 60) (by omega) (by omega), w64s (by omega) (by omega)]
  unfold mx
  by_cases e : m / 60 - m % 60 > 0 - (m / 60 - m % 60)
  · rw [if_pos e, if_neg (by omega)]
  · rw [if_neg e]
    by_cases e2 : m / 60 - m % 60 < m % 60 - m / 60
    · rw [if_pos e2, show 0 - (m / 60 - m % 60) = m % 60 - m / 60 by omega]
    · rw [if_neg e2, show 0 - (m / 60 - m % 60) = m / 60 - m % 60 by omega]
theorem digits_eq {m : Int} (m1 : 0 ≤ m) (m2 : m < 1440) : w64 (w64 (w64 (w64 (Int.tdiv (w64 (Int.tdiv m 60)) 10) + Int.tmod (w64 (Int.tdiv m 60)) 10) + w64 (Int.tdiv (Int.tmod m 60) 10)) + Int.tmod (Int.tmod m 60) 10) = m / 60 / 10 + m / 60 % 10 + m % 60 / 10 + m % 10 := by
  have q0 : 0 ≤ m / 60 := by omega
  have r0 : 0 ≤ m % 60 := by omega
  rw [Int.tdiv_eq_ediv_of_nonneg m1, Int.tmod_eq_emod_of_nonneg m1, w64s (n := m / 60) (by omega) (by omega), Int.tdiv_eq_ediv_of_nonneg q0, Int.tmod_eq_emod_of_nonneg q0, Int.tdiv_eq_ediv_of_nonneg r0, Int.tmod_eq_emod_of_nonneg r0]
  rw [w64s (n := m / 60 / 10) (by omega) (by omega), w64s (n := m % 60 / 10) (by omega) (by omega), w64s (n := m / 60 / 10 + m / 60 % 10) (by omega) (by omega), w64s (n := m / 60 / 10 + m / 60 % 10 + m % 60 / 10) (by omega) (by omega), w64s (by omega) (by omega)]
  omega
theorem pzFits_eq (N : Nat) {h k a b m : Int} (h1 : 2 ≤ h) (h2 : h ≤ 24) (m1 : 0 ≤ m) (m2 : m < 60 * h) (hc : clueOk h k a b = true) : zq81.g N h k a b m = some (fitB h k a b m) := by
  obtain ⟨w1, w2, w3, w4, w5, w6, w7⟩ := told_ahead h1 h2 m1 m2
  have q : Int.tdiv m 60 = m / 60 := Int.tdiv_eq_ediv_of_nonneg m1
  have r : Int.tmod m 60 = m % 60 := Int.tmod_eq_emod_of_nonneg m1
  have wq : w64 (m / 60) = m / 60 := w64s (by omega) (by omega)
  unfold zq81.g zq81.o0 fitB
  rw [digits_eq m1 (by omega), q, r, wq, pzAhead_eq N h1 h2 m1 m2, pzNext_eq N h1 h2 m1 m2, pzAbs_eq N m1 (by omega), w2]
  simp only [ieqD, condD, Option.bind_some]
  rcases clueOk_facts hc with ⟨rfl, _⟩ | ⟨rfl, a1, a2⟩ | ⟨rfl, _⟩ | ⟨rfl, a1, a2, _⟩ | ⟨rfl, _⟩ | ⟨rfl, _⟩
  · rfl
  · simp only [Int.reduceEq, if_false, if_true]
    rw [if_neg (by omega), Int.tmod_eq_emod_of_nonneg (by omega)]
  all_goals rfl
/-- the clue of a kind as minutes have it: its A and its B -/
def toldA (h k a m : Int) : Int :=
  if k = 0 then m / 60 else if k = 1 then a else if k = 2 then m / 60 / 10 + m / 60 % 10 + m % 60 / 10 + m % 10
  else if k = 3 then (if (h - 1) * m % (60 * h) < 30 * h then 1 else 0) else if k = 4 then m / 60 + 1 else if k = 5 then mx (m / 60 - m % 60) (m % 60 - m / 60) else 0
def toldB (k a m : Int) : Int := if k = 1 then m % 60 % a else 0
theorem told_eq (N : Nat) {h k a m : Int} (h1 : 2 ≤ h) (h2 : h ≤ 24) (m1 : 0 ≤ m) (m2 : m < 60 * h) (ha : k = 1 → 2 ≤ a) : zq30.g N h m k a = some (k, toldA h k a m, toldB k a m) := by
  obtain ⟨w1, w2, w3, w4, w5, w6, w7⟩ := told_ahead h1 h2 m1 m2
  have q : Int.tdiv m 60 = m / 60 := Int.tdiv_eq_ediv_of_nonneg m1
  have r : Int.tmod m 60 = m % 60 := Int.tmod_eq_emod_of_nonneg m1
  have wq : w64 (m / 60) = m / 60 := w64s (by omega) (by omega)
  unfold zq30.g zq30.o0 zq30.d1 zq30.o1 toldA toldB
  rw [digits_eq m1 (by omega), q, r, wq, w1, w4, w5, w64s (n := 2 * ((h - 1) * m % (60 * h))) (by omega) (by omega), w64s (n := m % 60 - m / 60) (by omega) (by omega), w64s (n := m / 60 - m % 60) (by omega) (by omega), w64s (n := m / 60 + 1) (by omega) (by omega)]
  simp only [ieqD, condD]
  by_cases c0 : k = 0
  · subst c0; rfl
  by_cases c1 : k = 1
  · subst c1
    have := ha rfl
    simp only [Int.reduceEq, if_false, if_true]
    rw [if_neg (by omega), Int.tmod_eq_emod_of_nonneg (by omega)]
  by_cases c2 : k = 2
  · subst c2; rfl
  by_cases c3 : k = 3
  · subst c3
    simp only [Int.reduceEq, if_false, if_true]
    rw [if_neg (by omega)]
    by_cases e : (h - 1) * m % (60 * h) < 30 * h
    · rw [if_pos (by omega), if_pos e]
    · rw [if_neg (by omega), if_neg e]
  by_cases c4 : k = 4
  · subst c4; rfl
  by_cases c5 : k = 5
  · subst c5
    simp only [Int.reduceEq, if_false, if_true]
    unfold mx
    by_cases e : m / 60 - m % 60 < m % 60 - m / 60
    · simp only [if_pos e, gt_iff_lt]
    · simp only [if_neg e, gt_iff_lt]
  · simp only [c0, c1, c2, c3, c4, c5, if_false]
theorem fits_eq (N : Nat) {h k a b m : Int} (h1 : 2 ≤ h) (h2 : h ≤ 24) (m1 : 0 ≤ m) (m2 : m < 60 * h) (hc : clueOk h k a b = true) : zq18.g N h m k a b = some (fitB h k a b m) := by
  unfold zq18.g zq18.o0 fitB
  have fs := clueOk_facts hc
  rw [told_eq N h1 h2 m1 m2 (by omega), Option.bind_some]
  unfold toldA toldB
  rcases fs with ⟨rfl, rfl⟩ | ⟨rfl, a1, a2⟩ | ⟨rfl, rfl⟩ | ⟨rfl, a1, a2, rfl⟩ | ⟨rfl, rfl⟩ | ⟨rfl, rfl⟩
  · simp
  · simp
  · simp
  · simp only [Int.reduceEq, if_false, if_true]
    by_cases e : (h - 1) * m % (60 * h) < 30 * h
    · rw [if_pos e, dcT e]
      by_cases e1 : a = 1
      · subst e1; simp
      · have : a = 0 := by omega
        subst this; simp
    · rw [if_neg e, dcF e]
      by_cases e1 : a = 1
      · subst e1; simp
      · have : a = 0 := by omega
        subst this; simp
  · simp
  · simp
theorem isMinute_eq (N : Nat) (h m : Int) : zq22.g N h m = some (inB h 2 24 && inB m 0 (60 * h - 1)) := by
  unfold zq22.g zq22.o0
  rw [isDial_eq, Option.bind_some]
  cases e : inB h 2 24 with
  | false => rfl
  | true =>
    have := inB_iff.1 e
    rw [cond_true, bind_id, w64s (n := 60 * h) (by omega) (by omega), w64s (by omega) (by omega), within_eq]; rfl
/-- an answer to 'does it fit' -/
def dfit (h k a b m : Int) : Bool × Bool := if (inB h 2 24 && (clueOk h k a b && inB m 0 (60 * h - 1))) = true then (fitB h k a b m, true) else (false, false)
theorem doesFit_eq (N : Nat) (h k a b m : Int) : zq2.g N h k a b m = some (dfit h k a b m) := by
  unfold zq2.g zq2.o0 zq2.d1 zq2.o1 dfit
  rw [isClue_eq, isMinute_eq, Option.bind_some, Option.bind_some]
  cases e : inB h 2 24 with
  | false => rfl
  | true =>
    cases e' : clueOk h k a b with
    | false => rfl
    | true =>
      cases e'' : inB m 0 (60 * h - 1) with
      | false => rfl
      | true =>
        have := inB_iff.1 e
        have := inB_iff.1 e''
        dsimp only
        rw [fits_eq N (by omega) (by omega) (by omega) (by omega) e']; rfl
/-! ### puzzles -/
abbrev IClue := S41
def cok (h : Int) (c : IClue) : Bool := clueOk h c.f0 c.f1 c.f2
def puzzleOk (h : Int) (l : List IClue) : Bool := inB h 2 24 && (decide (l.length ≤ 6) && l.all (cok h))
theorem puzzleOk_facts {h : Int} {l : List IClue} (hp : puzzleOk h l = true) : 2 ≤ h ∧ h ≤ 24 ∧ l.length ≤ 6 ∧ l.all (cok h) = true := by
  unfold puzzleOk at hp
  simp only [Bool.and_eq_true, inB_iff, decide_eq_true_eq] at hp
  exact ⟨hp.1.1, hp.1.2, hp.2.1, hp.2.2⟩
theorem puzzleOk_mk {h : Int} {l : List IClue} (h1 : 2 ≤ h) (h2 : h ≤ 24) (h3 : l.length ≤ 6) (h4 : l.all (cok h) = true) : puzzleOk h l = true := by
  unfold puzzleOk
  simp only [Bool.and_eq_true, inB_iff, decide_eq_true_eq]
  exact ⟨⟨h1, h2⟩, h3, h4⟩
theorem pzGood_loop (N : Nat) (h : Int) (hd : inB h 2 24 = true) (l : List IClue) (hl : l.length ≤ 6) : ∀ (k i n : Nat), l.length = i + k → k < n → zq82.l2 N n l (l.length : Int) i h l = some ((l.drop i).all (cok h))
  | 0, i, n + 1, hi, hn => by
    unfold zq82.l2 zq82.d2 zq82.o2
    rw [dcF (by omega), cond_false, List.drop_eq_nil_of_le (by omega)]; rfl
  | k + 1, i, n + 1, hi, hn => by
    unfold zq82.l2 zq82.d2 zq82.o2
    rw [dcT (by omega), cond_true, dcT (by omega), cond_true, cond_true, Int.toNat_natCast, getAt (by omega), pzClue_eq, Option.bind_some, List.drop_eq_getElem_cons (show i < l.length by omega), List.all_cons]
    show cond (!cok h l[i]) _ _ = _
    cases cok h l[i] with
    | false => rfl
    | true =>
      rw [Bool.not_true, cond_false, w1add (by omega), Bool.true_and]
      exact pzGood_loop N h hd l hl k (i+1) n (by omega) (by omega)
  | _, _, 0, _, hn => by omega
theorem pzGood_eq {N : Nat} (hN : 10000 ≤ N) (h : Int) (l : List IClue) : zq82.g N h l = some (puzzleOk h l) := by
  unfold zq82.g zq82.o0 zq82.d1 zq82.o1 puzzleOk
  rw [diHours_eq, Option.bind_some]
  cases e : inB h 2 24 with
  | false => rfl
  | true =>
    rw [Bool.not_true, cond_false, Bool.true_and]
    by_cases c : l.length ≤ 6
    · rw [dcF (by omega), dcT c, Bool.true_and]
      exact pzGood_loop N h e l c l.length 0 N (by omega) (by omega)
    · rw [dcT (show (l.length : Int) > 6 by omega), dcF c]; rfl
theorem isPz_loop (N : Nat) (h : Int) (hd : inB h 2 24 = true) (l m : List IClue) (hl : l.length ≤ 6) : ∀ (k i n : Nat), l.length = i + k → k < n → ∃ r, zq43.l1 N n l (l.length : Int) i h m = some (r, h, m) ∧ decide (r ≥ 0) = !(l.drop i).all (cok h)
  | 0, i, n + 1, hi, hn => by
    unfold zq43.l1 zq43.d1 zq43.o1
    rw [dcF (by omega), cond_false, List.drop_eq_nil_of_le (by omega)]
    exact ⟨_, rfl, rfl⟩
  | k + 1, i, n + 1, hi, hn => by
    unfold zq43.l1 zq43.d1 zq43.o1
    rw [dcT (by omega), cond_true, dcT (by omega), cond_true, cond_true, Int.toNat_natCast, getAt (by omega)]
    unfold zq8.g zq8.o0
    rw [isClue_eq, hd, Bool.true_and, Option.bind_some, Option.bind_some, List.drop_eq_getElem_cons (show i < l.length by omega), List.all_cons]
    show ∃ r, cond (!cok h l[i]) _ _ = _ ∧ _
    cases cok h l[i] with
    | false => exact ⟨_, rfl, by rw [dcT (show ((i : Nat) : Int) ≥ 0 by omega)]; rfl⟩
    | true =>
      rw [Bool.not_true, cond_false, w1add (by omega), Bool.true_and]
      exact isPz_loop N h hd l m hl k (i+1) n (by omega) (by omega)
  | _, _, 0, _, hn => by omega
theorem isPuzzle_eq {N : Nat} (hN : 10000 ≤ N) (h : Int) (l : List IClue) : zq7.g N h l = some (puzzleOk h l) := by
  unfold zq7.g zq7.o0 puzzleOk
  rw [isDial_eq, Option.bind_some]
  cases e : inB h 2 24 with
  | false => rfl
  | true =>
    rw [cond_true, Bool.true_and]
    by_cases c : l.length ≤ 6
    · rw [dcT (show (l.length : Int) ≤ 6 by omega), dcT c, Bool.true_and, cond_true]
      unfold zq41.g zq41.o0 zq43.g zq43.o0
      obtain ⟨r, h1, h2⟩ := isPz_loop N h e l l c l.length 0 N (by omega) (by omega)
      rw [show (fun w0 w1 w2 w3 w4 => zq43.l1 N N w0 w1 w2 w3 w4) l (↑l.length) 0 h l = some (r, h, l) from h1, Option.bind_some, Option.bind_some]
      dsimp only
      rw [h2, Bool.not_not, List.drop_zero]
    · rw [dcF (show ¬ (l.length : Int) ≤ 6 by omega), dcF c]; rfl
/-- the numbers below n that have a property, in order -/
def hvs (p : Nat → Bool) : Nat → List Int
  | 0 => []
  | n + 1 => hvs p n ++ (bif p n then [(n : Int)] else [])
theorem hvs_len_le (p : Nat → Bool) : ∀ n, (hvs p n).length ≤ n
  | 0 => Nat.le_refl _
  | n + 1 => by have := hvs_len_le p n; simp only [hvs, List.length_append]; cases p n <;> simp <;> omega
theorem hvs_mem (p : Nat → Bool) {x : Nat} : ∀ {n : Nat}, x < n → p x = true → (x : Int) ∈ hvs p n
  | n + 1, h, hp => by
    simp only [hvs]
    by_cases e : x = n
    · subst e; rw [hp]; simp
    · exact List.mem_append_left _ (hvs_mem p (by omega) hp)
theorem hvs_mono {p q : Nat → Bool} (h : ∀ x, p x = true → q x = true) : ∀ n, (hvs p n).length ≤ (hvs q n).length
  | 0 => Nat.le_refl _
  | n + 1 => by
    have := hvs_mono h n
    have h' := h n
    simp only [hvs, List.length_append]
    cases hp : p n with
    | false => simp; omega
    | true => rw [h' hp]; simp; omega
theorem hvs_same {p q : Nat → Bool} (h : ∀ x, p x = true → q x = true) : ∀ n, (hvs p n).length = (hvs q n).length → hvs p n = hvs q n
  | 0, _ => rfl
  | n + 1, he => by
    have m := hvs_mono h n
    have h' := h n
    simp only [hvs, List.length_append] at he ⊢
    cases hp : p n with
    | false =>
      cases hq : q n with
      | false => simp only [hp, hq, cond_false, List.length_nil] at he ⊢; rw [hvs_same h n (by omega)]
      | true => simp only [hp, hq, cond_false, cond_true, List.length_nil, List.length_cons] at he; omega
    | true =>
      have hq := h' hp
      simp only [hp, hq, cond_true, List.length_cons, List.length_nil] at he ⊢
      rw [hvs_same h n (by omega)]
/-- the minutes that fit all clues -/
def fitsAll (h : Int) (l : List IClue) (m : Int) : Bool := l.all fun c => fitB h c.f0 c.f1 c.f2 m
def sols (h : Int) (l : List IClue) : List Int := hvs (fun x => fitsAll h l x) (60 * h.toNat)
theorem sols_len {h : Int} (h2 : h ≤ 24) (l : List IClue) : (sols h l).length ≤ 1440 := by
  have := hvs_len_le (fun x => fitsAll h l x) (60 * h.toNat)
  unfold sols; omega
theorem w60 {h : Int} (h1 : 2 ≤ h) (h2 : h ≤ 24) : w64 (60 * h) = ((60 * h.toNat : Nat) : Int) := by rw [w64s (by omega) (by omega)]; omega
theorem solIdx_loop (N : Nat) {h : Int} (h1 : 2 ≤ h) (h2 : h ≤ 24) (l : List IClue) (hl : l.length ≤ 100) (hc : l.all (cok h) = true) {m : Int} (m1 : 0 ≤ m) (m2 : m < 60 * h) : ∀ (k i n : Nat), l.length = i + k → k < n → ∃ r, zq44.l1 N n l (l.length : Int) i h m = some (r, h, m) ∧ decide (r ≥ 0) = !fitsAll h (l.drop i) m
  | 0, i, n + 1, hi, hn => by
    unfold zq44.l1 zq44.d1 zq44.o1
    rw [dcF (by omega), cond_false, List.drop_eq_nil_of_le (by omega)]
    exact ⟨_, rfl, rfl⟩
  | k + 1, i, n + 1, hi, hn => by
    have hci := List.all_eq_true.1 hc l[i] (List.getElem_mem (by omega))
    unfold zq44.l1 zq44.d1 zq44.o1
    rw [dcT (by omega), cond_true, dcT (by omega), cond_true, cond_true, Int.toNat_natCast, getAt (by omega)]
    unfold zq28.g zq28.o0 fitsAll
    rw [fits_eq N h1 h2 m1 m2 hci, Option.bind_some, Option.bind_some, List.drop_eq_getElem_cons (show i < l.length by omega), List.all_cons]
    dsimp only
    cases fitB h l[i].f0 l[i].f1 l[i].f2 m with
    | false => exact ⟨_, rfl, by rw [dcT (show ((i : Nat) : Int) ≥ 0 by omega)]; rfl⟩
    | true =>
      rw [Bool.not_true, cond_false, w1add (by omega), Bool.true_and]
      exact solIdx_loop N h1 h2 l hl hc m1 m2 k (i+1) n (by omega) (by omega)
  | _, _, 0, _, hn => by omega
theorem solHas_eq {N : Nat} (hN : 10000 ≤ N) {h : Int} (h1 : 2 ≤ h) (h2 : h ≤ 24) (l : List IClue) (hl : l.length ≤ 100) (hc : l.all (cok h) = true) {m : Int} (m1 : 0 ≤ m) (m2 : m < 60 * h) : zq42.g N l h m = some (!fitsAll h l m, h, m) := by
  unfold zq42.g zq42.o0 zq44.g zq44.o0
  obtain ⟨r, e1, e2⟩ := solIdx_loop N h1 h2 l hl hc m1 m2 l.length 0 N (by omega) (by omega)
  rw [show (fun w0 w1 w2 w3 w4 => zq44.l1 N N w0 w1 w2 w3 w4) l (↑l.length) 0 h m = some (r, h, m) from e1, Option.bind_some]
  dsimp only
  rw [e2, List.drop_zero]
theorem solutions_loop {N : Nat} (hN : 10000 ≤ N) {h : Int} (h1 : 2 ≤ h) (h2 : h ≤ 24) (l : List IClue) (hl : l.length ≤ 100) (hc : l.all (cok h) = true) : ∀ (k i n : Nat), 60 * h.toNat = i + k → k < n → zq27.l1 N n l (hvs (fun x => fitsAll h l x) i) ((60 * h.toNat : Nat) : Int) i h = some (sols h l)
  | 0, i, n + 1, hi, hn => by
    have : i = 60 * h.toNat := by omega
    subst this
    unfold zq27.l1 zq27.d1 zq27.o1
    rw [dcF (by omega)]; rfl
  | k + 1, i, n + 1, hi, hn => by
    have hle := hvs_len_le (fun x => fitsAll h l x) i
    unfold zq27.l1 zq27.d1 zq27.o1
    rw [dcT (by omega), cond_true, solHas_eq hN h1 h2 l hl hc (by omega) (by omega), Option.bind_some, w1add (by omega)]
    dsimp only
    rw [Bool.not_not]
    have ih := solutions_loop hN h1 h2 l hl hc k (i+1) n (by omega) (by omega)
    simp only [hvs] at ih
    cases hp : fitsAll h l i with
    | true =>
      rw [hp, cond_true] at ih
      rw [cond_true, blT (by simp; omega), cond_true]
      exact ih
    | false =>
      rw [hp, cond_false, List.append_nil] at ih
      rw [cond_false]
      exact ih
  | _, _, 0, _, hn => by omega
theorem solutions_eq {N : Nat} (hN : 10000 ≤ N) {h : Int} (h1 : 2 ≤ h) (h2 : h ≤ 24) (l : List IClue) (hl : l.length ≤ 100) (hc : l.all (cok h) = true) : zq27.g N h l = some (sols h l) := by
  unfold zq27.g zq27.o0
  dsimp only
  rw [w60 h1 h2]
  exact solutions_loop hN h1 h2 l hl hc (60 * h.toNat) 0 N (by omega) (by omega)
theorem pzIn6 (N : Nat) {h : Int} (h1 : 2 ≤ h) (h2 : h ≤ 24) (l : List IClue) (hl : l.length ≤ 100) (hc : l.all (cok h) = true) {m : Nat} (m2 : (m : Int) < 60 * h) (out : List Int) (ho : out.length ≤ 2000) (C1 : Int → List IClue → Int → Option zq79.R) (C5 : Int → List IClue → List Int → Int → Option zq79.R) : ∀ (k i n : Nat) (b : Bool), l.length = i + k → k < n →
    zq79.l6 N n h l out m b l (l.length : Int) i C1 C5 = bif b && fitsAll h (l.drop i) m then C5 h l (out ++ [(m : Int)]) ((m + 1 : Nat) : Int) else C5 h l out ((m + 1 : Nat) : Int)
  | 0, i, n + 1, b, hi, hn => by
    unfold zq79.l6 zq79.d6 zq79.o6 zq79.d3 zq79.o3
    rw [dcF (by omega), cond_false, List.drop_eq_nil_of_le (by omega)]
    cases b with
    | true => rw [cond_true, blT (by simp; omega), cond_true]; dsimp only; rw [w1add (by omega)]; rfl
    | false => rw [cond_false]; dsimp only; rw [w1add (by omega)]; rfl
  | k + 1, i, n + 1, b, hi, hn => by
    have hci := List.all_eq_true.1 hc l[i] (List.getElem_mem (by omega))
    unfold zq79.l6 zq79.d6 zq79.o6
    rw [dcT (by omega), cond_true, dcT (by omega), cond_true, cond_true, Int.toNat_natCast, getAt (by omega), w1add (by omega)]
    have e : fitsAll h (l.drop i) m = (fitB h l[i].f0 l[i].f1 l[i].f2 m && fitsAll h (l.drop (i+1)) m) := by
      unfold fitsAll; rw [List.drop_eq_getElem_cons (show i < l.length by omega), List.all_cons]
    rw [e]
    cases b with
    | true =>
      rw [cond_true, pzFits_eq N h1 h2 (by omega) m2 hci, Option.bind_some, Bool.true_and]
      exact pzIn6 N h1 h2 l hl hc m2 out ho C1 C5 k (i+1) n _ (by omega) (by omega)
    | false =>
      rw [cond_false]
      refine (pzIn6 N h1 h2 l hl hc m2 out ho C1 C5 k (i+1) n _ (by omega) (by omega)).trans ?_
      rw [Bool.false_and, Bool.false_and]
  | _, _, 0, _, _, hn => by omega
theorem pzIn2 (N : Nat) {h : Int} (h1 : 2 ≤ h) (h2 : h ≤ 24) (l : List IClue) (hl : l.length ≤ 100) (hc : l.all (cok h) = true) {m : Nat} (m2 : (m : Int) < 60 * h) (C1 : Int → List IClue → Int → Option zq79.R) (C5 : Int → List IClue → List Int → Int → Option zq79.R) : ∀ (k i n : Nat) (b : Bool), l.length = i + k → k < n →
    zq79.l2 N n h l m b l (l.length : Int) i C1 C5 = bif b && fitsAll h (l.drop i) m then C5 h l [(m : Int)] ((m + 1 : Nat) : Int) else C1 h l ((m + 1 : Nat) : Int)
  | 0, i, n + 1, b, hi, hn => by
    unfold zq79.l2 zq79.d2 zq79.o2 zq79.d3 zq79.o3 zq79.d4 zq79.o4
    rw [dcF (by omega), cond_false, List.drop_eq_nil_of_le (by omega)]
    cases b with
    | true => rw [cond_true, blT (by simp), cond_true]; dsimp only; rw [w1add (by omega)]; rfl
    | false => rw [cond_false]; dsimp only; rw [w1add (by omega)]; rfl
  | k + 1, i, n + 1, b, hi, hn => by
    have hci := List.all_eq_true.1 hc l[i] (List.getElem_mem (by omega))
    unfold zq79.l2 zq79.d2 zq79.o2
    rw [dcT (by omega), cond_true, dcT (by omega), cond_true, cond_true, Int.toNat_natCast, getAt (by omega), w1add (by omega)]
    have e : fitsAll h (l.drop i) m = (fitB h l[i].f0 l[i].f1 l[i].f2 m && fitsAll h (l.drop (i+1)) m) := by
      unfold fitsAll; rw [List.drop_eq_getElem_cons (show i < l.length by omega), List.all_cons]
    rw [e]
    cases b with
    | true =>
      rw [cond_true, pzFits_eq N h1 h2 (by omega) m2 hci, Option.bind_some, Bool.true_and]
      exact pzIn2 N h1 h2 l hl hc m2 C1 C5 k (i+1) n _ (by omega) (by omega)
    | false =>
      rw [cond_false]
      refine (pzIn2 N h1 h2 l hl hc m2 C1 C5 k (i+1) n _ (by omega) (by omega)).trans ?_
      rw [Bool.false_and, Bool.false_and]
  | _, _, 0, _, _, hn => by omega
theorem pzAll_loop {N : Nat} (hN : 10000 ≤ N) {h : Int} (h1 : 2 ≤ h) (h2 : h ≤ 24) (l : List IClue) (hl : l.length ≤ 100) (hc : l.all (cok h) = true) : ∀ (k i n : Nat), 60 * h.toNat = i + k → k < n → zq79.l5 N n h l (hvs (fun x => fitsAll h l x) i) i = some (sols h l)
  | 0, i, n + 1, hi, hn => by
    have : i = 60 * h.toNat := by omega
    subst this
    unfold zq79.l5 zq79.d5 zq79.o5
    rw [w60 h1 h2, dcF (by omega)]; rfl
  | k + 1, i, n + 1, hi, hn => by
    have hle := hvs_len_le (fun x => fitsAll h l x) i
    unfold zq79.l5 zq79.d5 zq79.o5
    rw [w60 h1 h2, dcT (by omega), cond_true]
    have := pzIn6 N h1 h2 l hl hc (m := i) (by omega) (hvs (fun x => fitsAll h l x) i) (by omega) (fun w0 w1 w2 => zq79.l1 N n w0 w1 w2) (fun w0 w1 w2 w3 => zq79.l5 N n w0 w1 w2 w3) l.length 0 N true (by omega) (by omega)
    refine this.trans ?_
    have ih := pzAll_loop hN h1 h2 l hl hc k (i+1) n (by omega) (by omega)
    simp only [hvs] at ih
    rw [List.drop_zero, Bool.true_and]
    cases hp : fitsAll h l i with
    | true => rw [hp, cond_true] at ih; exact ih
    | false => rw [hp, cond_false, List.append_nil] at ih; exact ih
  | _, _, 0, _, hn => by omega
theorem pzAll_loop1 {N : Nat} (hN : 10000 ≤ N) {h : Int} (h1 : 2 ≤ h) (h2 : h ≤ 24) (l : List IClue) (hl : l.length ≤ 100) (hc : l.all (cok h) = true) : ∀ (k i n : Nat), 60 * h.toNat = i + k → k < n → hvs (fun x => fitsAll h l x) i = [] → zq79.l1 N n h l i = some (sols h l)
  | 0, i, n + 1, hi, hn, h0 => by
    have : i = 60 * h.toNat := by omega
    subst this
    unfold zq79.l1 zq79.d1 zq79.o1 sols
    rw [w60 h1 h2, dcF (by omega), h0]; rfl
  | k + 1, i, n + 1, hi, hn, h0 => by
    unfold zq79.l1 zq79.d1 zq79.o1
    rw [w60 h1 h2, dcT (by omega), cond_true]
    have := pzIn2 N h1 h2 l hl hc (m := i) (by omega) (fun w0 w1 w2 => zq79.l1 N n w0 w1 w2) (fun w0 w1 w2 w3 => zq79.l5 N n w0 w1 w2 w3) l.length 0 N true (by omega) (by omega)
    refine this.trans ?_
    rw [List.drop_zero, Bool.true_and]
    cases hp : fitsAll h l i with
    | true =>
      have ih := pzAll_loop hN h1 h2 l hl hc k (i+1) n (by omega) (by omega)
      simp only [hvs] at ih
      rw [hp, cond_true, h0] at ih
      exact ih
    | false =>
      exact pzAll_loop1 hN h1 h2 l hl hc k (i+1) n (by omega) (by omega) (by simp only [hvs]; rw [hp, h0]; rfl)
  | _, _, 0, _, hn, _ => by omega
theorem pzAll_eq {N : Nat} (hN : 10000 ≤ N) {h : Int} (h1 : 2 ≤ h) (h2 : h ≤ 24) (l : List IClue) (hl : l.length ≤ 100) (hc : l.all (cok h) = true) : zq79.g N h l = some (sols h l) :=
  pzAll_loop1 hN h1 h2 l hl hc (60 * h.toNat) 0 N (by omega) (by omega) rfl
theorem pzSolved_eq {N : Nat} (hN : 10000 ≤ N) {h : Int} (h1 : 2 ≤ h) (h2 : h ≤ 24) (l : List IClue) (hl : l.length ≤ 100) (hc : l.all (cok h) = true) : zq86.g N h l = some (((sols h l).length : Int) == 1) := by
  unfold zq86.g zq86.o0
  rw [pzAll_eq hN h1 h2 l hl hc]; rfl
def solsB (h : Int) (l : List IClue) : List Int × Bool := if puzzleOk h l = true then (sols h l, true) else ([], false)
theorem Solutions_eq {N : Nat} (hN : 10000 ≤ N) (h : Int) (l : List IClue) : zq17.g N h l = some (solsB h l) := by
  unfold zq17.g zq17.o0 solsB
  rw [isPuzzle_eq hN, Option.bind_some]
  cases e : puzzleOk h l with
  | false => rfl
  | true =>
    obtain ⟨h1, h2, h3, h4⟩ := puzzleOk_facts e
    rw [Bool.not_true, cond_false, solutions_eq hN h1 h2 l (by omega) h4]; rfl
theorem Count_eq {N : Nat} (hN : 10000 ≤ N) (h : Int) (l : List IClue) : zq1.g N h l = some (((solsB h l).1.length : Int), (solsB h l).2) := by
  unfold zq1.g zq1.o0
  rw [Solutions_eq hN]; rfl
theorem IsSolved_eq {N : Nat} (hN : 10000 ≤ N) (h : Int) (l : List IClue) : zq9.g N h l = some (((solsB h l).1.length : Int) == 1, (solsB h l).2) := by
  unfold zq9.g zq9.o0
  rw [Count_eq hN]; rfl
theorem without_eq (N : Nat) {l : List IClue} (hl : l.length ≤ 100) {k : Nat} (hk : k < l.length) : zq32.g N l k = some (l.eraseIdx k) := by
  unfold zq32.g
  rw [dcT (by omega), dcT (by omega), cond_true, cond_true, show Nat.ble (l.length * 24) 140737488355328 = true by rw [Nat.ble_eq]; omega, cond_true, Int.toNat_natCast]
theorem pzWithout_eq (N : Nat) {l : List IClue} (hl : l.length ≤ 100) {k : Nat} (hk : k < l.length) : zq88.g N l k = some (l.eraseIdx k) := by
  unfold zq88.g zq88.o0
  rw [dcT (by omega), dcT (by omega), cond_true, cond_true, cond_true, w1add (by omega), Int.toNat_natCast, Int.toNat_natCast, Int.toNat_natCast, List.take_length, blT (by simp; omega), cond_true, dcT (by omega), cond_true, dcT (by omega), cond_true, dcT (by omega), cond_true, dcT (by omega), cond_true, blT (by simp; omega), cond_true]
  rw [List.eraseIdx_eq_take_drop_succ]
  simp
/-! ### harder puzzles -/
theorem all_erase {h : Int} {l : List IClue} (hc : l.all (cok h) = true) (k : Nat) : (l.eraseIdx k).all (cok h) = true :=
  List.all_eq_true.2 fun c hm => List.all_eq_true.1 hc c ((List.eraseIdx_sublist l k).subset hm)
theorem fits_sub {h : Int} {l m : List IClue} (hs : l.Sublist m) (x : Nat) (hx : fitsAll h m x = true) : fitsAll h l x = true :=
  List.all_eq_true.2 fun c hc => List.all_eq_true.1 hx c (hs.subset hc)
theorem sols_sub {h : Int} {l m : List IClue} (hs : l.Sublist m) : (sols h m).length ≤ (sols h l).length := hvs_mono (fun x => fits_sub hs x) _
theorem sols_sub_eq {h : Int} {l m : List IClue} (hs : l.Sublist m) (he : (sols h m).length = (sols h l).length) : sols h m = sols h l := hvs_same (fun x => fits_sub hs x) _ he
/-- what a harder puzzle is -/
structure HardOk (h : Int) (l0 l : List IClue) : Prop where
  sub : l.Sublist l0
  sol : sols h l = sols h l0
  need : ∀ j, j < l.length → (sols h (l.eraseIdx j)).length ≠ 1
def needP (h : Int) (l : List IClue) (k : Nat) : Bool := decide ((sols h (l.eraseIdx k)).length = (sols h l).length)
theorem need_loop {N : Nat} (hN : 10000 ≤ N) {h : Int} (h1 : 2 ≤ h) (h2 : h ≤ 24) (l : List IClue) (hl : l.length ≤ 100) (hc : l.all (cok h) = true) : ∀ (d k n : Nat), l.length = k + d → d < n → zq13.l1 N n ((sols h l).length : Int) (hvs (needP h l) k) (l.length : Int) k h l = some (hvs (needP h l) l.length, true)
  | 0, k, n + 1, hi, hn => by
    have : k = l.length := by omega
    subst this
    unfold zq13.l1 zq13.d1 zq13.o1
    rw [dcF (by omega)]; rfl
  | d + 1, k, n + 1, hi, hn => by
    have hle : (l.eraseIdx k).length = l.length - 1 := by rw [List.length_eraseIdx, if_pos (by omega)]
    have hvl := hvs_len_le (needP h l) k
    unfold zq13.l1 zq13.d1 zq13.o1
    rw [dcT (by omega), cond_true, without_eq N hl (by omega), Option.bind_some, solutions_eq hN h1 h2 _ (by omega) (all_erase hc k), Option.bind_some, w1add (by omega)]
    have ih := need_loop hN h1 h2 l hl hc d (k+1) n (by omega) (by omega)
    simp only [hvs] at ih
    by_cases e : (sols h (l.eraseIdx k)).length = (sols h l).length
    · have e' : needP h l k = true := dcT e
      rw [e', cond_true] at ih
      rw [ieqT (by omega), cond_true, blT (by simp; omega), cond_true]
      exact ih
    · have e' : needP h l k = false := dcF e
      rw [e', cond_false, List.append_nil] at ih
      rw [ieqF (by omega), cond_false]
      exact ih
  | _, _, 0, _, hn => by omega
theorem Needless_eq {N : Nat} (hN : 10000 ≤ N) (h : Int) (l : List IClue) : zq13.g N h l = some (if puzzleOk h l = true then (hvs (needP h l) l.length, true) else ([], false)) := by
  unfold zq13.g zq13.o0
  rw [Count_eq hN, Option.bind_some]
  unfold solsB
  cases e : puzzleOk h l with
  | false => rfl
  | true =>
    obtain ⟨h1, h2, h3, h4⟩ := puzzleOk_facts e
    rw [if_pos rfl, if_pos rfl]
    dsimp only
    rw [Bool.not_true, cond_false]
    exact need_loop hN h1 h2 l (by omega) h4 l.length 0 N (by omega) (by omega)
def dropR (h : Int) (l : List IClue) (k : Int) : Int × List IClue × Bool := if (puzzleOk h l && inB k 0 ((l.length : Int) - 1)) = true then (h, l.eraseIdx k.toNat, true) else (0, [], false)
theorem Drop_eq {N : Nat} (hN : 10000 ≤ N) (h : Int) (l : List IClue) (k : Int) : zq3.g N h l k = some (dropR h l k) := by
  unfold zq3.g zq3.o0 zq3.d1 zq3.o1 dropR
  rw [isPuzzle_eq hN, Option.bind_some]
  cases e : puzzleOk h l with
  | false => rfl
  | true =>
    obtain ⟨h1, h2, h3, h4⟩ := puzzleOk_facts e
    rw [Bool.not_true, cond_false, w64s (by omega) (by omega), within_eq, Option.bind_some, Bool.true_and]
    cases e' : inB k 0 ((l.length : Int) - 1) with
    | false => rfl
    | true =>
      have e2 := inB_iff.1 e'
      obtain ⟨k, rfl⟩ := Int.eq_ofNat_of_zero_le (show 0 ≤ k by omega)
      dsimp only
      rw [Bool.not_true, cond_false, without_eq N (by omega) (by omega)]; rfl
theorem pzOf_eq (N : Nat) {h k a m : Int} (h1 : 2 ≤ h) (h2 : h ≤ 24) (m1 : 0 ≤ m) (m2 : m < 60 * h) (k1 : 0 ≤ k) (k2 : k ≤ 5) (ha : k = 1 → 2 ≤ a) : zq84.g N h k a m = some (k, toldA h k a m, toldB k a m) := by
  obtain ⟨w1, w2, w3, w4, w5, w6, w7⟩ := told_ahead h1 h2 m1 m2
  have q : Int.tdiv m 60 = m / 60 := Int.tdiv_eq_ediv_of_nonneg m1
  have r : Int.tmod m 60 = m % 60 := Int.tmod_eq_emod_of_nonneg m1
  have wq : w64 (m / 60) = m / 60 := w64s (by omega) (by omega)
  unfold zq84.g zq84.o0 toldA toldB
  rw [digits_eq m1 (by omega), q, r, wq, pzAhead_eq N h1 h2 m1 m2, pzNext_eq N h1 h2 m1 m2, pzAbs_eq N m1 (by omega), w2]
  simp only [ieqD, condD, Option.bind_some]
  by_cases c0 : k = 0
  · subst c0; rfl
  by_cases c1 : k = 1
  · subst c1
    have := ha rfl
    simp only [Int.reduceEq, if_false, if_true]
    rw [if_neg (by omega), Int.tmod_eq_emod_of_nonneg (by omega)]
  by_cases c2 : k = 2
  · subst c2; rfl
  by_cases c3 : k = 3
  · subst c3
    simp only [Int.reduceEq, if_false, if_true]
    by_cases e : (h - 1) * m % (60 * h) < 30 * h
    · rw [if_pos e, if_pos e]
    · rw [if_neg e, if_neg e]
  by_cases c4 : k = 4
  · subst c4; rfl
  have c5 : k = 5 := by omega
  subst c5; rfl
def nx (z : Int) : Int := (163 * z + 2917) % 10009
def mkA (z : Int) : Int := if nx z % 6 = 1 then nx (nx z) % 59 + 2 else 0
def mkZ (z : Int) : Int := if nx z % 6 = 1 then nx (nx z) else nx z
def mkC (h m z : Int) : IClue := ⟨nx z % 6, toldA h (nx z % 6) (mkA z) m, toldB (nx z % 6) (mkA z) m⟩
def mk (h m : Int) : Nat → Int → List IClue
  | 0, _ => []
  | n + 1, z => mkC h m z :: mk h m n (mkZ z)
/-- a told clue is one that the minutes fit -/
theorem told_ok {h k a m : Int} (h1 : 2 ≤ h) (h2 : h ≤ 24) (m1 : 0 ≤ m) (m2 : m < 60 * h) (k1 : 0 ≤ k) (k2 : k ≤ 5) (ha : k = 1 → 2 ≤ a ∧ a ≤ 60) : clueOk h k (toldA h k a m) (toldB k a m) = true ∧ fitB h k (toldA h k a m) (toldB k a m) m = true := by
  have hw : w64 (h - 1) = h - 1 := w64s (by omega) (by omega)
  by_cases c0 : k = 0
  · subst c0
    refine ⟨?_, ?_⟩
    · simp only [clueOk, kindOk, toldA, toldB, Int.reduceEq, if_false, if_true, decide_true, Bool.or_true, Bool.true_and, hw, inB_iff]; omega
    · simp [fitB, toldA, toldB]
  by_cases c1 : k = 1
  · subst c1
    have ha := ha rfl
    have hm := Int.emod_nonneg (m % 60) (show a ≠ 0 by omega)
    have hm2 := Int.emod_lt_of_pos (m % 60) (show 0 < a by omega)
    refine ⟨?_, ?_⟩
    · simp only [clueOk, kindOk, toldA, toldB, Int.reduceEq, if_false, if_true, decide_true, Bool.true_or, Bool.true_and, Bool.and_eq_true, inB_iff]
      rw [w64s (by omega) (by omega)]
      omega
    · simp [fitB, toldA, toldB]
  by_cases c2 : k = 2
  · subst c2
    refine ⟨?_, ?_⟩
    · simp only [clueOk, kindOk, toldA, toldB, Int.reduceEq, if_false, if_true, decide_true, Bool.or_true, Bool.true_and, inB_iff]; omega
    · simp [fitB, toldA, toldB]
  by_cases c3 : k = 3
  · subst c3
    refine ⟨?_, ?_⟩
    · simp only [clueOk, kindOk, toldA, toldB, Int.reduceEq, if_false, if_true, decide_true, Bool.or_true, Bool.true_and, inB_iff]
      split <;> omega
    · simp only [fitB, toldA, toldB, Int.reduceEq, if_false, if_true]
      by_cases e : (h - 1) * m % (60 * h) < 30 * h
      · rw [if_pos e, dcT e]; rfl
      · rw [if_neg e, dcF e]; rfl
  by_cases c4 : k = 4
  · subst c4
    refine ⟨?_, ?_⟩
    · simp only [clueOk, kindOk, toldA, toldB, Int.reduceEq, if_false, if_true, decide_true, Bool.or_true, Bool.true_and, inB_iff]; omega
    · simp [fitB, toldA, toldB]
  have c5 : k = 5 := by omega
  subst c5
  refine ⟨?_, ?_⟩
  · simp only [clueOk, kindOk, toldA, toldB, Int.reduceEq, if_false, if_true, decide_true, Bool.or_true, Bool.true_and, inB_iff]
    unfold mx
    split <;> omega
  · simp [fitB, toldA, toldB]
end Go.Proofs.YtpeleommbipeaaaGreatDoor.M
namespace Go.Proofs.YtpeleommbipeaaaGreatDoor.M
open Go Go.PM
set_option linter.unusedVariables false
set_option linter.unusedSimpArgs false
theorem and255 (x : Int) : 0 ≤ w64 (andK .u64 x 255) ∧ w64 (andK .u64 x 255) ≤ 255 := by
  have e : (BitVec.ofInt IntKind.u64.bits x &&& BitVec.ofInt IntKind.u64.bits 255).toNat ≤ 255 := by
    rw [BitVec.toNat_and]
    exact Nat.le_trans Nat.and_le_right (by decide)
  unfold andK
  generalize (BitVec.ofInt IntKind.u64.bits x &&& BitVec.ofInt IntKind.u64.bits 255).toNat = n at e
  have e1 : IntKind.wrap .u64 (n : Int) = n := by
    unfold IntKind.wrap
    have : (n : Int) % (2 ^ IntKind.u64.bits : Int) = n := by
      show (n : Int) % (18446744073709551616 : Int) = n
      omega
    rw [this]
    rfl
  rw [e1, w64s (by omega) (by omega)]
  omega
/-- bytes -/
def Bs (code : List Int) : Prop := code.length ≤ 1048576 ∧ ∀ x ∈ code, 0 ≤ x ∧ x ≤ 255
theorem next_tot (N : Nat) {code : List Int} (hc : Bs code) {pos : Int} (h1 : 0 ≤ pos) (h2 : pos ≤ 1000000000) (seed : Int) :
    Tot (zq66.g N code pos seed) fun r => (0 ≤ r.1 ∧ r.1 ≤ 255) ∧ r.2.1 = code ∧ 0 ≤ r.2.2.1 ∧ r.2.2.1 ≤ pos + 1 := by
  have key : ∀ b, 0 ≤ b → b ≤ 255 → Tot (zq66.d1 N b code pos seed) fun r => (0 ≤ r.1 ∧ r.1 ≤ 255) ∧ r.2.1 = code ∧ 0 ≤ r.2.2.1 ∧ r.2.2.1 ≤ pos + 1 := by
    intro b hb1 hb2
    unfold zq66.d1 zq66.o1
    rw [w64s (n := pos + 1) (by omega) (by omega)]
    refine Tot.bif (fun _ => Tot.now ⟨⟨hb1, hb2⟩, rfl, ?_, ?_⟩) (fun _ => Tot.now ⟨and255 _, rfl, ?_, ?_⟩)
    all_goals (dsimp only; omega)
  unfold zq66.g zq66.o0
  dsimp only
  refine Tot.dif (fun hlt => ?_) (fun hlt => key 0 (by omega) (by omega))
  have hl : pos.toNat < code.length := by omega
  rw [dcT h1, cond_true, dcT hlt, cond_true, getAt hl]
  have := hc.2 code[pos.toNat] (List.getElem_mem hl)
  rw [w64s (by omega) (by omega)]
  exact key _ this.1 this.2
theorem pick_tot (N : Nat) {code : List Int} (hc : Bs code) (n : Int) {pos : Int} (h1 : 0 ≤ pos) (h2 : pos ≤ 1000000) (seed : Int) :
    Tot (zq68.g N n code pos seed) fun r => (0 ≤ r.1 ∧ (r.1 < n ∨ r.1 = 0)) ∧ r.2.1 = code ∧ 0 ≤ r.2.2.1 ∧ r.2.2.1 ≤ pos + 2 := by
  have key : ∀ x p s, 1 < n → 0 ≤ x → 0 ≤ p → p ≤ pos + 2 → Tot (zq68.d1 N n x code p s) fun r => (0 ≤ r.1 ∧ (r.1 < n ∨ r.1 = 0)) ∧ r.2.1 = code ∧ 0 ≤ r.2.2.1 ∧ r.2.2.1 ≤ pos + 2 := by
    intro x p s hn hx hp1 hp2
    unfold zq68.d1 zq68.o1
    rw [ieqF (by omega), cond_false]
    refine Tot.now ⟨⟨Int.tmod_nonneg _ hx, .inl ?_⟩, rfl, hp1, hp2⟩
    exact Int.tmod_lt_of_pos _ (by omega)
  unfold zq68.g zq68.o0
  dsimp only
  refine Tot.dif (fun hlt => Tot.now ⟨⟨by dsimp only; omega, .inr rfl⟩, rfl, h1, by dsimp only; omega⟩) (fun hlt => ?_)
  refine Tot.bind (next_tot N hc h1 (by omega) seed) ?_
  rintro ⟨x, c, p, s⟩ ⟨⟨x1, x2⟩, rfl, p1, p2⟩
  dsimp only at x1 x2 p1 p2 ⊢
  refine Tot.dif (fun hgt => ?_) (fun hgt => ?_)
  · refine Tot.bind (next_tot N hc p1 (by omega) s) ?_
    rintro ⟨y, c, q, t⟩ ⟨⟨y1, y2⟩, rfl, q1, q2⟩
    dsimp only at y1 y2 q1 q2 ⊢
    rw [w64s (n := x * 256) (by omega) (by omega), w64s (by omega) (by omega)]
    exact key _ _ _ (by omega) (by omega) q1 (by omega)
  · exact key _ _ _ (by omega) x1 p1 (by omega)
theorem one_tot (N : Nat) {code : List Int} (hc : Bs code) (n : Int) {pos : Int} (h1 : 0 ≤ pos) (h2 : pos ≤ 1000000) (seed : Int) :
    Tot (zq67.g N n code pos seed) fun r => r.2.1 = code ∧ 0 ≤ r.2.2.1 ∧ r.2.2.1 ≤ pos + 2 := by
  unfold zq67.g zq67.o0
  refine Tot.bind (pick_tot N hc n h1 h2 seed) ?_
  rintro ⟨x, c, p, s⟩ ⟨⟨x1, x2⟩, rfl, p1, p2⟩
  exact Tot.now ⟨rfl, p1, p2⟩
theorem among_tot (N : Nat) {code : List Int} (hc : Bs code) (l : List Int) (hl : 0 < l.length) {pos : Int} (h1 : 0 ≤ pos) (h2 : pos ≤ 1000000) (seed : Int) :
    Tot (zq64.g N l code pos seed) fun r => r.1 ∈ l ∧ r.2.1 = code ∧ 0 ≤ r.2.2.1 ∧ r.2.2.1 ≤ pos + 2 := by
  unfold zq64.g zq64.o0
  refine Tot.bind (pick_tot N hc _ h1 h2 seed) ?_
  rintro ⟨x, c, p, s⟩ ⟨⟨x1, x2⟩, rfl, p1, p2⟩
  dsimp only at x1 x2 p1 p2 ⊢
  have hx : x.toNat < l.length := by omega
  rw [dcT x1, cond_true, dcT (by omega), cond_true, getAt hx]
  exact Tot.now ⟨List.getElem_mem hx, rfl, p1, p2⟩
end Go.Proofs.YtpeleommbipeaaaGreatDoor.M
namespace Go.Proofs.YtpeleommbipeaaaGreatDoor.M
open Go Go.PM Go.Proofs.YtpeleommbipeaaaGreatDoor.P
set_option linter.unusedVariables false
set_option linter.unusedSimpArgs false
/-- where a cursor stands -/
def At (code : List Int) (b : Int) (c : List Int) (p : Int) : Prop := c = code ∧ 0 ≤ p ∧ p ≤ b
set_option maxRecDepth 100000 in
theorem sureLoop (N : Nat) {code : List Int} (hc : Bs code) {h m : Int} (h1 : 2 ≤ h) (h2 : h ≤ 24) (m1 : 0 ≤ m) (m2 : m < 60 * h) (x : Int) : ∀ (k n : Nat) (pos seed : Int) (out : List IClue), k < n → k ≤ 100 → 0 ≤ pos → pos ≤ 10000 - 4 * k → out.length + k ≤ 100 → out.all (cok h) = true → fitsAll h out m = true →
    Tot (zq71.l2 N n h m k code pos seed x h out) fun r => (r.1 = h ∧ r.2.1.length = out.length + k ∧ r.2.1.all (cok h) = true ∧ fitsAll h r.2.1 m = true) ∧ At code (pos + 4 * k) r.2.2.1 r.2.2.2.1
  | 0, n + 1, pos, seed, out, hn, hk, p1, p2, ho, a1, a2 => by
    unfold zq71.l2 zq71.d2 zq71.o2
    rw [dcF (by omega), cond_false]
    exact Tot.now ⟨⟨rfl, rfl, a1, a2⟩, rfl, p1, by dsimp only; omega⟩
  | k + 1, n + 1, pos, seed, out, hn, hk, p1, p2, ho, a1, a2 => by
    unfold zq71.l2 zq71.d2 zq71.o2
    rw [dcT (by omega), cond_true]
    refine Tot.bind (pick_tot N hc 6 p1 (by omega) seed) ?_
    rintro ⟨y, c, p, s⟩ ⟨⟨y1, y2⟩, rfl, q1, q2⟩
    dsimp only at y1 y2 q1 q2 ⊢
    refine Tot.bind (pick_tot N hc 59 q1 (by omega) s) ?_
    rintro ⟨z, c, p, s⟩ ⟨⟨z1, z2⟩, rfl, r1, r2⟩
    dsimp only at z1 z2 r1 r2 ⊢
    have ew : w64 (2 + z) = 2 + z := w64s (by omega) (by omega)
    rw [ew, pzOf_eq N h1 h2 m1 m2 y1 (by omega) (by omega), Option.bind_some]
    dsimp only
    rw [blT (by simp; omega), cond_true, show w64 (((k + 1 : Nat) : Int) - 1) = (k : Int) by rw [w64s (by omega) (by omega)]; omega]
    obtain ⟨b1, b2⟩ := told_ok (h := h) (k := y) (a := 2 + z) (m := m) h1 h2 m1 m2 y1 (by omega) (by omega)
    have e1 : (out ++ [(⟨y, toldA h y (2 + z) m, toldB y (2 + z) m⟩ : S41)]).all (cok h) = true := by
      rw [List.all_append, a1, List.all_cons, List.all_nil, Bool.true_and, Bool.and_true]; exact b1
    have e2 : fitsAll h (out ++ [(⟨y, toldA h y (2 + z) m, toldB y (2 + z) m⟩ : S41)]) m = true := by
      unfold fitsAll at a2 ⊢
      rw [List.all_append, a2, List.all_cons, List.all_nil, Bool.true_and, Bool.and_true]; exact b2
    refine (sureLoop N hc h1 h2 m1 m2 x k n p s _ (by omega) (by omega) r1 (by omega) (by simp; omega) e1 e2).mono ?_
    rintro r ⟨⟨f1, f2, f3, f4⟩, g1, g2, g3⟩
    refine ⟨⟨f1, by rw [f2]; simp; omega, f3, f4⟩, g1, g2, by omega⟩
  | _, 0, _, _, _, hn, _, _, _, _, _, _ => by omega
theorem sure_l1_l2 (N n : Nat) (a b c : Int) (d : List Int) (e f g h : Int) : zq71.l1 N n a b c d e f g h = zq71.l2 N n a b c d e f g h [] := by cases n <;> rfl
theorem sure_tot {N : Nat} (hN : 10000 ≤ N) {code : List Int} (hc : Bs code) {most : Nat} (hm : most ≤ 50) {pos : Int} (p1 : 0 ≤ pos) (p2 : pos ≤ 5000) (seed : Int) :
    Tot (zq71.g N most code pos seed) fun r => ((2 ≤ r.1 ∧ r.1 ≤ 12) ∧ r.2.1.length ≤ most ∧ r.2.1.all (cok r.1) = true ∧ ∃ m : Nat, (m : Int) < 60 * r.1 ∧ fitsAll r.1 r.2.1 m = true) ∧ At code (pos + 6 + 4 * most) r.2.2.1 r.2.2.2.1 := by
  unfold zq71.g zq71.o0
  refine Tot.bind (pick_tot N hc 11 p1 (by omega) seed) ?_
  rintro ⟨y, c, p, s⟩ ⟨⟨y1, y2⟩, rfl, q1, q2⟩
  dsimp only at y1 y2 q1 q2 ⊢
  rw [w64s (n := 2 + y) (by omega) (by omega), w64s (n := 60 * (2 + y)) (by omega) (by omega)]
  refine Tot.bind (pick_tot N hc _ q1 (by omega) s) ?_
  rintro ⟨m, c, p, s⟩ ⟨⟨m1, m2⟩, rfl, r1, r2⟩
  dsimp only at m1 m2 r1 r2 ⊢
  rw [w64s (n := (most : Int) + 1) (by omega) (by omega)]
  refine Tot.bind (pick_tot N hc _ r1 (by omega) s) ?_
  rintro ⟨k, c, p, s⟩ ⟨⟨k1, k2⟩, rfl, t1, t2⟩
  dsimp only at k1 k2 t1 t2 ⊢
  obtain ⟨k, rfl⟩ := Int.eq_ofNat_of_zero_le k1
  obtain ⟨m, rfl⟩ := Int.eq_ofNat_of_zero_le m1
  rw [sure_l1_l2]
  refine (sureLoop N hc (by omega) (by omega) m1 (by omega) 0 k N p s [] (by omega) (by omega) t1 (by omega) (by simp; omega) rfl rfl).mono ?_
  rintro r ⟨⟨f1, f2, f3, f4⟩, g1, g2, g3⟩
  rw [f1]
  refine ⟨⟨⟨by omega, by omega⟩, by rw [f2]; simp; omega, f3, m, by omega, f4⟩, g1, g2, by omega⟩
theorem clue_tot (N : Nat) {code : List Int} (hc : Bs code) (h : Int) {pos : Int} (p1 : 0 ≤ pos) (p2 : pos ≤ 9000) (seed : Int) :
    Tot (zq65.g N h code pos seed) fun r => At code (pos + 8) r.2.2.2.1 r.2.2.2.2.1 := by
  unfold zq65.g zq65.o0
  refine Tot.bind (one_tot N hc 5 p1 (by omega) seed) ?_
  rintro ⟨b, c, p, s⟩ ⟨rfl, q1, q2⟩
  dsimp only at q1 q2 ⊢
  refine Tot.bif (fun _ => ?_) (fun _ => ?_)
  · refine Tot.bind (pick_tot N hc 8 q1 (by omega) s) ?_
    rintro ⟨y, c, p, s⟩ ⟨_, rfl, r1, r2⟩
    dsimp only at r1 r2 ⊢
    refine Tot.bind (among_tot N hc _ (by decide) r1 (by omega) s) ?_
    rintro ⟨y, c, p, s⟩ ⟨_, rfl, t1, t2⟩
    dsimp only at t1 t2 ⊢
    refine Tot.bind (among_tot N hc _ (by decide) t1 (by omega) s) ?_
    rintro ⟨y, c, p, s⟩ ⟨_, rfl, u1, u2⟩
    exact Tot.now ⟨rfl, u1, by dsimp only at u2 ⊢; omega⟩
  · rw [diHours_eq, Option.bind_some]
    cases e : inB h 2 24 with
    | false => exact Tot.now ⟨rfl, q1, by dsimp only; omega⟩
    | true =>
      have hh := inB_iff.1 e
      rw [Bool.not_true, cond_false]
      refine Tot.bind (pick_tot N hc 6 q1 (by omega) s) ?_
      rintro ⟨y, c, p, s⟩ ⟨⟨y1, y2⟩, rfl, r1, r2⟩
      dsimp only at y1 y2 r1 r2 ⊢
      refine Tot.bind (pick_tot N hc 59 r1 (by omega) s) ?_
      rintro ⟨z, c, p, s⟩ ⟨⟨z1, z2⟩, rfl, t1, t2⟩
      dsimp only at z1 z2 t1 t2 ⊢
      rw [w64s (n := 60 * h) (by omega) (by omega)]
      refine Tot.bind (pick_tot N hc _ t1 (by omega) s) ?_
      rintro ⟨m, c, p, s⟩ ⟨⟨m1, m2⟩, rfl, u1, u2⟩
      dsimp only at m1 m2 u1 u2 ⊢
      rw [w64s (n := 2 + z) (by omega) (by omega), pzOf_eq N hh.1 hh.2 m1 (by omega) y1 (by omega) (by omega), Option.bind_some]
      exact Tot.now ⟨rfl, u1, by dsimp only; omega⟩
set_option maxRecDepth 100000 in
theorem fillLoop (N : Nat) {code : List Int} (hc : Bs code) (x h : Int) : ∀ (d n : Nat) (pos seed : Int) (out : List IClue), d < n → 8 ≤ out.length + d → d ≤ 8 → out.length ≤ 8 → 0 ≤ pos → pos ≤ 9000 - 2 * d →
    Tot (zq69.l2 N n code pos seed x h out) fun r => r.2.1.length ≤ 9 ∧ At code (pos + 2 * d + 2) r.2.2.1 r.2.2.2.1
  | 0, n + 1, pos, seed, out, hn, h8, hd, hl, p1, p2 => by
    unfold zq69.l2 zq69.d2 zq69.o2 zq69.d1 zq69.o1
    refine Tot.bind (pick_tot N hc 2 p1 (by omega) seed) ?_
    rintro ⟨y, c, p, s⟩ ⟨⟨y1, y2⟩, rfl, q1, q2⟩
    dsimp only at y1 y2 q1 q2 ⊢
    rw [w64s (by omega) (by omega), dcF (by omega), cond_false]
    exact Tot.now ⟨by dsimp only; omega, rfl, q1, by dsimp only; omega⟩
  | d + 1, n + 1, pos, seed, out, hn, h8, hd, hl, p1, p2 => by
    unfold zq69.l2 zq69.d2 zq69.o2 zq69.d1 zq69.o1
    refine Tot.bind (pick_tot N hc 2 p1 (by omega) seed) ?_
    rintro ⟨y, c, p, s⟩ ⟨⟨y1, y2⟩, rfl, q1, q2⟩
    dsimp only at y1 y2 q1 q2 ⊢
    rw [w64s (by omega) (by omega)]
    refine Tot.dif (fun hlt => ?_) (fun hlt => Tot.now ⟨by dsimp only; omega, rfl, q1, by dsimp only; omega⟩)
    rw [blT (by simp; omega), cond_true]
    refine (fillLoop N hc x h d n p s _ (by omega) (by simp; omega) (by omega) (by simp; omega) q1 (by omega)).mono ?_
    rintro r ⟨f1, g1, g2, g3⟩
    exact ⟨f1, g1, g2, by omega⟩
  | _, 0, _, _, _, hn, _, _, _, _, _ => by omega
theorem puzzle_tot {N : Nat} (hN : 10000 ≤ N) {code : List Int} (hc : Bs code) {pos : Int} (p1 : 0 ≤ pos) (p2 : pos ≤ 5000) (seed : Int) :
    Tot (zq69.g N code pos seed) fun r => r.2.1.length ≤ 9 ∧ At code (pos + 100) r.2.2.1 r.2.2.2.1 := by
  unfold zq69.g zq69.o0
  refine Tot.bind (sure_tot hN hc (most := 5) (by omega) p1 p2 seed) ?_
  rintro ⟨h, l, c, p, s⟩ ⟨⟨⟨h1, h2⟩, h3, h4, h5⟩, rfl, q1, q2⟩
  dsimp only at h1 h2 h3 h4 q1 q2 ⊢
  refine Tot.bind (pick_tot N hc 12 q1 (by omega) s) ?_
  rintro ⟨y, c, p, s⟩ ⟨_, rfl, r1, r2⟩
  dsimp only at r1 r2 ⊢
  have now : ∀ (c' : List Int) (p' s' x' h' : Int) (l' : List IClue), c' = c → 0 ≤ p' → p' ≤ pos + 100 → l'.length ≤ 9 → Tot (zq69.d1 N c' p' s' x' h' l') fun r => r.2.1.length ≤ 9 ∧ At c (pos + 100) r.2.2.1 r.2.2.2.1 :=
    fun c' p' s' x' h' l' e1 e2 e3 e4 => Tot.now ⟨e4, e1, e2, e3⟩
  refine Tot.bif (fun _ => ?_) (fun _ => ?_)
  · refine Tot.bind (among_tot N hc _ (by decide) r1 (by omega) s) ?_
    rintro ⟨y, c, p, s⟩ ⟨_, rfl, t1, t2⟩
    dsimp only at t1 t2 ⊢
    exact now _ _ _ _ _ _ rfl t1 (by omega) (by omega)
  · refine Tot.bif (fun _ => ?_) (fun _ => ?_)
    · refine Tot.bind (clue_tot N hc h r1 (by omega) s) ?_
      rintro ⟨a, b, d, c, p, s⟩ ⟨rfl, t1, t2⟩
      dsimp only at t1 t2 ⊢
      rw [blT (by simp; omega), cond_true]
      exact now _ _ _ _ _ _ rfl t1 (by omega) (by simp; omega)
    · refine Tot.bif (fun _ => ?_) (fun _ => now _ _ _ _ _ _ rfl r1 (by omega) (by omega))
      refine (fillLoop N hc 0 h 8 N p s l (by omega) (by omega) (by omega) (by omega) r1 (by omega)).mono ?_
      rintro r ⟨f1, g1, g2, g3⟩
      exact ⟨f1, g1, g2, by omega⟩
theorem hvs_of_mem (p : Nat → Bool) {x : Int} : ∀ {n : Nat}, x ∈ hvs p n → ∃ k : Nat, k < n ∧ x = k
  | n + 1, h => by
    simp only [hvs, List.mem_append] at h
    rcases h with h | h
    · obtain ⟨k, h1, h2⟩ := hvs_of_mem p h
      exact ⟨k, by omega, h2⟩
    · cases hp : p n with
      | true => rw [hp, cond_true, List.mem_singleton] at h; exact ⟨n, by omega, h⟩
      | false => rw [hp] at h; cases h
end Go.Proofs.YtpeleommbipeaaaGreatDoor.M
namespace Go.Proofs.YtpeleommbipeaaaGreatDoor.M
open Go Go.PM Go.Proofs.YtpeleommbipeaaaGreatDoor.P
set_option linter.unusedVariables false
set_option linter.unusedSimpArgs false
set_option maxRecDepth 100000
theorem sIsPuzzle_eq {N : Nat} (hN : 10000 ≤ N) (h : Int) (l : List IClue) : zq51.g N h l = some (puzzleOk h l) := by
  unfold zq51.g zq51.o0
  rw [pzGood_eq hN]; rfl
theorem pzAll_ok {N : Nat} (hN : 10000 ≤ N) {h : Int} {l : List IClue} (hp : puzzleOk h l = true) : zq79.g N h l = some (sols h l) := by
  obtain ⟨h1, h2, h3, h4⟩ := puzzleOk_facts hp
  exact pzAll_eq hN h1 h2 l (by omega) h4
theorem sSolutions_eq {N : Nat} (hN : 10000 ≤ N) (h : Int) (l : List IClue) : zq58.g N h l = some (solsB h l) := by
  unfold zq58.g zq58.o0 solsB
  rw [pzGood_eq hN, Option.bind_some]
  cases hp : puzzleOk h l with
  | false => rfl
  | true => rw [Bool.not_true, cond_false, pzAll_ok hN hp]; rfl
theorem sCount_eq {N : Nat} (hN : 10000 ≤ N) (h : Int) (l : List IClue) : zq46.g N h l = some (((solsB h l).1.length : Int), (solsB h l).2) := by
  unfold zq46.g zq46.o0 solsB
  rw [pzGood_eq hN, Option.bind_some]
  cases hp : puzzleOk h l with
  | false => rfl
  | true => rw [Bool.not_true, cond_false, pzAll_ok hN hp]; rfl
def firstR (h : Int) (l : List IClue) : Int × Bool := match (solsB h l).1 with
  | [] => (0, false)
  | x :: _ => (x, true)
theorem First_eq {N : Nat} (hN : 10000 ≤ N) (h : Int) (l : List IClue) : zq4.g N h l = some (firstR h l) := by
  unfold zq4.g zq4.o0 zq4.d1 zq4.o1 firstR
  rw [Solutions_eq hN, Option.bind_some]
  unfold solsB
  cases hp : puzzleOk h l with
  | false => rfl
  | true =>
    rw [if_pos rfl]
    dsimp only
    rw [Bool.not_true, cond_false]
    cases hs : sols h l with
    | nil => rfl
    | cons x t =>
      rw [ieqF (by simp; omega), cond_false, dcT (by simp), cond_true]; rfl
theorem sFirst_eq {N : Nat} (hN : 10000 ≤ N) (h : Int) (l : List IClue) : zq50.g N h l = some (firstR h l) := by
  unfold zq50.g zq50.o0 zq50.d1 zq50.o1 firstR
  rw [pzGood_eq hN, Option.bind_some]
  unfold solsB
  cases hp : puzzleOk h l with
  | false => rfl
  | true =>
    rw [if_pos rfl]
    dsimp only
    rw [Bool.not_true, cond_false, pzAll_ok hN hp, Option.bind_some]
    cases hs : sols h l with
    | nil => rfl
    | cons x t =>
      rw [ieqF (by simp; omega), cond_false, Option.bind_some, dcT (by simp), cond_true]; rfl
theorem sIsSolved_eq {N : Nat} (hN : 10000 ≤ N) (h : Int) (l : List IClue) : zq52.g N h l = some (((solsB h l).1.length : Int) == 1, (solsB h l).2) := by
  unfold zq52.g zq52.o0 solsB
  rw [pzGood_eq hN, Option.bind_some]
  cases hp : puzzleOk h l with
  | false => rfl
  | true =>
    obtain ⟨h1, h2, h3, h4⟩ := puzzleOk_facts hp
    rw [Bool.not_true, cond_false, pzSolved_eq hN h1 h2 l (by omega) h4]; rfl
theorem l1Same_l1 (N : Nat) : ∀ (n : Nat) (a b : List Int) (c d : Int), zq76.l1 N n a b c d = zq38.l1 N n a b c d
  | 0, _, _, _, _ => rfl
  | n + 1, a, b, c, d => by
    unfold zq76.l1 zq38.l1 zq76.d1 zq38.d1
    simp only [l1Same_l1 N n]
    rfl
theorem l1Same_eq {N : Nat} (l m : List Int) (hs : l.length < 1000000000) (hN : l.length < N) : zq76.g N l m = some (decide (l = m)) := by
  rw [← kSame_eq l m hs hN]
  unfold zq76.g zq38.g
  simp only [l1Same_l1]
  rfl
theorem need_same (h : Int) (l : List IClue) (k : Nat) : decide (sols h (l.eraseIdx k) = sols h l) = needP h l k := by
  unfold needP
  rw [decide_eq_decide]
  constructor
  · intro e; rw [e]
  · intro e; exact (sols_sub_eq (List.eraseIdx_sublist l k) e.symm).symm
theorem sneed2 {N : Nat} (hN : 10000 ≤ N) {h : Int} (h1 : 2 ≤ h) (h2 : h ≤ 24) (l : List IClue) (hl : l.length ≤ 100) (hc : l.all (cok h) = true) : ∀ (d k n : Nat), l.length = k + d → d < n → zq54.l2 N n (hvs (needP h l) k) (sols h l) (l.length : Int) k h l = some (hvs (needP h l) l.length, true)
  | 0, k, n+1, hi, hn => by
    unfold zq54.l2 zq54.d2 zq54.o2
    rw [dcF (by omega), cond_false, show l.length = k by omega]
  | d+1, k, n+1, hi, hn => by
    have hle := hvs_len_le (needP h l) k
    have hsl := sols_len h2 (l.eraseIdx k)
    have hel := List.length_eraseIdx_le l k
    unfold zq54.l2 zq54.d2 zq54.o2
    rw [dcT (by omega), cond_true, pzWithout_eq N hl (by omega), Option.bind_some, pzAll_eq hN h1 h2 _ (by omega) (all_erase hc k), Option.bind_some, l1Same_eq _ _ (by omega) (by omega), Option.bind_some, need_same, w1add (by omega)]
    have ih := sneed2 hN h1 h2 l hl hc d (k+1) n (by omega) (by omega)
    simp only [hvs] at ih
    cases hp : needP h l k with
    | true =>
      rw [hp, cond_true] at ih
      rw [cond_true, blT (by simp; omega), cond_true]
      exact ih
    | false =>
      rw [hp, cond_false, List.append_nil] at ih
      rw [cond_false]
      exact ih
  | _, _, 0, _, hn => by omega
theorem sneed1 {N : Nat} (hN : 10000 ≤ N) {h : Int} (h1 : 2 ≤ h) (h2 : h ≤ 24) (l : List IClue) (hl : l.length ≤ 100) (hc : l.all (cok h) = true) : ∀ (d k n : Nat), l.length = k + d → d < n → hvs (needP h l) k = [] → zq54.l1 N n (sols h l) (l.length : Int) k h l = some (hvs (needP h l) l.length, true)
  | 0, k, n+1, hi, hn, h0 => by
    unfold zq54.l1 zq54.d1 zq54.o1
    rw [dcF (by omega), cond_false, show l.length = k by omega, h0]
  | d+1, k, n+1, hi, hn, h0 => by
    have hsl := sols_len h2 (l.eraseIdx k)
    have hel := List.length_eraseIdx_le l k
    unfold zq54.l1 zq54.d1 zq54.o1
    rw [dcT (by omega), cond_true, pzWithout_eq N hl (by omega), Option.bind_some, pzAll_eq hN h1 h2 _ (by omega) (all_erase hc k), Option.bind_some, l1Same_eq _ _ (by omega) (by omega), Option.bind_some, need_same, w1add (by omega)]
    cases hp : needP h l k with
    | true =>
      have ih := sneed2 hN h1 h2 l hl hc d (k+1) n (by omega) (by omega)
      simp only [hvs] at ih
      rw [hp, h0] at ih
      rw [cond_true, blT (by simp), cond_true]
      exact ih
    | false =>
      rw [cond_false]
      exact sneed1 hN h1 h2 l hl hc d (k+1) n (by omega) (by omega) (by simp only [hvs]; rw [hp, h0]; rfl)
  | _, _, 0, _, hn, _ => by omega
theorem sNeedless_eq {N : Nat} (hN : 10000 ≤ N) (h : Int) (l : List IClue) : zq54.g N h l = some (if puzzleOk h l = true then (hvs (needP h l) l.length, true) else ([], false)) := by
  unfold zq54.g zq54.o0
  rw [pzGood_eq hN, Option.bind_some]
  cases hp : puzzleOk h l with
  | false => rfl
  | true =>
    obtain ⟨h1, h2, h3, h4⟩ := puzzleOk_facts hp
    rw [Bool.not_true, cond_false, pzAll_ok hN hp, Option.bind_some, if_pos rfl]
    exact sneed1 hN h1 h2 l (by omega) h4 l.length 0 N (by omega) (by omega) rfl
/-! ### left by the first clues -/
def leftL (h : Int) (l : List IClue) : Nat → List Int
  | 0 => []
  | n + 1 => leftL h l n ++ [((sols h (l.take n)).length : Int)]
theorem leftL_len (h : Int) (l : List IClue) : ∀ n, (leftL h l n).length = n
  | 0 => rfl
  | n + 1 => by simp [leftL, leftL_len h l n]
theorem leftL_get (h : Int) (l : List IClue) : ∀ (n i : Nat), i < n → (leftL h l n)[i]? = some ((sols h (l.take i)).length : Int)
  | n + 1, i, hi => by
    simp only [leftL]
    by_cases e : i = n
    · subst e
      rw [List.getElem?_append_right (by rw [leftL_len]; omega), leftL_len]; simp
    · rw [List.getElem?_append_left (by rw [leftL_len]; omega)]
      exact leftL_get h l n i (by omega)
theorem all_take {h : Int} {l : List IClue} (hc : l.all (cok h) = true) (k : Nat) : (l.take k).all (cok h) = true :=
  List.all_eq_true.2 fun c hm => List.all_eq_true.1 hc c (List.mem_of_mem_take hm)
theorem all_drop {h : Int} {l : List IClue} (hc : l.all (cok h) = true) (k : Nat) : (l.drop k).all (cok h) = true :=
  List.all_eq_true.2 fun c hm => List.all_eq_true.1 hc c (List.mem_of_mem_drop hm)
theorem left_l {N : Nat} (hN : 10000 ≤ N) {h : Int} (h1 : 2 ≤ h) (h2 : h ≤ 24) (l : List IClue) (hl : l.length ≤ 100) (hc : l.all (cok h) = true) : ∀ (d i n : Nat), l.length + 1 = i + d → d < n → zq11.l1 N n (leftL h l i) ((l.length + 1 : Nat) : Int) i h l = some (leftL h l (l.length + 1), true)
  | 0, i, n+1, hi, hn => by
    unfold zq11.l1 zq11.d1 zq11.o1
    rw [dcF (by omega), cond_false, show l.length + 1 = i by omega]
  | d+1, i, n+1, hi, hn => by
    unfold zq11.l1 zq11.d1 zq11.o1
    rw [dcT (by omega), cond_true, dcT (by omega), cond_true, dcT (by omega), cond_true, cond_true, Int.toNat_natCast, Int.toNat_zero, List.drop_zero, solutions_eq hN h1 h2 _ (by rw [List.length_take]; omega) (all_take hc i), Option.bind_some, blT (by rw [leftL_len]; simp; omega), cond_true, w1add (by omega)]
    exact left_l hN h1 h2 l hl hc d (i+1) n (by omega) (by omega)
  | _, _, 0, _, hn => by omega
def leftR (h : Int) (l : List IClue) : List Int × Bool := if puzzleOk h l = true then (leftL h l (l.length + 1), true) else ([], false)
theorem Left_eq {N : Nat} (hN : 10000 ≤ N) (h : Int) (l : List IClue) : zq11.g N h l = some (leftR h l) := by
  unfold zq11.g zq11.o0 leftR
  rw [isPuzzle_eq hN, Option.bind_some]
  cases hp : puzzleOk h l with
  | false => rfl
  | true =>
    obtain ⟨h1, h2, h3, h4⟩ := puzzleOk_facts hp
    rw [Bool.not_true, cond_false, w1add (by omega), if_pos rfl]
    exact left_l hN h1 h2 l (by omega) h4 (l.length + 1) 0 N (by omega) (by omega)
theorem sleft_l {N : Nat} (hN : 10000 ≤ N) {h : Int} (h1 : 2 ≤ h) (h2 : h ≤ 24) (l : List IClue) (hl : l.length ≤ 100) (hc : l.all (cok h) = true) : ∀ (d i n : Nat), l.length + 1 = i + d → d < n → zq53.l2 N n (leftL h l i) i h l = some (leftL h l (l.length + 1), true)
  | 0, i, n+1, hi, hn => by
    unfold zq53.l2 zq53.d2 zq53.o2
    rw [dcF (by omega), cond_false, show l.length + 1 = i by omega]
  | d+1, i, n+1, hi, hn => by
    unfold zq53.l2 zq53.d2 zq53.o2
    rw [dcT (show (i : Int) ≤ (l.length : Int) by omega), cond_true, dcT (show 0 ≤ (i : Int) by omega), cond_true, cond_true, cond_true, Int.toNat_natCast, Int.toNat_zero, List.drop_zero, pzAll_eq hN h1 h2 _ (by rw [List.length_take]; omega) (all_take hc i), Option.bind_some, blT (by rw [leftL_len]; simp; omega), cond_true, w1add (by omega)]
    exact sleft_l hN h1 h2 l hl hc d (i+1) n (by omega) (by omega)
  | _, _, 0, _, hn => by omega
theorem sLeft_eq {N : Nat} (hN : 10000 ≤ N) (h : Int) (l : List IClue) : zq53.g N h l = some (leftR h l) := by
  unfold zq53.g zq53.o0 leftR
  rw [pzGood_eq hN, Option.bind_some]
  cases hp : puzzleOk h l with
  | false => rfl
  | true =>
    obtain ⟨h1, h2, h3, h4⟩ := puzzleOk_facts hp
    rw [Bool.not_true, cond_false, if_pos rfl]
    obtain ⟨n, rfl⟩ : ∃ n, N = n + 1 := ⟨N - 1, by omega⟩
    dsimp only
    unfold zq53.l1 zq53.d1 zq53.o1
    dsimp only
    rw [dcT (show (0 : Int) ≤ (l.length : Int) by omega), cond_true, dcT (show (0 : Int) ≤ 0 by omega), cond_true, cond_true, cond_true, Int.toNat_zero, List.drop_zero, pzAll_eq hN h1 h2 _ (by simp) (by simp), Option.bind_some, blT (by simp), cond_true]
    exact sleft_l hN h1 h2 l (by omega) h4 l.length 1 n (by omega) (by omega)
/-! ### the best clue -/
def oneS (h : Int) (l : List IClue) (i : Nat) : Nat := (sols h ((l.take (i + 1)).drop i)).length
def bst (h : Int) (l : List IClue) : Nat → Nat × Nat
  | 0 => (0, oneS h l 0)
  | i + 1 => if oneS h l (i + 1) < (bst h l i).2 then (i + 1, oneS h l (i + 1)) else bst h l i
theorem best_l {N : Nat} (hN : 10000 ≤ N) {h : Int} (h1 : 2 ≤ h) (h2 : h ≤ 24) (l : List IClue) (hl : l.length ≤ 100) (hc : l.all (cok h) = true) : ∀ (d i n : Nat), l.length = i + 1 + d → d < n → zq0.l2 N n ((bst h l i).1 : Nat) ((bst h l i).2 : Nat) (l.length : Int) ((i + 1 : Nat) : Int) h l = some (((bst h l (l.length - 1)).1 : Int), true)
  | 0, i, n+1, hi, hn => by
    unfold zq0.l2 zq0.d2 zq0.o2
    rw [dcF (by omega), cond_false, show l.length - 1 = i by omega]
  | d+1, i, n+1, hi, hn => by
    have ih := best_l hN h1 h2 l hl hc d (i+1) n (by omega) (by omega)
    unfold zq0.l2 zq0.d2 zq0.o2 zq0.d3 zq0.o3
    dsimp only
    rw [w1add (by omega), dcT (show ((i + 1 : Nat) : Int) < (l.length : Int) by omega), cond_true, dcT (show 0 ≤ ((i + 1 + 1 : Nat) : Int) by omega), cond_true, dcT (show ((i + 1 + 1 : Nat) : Int) ≤ (l.length : Int) by omega), cond_true, dcT (show 0 ≤ ((i + 1 : Nat) : Int) by omega), cond_true, dcT (show ((i + 1 : Nat) : Int) ≤ ((i + 1 + 1 : Nat) : Int) by omega), cond_true, Int.toNat_natCast, Int.toNat_natCast, solutions_eq hN h1 h2 _ (by rw [List.length_drop, List.length_take]; omega) (all_drop (all_take hc _) _), Option.bind_some, dcF (show ¬ (((bst h l i).2 : Nat) : Int) < 0 by omega), cond_false]
    simp only [bst] at ih
    show (bif decide ((oneS h l (i + 1) : Int) < ((bst h l i).2 : Int)) then _ else _) = _
    by_cases c : oneS h l (i + 1) < (bst h l i).2
    · rw [if_pos c] at ih
      rw [dcT (by omega), cond_true]; exact ih
    · rw [if_neg c] at ih
      rw [dcF (by omega), cond_false]; exact ih
  | _, _, 0, _, hn => by omega
theorem sbest_l {N : Nat} (hN : 10000 ≤ N) {h : Int} (h1 : 2 ≤ h) (h2 : h ≤ 24) (l : List IClue) (hl : l.length ≤ 100) (hc : l.all (cok h) = true) : ∀ (d i n : Nat), l.length = i + 1 + d → d < n → zq45.l2 N n ((bst h l i).1 : Nat) ((bst h l i).2 : Nat) (l.length : Int) ((i + 1 : Nat) : Int) h l = some (((bst h l (l.length - 1)).1 : Int), true)
  | 0, i, n+1, hi, hn => by
    unfold zq45.l2 zq45.d2 zq45.o2
    rw [dcF (by omega), cond_false, show l.length - 1 = i by omega]
  | d+1, i, n+1, hi, hn => by
    have ih := sbest_l hN h1 h2 l hl hc d (i+1) n (by omega) (by omega)
    unfold zq45.l2 zq45.d2 zq45.o2 zq45.d3 zq45.o3
    dsimp only
    rw [w1add (by omega), dcT (show ((i + 1 : Nat) : Int) < (l.length : Int) by omega), cond_true, dcT (show 0 ≤ ((i + 1 + 1 : Nat) : Int) by omega), cond_true, dcT (show ((i + 1 + 1 : Nat) : Int) ≤ (l.length : Int) by omega), cond_true, dcT (show 0 ≤ ((i + 1 : Nat) : Int) by omega), cond_true, dcT (show ((i + 1 : Nat) : Int) ≤ ((i + 1 + 1 : Nat) : Int) by omega), cond_true, Int.toNat_natCast, Int.toNat_natCast, pzAll_eq hN h1 h2 _ (by rw [List.length_drop, List.length_take]; omega) (all_drop (all_take hc _) _), Option.bind_some, ieqF (show ¬ ((i + 1 : Nat) : Int) = 0 by omega), cond_false]
    simp only [bst] at ih
    show (bif decide ((oneS h l (i + 1) : Int) < ((bst h l i).2 : Int)) then _ else _) = _
    by_cases c : oneS h l (i + 1) < (bst h l i).2
    · rw [if_pos c] at ih
      rw [dcT (by omega), cond_true]; exact ih
    · rw [if_neg c] at ih
      rw [dcF (by omega), cond_false]; exact ih
  | _, _, 0, _, hn => by omega
def bestR (h : Int) (l : List IClue) : Int × Bool := if puzzleOk h l && decide (0 < l.length) then (((bst h l (l.length - 1)).1 : Int), true) else (0, false)
theorem Best_eq {N : Nat} (hN : 10000 ≤ N) (h : Int) (l : List IClue) : zq0.g N h l = some (bestR h l) := by
  unfold zq0.g zq0.o0 zq0.d1 zq0.o1 bestR
  rw [isPuzzle_eq hN, Option.bind_some]
  cases hp : puzzleOk h l with
  | false => rfl
  | true =>
    obtain ⟨h1, h2, h3, h4⟩ := puzzleOk_facts hp
    rw [Bool.not_true, cond_false]
    dsimp only
    by_cases e : l.length = 0
    · rw [ieqT (by omega), cond_true, dcF (by omega)]; rfl
    · rw [ieqF (by omega), cond_false, dcT (show 0 < l.length by omega), Bool.and_self, if_pos rfl]
      obtain ⟨n, rfl⟩ : ∃ n, N = n + 1 := ⟨N - 1, by omega⟩
      unfold zq0.l2 zq0.d2 zq0.o2 zq0.d3 zq0.o3
      dsimp only
      rw [show w64 (0 + 1) = ((0 + 1 : Nat) : Int) by decide, dcT (show (0 : Int) < (l.length : Int) by omega), cond_true, dcT (show 0 ≤ ((0 + 1 : Nat) : Int) by omega), cond_true, dcT (show ((0 + 1 : Nat) : Int) ≤ (l.length : Int) by omega), cond_true, dcT (show (0 : Int) ≤ 0 by omega), cond_true, cond_true, Int.toNat_natCast, Int.toNat_zero, solutions_eq hN h1 h2 _ (by rw [List.length_drop, List.length_take]; omega) (all_drop (all_take h4 _) _), Option.bind_some, dcT (show (-1 : Int) < 0 by omega), cond_true, cond_true]
      exact best_l hN h1 h2 l (by omega) h4 (l.length - 1) 0 n (by omega) (by omega)
theorem sBest_eq {N : Nat} (hN : 10000 ≤ N) (h : Int) (l : List IClue) : zq45.g N h l = some (bestR h l) := by
  unfold zq45.g zq45.o0 zq45.d1 zq45.o1 bestR
  rw [pzGood_eq hN, Option.bind_some]
  cases hp : puzzleOk h l with
  | false => rfl
  | true =>
    obtain ⟨h1, h2, h3, h4⟩ := puzzleOk_facts hp
    rw [Bool.not_true, cond_false]
    dsimp only
    by_cases e : l.length = 0
    · rw [ieqT (by omega), cond_true, dcF (by omega)]; rfl
    · rw [ieqF (by omega), cond_false, dcT (show 0 < l.length by omega), Bool.and_self, if_pos rfl]
      obtain ⟨n, rfl⟩ : ∃ n, N = n + 1 := ⟨N - 1, by omega⟩
      unfold zq45.l2 zq45.d2 zq45.o2 zq45.d3 zq45.o3
      dsimp only
      rw [show w64 (0 + 1) = ((0 + 1 : Nat) : Int) by decide, dcT (show (0 : Int) < (l.length : Int) by omega), cond_true, dcT (show 0 ≤ ((0 + 1 : Nat) : Int) by omega), cond_true, dcT (show ((0 + 1 : Nat) : Int) ≤ (l.length : Int) by omega), cond_true, dcT (show (0 : Int) ≤ 0 by omega), cond_true, cond_true, Int.toNat_natCast, Int.toNat_zero, pzAll_eq hN h1 h2 _ (by rw [List.length_drop, List.length_take]; omega) (all_drop (all_take h4 _) _), Option.bind_some, ieqT rfl, cond_true, cond_true]
      exact sbest_l hN h1 h2 l (by omega) h4 (l.length - 1) 0 n (by omega) (by omega)
theorem gcd_l (N : Nat) : ∀ (n a b : Nat), b < n → a ≤ 1000000000 → b ≤ 1000000000 → zq20.l1 N n a b = some ((Nat.gcd a b : Nat) : Int)
  | n+1, a, b, hb, h1, h2 => by
    unfold zq20.l1 zq20.d1 zq20.o1
    by_cases e : b = 0
    · subst e
      rw [ineF (show ((0 : Nat) : Int) = 0 from rfl), cond_false, w64s (by omega) (by omega), if_neg (by omega), Nat.gcd_zero_right]
    · rw [ineT (by omega), cond_true, ieqF (by omega), cond_false, tmodN]
      have hm : a % b < b := Nat.mod_lt _ (by omega)
      refine (gcd_l N n b (a % b) (by omega) h2 (by omega)).trans ?_
      rw [Nat.gcd_comm b (a % b), ← Nat.gcd_rec, Nat.gcd_comm]
  | 0, _, _, hb, _, _ => by omega
theorem gcd_eq {N a b : Nat} (hb : b < N) (h1 : a ≤ 1000000000) (h2 : b ≤ 1000000000) : zq20.g N a b = some ((Nat.gcd a b : Nat) : Int) := gcd_l N N a b hb h1 h2
theorem common_l (N : Nat) : ∀ (n a b : Nat), b < n → a ≤ 1000000000 → b ≤ 1000000000 → zq59.l1 N n a b = some ((Nat.gcd a b : Nat) : Int)
  | n+1, a, b, hb, h1, h2 => by
    unfold zq59.l1 zq59.d1 zq59.o1
    by_cases e : b = 0
    · subst e
      rw [dcF (by omega), cond_false, Nat.gcd_zero_right]
    · rw [dcT (by omega), cond_true, ieqF (by omega), cond_false, tmodN]
      have hm : a % b < b := Nat.mod_lt _ (by omega)
      refine (common_l N n b (a % b) (by omega) h2 (by omega)).trans ?_
      rw [Nat.gcd_comm b (a % b), ← Nat.gcd_rec, Nat.gcd_comm]
  | 0, _, _, hb, _, _ => by omega
theorem common_eq {N a b : Nat} (hb : b < N) (h1 : a ≤ 1000000000) (h2 : b ≤ 1000000000) : zq59.g N a b = some ((Nat.gcd a b : Nat) : Int) := common_l N N a b hb h1 h2
theorem w64n {a : Nat} (h : a < 9000000000000000000) : w64 (a : Int) = (a : Int) := w64s (by omega) (by omega)
theorem part_eq {N m D : Nat} (hD : 1 ≤ D) (hN : D < N) (h2 : D ≤ 1000000000) (h1 : m ≤ 1000000000000) : zq24.g N m D = some (((m % D / Nat.gcd (m % D) D : Nat) : Int), ((D / Nat.gcd (m % D) D : Nat) : Int)) := by
  have hr : m % D < D := Nat.mod_lt _ (by omega)
  have hp : 0 < Nat.gcd (m % D) D := Nat.gcd_pos_of_pos_right _ (by omega)
  have e1 : m % D / Nat.gcd (m % D) D ≤ m % D := Nat.div_le_self _ _
  have e2 : D / Nat.gcd (m % D) D ≤ D := Nat.div_le_self _ _
  unfold zq24.g zq24.o0 zq19.g zq19.o0 zq19.d1 zq19.o1
  rw [ieqF (show ¬ (D : Int) = 0 by omega), cond_false, cond_false, tmodN, dcF (by omega), cond_false]
  dsimp only
  rw [Option.bind_some]
  dsimp only
  rw [gcd_eq hN (by omega) h2, Option.bind_some, ieqF (by omega), cond_false, cond_false, tdivN, tdivN]
  generalize m % D / Nat.gcd (m % D) D = x at *
  generalize D / Nat.gcd (m % D) D = y at *
  rw [w64n (by omega), w64n (by omega)]
/-- a time -/
def tm (h m : Nat) : S46 := ⟨((m / Nat.gcd m (60*h) : Nat) : Int), ((60*h / Nat.gcd m (60*h) : Nat) : Int)⟩
theorem part_tm {N h m : Nat} (hN : 1000000 ≤ N) (h1 : 2 ≤ h) (h2 : h ≤ 24) (hm : m < 60*h) : zq24.g N m ((60*h : Nat) : Int) = some ((tm h m).f0, (tm h m).f1) := by
  rw [part_eq (by omega) (by omega) (by omega) (by omega), Nat.mod_eq_of_lt hm]; rfl
theorem diTime_tm {N h m : Nat} (hN : 1000000 ≤ N) (h1 : 2 ≤ h) (h2 : h ≤ 24) (hm : m < 60*h) : zq62.g N h ((m / 60 : Nat) : Int) ((m % 60 : Nat) : Int) 0 = some ((tm h m).f0, (tm h m).f1) := by
  have hp : 0 < Nat.gcd m (60*h) := Nat.gcd_pos_of_pos_right _ (by omega)
  have eg : Nat.gcd (60*m) (60*(60*h)) = 60 * Nat.gcd m (60*h) := Nat.gcd_mul_left ..
  have hle : Nat.gcd m (60*h) ≤ 60*h := Nat.gcd_le_right _ (by omega)
  have e1 : 60*m / (60 * Nat.gcd m (60*h)) = m / Nat.gcd m (60*h) := Nat.mul_div_mul_left _ _ (by omega)
  have e2 : 60*(60*h) / (60 * Nat.gcd m (60*h)) = 60*h / Nat.gcd m (60*h) := Nat.mul_div_mul_left _ _ (by omega)
  have l1 : m / Nat.gcd m (60*h) ≤ m := Nat.div_le_self _ _
  have l2 : 60*h / Nat.gcd m (60*h) ≤ 60*h := Nat.div_le_self _ _
  unfold zq62.g zq62.o0
  have ea : w64 ((w64 ((w64 ((w64 (((m / 60 : Nat) : Int) * 60)) + ((m % 60 : Nat) : Int))) * 60)) + 0) = ((60*m : Nat) : Int) := by
    rw [w64s (n := ((m / 60 : Nat) : Int) * 60) (by omega) (by omega), w64s (n := ((m / 60 : Nat) : Int) * 60 + ((m % 60 : Nat) : Int)) (by omega) (by omega), w64s (n := (((m / 60 : Nat) : Int) * 60 + ((m % 60 : Nat) : Int)) * 60) (by omega) (by omega), w64s (by omega) (by omega)]; omega
  have eb : w64 ((h : Int) * 3600) = ((60*(60*h) : Nat) : Int) := by rw [w64s (by omega) (by omega)]; omega
  rw [ea, eb]
  unfold zq61.g zq61.o0
  rw [ieqF (by omega), cond_false, cond_false, tmodN, Nat.mod_eq_of_lt (by omega), w2add (by omega), tmodN, Nat.add_mod_right, Nat.mod_eq_of_lt (by omega), common_eq (by omega) (by omega) (by omega), Option.bind_some, eg, ieqF (by omega), cond_false, cond_false, tdivN, tdivN, e1, e2]
  unfold tm
  dsimp only
  generalize m / Nat.gcd m (60*h) = x at *
  generalize 60*h / Nat.gcd m (60*h) = y at *
  rw [w64n (by omega), w64n (by omega), dcF (by omega)]; rfl
theorem tm_split {N h m : Nat} (hN : 1000000 ≤ N) (h1 : 2 ≤ h) (h2 : h ≤ 24) (hm : m < 60*h) : zq5.g N h (tm h m).f0 (tm h m).f1 = some (((m / 60 : Nat) : Int), true) ∧ zq12.g N h (tm h m).f0 (tm h m).f1 = some (((m % 60 : Nat) : Int), true) := by
  have hp : 0 < Nat.gcd m (60*h) := Nat.gcd_pos_of_pos_right _ (by omega)
  obtain ⟨a, ha⟩ : Nat.gcd m (60*h) ∣ m := Nat.gcd_dvd_left _ _
  obtain ⟨b, hb⟩ : Nat.gcd m (60*h) ∣ 60*h := Nat.gcd_dvd_right _ _
  have ea : m / Nat.gcd m (60*h) = a := by conv => lhs; lhs; rw [ha]
                                           exact Nat.mul_div_cancel_left _ hp
  have eb : 60*h / Nat.gcd m (60*h) = b := by conv => lhs; lhs; rw [hb]
                                              exact Nat.mul_div_cancel_left _ hp
  have hc : Nat.gcd a b = 1 := by
    have := Nat.gcd_div (Nat.gcd_dvd_left m (60*h)) (Nat.gcd_dvd_right m (60*h))
    rw [ea, eb, Nat.div_self hp] at this; exact this
  have e0 : tm h m = ⟨(a : Int), (b : Int)⟩ := by unfold tm; rw [ea, eb]
  rw [e0]
  clear e0 ea eb
  generalize Nat.gcd m (60*h) = g at *
  have hab : a < b := by
    rcases Nat.lt_or_ge a b with h | h
    · exact h
    · have := Nat.mul_le_mul_left g h; omega
  have hb1 : b ≤ 60*h := by rw [hb]; exact Nat.le_mul_of_pos_left _ hp
  have em : a * h * 60 = m * b := by
    have e1 : a * h * 60 = a * (60 * h) := by rw [Nat.mul_assoc, Nat.mul_comm h 60]
    rw [e1, hb, ha, Nat.mul_comm g a, Nat.mul_assoc]
  have hb0 : 1 ≤ b := by omega
  have ht : zq23.g N h a b = some true := by
    unfold zq23.g zq23.o0 zq10.g zq10.o0
    rw [isDial_eq, inB_iff.2 (by omega), Option.bind_some, cond_true, within_eq, inB_iff.2 (by omega), Option.bind_some, cond_true, w64s (n := (b : Int) - 1) (by omega) (by omega), within_eq, inB_iff.2 (by omega), Option.bind_some, cond_true, gcd_eq (by omega) (by omega) (by omega), Option.bind_some, hc]; rfl
  have hah : a * h ≤ 1440 * 24 := Nat.mul_le_mul (by omega) h2
  have ew : w64 ((w64 ((a : Int) * (h : Int))) * 60) = ((m * b : Nat) : Int) := by
    rw [← Int.natCast_mul, w64n (by omega), w64s (by omega) (by omega), ← em]; omega
  have hmb : m * b ≤ 1440 * 1440 := Nat.mul_le_mul (by omega) (by omega)
  have hsp : zq29.g N h a b = some (((m / 60 : Nat) : Int), ((m % 60 : Nat) : Int), ((m * b % b / Nat.gcd (m * b % b) b : Nat) : Int), ((b / Nat.gcd (m * b % b) b : Nat) : Int)) := by
    unfold zq29.g zq29.o0
    rw [ieqF (by omega), cond_false, ew, part_eq hb0 (by omega) (by omega) (by omega), Option.bind_some, tdivN, Nat.mul_div_cancel _ (by omega), w64n (by omega), show (60 : Int) = ((60 : Nat) : Int) from rfl, tdivN, tmodN, w64n (by omega)]
  unfold zq5.g zq5.o0 zq12.g zq12.o0
  dsimp only
  rw [ht, Option.bind_some, Option.bind_some, Bool.not_true, cond_false, cond_false, hsp]
  exact ⟨rfl, rfl⟩
/-! ### times of the solutions -/
def tmI (h : Int) (x : Int) : S46 := tm h.toNat x.toNat
theorem times_l {N : Nat} (hN : 1000000 ≤ N) {h : Nat} (h1 : 2 ≤ h) (h2 : h ≤ 24) (S : List Int) (hS : ∀ x ∈ S, ∃ k : Nat, k < 60*h ∧ x = (k : Int)) (hl : S.length ≤ 2000) (L : List IClue) : ∀ (d i n : Nat), S.length = i + d → d < n → zq16.l1 N n ((S.take i).map (tmI h)) S (S.length : Int) i h L = some (S.map (tmI h), true)
  | 0, i, n+1, hi, hn => by
    unfold zq16.l1 zq16.d1 zq16.o1
    rw [dcF (by omega), cond_false, List.take_of_length_le (by omega)]
  | d+1, i, n+1, hi, hn => by
    have hlt : i < S.length := by omega
    obtain ⟨k, hk, ek⟩ := hS _ (List.getElem_mem hlt)
    unfold zq16.l1 zq16.d1 zq16.o1
    rw [dcT (by omega), cond_true, dcT (by omega), cond_true, cond_true, Int.toNat_natCast, getAt hlt, ek, w64s (n := 60 * (h : Int)) (by omega) (by omega), show 60 * (h : Int) = ((60*h : Nat) : Int) by omega, part_tm hN h1 h2 hk, Option.bind_some, blT (by simp; omega), cond_true, w1add (by omega)]
    have ih := times_l hN h1 h2 S hS hl L d (i+1) n (by omega) (by omega)
    rw [List.take_succ_eq_append_getElem hlt, List.map_append, ek] at ih
    exact ih
  | _, _, 0, _, hn => by omega
theorem stimes_l {N : Nat} (hN : 1000000 ≤ N) {h : Nat} (h1 : 2 ≤ h) (h2 : h ≤ 24) (S : List Int) (hS : ∀ x ∈ S, ∃ k : Nat, k < 60*h ∧ x = (k : Int)) (hl : S.length ≤ 2000) (L : List IClue) : ∀ (d i n : Nat), S.length = i + d → d < n → zq57.l2 N n ((S.take i).map (tmI h)) S (S.length : Int) i h L = some (S.map (tmI h), true)
  | 0, i, n+1, hi, hn => by
    unfold zq57.l2 zq57.d2 zq57.o2
    rw [dcF (by omega), cond_false, List.take_of_length_le (by omega)]
  | d+1, i, n+1, hi, hn => by
    have hlt : i < S.length := by omega
    obtain ⟨k, hk, ek⟩ := hS _ (List.getElem_mem hlt)
    have e60 : w64 (Int.tdiv (k : Int) 60) = ((k / 60 : Nat) : Int) := by rw [show (60 : Int) = ((60 : Nat) : Int) from rfl, tdivN, w64n (by omega)]
    have e61 : Int.tmod (k : Int) 60 = ((k % 60 : Nat) : Int) := tmodN k 60
    unfold zq57.l2 zq57.d2 zq57.o2
    rw [dcT (by omega), cond_true, dcT (by omega), cond_true, cond_true, Int.toNat_natCast, getAt hlt, ek, e60, e61, diTime_tm hN h1 h2 hk, Option.bind_some, blT (by simp; omega), cond_true, w1add (by omega)]
    have ih := stimes_l hN h1 h2 S hS hl L d (i+1) n (by omega) (by omega)
    rw [List.take_succ_eq_append_getElem hlt, List.map_append, ek] at ih
    exact ih
  | _, _, 0, _, hn => by omega
theorem sols_nat {h : Nat} (l : List IClue) : ∀ x ∈ sols (h : Int) l, ∃ k : Nat, k < 60*h ∧ x = (k : Int) := fun x hx => hvs_of_mem _ hx
def timesR (h : Int) (l : List IClue) : List S46 × Bool := if puzzleOk h l = true then ((sols h l).map (tmI h), true) else ([], false)
theorem Times_eq {N : Nat} (hN : 1000000 ≤ N) (h : Int) (l : List IClue) : zq16.g N h l = some (timesR h l) := by
  unfold zq16.g zq16.o0 timesR
  rw [Solutions_eq (by omega), Option.bind_some]
  unfold solsB
  cases hp : puzzleOk h l with
  | false => rfl
  | true =>
    obtain ⟨h1, h2, h3, h4⟩ := puzzleOk_facts hp
    obtain ⟨h, rfl⟩ := Int.eq_ofNat_of_zero_le (show 0 ≤ h by omega)
    have := sols_len h2 l
    exact times_l hN (by omega) (by omega) (sols h l) (sols_nat l) (by omega) l (sols h l).length 0 N (by omega) (by omega)
theorem sTimes_eq {N : Nat} (hN : 1000000 ≤ N) (h : Int) (l : List IClue) : zq57.g N h l = some (timesR h l) := by
  unfold zq57.g zq57.o0 timesR
  rw [pzGood_eq (by omega), Option.bind_some]
  cases hp : puzzleOk h l with
  | false => rfl
  | true =>
    obtain ⟨h1, h2, h3, h4⟩ := puzzleOk_facts hp
    obtain ⟨h, rfl⟩ := Int.eq_ofNat_of_zero_le (show 0 ≤ h by omega)
    have hl := sols_len h2 l
    have hS := sols_nat (h := h) l
    rw [Bool.not_true, cond_false, pzAll_ok (by omega) hp, Option.bind_some, if_pos rfl]
    generalize sols (h : Int) l = S at *
    obtain ⟨n, rfl⟩ : ∃ n, N = n + 1 := ⟨N - 1, by omega⟩
    dsimp only
    unfold zq57.l1 zq57.d1 zq57.o1
    dsimp only
    cases S with
    | nil => rfl
    | cons x t =>
      obtain ⟨k, hk, ek⟩ := hS x (by simp)
      have e60 : w64 (Int.tdiv (k : Int) 60) = ((k / 60 : Nat) : Int) := by rw [show (60 : Int) = ((60 : Nat) : Int) from rfl, tdivN, w64n (by omega)]
      have e61 : Int.tmod (k : Int) 60 = ((k % 60 : Nat) : Int) := tmodN k 60
      rw [dcT (show (0 : Int) < ((x :: t).length : Int) by simp), cond_true, dcT (show (0 : Int) ≤ 0 by omega), cond_true, cond_true, Int.toNat_zero, getAt (by simp), List.getElem_cons_zero, ek, e60, e61, diTime_tm hN (by omega) (by omega) hk, Option.bind_some, blT (by simp), cond_true]
      have ih := stimes_l hN (show 2 ≤ h by omega) (show h ≤ 24 by omega) (x :: t) hS (by omega) l t.length 1 n (by simp; omega) (by simp at hl; omega)
      rw [ek] at ih
      exact ih
theorem kTurns_l (N : Nat) (l : List S46) (hs : l.length < 1000000000) : ∀ (d i n : Nat), i + d = l.length → d < n → zq39.l1 N n l l l.length i = some true
  | 0, i, n+1, hi, hn => by
    unfold zq39.l1 zq39.d1 zq39.o1
    rw [dcF (by omega), cond_false]
  | d+1, i, n+1, hi, hn => by
    unfold zq39.l1 zq39.d1 zq39.o1
    have hlt : i < l.length := by omega
    simp (disch := omega) only [dcT, cond_true, Int.toNat_natCast, getAt, beq_self_eq_true, Bool.and_self, Bool.not_true, cond_false, w1add]
    exact kTurns_l N l hs d (i+1) n (by omega) (by omega)
  | _, _, 0, _, hn => by omega
theorem kTurns_self {N : Nat} (l : List S46) (hs : l.length < 1000000000) (hN : l.length < N) : zq39.g N l l = some true := by
  unfold zq39.g zq39.o0
  rw [ineF rfl, cond_false]
  exact kTurns_l N l hs l.length 0 N (by omega) hN
end Go.Proofs.YtpeleommbipeaaaGreatDoor.M
namespace Go.Proofs.YtpeleommbipeaaaGreatDoor.M
open Go Go.PM Go.Proofs.YtpeleommbipeaaaGreatDoor.P
set_option linter.unusedVariables false
set_option linter.unusedSimpArgs false
def bsOf (l : List UInt8) : ByteArray := ⟨l.toArray⟩
theorem bsOf_list (l : List UInt8) : (bsOf l).data.toList = l := by simp [bsOf]
theorem bs_ext {a b : ByteArray} (h : a.data.toList = b.data.toList) : a = b := by
  cases a; cases b
  congr
  exact Array.toList_inj.1 h
theorem bsOf_size (l : List UInt8) : (bsOf l).size = l.length := by simp [bsOf, ByteArray.size]
theorem extract_list (s : ByteArray) (a b : Nat) : (s.extract a b).data.toList = (s.data.toList.take b).drop a := by
  simp [ByteArray.data_extract, List.drop_take]
theorem map_data_inj : ∀ {a b : List ByteArray}, a.map (·.data.toList) = b.map (·.data.toList) → a = b
  | [], [], _ => rfl
  | [], _ :: _, h => by simp at h
  | _ :: _, [], h => by simp at h
  | x :: a, y :: b, h => by
    simp only [List.map_cons, List.cons.injEq] at h
    rw [bs_ext h.1, map_data_inj h.2]
theorem bt_at (s : ByteArray) (i : Nat) (h : i < s.data.toList.length) : bt s i = (s.data.toList[i].toNat : Int) := by
  have hs : i < s.size := by rw [Array.length_toList] at h; exact h
  unfold bt
  rw [dif_pos (by simpa using hs)]
  simp only [Int.toNat_natCast]
  rfl
theorem sum_mem {α : Type} (f : α → Nat) : ∀ {l : List α} {x : α}, x ∈ l → f x ≤ (l.map f).sum
  | y :: l, x, h => by
    simp only [List.map_cons, List.sum_cons]
    rcases List.mem_cons.1 h with rfl | h
    · omega
    · have := sum_mem f h; omega
theorem bsOf_append (a b : List UInt8) : bsOf a ++ bsOf b = bsOf (a ++ b) := by
  apply bs_ext
  rw [bsOf_list, ByteArray.data_append, Array.toList_append]
  rfl
def onHead (pre : List UInt8) : List (List UInt8) → List (List UInt8)
  | [] => []
  | h :: t => (pre ++ h) :: t
def splitL (c : UInt8) : List UInt8 → List (List UInt8)
  | [] => [[]]
  | b :: l => if b = c then [] :: splitL c l else onHead [b] (splitL c l)
theorem splitL_ne (c : UInt8) : ∀ l, splitL c l ≠ []
  | [] => by simp [splitL]
  | b :: l => by
    have ih := splitL_ne c l
    unfold splitL
    split
    · simp
    · cases h : splitL c l with
      | nil => exact absurd h ih
      | cons x t => simp [onHead]
theorem onHead_nil (L : List (List UInt8)) : onHead [] L = L := by cases L <;> rfl
theorem onHead_onHead (p q : List UInt8) (L : List (List UInt8)) : onHead p (onHead q L) = onHead (p ++ q) L := by
  cases L <;> simp [onHead]
theorem onHead_sum (p : List UInt8) {L : List (List UInt8)} (h : L ≠ []) : ((onHead p L).map List.length).sum = p.length + (L.map List.length).sum ∧ (onHead p L).length = L.length := by
  cases L with
  | nil => exact absurd rfl h
  | cons x t => simp [onHead]; omega
theorem splitL_sum (c : UInt8) : ∀ l, ((splitL c l).map List.length).sum + (splitL c l).length = l.length + 1
  | [] => by simp [splitL]
  | b :: l => by
    have ih := splitL_sum c l
    have h := onHead_sum [b] (splitL_ne c l)
    unfold splitL
    split
    · simp; omega
    · rw [h.1, h.2]; simp; omega
def pieces (c : UInt8) (s : ByteArray) : List ByteArray := (splitL c s.data.toList).map bsOf
theorem splitK_cons_ne (c b : UInt8) (h : b ≠ c) : ∀ (k : Nat) (l : List UInt8), Lib.splitK [c] 0 k (b :: l) = onHead [b] (Lib.splitK [c] 0 k l)
  | 0, l => rfl
  | k + 1, l => by
    have hp : ([c] : List UInt8).isPrefixOf (b :: l) = false := by simp [List.isPrefixOf, Ne.symm h]
    have hix : Lib.index (b :: l) [c] = if Lib.index l [c] == -1 then -1 else Lib.index l [c] + 1 := by rw [Lib.index, hp]; simp
    unfold Lib.splitK
    rw [hix]
    have hge := Lib.index_ge l [c]
    by_cases hm : Lib.index l [c] = -1
    · simp [hm, onHead]
    · have hm' : (Lib.index l [c] == -1) = false := by simpa using hm
      have h2 : (Lib.index l [c] + 1 == -1) = false := by
        rw [beq_eq_false_iff_ne]; omega
      simp only [hm', Bool.false_eq_true, if_false, h2, onHead]
      rw [show (Lib.index l [c] + 1).toNat = (Lib.index l [c]).toNat + 1 by omega]
      simp only [Nat.add_zero, List.length_singleton, List.take_succ_cons, List.drop_succ_cons, List.singleton_append]
theorem splitK_all (c : UInt8) : ∀ l : List UInt8, Lib.splitK [c] 0 (l.count c) l = splitL c l
  | [] => rfl
  | b :: l => by
    have ih := splitK_all c l
    unfold splitL
    by_cases h : b = c
    · subst h
      rw [if_pos rfl, List.count_cons_self, ← ih]
      have hix : Lib.index (b :: l) [b] = 0 := by rw [Lib.index]; simp [List.isPrefixOf]
      rw [Lib.splitK, hix]
      simp
    · rw [if_neg h, List.count_cons_of_ne (by simpa using h), splitK_cons_ne c b h, ih]
theorem split_eq {N : Nat} (s : ByteArray) (c : UInt8) (hs : s.size < 4294967281) : zq93.g N s (⟨#[c]⟩ : ByteArray) = some (pieces c s) := by
  have h2 : zq93.g N s (⟨#[c]⟩ : ByteArray) = (bif decide (s.size < 4294967281) then some (Lib.splitB ⟨#[c]⟩ 0 (Lib.countB s ⟨#[c]⟩) s) else none) := rfl
  rw [h2, decide_eq_true hs, cond_true]
  congr 1
  apply map_data_inj
  rw [Lib.splitB_data]
  have h3 : Lib.countB s ⟨#[c]⟩ = s.data.toList.count c := by rw [show Lib.countB s ⟨#[c]⟩ = Lib.count s.data.toList [c] from rfl, Lib.count_one]
  rw [h3, show (⟨#[c]⟩ : ByteArray).data.toList = [c] from rfl, splitK_all]
  unfold pieces
  rw [List.map_map]
  conv => lhs; rw [← List.map_id (splitL c s.data.toList)]
  exact List.map_congr_left (fun x _ => (bsOf_list x).symm)
theorem pieces_sum (c : UInt8) (s : ByteArray) : ((pieces c s).map (·.size)).sum + (pieces c s).length = s.size + 1 := by
  have h := splitL_sum c s.data.toList
  have hl : s.data.toList.length = s.size := Array.length_toList
  unfold pieces
  rw [List.map_map, List.length_map, show ((fun x : ByteArray => x.size) ∘ bsOf) = List.length from funext bsOf_size]
  omega
theorem pieces_size (c : UInt8) (s : ByteArray) : ∀ x ∈ pieces c s, x.size ≤ s.size := by
  intro x hx
  have := sum_mem (fun x : ByteArray => x.size) hx
  have h := pieces_sum c s
  have hne : (pieces c s).length ≠ 0 := by
    have := splitL_ne c s.data.toList
    unfold pieces
    rw [List.length_map]
    exact fun e => this (List.eq_nil_of_length_eq_zero e)
  omega
theorem l1Split_l (N : Nat) (s : ByteArray) (c : UInt8) (hs : s.size ≤ 1000000000) : ∀ (d i f n : Nat) (acc : List ByteArray), i + d = s.size → f ≤ i → acc.length ≤ i → d < n →
    zq77.l4 N n s (c.toNat : Int) acc f i = some (acc ++ (onHead ((s.data.toList.take i).drop f) (splitL c (s.data.toList.drop i))).map bsOf)
  | 0, i, f, n+1, acc, hi, hf, ha, hn => by
    have hl : s.data.toList.length = s.size := Array.length_toList
    unfold zq77.l4 zq77.d4 zq77.o4
    rw [dcF (show ¬ (i : Int) < (s.size : Int) by omega), cond_false, dcT (show 0 ≤ (s.size : Int) by omega), cond_true, dcT (show (s.size : Int) ≤ (s.size : Int) by omega), cond_true, dcT (show 0 ≤ (f : Int) by omega), cond_true, dcT (show (f : Int) ≤ (s.size : Int) by omega), cond_true, blT (by simp; omega), cond_true]
    rw [List.drop_eq_nil_of_le (by omega : s.data.toList.length ≤ i)]
    simp only [splitL, onHead, List.append_nil, List.map_cons, List.map_nil]
    congr 3
    apply bs_ext
    rw [extract_list, bsOf_list, Int.toNat_natCast, Int.toNat_natCast, show i = s.size by omega]
  | d+1, i, f, n+1, acc, hi, hf, ha, hn => by
    have hl : s.data.toList.length = s.size := Array.length_toList
    have hlt : i < s.data.toList.length := by omega
    unfold zq77.l4 zq77.d4 zq77.o4
    rw [dcT (show (i : Int) < (s.size : Int) by omega), cond_true, dcT (show 0 ≤ (i : Int) by omega), cond_true, cond_true, bt_at s i hlt, List.drop_eq_getElem_cons hlt]
    unfold splitL
    by_cases e : s.data.toList[i] = c
    · rw [if_pos e, ieqT (by rw [e]), cond_true, cond_true, dcT (show (i : Int) ≤ (s.size : Int) by omega), cond_true, dcT (show 0 ≤ (f : Int) by omega), cond_true, dcT (show (f : Int) ≤ (i : Int) by omega), cond_true, blT (by simp; omega), cond_true]
      unfold zq77.d2 zq77.o2
      dsimp only
      rw [w1add (by omega)]
      have := l1Split_l N s c hs d (i + 1) (i + 1) n (acc ++ [s.extract (f : Int).toNat (i : Int).toNat]) (by omega) (by omega) (by simp; omega) (by omega)
      rw [List.drop_eq_nil_of_le (by simp; omega : (s.data.toList.take (i + 1)).length ≤ i + 1), onHead_nil] at this
      simp only [onHead, List.append_nil, List.map_cons]
      rw [List.append_assoc] at this
      have e2 : bsOf ((s.data.toList.take i).drop f) = s.extract (f : Int).toNat (i : Int).toNat := by
        apply bs_ext
        rw [extract_list, bsOf_list, Int.toNat_natCast, Int.toNat_natCast]
      rw [e2]
      exact this
    · rw [if_neg e, ieqF (fun z => e (UInt8.toNat_inj.1 (by omega))), cond_false]
      unfold zq77.d2 zq77.o2
      dsimp only
      rw [w1add (by omega)]
      have := l1Split_l N s c hs d (i + 1) f n acc (by omega) (by omega) (by omega) (by omega)
      rw [onHead_onHead]
      have e2 : (s.data.toList.take i).drop f ++ [s.data.toList[i]] = (s.data.toList.take (i + 1)).drop f := by
        rw [List.take_succ_eq_append_getElem hlt, List.drop_append_of_le_length (by simp; omega)]
      rw [e2]
      exact this
  | _, _, _, 0, _, _, _, _, hn => by omega
theorem l1Split_l1 (N : Nat) (s : ByteArray) (c : UInt8) (hs : s.size ≤ 1000000000) : ∀ (d i n : Nat), i + d = s.size → d < n →
    zq77.l1 N n s (c.toNat : Int) 0 i = some ((onHead (s.data.toList.take i) (splitL c (s.data.toList.drop i))).map bsOf)
  | 0, i, n+1, hi, hn => by
    have hl : s.data.toList.length = s.size := Array.length_toList
    unfold zq77.l1 zq77.d1 zq77.o1
    rw [dcF (show ¬ (i : Int) < (s.size : Int) by omega), cond_false, dcT (show 0 ≤ (s.size : Int) by omega), cond_true, dcT (show (s.size : Int) ≤ (s.size : Int) by omega), cond_true, dcT (show (0 : Int) ≤ 0 by omega), cond_true, cond_true, blT (by simp), cond_true]
    rw [List.drop_eq_nil_of_le (by omega : s.data.toList.length ≤ i)]
    simp only [splitL, onHead, List.append_nil, List.map_cons, List.map_nil, List.nil_append]
    congr 2
    apply bs_ext
    rw [extract_list, bsOf_list, Int.toNat_natCast, show i = s.size by omega]; rfl
  | d+1, i, n+1, hi, hn => by
    have hl : s.data.toList.length = s.size := Array.length_toList
    have hlt : i < s.data.toList.length := by omega
    unfold zq77.l1 zq77.d1 zq77.o1
    rw [dcT (show (i : Int) < (s.size : Int) by omega), cond_true, dcT (show 0 ≤ (i : Int) by omega), cond_true, cond_true, bt_at s i hlt, List.drop_eq_getElem_cons hlt]
    unfold splitL
    by_cases e : s.data.toList[i] = c
    · rw [if_pos e, ieqT (by rw [e]), cond_true, cond_true, dcT (show (i : Int) ≤ (s.size : Int) by omega), cond_true, dcT (show (0 : Int) ≤ 0 by omega), cond_true, cond_true, blT (by simp), cond_true]
      unfold zq77.d2 zq77.o2
      dsimp only
      rw [w1add (by omega)]
      have := l1Split_l N s c hs d (i + 1) (i + 1) n [s.extract (0 : Int).toNat (i : Int).toNat] (by omega) (by omega) (by simp) (by omega)
      rw [List.drop_eq_nil_of_le (by simp; omega : (s.data.toList.take (i + 1)).length ≤ i + 1), onHead_nil] at this
      simp only [onHead, List.append_nil, List.map_cons, List.nil_append]
      have e2 : bsOf (s.data.toList.take i) = s.extract (0 : Int).toNat (i : Int).toNat := by
        apply bs_ext
        rw [extract_list, bsOf_list, Int.toNat_natCast]; rfl
      rw [e2]
      exact this
    · rw [if_neg e, ieqF (fun z => e (UInt8.toNat_inj.1 (by omega))), cond_false]
      unfold zq77.d3 zq77.o3
      dsimp only
      rw [w1add (by omega)]
      have := l1Split_l1 N s c hs d (i + 1) n (by omega) (by omega)
      rw [onHead_onHead]
      have e2 : s.data.toList.take i ++ [s.data.toList[i]] = s.data.toList.take (i + 1) := by
        rw [List.take_succ_eq_append_getElem hlt]
      rw [e2]
      exact this
  | _, _, 0, _, hn => by omega
theorem l1Split_eq {N : Nat} (s : ByteArray) (c : UInt8) (hs : s.size ≤ 1000000000) (hN : s.size < N) : zq77.g N s (c.toNat : Int) = some (pieces c s) := by
  have := l1Split_l1 N s c hs s.size 0 N (by omega) (by omega)
  simp only [List.take_zero, List.drop_zero, onHead_nil] at this
  exact this
/-! ### joined -/
end Go.Proofs.YtpeleommbipeaaaGreatDoor.M
namespace Go.Proofs.YtpeleommbipeaaaGreatDoor.M
open Go Go.PM Go.Proofs.YtpeleommbipeaaaGreatDoor.P
set_option linter.unusedVariables false
set_option linter.unusedSimpArgs false
set_option maxRecDepth 100000
/-! ### numbers in decimal -/
def dn (n : Int) : List UInt8 := Lib.decDigits n.toNat
theorem dec_small {n : Nat} (h : n < 10) : Lib.decDigits n = [UInt8.ofNat (48 + n)] := by rw [Lib.decDigits, dif_pos h]
theorem dec_big {n : Nat} (h : 10 ≤ n) : Lib.decDigits n = Lib.decDigits (n / 10) ++ [UInt8.ofNat (48 + n % 10)] := by rw [Lib.decDigits, dif_neg (by omega)]
theorem dn_len2 {n : Int} (h : n < 100) : (dn n).length ≤ 2 := by
  unfold dn
  by_cases c : n.toNat < 10
  · rw [dec_small c]; simp
  · rw [dec_big (by omega), dec_small (by omega)]; simp
theorem numsO_all : ∀ xs : List Int, numsO T0 5 xs = some xs
  | [] => rfl
  | x :: xs => by
    have ih := numsO_all xs
    unfold numsO at ih ⊢
    show (seqO _ (x :: xs)) = _
    unfold seqO
    show Option.bind (some x) _ = _
    rw [Option.bind_some, ih]; rfl
theorem wrap8 {x : Int} (h1 : 0 ≤ x) (h2 : x < 256) : (IntKind.wrap .u8) x = x := by
  have e : (IntKind.wrap .u8) x = x % 256 := by simp [IntKind.wrap, IntKind.signed, IntKind.bits]
  rw [e]; omega
theorem strOf_digit {n : Int} (h0 : 0 ≤ n) (h1 : n < 10) : strOfNums [(IntKind.wrap .u8) (w64 (48 + n))] = bsOf [UInt8.ofNat (48 + n.toNat)] := by
  apply bs_ext
  rw [bsOf_list, w64s (by omega) (by omega), wrap8 (by omega) (by omega)]
  have : (48 + n).toNat = 48 + n.toNat := by omega
  simp [strOfNums, this]
theorem num_eq {N : Nat} (hN : 100 ≤ N) {n : Int} (h0 : 0 ≤ n) (h1 : n < 100) : zq74.g N n = some (bsOf (dn n)) := by
  obtain ⟨M, rfl⟩ : ∃ M, N = M + 2 := ⟨N - 2, by omega⟩
  have one : ∀ (k : Nat) (m : Int), 0 ≤ m → m < 10 → zq74.gk (M+2) (k+1) m = some (bsOf [UInt8.ofNat (48 + m.toNat)]) := by
    intro k m m0 m1
    unfold zq74.gk zq74.s zq74.o0
    rw [dcT m1, cond_true, numsO_all, Option.bind_some, strOf_digit m0 m1]
  unfold zq74.g dn
  by_cases c : n < 10
  · rw [dec_small (by omega)]; exact one (M+1) n h0 c
  · have e10 : w64 (Int.tdiv n 10) = n / 10 := by rw [Int.tdiv_eq_ediv_of_nonneg h0, w64s (by omega) (by omega)]
    have e11 : Int.tmod n 10 = n % 10 := Int.tmod_eq_emod_of_nonneg h0
    have e := one M (n / 10) (by omega) (by omega)
    rw [dec_big (by omega), dec_small (by omega)]
    unfold zq74.gk zq74.s zq74.o0
    rw [dcF c, cond_false, e10, e11, e, Option.bind_some, numsO_all, Option.bind_some, strOf_digit (by omega) (by omega), show Nat.ble _ _ = true from Nat.ble_eq_true_of_le (by rw [bsOf_size, bsOf_size]; simp), cond_true, bsOf_append, show (n / 10).toNat = n.toNat / 10 by omega, show (n % 10).toNat = n.toNat % 10 by omega]
theorem itoa_eq (N : Nat) {n : Int} (h0 : 0 ≤ n) (h1 : n < 100) : zq90.g N n = some (bsOf (dn n)) := by
  unfold zq90.g
  rw [dcT h0, dcT h1]; rfl
/-! ### a puzzle's text -/
def clueL (c : IClue) : List UInt8 := dn c.f0 ++ [46] ++ dn c.f1 ++ [46] ++ dn c.f2
def puzL (h : Int) (l : List IClue) : List UInt8 := dn h ++ [58] ++ Lib.join (l.map clueL) [44]
def clueSm (c : IClue) : Prop := (0 ≤ c.f0 ∧ c.f0 < 100) ∧ (0 ≤ c.f1 ∧ c.f1 < 100) ∧ (0 ≤ c.f2 ∧ c.f2 < 100)
theorem clueL_len {c : IClue} (h : clueSm c) : (clueL c).length ≤ 8 := by
  have a := dn_len2 h.1.2
  have b := dn_len2 h.2.1.2
  have d := dn_len2 h.2.2.2
  simp only [clueL, List.length_append, List.length_singleton]
  omega
theorem join_len : ∀ l : List IClue, (∀ c ∈ l, clueSm c) → (Lib.joinTail [44] (l.map clueL)).length ≤ 9 * l.length
  | [], _ => by simp [Lib.joinTail]
  | x :: l, h => by
    have ih := join_len l (fun c hc => h c (List.mem_cons_of_mem _ hc))
    have := clueL_len (h x List.mem_cons_self)
    have e : Lib.joinTail [44] ((x :: l).map clueL) = 44 :: (clueL x ++ Lib.joinTail [44] (l.map clueL)) := rfl
    rw [e, List.length_cons, List.length_append, List.length_cons]; omega
theorem joinAll_len (l : List IClue) (h : ∀ c ∈ l, clueSm c) : (Lib.join (l.map clueL) [44]).length ≤ 9 * l.length := by
  cases l with
  | nil => simp [Lib.join_nil]
  | cons x l =>
    have := join_len l (fun c hc => h c (List.mem_cons_of_mem _ hc))
    have := clueL_len (h x List.mem_cons_self)
    rw [List.map_cons, Lib.join_cons, List.length_append, List.length_cons]
    omega
theorem dot : (⟨#[46]⟩ : ByteArray) = bsOf [46] := rfl
theorem comma : (⟨#[44]⟩ : ByteArray) = bsOf [44] := rfl
theorem colon : (⟨#[58]⟩ : ByteArray) = bsOf [58] := rfl
theorem bleT {a b : Nat} (h : a ≤ b) : Nat.ble a b = true := Nat.ble_eq_true_of_le h
theorem impl_pt_l {N : Nat} (h : Int) (h1 : 0 ≤ h) (h2 : h < 100) (l : List IClue) (hl : l.length ≤ 100000) (hc : ∀ c ∈ l, clueSm c) (L : List IClue) : ∀ (d i n : Nat), i + d = l.length → d < n →
    zq25.l1 N n ((l.take i).map fun c => bsOf (clueL c)) l (l.length : Int) i h L = some (bsOf (puzL h l))
  | 0, i, n+1, hi, hn => by
    have a := dn_len2 h2
    have b := joinAll_len l hc
    unfold zq25.l1 zq25.d1 zq25.o1
    rw [dcF (by omega), cond_false, itoa_eq N h1 h2, Option.bind_some, colon, bleT (by rw [bsOf_size, bsOf_size]; simp only [List.length_singleton]; omega), cond_true, List.take_of_length_le (by omega)]
    have e : ((l.map fun c => bsOf (clueL c)).map (·.data.toList)) = l.map clueL := by
      rw [List.map_map]; exact List.map_congr_left (fun c _ => bsOf_list _)
    have hj : zq92.g N (l.map fun c => bsOf (clueL c)) (⟨#[44]⟩ : ByteArray) = some (bsOf (Lib.join (l.map clueL) [44])) := by
      unfold zq92.g
      rw [e, dcT (show (Lib.join (l.map clueL) (⟨#[44]⟩ : ByteArray).data.toList).length ≤ 140737488355328 ∧ (l.map fun c => bsOf (clueL c)).length ≤ 140737488355328 from ⟨by show (Lib.join (l.map clueL) [44]).length ≤ _; omega, by rw [List.length_map]; omega⟩)]
      rfl
    rw [hj, Option.bind_some, bsOf_append, bleT (by rw [bsOf_size, bsOf_size, List.length_append]; simp only [List.length_singleton]; omega), cond_true, bsOf_append]; rfl
  | d+1, i, n+1, hi, hn => by
    have hlt : i < l.length := by omega
    have hs := hc _ (List.getElem_mem hlt)
    obtain ⟨⟨a0, a1⟩, ⟨b0, b1⟩, ⟨c0, c1⟩⟩ := hs
    have x0 := dn_len2 a1
    have x1 := dn_len2 b1
    have x2 := dn_len2 c1
    unfold zq25.l1 zq25.d1 zq25.o1
    rw [dcT (show (i : Int) < (l.length : Int) by omega), cond_true, dcT (show 0 ≤ (i : Int) by omega), cond_true, cond_true, Int.toNat_natCast, getAt hlt, itoa_eq N a0 a1, Option.bind_some, dot, itoa_eq N b0 b1, itoa_eq N c0 c1]
    simp only [Option.bind_some, bsOf_append]
    have ih := impl_pt_l (N := N) h h1 h2 l hl hc L d (i+1) n (by omega) (by omega)
    rw [List.take_succ_eq_append_getElem hlt, List.map_append] at ih
    rw [bleT (by simp only [bsOf_size, List.length_singleton]; omega), cond_true, bleT (by simp only [bsOf_size, List.length_append, List.length_singleton]; omega), cond_true, bleT (by simp only [bsOf_size, List.length_append, List.length_singleton]; omega), cond_true, bleT (by simp only [bsOf_size, List.length_append, List.length_singleton]; omega), cond_true, blT (by simp; omega), cond_true, w1add (by omega)]
    exact ih
  | _, _, 0, _, hn => by omega
theorem impl_pt_eq {N : Nat} (h : Int) (h1 : 0 ≤ h) (h2 : h < 100) (l : List IClue) (hl : l.length ≤ 100000) (hN : l.length < N) (hc : ∀ c ∈ l, clueSm c) : zq25.g N h l = some (bsOf (puzL h l)) :=
  impl_pt_l h h1 h2 l hl hc l l.length 0 N (by omega) hN
theorem joinTail_cons (x : List UInt8) (r : List (List UInt8)) : Lib.joinTail [44] (x :: r) = [44] ++ x ++ Lib.joinTail [44] r := by simp [Lib.joinTail]
theorem d2_pt {N : Nat} (hN : 100 ≤ N) (acc : List UInt8) (c : IClue) (hs : clueSm c) (ha : acc.length ≤ 10000000) (l : List IClue) (n : Int) (i : Nat) (hi : i ≤ 1000000) (c1 : ByteArray → List IClue → Int → Int → Option zq87.R) : zq87.d2 N (bsOf acc) l n i c.f0 c.f1 c.f2 c1 = c1 (bsOf (acc ++ clueL c)) l n ((i + 1 : Nat) : Int) := by
  obtain ⟨⟨a0, a1⟩, ⟨b0, b1⟩, ⟨c0, c1⟩⟩ := hs
  have x0 := dn_len2 a1
  have x1 := dn_len2 b1
  have x2 := dn_len2 c1
  unfold zq87.d2 zq87.o2
  rw [num_eq hN a0 a1, Option.bind_some, dot, num_eq hN b0 b1, num_eq hN c0 c1]
  simp only [Option.bind_some, bsOf_append]
  rw [bleT (by simp only [bsOf_size, List.length_singleton]; omega), cond_true, bleT (by simp only [bsOf_size, List.length_append, List.length_singleton]; omega), cond_true, bleT (by simp only [bsOf_size, List.length_append, List.length_singleton]; omega), cond_true, bleT (by simp only [bsOf_size, List.length_append, List.length_singleton]; omega), cond_true, bleT (by simp only [bsOf_size, List.length_append, List.length_singleton]; omega), cond_true, w1add (by omega)]
  rfl
theorem spec_pt_l {N : Nat} (hN : 100 ≤ N) (l : List IClue) (hl : l.length ≤ 100000) (hc : ∀ c ∈ l, clueSm c) : ∀ (d i n : Nat) (acc : List UInt8), i + d = l.length → 1 ≤ i → acc.length ≤ 100 + 9 * i → d < n →
    zq87.l1 N n (bsOf acc) l (l.length : Int) i = some (bsOf (acc ++ Lib.joinTail [44] ((l.drop i).map clueL)))
  | 0, i, n+1, acc, hi, h1, ha, hn => by
    unfold zq87.l1 zq87.d1 zq87.o1
    rw [dcF (by omega), cond_false, List.drop_eq_nil_of_le (by omega)]
    simp only [List.map_nil, Lib.joinTail, List.flatten_nil, List.append_nil]
  | d+1, i, n+1, acc, hi, h1, ha, hn => by
    have hlt : i < l.length := by omega
    have hs := hc _ (List.getElem_mem hlt)
    have hcl := clueL_len hs
    unfold zq87.l1 zq87.d1 zq87.o1
    rw [dcT (show (i : Int) < (l.length : Int) by omega), cond_true, dcT (show 0 ≤ (i : Int) by omega), cond_true, cond_true, Int.toNat_natCast, getAt hlt, dcT (show (i : Int) > 0 by omega), cond_true, comma, bleT (by rw [bsOf_size, bsOf_size]; simp only [List.length_singleton]; omega), cond_true, bsOf_append]
    dsimp only
    rw [d2_pt hN _ _ hs (by simp only [List.length_append, List.length_singleton]; omega) l _ i (by omega)]
    have ih := spec_pt_l hN l hl hc d (i+1) n (acc ++ [44] ++ clueL l[i]) (by omega) (by omega) (by simp only [List.length_append, List.length_singleton]; omega) (by omega)
    rw [List.drop_eq_getElem_cons hlt]
    have e : acc ++ Lib.joinTail [44] ((l[i] :: l.drop (i + 1)).map clueL) = acc ++ [44] ++ clueL l[i] ++ Lib.joinTail [44] ((l.drop (i + 1)).map clueL) := by
      rw [List.map_cons, joinTail_cons]; simp only [List.append_assoc]
    rw [e]
    exact ih
  | _, _, 0, _, _, _, _, hn => by omega
theorem spec_pt_eq {N : Nat} (hN : 100 ≤ N) (h : Int) (h1 : 0 ≤ h) (h2 : h < 100) (l : List IClue) (hl : l.length ≤ 100000) (hlN : l.length < N) (hc : ∀ c ∈ l, clueSm c) : zq87.g N h l = some (bsOf (puzL h l)) := by
  have a := dn_len2 h2
  unfold zq87.g zq87.o0
  rw [num_eq hN h1 h2, Option.bind_some, colon, bleT (by rw [bsOf_size, bsOf_size]; simp only [List.length_singleton]; omega), cond_true, bsOf_append]
  unfold puzL
  obtain ⟨n, rfl⟩ : ∃ n, N = n + 1 := ⟨N - 1, by omega⟩
  dsimp only
  unfold zq87.l1 zq87.d1 zq87.o1
  dsimp only
  cases l with
  | nil =>
    rw [dcF (by simp), cond_false]
    simp only [List.map_nil, Lib.join_nil, List.append_nil]
  | cons x l =>
    have hs := hc x List.mem_cons_self
    have hcl := clueL_len hs
    rw [dcT (show (0 : Int) < ((x :: l).length : Int) by simp), cond_true, dcT (show (0 : Int) ≤ 0 by omega), cond_true, cond_true, Int.toNat_zero, getAt (by simp), dcF (show ¬ (0 : Int) > 0 by omega), cond_false, List.getElem_cons_zero]
    refine (d2_pt hN _ x hs (by simp only [List.length_append, List.length_singleton]; omega) _ _ 0 (by omega) _).trans ?_
    rw [List.map_cons, Lib.join_cons, show dn h ++ [58] ++ (clueL x ++ Lib.joinTail [44] (l.map clueL)) = dn h ++ [58] ++ clueL x ++ Lib.joinTail [44] (l.map clueL) from (List.append_assoc ..).symm]
    exact spec_pt_l hN (x :: l) hl hc l.length 1 n (dn h ++ [58] ++ clueL x) (by simp; omega) (by omega) (by simp only [List.length_append, List.length_singleton]; omega) (by simp at hlN; omega)
theorem clueSm_of {h : Int} (h1 : 2 ≤ h) (h2 : h ≤ 24) {c : IClue} (hc : cok h c = true) : clueSm c := by
  unfold cok clueOk kindOk at hc
  unfold clueSm
  rw [w64s (n := h - 1) (by omega) (by omega)] at hc
  rw [Bool.and_eq_true, Bool.or_eq_true, decide_eq_true_eq, decide_eq_true_eq] at hc
  obtain ⟨h3, h4⟩ := hc
  by_cases k0 : c.f0 = 0
  · rw [if_pos k0, inB_iff] at h4; omega
  rw [if_neg k0] at h4
  by_cases k1 : c.f0 = 1
  · rw [if_pos k1, Bool.and_eq_true, inB_iff, inB_iff] at h4
    rw [w64s (n := c.f1 - 1) (by omega) (by omega)] at h4; omega
  rw [if_neg k1] at h4
  by_cases k2 : c.f0 = 2
  · rw [if_pos k2, inB_iff] at h4; omega
  rw [if_neg k2] at h4
  by_cases k3 : c.f0 = 3
  · rw [if_pos k3, inB_iff] at h4; omega
  rw [if_neg k3] at h4
  by_cases k4 : c.f0 = 4
  · rw [if_pos k4, inB_iff] at h4; omega
  rw [if_neg k4] at h4
  by_cases k5 : c.f0 = 5
  · rw [if_pos k5, inB_iff] at h4; omega
  rw [if_neg k5] at h4
  cases h4
theorem puz_sm {h : Int} {l : List IClue} (hp : puzzleOk h l = true) : (0 ≤ h ∧ h < 100) ∧ l.length ≤ 6 ∧ ∀ c ∈ l, clueSm c := by
  obtain ⟨h1, h2, h3, h4⟩ := puzzleOk_facts hp
  exact ⟨by omega, h3, fun c hc => clueSm_of h1 h2 (List.all_eq_true.1 h4 c hc)⟩
def textR (h : Int) (l : List IClue) : ByteArray × Bool := if puzzleOk h l = true then (bsOf (puzL h l), true) else (⟨#[]⟩, false)
theorem PuzzleText_eq {N : Nat} (hN : 10000 ≤ N) (h : Int) (l : List IClue) : zq15.g N h l = some (textR h l) := by
  unfold zq15.g zq15.o0 textR
  rw [isPuzzle_eq hN, Option.bind_some]
  cases hp : puzzleOk h l with
  | false => rfl
  | true =>
    obtain ⟨a, b, c⟩ := puz_sm hp
    rw [Bool.not_true, cond_false, impl_pt_eq h a.1 a.2 l (by omega) (by omega) c, if_pos rfl]; rfl
theorem sPuzzleText_eq {N : Nat} (hN : 10000 ≤ N) (h : Int) (l : List IClue) : zq56.g N h l = some (textR h l) := by
  unfold zq56.g zq56.o0 textR
  rw [pzGood_eq hN, Option.bind_some]
  cases hp : puzzleOk h l with
  | false => rfl
  | true =>
    obtain ⟨a, b, c⟩ := puz_sm hp
    rw [Bool.not_true, cond_false, spec_pt_eq (by omega) h a.1 a.2 l (by omega) (by omega) c, if_pos rfl]; rfl
/-! ### numbers in texts -/
def d2 (n : Nat) : List UInt8 := if n < 10 then [UInt8.ofNat (48 + n)] else [UInt8.ofNat (48 + n / 10), UInt8.ofNat (48 + n % 10)]
theorem dn_d2 {n : Int} (h0 : 0 ≤ n) (h1 : n < 100) : dn n = d2 n.toNat := by
  unfold dn d2
  by_cases c : n.toNat < 10
  · rw [dec_small c, if_pos c]
  · rw [dec_big (by omega), dec_small (by omega), if_neg c]; rfl
theorem d2_atoi : ((List.range 100).all fun n => match Lib.atoiAll (d2 n) with | .ok v => v == (n : Int) | _ => false) = true := by decide +kernel
theorem d2_digits : ((List.range 100).all fun n => (d2 n).all fun c => decide (48 ≤ c.toNat) && decide (c.toNat ≤ 57)) = true := by decide +kernel
theorem atoi_dn {n : Int} (h0 : 0 ≤ n) (h1 : n < 100) : Lib.atoiAll (dn n) = .ok n := by
  rw [dn_d2 h0 h1]
  have := List.all_eq_true.1 d2_atoi n.toNat (List.mem_range.2 (by omega))
  revert this
  rcases Lib.atoiAll (d2 n.toNat) with v | _ | _
  · intro h; simp only [beq_iff_eq] at h; congr 1; omega
  · intro h; cases h
  · intro h; cases h
theorem dn_digits {n : Int} (h0 : 0 ≤ n) (h1 : n < 100) : ∀ c ∈ dn n, 48 ≤ c.toNat ∧ c.toNat ≤ 57 := by
  intro c hc
  rw [dn_d2 h0 h1] at hc
  have := List.all_eq_true.1 (List.all_eq_true.1 d2_digits n.toNat (List.mem_range.2 (by omega))) c hc
  simpa using this
theorem bs_toList (a : ByteArray) : a.toList = a.data.toList := Lib.toList_data a
noncomputable def rn (s : ByteArray) (m : Int) : Int × Bool := zq26.v s m
theorem rn_eq (N : Nat) (s : ByteArray) (m : Int) (hs : s.size ≤ 281474976710656) (hm : m ≤ 1000) : zq26.g N s m = some (rn s m) := by
  unfold zq26.g
  rw [dcT hs, dcT (by omega)]; rfl
theorem rn_dn {n m : Int} (h0 : 0 ≤ n) (h1 : n < 100) (hm : n ≤ m) : rn (bsOf (dn n)) m = (n, true) := by
  unfold rn zq26.v
  rw [bsOf_list, atoi_dn h0 h1]
  show (if 0 ≤ n ∧ n ≤ m then (if Lib.itoa n = (bsOf (dn n)).toList then (n, true) else (0, false)) else (0, false)) = _
  rw [if_pos ⟨h0, hm⟩, if_pos]
  rw [bs_toList, bsOf_list]
  unfold Lib.itoa dn
  rw [if_neg (by omega)]
def readGo : List UInt8 → Int → Int
  | [], n => n
  | c :: cs, n => if (c.toNat : Int) < 48 then -1 else if (c.toNat : Int) > 57 then -1 else readGo cs (w64 (w64 (10 * n) + ((c.toNat : Int) - 48)))
def readL (s : ByteArray) : Int := if inB s.size 1 6 = true then (if bt s 0 = 48 ∧ (s.size : Int) > 1 then -1 else readGo s.data.toList 0) else -1
theorem l1Read_l (N : Nat) (s : ByteArray) (hs : s.size ≤ 6) : ∀ (d i n : Nat) (x : Int), i + d = s.size → d < n → zq75.l2 N n s x i = some (readGo (s.data.toList.drop i) x)
  | 0, i, n+1, x, hi, hn => by
    have hl : s.data.toList.length = s.size := Array.length_toList
    unfold zq75.l2 zq75.d2 zq75.o2
    rw [dcF (by omega), cond_false, List.drop_eq_nil_of_le (by omega)]; rfl
  | d+1, i, n+1, x, hi, hn => by
    have hl : s.data.toList.length = s.size := Array.length_toList
    have hlt : i < s.data.toList.length := by omega
    have hb := UInt8.toNat_lt s.data.toList[i]
    unfold zq75.l2 zq75.d2 zq75.o2
    rw [dcT (show (i : Int) < (s.size : Int) by omega), cond_true, dcT (show 0 ≤ (i : Int) by omega), cond_true, cond_true, bt_at s i hlt, List.drop_eq_getElem_cons hlt]
    unfold readGo
    by_cases c1 : (s.data.toList[i].toNat : Int) < 48
    · rw [dcT c1, cond_true, if_pos c1]; rfl
    rw [dcF c1, cond_false, cond_true, cond_true, if_neg c1]
    by_cases c2 : (s.data.toList[i].toNat : Int) > 57
    · rw [dcT c2, if_pos c2]; rfl
    rw [dcF c2, if_neg c2]
    unfold zq75.d3 zq75.o3
    dsimp only
    rw [cond_false, dcT (show 0 ≤ (i : Int) by omega), cond_true, dcT (show (i : Int) < (s.size : Int) by omega), cond_true, bt_at s i hlt, wrap8 (by omega) (by omega), w64s (n := (s.data.toList[i].toNat : Int) - 48) (by omega) (by omega), w1add (by omega)]
    exact l1Read_l N s hs d (i + 1) n _ (by omega) (by omega)
  | _, _, 0, _, _, hn => by omega
theorem l1Read_eq {N : Nat} (hN : 10000 ≤ N) (s : ByteArray) : zq75.g N s = some (readL s) := by
  unfold zq75.g zq75.o0 readL
  rw [l1In_eq, Option.bind_some]
  cases h : inB s.size 1 6 with
  | false => rfl
  | true =>
    have h' := inB_iff.1 h
    have hg : zq75.l2 N N s 0 0 = some (readGo s.data.toList 0) := by
      have := l1Read_l N s (by omega) s.size 0 N 0 (by omega) (by omega)
      rw [List.drop_zero] at this
      exact this
    rw [Bool.not_true, cond_false, dcT (show 0 < (s.size : Int) by omega), cond_true, if_pos rfl]
    unfold zq75.d1 zq75.o1
    by_cases c : bt s 0 = 48
    · rw [ieqT c, cond_true]
      by_cases e : (s.size : Int) > 1
      · rw [dcT e, if_pos ⟨c, e⟩]; rfl
      · rw [dcF e, if_neg (fun z => e z.2)]; exact hg
    · rw [ieqF c, cond_false, if_neg (fun z => c z.1)]; exact hg
theorem d2_read : ((List.range 100).all fun n => decide (readL (bsOf (d2 n)) = (n : Int))) = true := by decide +kernel
theorem read_dn {n : Int} (h0 : 0 ≤ n) (h1 : n < 100) : readL (bsOf (dn n)) = n := by
  rw [dn_d2 h0 h1]
  have := List.all_eq_true.1 d2_read n.toNat (List.mem_range.2 (by omega))
  have := of_decide_eq_true this
  omega
/-! ### what the program reads -/
abbrev PRes := Int × List IClue × Bool
def endI (s : ByteArray) (ok : Bool) (h : Int) (cl : List IClue) : PRes := if ok = true ∧ puzzleOk h cl = true ∧ bsOf (puzL h cl) = s then (h, cl, true) else (0, [], false)
theorem bs_eq_iff (a b : ByteArray) : a.toList = b.toList ↔ a = b := ⟨fun h => bs_ext (by rw [← bs_toList, ← bs_toList]; exact h), fun h => by rw [h]⟩
theorem bsBeq (a b : ByteArray) : (a.toList == b.toList) = decide (a = b) := by
  rw [Bool.eq_iff_iff, beq_iff_eq, decide_eq_true_eq]; exact bs_eq_iff a b
theorem endI_d8 {N : Nat} (hN : 10000 ≤ N) (s : ByteArray) (ok : Bool) (x h : Int) (cl : List IClue) : zq14.d8 N s ok x h cl = some (endI s ok h cl) := by
  unfold zq14.d8 zq14.o8 zq14.d10 zq14.o10 endI
  cases ok with
  | false => rfl
  | true =>
    dsimp only
    rw [isPuzzle_eq hN, Option.bind_some]
    cases hp : puzzleOk h cl with
    | false => rfl
    | true =>
      obtain ⟨a, b, c⟩ := puz_sm hp
      rw [impl_pt_eq h a.1 a.2 cl (by omega) (by omega) c, Option.bind_some, bsBeq]
      by_cases e : bsOf (puzL h cl) = s
      · rw [dcT e, if_pos ⟨rfl, rfl, e⟩]; rfl
      · rw [dcF e, if_neg (fun z => e z.2.2)]; rfl
theorem endI_d2 {N : Nat} (hN : 10000 ≤ N) (s : ByteArray) (ok : Bool) (x h : Int) : zq14.d2 N s ok x h = some (endI s ok h []) := by
  unfold zq14.d2 zq14.o2 zq14.d4 zq14.o4 endI
  cases ok with
  | false => rfl
  | true =>
    dsimp only
    rw [isPuzzle_eq hN, Option.bind_some]
    cases hp : puzzleOk h [] with
    | false => rfl
    | true =>
      obtain ⟨a, b, c⟩ := puz_sm hp
      rw [impl_pt_eq h a.1 a.2 [] (by omega) (by omega) c, Option.bind_some, bsBeq]
      by_cases e : bsOf (puzL h []) = s
      · rw [dcT e, if_pos ⟨rfl, rfl, e⟩]; rfl
      · rw [dcF e, if_neg (fun z => e z.2.2)]; rfl
noncomputable def wordsI : List ByteArray → Bool → List Int → Bool × List Int
  | [], ok, acc => (ok, acc)
  | w :: ws, ok, acc => wordsI ws (ok && (rn w 99).2) (acc ++ [(rn w 99).1])
def c3 {α : Type} (l : List Int) (f : IClue → α) (z : α) : α := match l with
  | [a, b, c] => f ⟨a, b, c⟩
  | _ => z
noncomputable def piecesI : List ByteArray → Bool → List IClue → Option (Bool × List IClue)
  | [], ok, cl => some (ok, cl)
  | p :: ps, ok, cl => c3 (wordsI (pieces 46 p) ok []).2 (fun c => piecesI ps (wordsI (pieces 46 p) ok []).1 (cl ++ [c])) none
theorem end3 {α : Type} (l : List Int) (f : IClue → Option α) (z : Option α) : (bif ((l.length : Int) != 3) then z else
 bif (decide (0 < (l.length : Int))) then
  (l[(0 : Int).toNat]?).bind fun x3 =>
  bif (decide (1 < (l.length : Int))) then
   (l[(1 : Int).toNat]?).bind fun x4 =>
   bif (decide (2 < (l.length : Int))) then
    (l[(2 : Int).toNat]?).bind fun x5 => f ⟨x3, x4, x5⟩
   else
   none
  else
  none
 else
 none) = c3 l f z := by
  rcases l with _ | ⟨a, _ | ⟨b, _ | ⟨c, _ | ⟨d, t⟩⟩⟩⟩
  · rfl
  · rfl
  · rfl
  · rfl
  · rw [ineT (by simp; omega)]; rfl
theorem l3_l (N : Nat) (s : ByteArray) (P : List ByteArray) (np pi v9 h : Int) (ws : List ByteArray) (hws : ∀ w ∈ ws, w.size ≤ 1048576) (hn : ws.length ≤ 2000000) (C : ByteArray → Bool → List ByteArray → Int → Int → Int → Int → List IClue → Option zq14.R) : ∀ (d i n : Nat) (ok : Bool) (acc : List Int), i + d = ws.length → acc.length = i → d < n →
    zq14.l3 N n s ok acc P np pi ws ws.length i v9 h C = c3 (wordsI (ws.drop i) ok acc).2 (fun c => C s (wordsI (ws.drop i) ok acc).1 P np (w64 (pi + 1)) v9 h [c]) (some (0, [], false))
  | 0, i, n+1, ok, acc, hi, ha, hd => by
    unfold zq14.l3 zq14.d3 zq14.o3
    rw [dcF (by omega), cond_false, List.drop_eq_nil_of_le (by omega)]
    exact end3 acc (fun c => C s ok P np (w64 (pi + 1)) v9 h [c]) (some (0, [], false))
  | d+1, i, n+1, ok, acc, hi, ha, hd => by
    have hlt : i < ws.length := by omega
    have hz := hws _ (List.getElem_mem hlt)
    unfold zq14.l3 zq14.d3 zq14.o3
    rw [dcT (show (i : Int) < (ws.length : Int) by omega), cond_true, dcT (show 0 ≤ (i : Int) by omega), cond_true, cond_true, Int.toNat_natCast, getAt hlt, rn_eq N _ _ (by omega) (by omega), Option.bind_some, List.drop_eq_getElem_cons hlt]
    unfold wordsI
    have ih := l3_l N s P np pi v9 h ws hws hn C d (i + 1) n (ok && (rn ws[i] 99).2) (acc ++ [(rn ws[i] 99).1]) (by omega) (by rw [List.length_append, List.length_singleton]; omega) (by omega)
    cases ok with
    | true =>
      rw [cond_true]
      unfold zq14.d5 zq14.o5
      dsimp only
      rw [blT (by simp; omega), cond_true, w1add (by omega)]
      exact ih
    | false =>
      rw [cond_false]
      unfold zq14.d5 zq14.o5
      dsimp only
      rw [blT (by simp; omega), cond_true, w1add (by omega)]
      exact ih
  | _, _, 0, _, _, _, _, hd => by omega
theorem l7_l (N : Nat) (s : ByteArray) (P : List ByteArray) (np pi v9 h : Int) (cl : List IClue) (hcl : cl.length ≤ 2000000) (ws : List ByteArray) (hws : ∀ w ∈ ws, w.size ≤ 1048576) (hn : ws.length ≤ 2000000) (C : ByteArray → Bool → List ByteArray → Int → Int → Int → Int → List IClue → Option zq14.R) : ∀ (d i n : Nat) (ok : Bool) (acc : List Int), i + d = ws.length → acc.length = i → d < n →
    zq14.l7 N n s ok acc P np pi ws ws.length i v9 h cl C = c3 (wordsI (ws.drop i) ok acc).2 (fun c => C s (wordsI (ws.drop i) ok acc).1 P np (w64 (pi + 1)) v9 h (cl ++ [c])) (some (0, [], false))
  | 0, i, n+1, ok, acc, hi, ha, hd => by
    unfold zq14.l7 zq14.d7 zq14.o7
    rw [dcF (by omega), cond_false, List.drop_eq_nil_of_le (by omega)]
    have hb : ∀ c : IClue, Nat.blt (cl.length + ([c] : List IClue).length) 5864062014805 = true := fun c => blT (by simp; omega)
    simp only [hb, cond_true]
    exact end3 acc (fun c => C s ok P np (w64 (pi + 1)) v9 h (cl ++ [c])) (some (0, [], false))
  | d+1, i, n+1, ok, acc, hi, ha, hd => by
    have hlt : i < ws.length := by omega
    have hz := hws _ (List.getElem_mem hlt)
    unfold zq14.l7 zq14.d7 zq14.o7
    rw [dcT (show (i : Int) < (ws.length : Int) by omega), cond_true, dcT (show 0 ≤ (i : Int) by omega), cond_true, cond_true, Int.toNat_natCast, getAt hlt, rn_eq N _ _ (by omega) (by omega), Option.bind_some, List.drop_eq_getElem_cons hlt]
    unfold wordsI
    have ih := l7_l N s P np pi v9 h cl hcl ws hws hn C d (i + 1) n (ok && (rn ws[i] 99).2) (acc ++ [(rn ws[i] 99).1]) (by omega) (by rw [List.length_append, List.length_singleton]; omega) (by omega)
    cases ok with
    | true =>
      rw [cond_true]
      unfold zq14.d9 zq14.o9
      dsimp only
      rw [blT (by simp; omega), cond_true, w1add (by omega)]
      exact ih
    | false =>
      rw [cond_false]
      unfold zq14.d9 zq14.o9
      dsimp only
      rw [blT (by simp; omega), cond_true, w1add (by omega)]
      exact ih
  | _, _, 0, _, _, _, _, hd => by omega
def outI (s : ByteArray) (h : Int) : Option (Bool × List IClue) → PRes
  | none => (0, [], false)
  | some (ok, cl) => endI s ok h cl
theorem c3_map {α β : Type} (g : α → β) (l : List Int) (f : IClue → α) (z : α) : g (c3 l f z) = c3 l (fun c => g (f c)) (g z) := by
  unfold c3; split <;> rfl
theorem c3_congr {α : Type} {l : List Int} {f f' : IClue → α} {z z' : α} (h : ∀ c, f c = f' c) (hz : z = z') : c3 l f z = c3 l f' z' := by
  rw [show f = f' from funext h, hz]
theorem pieces_len (c : UInt8) (s : ByteArray) : (pieces c s).length ≤ s.size + 1 := by have := pieces_sum c s; omega
theorem l6_l {N : Nat} (hN : 3000000 ≤ N) (s : ByteArray) (v5 h : Int) (P : List ByteArray) (hP : ∀ p ∈ P, p.size ≤ 1048576) (hn : P.length ≤ 2000000) : ∀ (d i n : Nat) (ok : Bool) (cl : List IClue), i + d = P.length → cl.length ≤ i → d < n →
    zq14.l6 N n s ok P P.length i v5 h cl = some (outI s h (piecesI (P.drop i) ok cl))
  | 0, i, n+1, ok, cl, hi, hc, hd => by
    unfold zq14.l6 zq14.d6 zq14.o6
    rw [dcF (by omega), cond_false, List.drop_eq_nil_of_le (by omega)]
    exact endI_d8 (by omega) s ok v5 h cl
  | d+1, i, n+1, ok, cl, hi, hc, hd => by
    have hlt : i < P.length := by omega
    have hsz := hP _ (List.getElem_mem hlt)
    have hl := pieces_len 46 P[i]
    unfold zq14.l6 zq14.d6 zq14.o6
    rw [dcT (show (i : Int) < (P.length : Int) by omega), cond_true, dcT (show 0 ≤ (i : Int) by omega), cond_true, cond_true, Int.toNat_natCast, getAt hlt, split_eq _ 46 (by omega), Option.bind_some, List.drop_eq_getElem_cons hlt]
    refine (l7_l N s P P.length i v5 h cl (by omega) (pieces 46 P[i]) (fun w hw => by have := pieces_size 46 P[i] w hw; omega) (by omega) _ (pieces 46 P[i]).length 0 N ok [] (by omega) rfl (by omega)).trans ?_
    rw [List.drop_zero, w1add (by omega)]
    unfold piecesI
    rw [c3_map (outI s h), c3_map some]
    refine c3_congr (fun c => ?_) rfl
    exact l6_l hN s v5 h P hP hn d (i + 1) n _ _ (by omega) (by rw [List.length_append, List.length_singleton]; omega) (by omega)
  | _, _, 0, _, _, _, _, hd => by omega
theorem l1_l {N : Nat} (hN : 3000000 ≤ N) (s : ByteArray) (v5 h : Int) (P : List ByteArray) (hP : ∀ p ∈ P, p.size ≤ 1048576) (hn : P.length ≤ 2000000) (ok : Bool) (n : Nat) (hd : 2000000 ≤ n) :
    zq14.l1 N (n + 1) s ok P P.length 0 v5 h = some (outI s h (piecesI P ok [])) := by
  unfold zq14.l1 zq14.d1 zq14.o1
  cases P with
  | nil =>
    dsimp only
    rw [dcF (by simp), cond_false]
    exact endI_d2 (by omega) s ok v5 h
  | cons p P =>
    have hsz := hP p List.mem_cons_self
    have hl := pieces_len 46 p
    dsimp only
    rw [dcT (show (0 : Int) < ((p :: P).length : Int) by simp), cond_true, dcT (show (0 : Int) ≤ 0 by omega), cond_true, cond_true, Int.toNat_zero, getAt (by simp), List.getElem_cons_zero, split_eq _ 46 (by omega), Option.bind_some]
    refine (l3_l N s (p :: P) (p :: P).length 0 v5 h (pieces 46 p) (fun w hw => by have := pieces_size 46 p w hw; omega) (by omega) _ (pieces 46 p).length 0 N ok [] (by omega) rfl (by omega)).trans ?_
    rw [List.drop_zero]
    unfold piecesI
    rw [c3_map (outI s h), c3_map some]
    refine c3_congr (fun c => ?_) rfl
    exact l6_l hN s v5 h (p :: P) hP hn P.length 1 n _ _ (by simp; omega) (by simp) (by simp at hn; omega)
noncomputable def cutB (s : ByteArray) : ByteArray × ByteArray := if Lib.indexByte s.data.toList 58 < 0 then (s, ⟨#[]⟩) else (s.extract 0 (Lib.indexByte s.data.toList 58).toNat, s.extract ((Lib.indexByte s.data.toList 58).toNat + 1) s.size)
theorem cut_eq (N : Nat) (s : ByteArray) (hs : s.size ≤ 1048576) : ∃ b, zq91.g N s (⟨#[58]⟩ : ByteArray) = some ((cutB s).1, (cutB s).2, b) := by
  have h2 : zq91.g N s (⟨#[58]⟩ : ByteArray) = (bif decide (s.size < 4294967281) then some (if Lib.indexByte s.data.toList 58 < 0 then (s, ⟨#[]⟩, false) else (s.extract 0 (Lib.indexByte s.data.toList 58).toNat, s.extract ((Lib.indexByte s.data.toList 58).toNat + 1) s.size, true)) else none) := rfl
  rw [h2, dcT (by omega), cond_true]
  unfold cutB
  by_cases c : Lib.indexByte s.data.toList 58 < 0
  · rw [if_pos c, if_pos c]; exact ⟨_, rfl⟩
  · rw [if_neg c, if_neg c]; exact ⟨_, rfl⟩
theorem cutB_size (s : ByteArray) : (cutB s).1.size ≤ s.size ∧ (cutB s).2.size ≤ s.size := by
  unfold cutB
  split
  · exact ⟨Nat.le_refl _, Nat.zero_le _⟩
  · rw [ByteArray.size_extract, ByteArray.size_extract]; omega
noncomputable def resI (s : ByteArray) : PRes := if (cutB s).2.data.toList = [] then endI s (rn (cutB s).1 24).2 (rn (cutB s).1 24).1 [] else outI s (rn (cutB s).1 24).1 (piecesI (pieces 44 (cutB s).2) (rn (cutB s).1 24).2 [])
theorem impl_pp_eq {N : Nat} (hN : 3000000 ≤ N) (s : ByteArray) (hs : s.size ≤ 1048576) : zq14.g N s = some (resI s) := by
  obtain ⟨b, hc⟩ := cut_eq N s hs
  have hz := cutB_size s
  have hl := pieces_len 44 (cutB s).2
  unfold zq14.g zq14.o0 resI
  rw [hc, Option.bind_some]
  dsimp only
  rw [rn_eq N _ _ (by omega) (by omega), Option.bind_some, bs_toList, bs_toList]
  by_cases e : (cutB s).2.data.toList = []
  · rw [e, if_pos rfl]
    exact endI_d2 (by omega) _ _ _ _
  · rw [if_neg e, show ((cutB s).2.data.toList == (⟨#[]⟩ : ByteArray).data.toList) = false from beq_eq_false_iff_ne.mpr e, Bool.not_false, cond_true, split_eq _ 44 (by omega), Option.bind_some]
    obtain ⟨n, hnn⟩ : ∃ n, N = n + 1 := ⟨N - 1, by omega⟩
    have e1 : zq14.l1 N N = zq14.l1 N (n + 1) := congrArg _ hnn
    rw [e1]
    exact l1_l hN s 0 _ (pieces 44 (cutB s).2) (fun p hp => by have := pieces_size 44 (cutB s).2 p hp; omega) (by omega) _ n (by omega)
/-! ### what the reference reads -/
def endS (s : ByteArray) (h : Int) (cl : List IClue) : PRes := if puzzleOk h cl = true then (h, cl, decide (bsOf (puzL h cl) = s)) else (h, cl, false)
def p3 {α : Type} (l : List ByteArray) (f : IClue → α) (z : α) : α := match l with
  | [a, b, c] => f ⟨readL a, readL b, readL c⟩
  | _ => z
def piecesS : List ByteArray → List IClue → Option (List IClue)
  | [], cl => some cl
  | p :: ps, cl => p3 (pieces 46 p) (fun c => piecesS ps (cl ++ [c])) none
def outS (s : ByteArray) (h : Int) : Option (List IClue) → PRes
  | none => (0, [], false)
  | some cl => endS s h cl
theorem p3_map {α β : Type} (g : α → β) (l : List ByteArray) (f : IClue → α) (z : α) : g (p3 l f z) = p3 l (fun c => g (f c)) (g z) := by
  unfold p3; split <;> rfl
theorem p3_congr {α : Type} {l : List ByteArray} {f f' : IClue → α} {z z' : α} (h : ∀ c, f c = f' c) (hz : z = z') : p3 l f z = p3 l f' z' := by
  rw [show f = f' from funext h, hz]
theorem endS3 {N : Nat} (hN : 10000 ≤ N) {α : Type} (l : List ByteArray) (f : IClue → Option α) (z : Option α) : (bif ((l.length : Int) != 3) then z else
 bif (decide (0 < (l.length : Int))) then
  (l[(0 : Int).toNat]?).bind fun x3 =>
  (zq75.g N x3).bind fun r4 =>
  bif (decide (1 < (l.length : Int))) then
   (l[(1 : Int).toNat]?).bind fun x5 =>
   (zq75.g N x5).bind fun r6 =>
   bif (decide (2 < (l.length : Int))) then
    (l[(2 : Int).toNat]?).bind fun x7 =>
    (zq75.g N x7).bind fun r8 => f ⟨r4, r6, r8⟩
   else
   none
  else
  none
 else
 none) = p3 l f z := by
  simp only [l1Read_eq hN, Option.bind_some]
  rcases l with _ | ⟨a, _ | ⟨b, _ | ⟨c, _ | ⟨d, t⟩⟩⟩⟩
  · rfl
  · rfl
  · rfl
  · rfl
  · rw [ineT (by simp; omega)]; rfl
theorem endS_d4 {N : Nat} (hN : 10000 ≤ N) (s : ByteArray) (x h : Int) (cl : List IClue) : zq85.d4 N s x h cl = some (endS s h cl) := by
  unfold zq85.d4 zq85.o4 endS
  rw [pzGood_eq hN, Option.bind_some]
  cases hp : puzzleOk h cl with
  | false => rfl
  | true =>
    obtain ⟨a, b, c⟩ := puz_sm hp
    rw [cond_true, spec_pt_eq (by omega) h a.1 a.2 cl (by omega) (by omega) c, Option.bind_some, bsBeq, if_pos rfl]
theorem endS_d2 {N : Nat} (hN : 10000 ≤ N) (s : ByteArray) (x h : Int) : zq85.d2 N s x h = some (endS s h []) := by
  unfold zq85.d2 zq85.o2 endS
  rw [pzGood_eq hN, Option.bind_some]
  cases hp : puzzleOk h [] with
  | false => rfl
  | true =>
    obtain ⟨a, b, c⟩ := puz_sm hp
    rw [cond_true, spec_pt_eq (by omega) h a.1 a.2 [] (by omega) (by omega) c, Option.bind_some, bsBeq, if_pos rfl]
theorem s3_l {N : Nat} (hN : 3000000 ≤ N) (s : ByteArray) (v4 h : Int) (P : List ByteArray) (hP : ∀ p ∈ P, p.size ≤ 1048576) (hn : P.length ≤ 2000000) : ∀ (d i n : Nat) (cl : List IClue), i + d = P.length → cl.length ≤ i → d < n →
    zq85.l3 N n s P P.length i v4 h cl = some (outS s h (piecesS (P.drop i) cl))
  | 0, i, n+1, cl, hi, hc, hd => by
    unfold zq85.l3 zq85.d3 zq85.o3
    rw [dcF (by omega), cond_false, List.drop_eq_nil_of_le (by omega)]
    exact endS_d4 (by omega) s v4 h cl
  | d+1, i, n+1, cl, hi, hc, hd => by
    have hlt : i < P.length := by omega
    have hsz := hP _ (List.getElem_mem hlt)
    have hb : ∀ c : IClue, Nat.blt (cl.length + ([c] : List IClue).length) 5864062014805 = true := fun c => blT (by simp; omega)
    have hsp : zq77.g N P[i] 46 = some (pieces 46 P[i]) := l1Split_eq P[i] 46 (by omega) (by omega)
    unfold zq85.l3 zq85.d3 zq85.o3
    rw [dcT (show (i : Int) < (P.length : Int) by omega), cond_true, dcT (show 0 ≤ (i : Int) by omega), cond_true, cond_true, Int.toNat_natCast, getAt hlt, hsp, Option.bind_some, List.drop_eq_getElem_cons hlt]
    simp only [hb, cond_true]
    refine (endS3 (by omega) (pieces 46 P[i]) (fun c => zq85.l3 N n s P P.length (w64 ((i : Int) + 1)) v4 h (cl ++ [c])) _).trans ?_
    rw [w1add (by omega)]
    unfold piecesS
    rw [p3_map (outS s h), p3_map some]
    refine p3_congr (fun c => ?_) rfl
    exact s3_l hN s v4 h P hP hn d (i + 1) n _ (by omega) (by rw [List.length_append, List.length_singleton]; omega) (by omega)
  | _, _, 0, _, _, _, hd => by omega
theorem s1_l {N : Nat} (hN : 3000000 ≤ N) (s : ByteArray) (v4 h : Int) (P : List ByteArray) (hP : ∀ p ∈ P, p.size ≤ 1048576) (hn : P.length ≤ 2000000) (n : Nat) (hd : 2000000 ≤ n) :
    zq85.l1 N (n + 1) s P P.length 0 v4 h = some (outS s h (piecesS P [])) := by
  unfold zq85.l1 zq85.d1 zq85.o1
  cases P with
  | nil =>
    dsimp only
    rw [dcF (by simp), cond_false]
    exact endS_d2 (by omega) s v4 h
  | cons p P =>
    have hsz := hP p List.mem_cons_self
    have hb : ∀ c : IClue, Nat.blt (([] : List IClue).length + ([c] : List IClue).length) 5864062014805 = true := fun c => rfl
    have hsp : zq77.g N p 46 = some (pieces 46 p) := l1Split_eq p 46 (by omega) (by omega)
    dsimp only
    rw [dcT (show (0 : Int) < ((p :: P).length : Int) by simp), cond_true, dcT (show (0 : Int) ≤ 0 by omega), cond_true, cond_true, Int.toNat_zero, getAt (by simp), List.getElem_cons_zero, hsp, Option.bind_some]
    simp only [hb, cond_true]
    refine (endS3 (by omega) (pieces 46 p) (fun c => zq85.l3 N n s (p :: P) (p :: P).length (w64 ((0 : Int) + 1)) v4 h ([] ++ [c])) _).trans ?_
    unfold piecesS
    rw [p3_map (outS s h), p3_map some]
    refine p3_congr (fun c => ?_) rfl
    exact s3_l hN s v4 h (p :: P) hP hn P.length 1 n _ (by simp; omega) (by simp) (by simp at hn; omega)
def q2 {α : Type} (l : List ByteArray) (f : ByteArray → ByteArray → α) (z : α) : α := match l with
  | [a, b] => f a b
  | _ => z
def resS (s : ByteArray) : PRes := if (s.size : Int) > 100 then (0, [], false) else q2 (pieces 58 s) (fun a b => if (b.size : Int) > 0 then outS s (readL a) (piecesS (pieces 44 b) []) else endS s (readL a) []) (0, [], false)
theorem spec_pp_eq {N : Nat} (hN : 3000000 ≤ N) (s : ByteArray) (hs : s.size ≤ 1048576) : zq85.g N s = some (resS s) := by
  unfold zq85.g zq85.o0 resS
  by_cases c : (s.size : Int) > 100
  · rw [dcT c, cond_true, if_pos c]
  rw [dcF c, cond_false, if_neg c]
  have hsp : zq77.g N s 58 = some (pieces 58 s) := l1Split_eq s 58 (by omega) (by omega)
  have hps := pieces_size 58 s
  rw [hsp, Option.bind_some]
  revert hps
  rcases pieces 58 s with _ | ⟨a, _ | ⟨b, _ | ⟨d, t⟩⟩⟩
  · intro _; rfl
  · intro _; rfl
  · intro hps
    have hb := hps b (by simp)
    show (zq75.g N a).bind (fun r3 => bif decide ((b.size : Int) > 0) then (zq77.g N b 44).bind (fun r6 => zq85.l1 N N s r6 (r6.length : Int) 0 0 r3) else zq85.d2 N s 0 r3) = some (if (b.size : Int) > 0 then outS s (readL a) (piecesS (pieces 44 b) []) else endS s (readL a) [])
    rw [l1Read_eq (by omega), Option.bind_some]
    by_cases g : (b.size : Int) > 0
    · have hsp2 : zq77.g N b 44 = some (pieces 44 b) := l1Split_eq b 44 (by omega) (by omega)
      have hl := pieces_len 44 b
      rw [dcT g, cond_true, if_pos g, hsp2, Option.bind_some]
      obtain ⟨n, hnn⟩ : ∃ n, N = n + 1 := ⟨N - 1, by omega⟩
      have e1 : zq85.l1 N N = zq85.l1 N (n + 1) := congrArg _ hnn
      rw [e1]
      exact s1_l hN s 0 _ (pieces 44 b) (fun p hp => by have := pieces_size 44 b p hp; omega) (by omega) n (by omega)
    · rw [dcF g, cond_false, if_neg g]
      exact endS_d2 (by omega) s 0 _
  · intro _
    rw [ineT (by simp; omega)]; rfl
theorem splitL_none (c : UInt8) : ∀ a : List UInt8, c ∉ a → splitL c a = [a]
  | [], _ => rfl
  | b :: a, h => by
    simp only [List.mem_cons, not_or] at h
    unfold splitL
    rw [if_neg (fun e => h.1 e.symm), splitL_none c a h.2]
    rfl
theorem splitL_sep (c : UInt8) (r : List UInt8) : ∀ a : List UInt8, c ∉ a → splitL c (a ++ c :: r) = a :: splitL c r
  | [], _ => by simp [splitL]
  | b :: a, h => by
    simp only [List.mem_cons, not_or] at h
    rw [List.cons_append]
    show (if b = c then [] :: splitL c (a ++ c :: r) else onHead [b] (splitL c (a ++ c :: r))) = _
    rw [if_neg (fun e => h.1 e.symm), splitL_sep c r a h.2]
    rfl
theorem splitL_join (a : List UInt8) (r : List (List UInt8)) (ha : 44 ∉ a) (hr : ∀ y ∈ r, (44 : UInt8) ∉ y) : splitL 44 (a ++ Lib.joinTail [44] r) = a :: r := by
  induction r generalizing a with
  | nil => simp only [Lib.joinTail, List.map_nil, List.flatten_nil, List.append_nil]; exact splitL_none 44 a ha
  | cons y r ih =>
    have e : a ++ Lib.joinTail [44] (y :: r) = a ++ 44 :: (y ++ Lib.joinTail [44] r) := by simp [Lib.joinTail]
    rw [e, splitL_sep 44 _ a ha, ih y (hr y List.mem_cons_self) (fun z hz => hr z (List.mem_cons_of_mem _ hz))]
theorem indexByte_sep (c : UInt8) (r : List UInt8) : ∀ a : List UInt8, c ∉ a → Lib.indexByte (a ++ c :: r) c = (a.length : Int)
  | [], _ => by simp [Lib.indexByte]
  | b :: a, h => by
    simp only [List.mem_cons, not_or] at h
    have hb : (b == c) = false := by simpa using fun e => h.1 e.symm
    have ih := indexByte_sep c r a h.2
    rw [List.cons_append]
    unfold Lib.indexByte
    rw [ih]
    have h2 : ((a.length : Int) == -1) = false := by rw [beq_eq_false_iff_ne]; omega
    simp only [hb, h2, Bool.false_eq_true, if_false, List.length_cons]
    omega
theorem nodig {a : List UInt8} (ha : ∀ x ∈ a, 48 ≤ x.toNat ∧ x.toNat ≤ 57) {c : UInt8} (hc : c.toNat < 48 ∨ 57 < c.toNat) : c ∉ a := fun h => by have := ha c h; omega
theorem clueL_mem {c : IClue} (h : clueSm c) : ∀ x ∈ clueL c, (48 ≤ x.toNat ∧ x.toNat ≤ 57) ∨ x = 46 := by
  intro x hx
  simp only [clueL, List.mem_append, List.mem_singleton] at hx
  rcases hx with (((hx | hx) | hx) | hx) | hx
  · exact .inl (dn_digits h.1.1 h.1.2 x hx)
  · exact .inr hx
  · exact .inl (dn_digits h.2.1.1 h.2.1.2 x hx)
  · exact .inr hx
  · exact .inl (dn_digits h.2.2.1 h.2.2.2 x hx)
theorem clueL_no44 {c : IClue} (h : clueSm c) : (44 : UInt8) ∉ clueL c := fun hx => by
  rcases clueL_mem h 44 hx with z | z
  · revert z; decide
  · revert z; decide
theorem join_mem : ∀ (l : List IClue), (∀ c ∈ l, clueSm c) → ∀ x ∈ Lib.joinTail [44] (l.map clueL), (48 ≤ x.toNat ∧ x.toNat ≤ 57) ∨ x = 46 ∨ x = 44
  | [], _, x, hx => by simp [Lib.joinTail] at hx
  | c :: l, h, x, hx => by
    rw [List.map_cons, joinTail_cons] at hx
    simp only [List.mem_append, List.mem_singleton] at hx
    rcases hx with (hx | hx) | hx
    · exact .inr (.inr hx)
    · rcases clueL_mem (h c List.mem_cons_self) x hx with z | z
      · exact .inl z
      · exact .inr (.inl z)
    · exact join_mem l (fun y hy => h y (List.mem_cons_of_mem _ hy)) x hx
theorem join_no58 (l : List IClue) (h : ∀ c ∈ l, clueSm c) : (58 : UInt8) ∉ Lib.join (l.map clueL) [44] := by
  cases l with
  | nil => simp [Lib.join_nil]
  | cons c l =>
    rw [List.map_cons, Lib.join_cons]
    intro hx
    rcases List.mem_append.1 hx with hx | hx
    · rcases clueL_mem (h c List.mem_cons_self) _ hx with z | z
      · revert z; decide
      · revert z; decide
    · rcases join_mem l (fun y hy => h y (List.mem_cons_of_mem _ hy)) _ hx with z | z | z
      · revert z; decide
      · revert z; decide
      · revert z; decide
theorem pieces_join (l : List IClue) (hne : l ≠ []) (h : ∀ c ∈ l, clueSm c) : pieces 44 (bsOf (Lib.join (l.map clueL) [44])) = l.map fun c => bsOf (clueL c) := by
  cases l with
  | nil => exact absurd rfl hne
  | cons c l =>
    unfold pieces
    rw [bsOf_list, List.map_cons, Lib.join_cons, splitL_join _ _ (clueL_no44 (h c List.mem_cons_self)) (fun y hy => by
      obtain ⟨z, hz, rfl⟩ := List.mem_map.1 hy
      exact clueL_no44 (h z (List.mem_cons_of_mem _ hz)))]
    rw [List.map_cons, List.map_cons, List.map_map]
    rfl
theorem join_ne (l : List IClue) (hne : l ≠ []) : Lib.join (l.map clueL) [44] ≠ [] := by
  cases l with
  | nil => exact absurd rfl hne
  | cons c l =>
    rw [List.map_cons, Lib.join_cons]
    simp [clueL]
theorem pieces_clue {c : IClue} (h : clueSm c) : pieces 46 (bsOf (clueL c)) = [bsOf (dn c.f0), bsOf (dn c.f1), bsOf (dn c.f2)] := by
  unfold pieces
  have h0 : (46 : UInt8) ∉ dn c.f0 := nodig (dn_digits h.1.1 h.1.2) (by decide)
  have h1 : (46 : UInt8) ∉ dn c.f1 := nodig (dn_digits h.2.1.1 h.2.1.2) (by decide)
  have h2 : (46 : UInt8) ∉ dn c.f2 := nodig (dn_digits h.2.2.1 h.2.2.2) (by decide)
  have e : clueL c = dn c.f0 ++ 46 :: (dn c.f1 ++ 46 :: dn c.f2) := by simp [clueL]
  rw [bsOf_list, e, splitL_sep 46 _ _ h0, splitL_sep 46 _ _ h1, splitL_none 46 _ h2]
  rfl
theorem words_clue {c : IClue} (h : clueSm c) : wordsI (pieces 46 (bsOf (clueL c))) true [] = (true, [c.f0, c.f1, c.f2]) := by
  rw [pieces_clue h]
  simp only [wordsI]
  rw [rn_dn h.1.1 h.1.2 (by have := h.1.2; omega), rn_dn h.2.1.1 h.2.1.2 (by have := h.2.1.2; omega), rn_dn h.2.2.1 h.2.2.2 (by have := h.2.2.2; omega)]
  rfl
theorem piecesI_rt : ∀ (l : List IClue) (acc : List IClue), (∀ c ∈ l, clueSm c) → piecesI (l.map fun c => bsOf (clueL c)) true acc = some (true, acc ++ l)
  | [], acc, _ => by simp [piecesI]
  | c :: l, acc, h => by
    have ih := piecesI_rt l (acc ++ [c]) (fun y hy => h y (List.mem_cons_of_mem _ hy))
    rw [List.map_cons, piecesI, words_clue (h c List.mem_cons_self)]
    rw [List.append_assoc] at ih
    exact ih
theorem piecesS_rt : ∀ (l : List IClue) (acc : List IClue), (∀ c ∈ l, clueSm c) → piecesS (l.map fun c => bsOf (clueL c)) acc = some (acc ++ l)
  | [], acc, _ => by simp [piecesS]
  | c :: l, acc, h => by
    have hc := h c List.mem_cons_self
    have ih := piecesS_rt l (acc ++ [c]) (fun y hy => h y (List.mem_cons_of_mem _ hy))
    rw [List.map_cons, piecesS, pieces_clue hc]
    show piecesS (l.map fun c => bsOf (clueL c)) (acc ++ [⟨readL (bsOf (dn c.f0)), readL (bsOf (dn c.f1)), readL (bsOf (dn c.f2))⟩]) = _
    rw [read_dn hc.1.1 hc.1.2, read_dn hc.2.1.1 hc.2.1.2, read_dn hc.2.2.1 hc.2.2.2]
    rw [List.append_assoc] at ih
    exact ih
/-- The text of a puzzle. -/
def isText (s : ByteArray) (h : Int) (l : List IClue) : Prop := puzzleOk h l = true ∧ bsOf (puzL h l) = s
theorem cut_text {h : Int} (h0 : 0 ≤ h) (h1 : h < 100) (J : List UInt8) : cutB (bsOf (dn h ++ [58] ++ J)) = (bsOf (dn h), bsOf J) := by
  have hn : (58 : UInt8) ∉ dn h := nodig (dn_digits h0 h1) (by decide)
  have hi : Lib.indexByte (bsOf (dn h ++ [58] ++ J)).data.toList 58 = ((dn h).length : Int) := by
    rw [bsOf_list, List.append_assoc, List.singleton_append]
    exact indexByte_sep 58 J _ hn
  unfold cutB
  rw [hi, if_neg (by omega), Int.toNat_natCast]
  have hz : (bsOf (dn h ++ [58] ++ J)).size = (dn h).length + 1 + J.length := by rw [bsOf_size]; simp; omega
  congr 1
  · apply bs_ext
    rw [extract_list, bsOf_list, bsOf_list, List.drop_zero, List.append_assoc, List.take_left]
  · apply bs_ext
    rw [extract_list, bsOf_list, bsOf_list, hz, List.take_of_length_le (by simp; omega)]
    rw [show (dn h).length + 1 = (dn h ++ [58]).length by simp, List.drop_left]
theorem resI_rt {s : ByteArray} {h : Int} {l : List IClue} (ht : isText s h l) : resI s = (h, l, true) := by
  obtain ⟨hp, rfl⟩ := ht
  obtain ⟨⟨a, b⟩, hl, hs⟩ := puz_sm hp
  obtain ⟨g1, g2, _, _⟩ := puzzleOk_facts hp
  unfold resI
  have hc : cutB (bsOf (puzL h l)) = (bsOf (dn h), bsOf (Lib.join (l.map clueL) [44])) := cut_text a b _
  have hr : rn (bsOf (dn h)) 24 = (h, true) := rn_dn a b g2
  rw [hc]
  show (if (bsOf (Lib.join (l.map clueL) [44])).data.toList = [] then endI (bsOf (puzL h l)) (rn (bsOf (dn h)) 24).2 (rn (bsOf (dn h)) 24).1 [] else outI (bsOf (puzL h l)) (rn (bsOf (dn h)) 24).1 (piecesI (pieces 44 (bsOf (Lib.join (l.map clueL) [44]))) (rn (bsOf (dn h)) 24).2 [])) = _
  rw [hr, bsOf_list]
  by_cases e : l = []
  · subst e
    rw [if_pos (by simp [Lib.join_nil])]
    unfold endI
    rw [if_pos ⟨rfl, hp, rfl⟩]
  · rw [if_neg (join_ne l e), pieces_join l e hs, piecesI_rt l [] hs]
    show endI (bsOf (puzL h l)) true h ([] ++ l) = _
    rw [List.nil_append]
    unfold endI
    rw [if_pos ⟨rfl, hp, rfl⟩]
theorem resS_rt {s : ByteArray} {h : Int} {l : List IClue} (ht : isText s h l) : resS s = (h, l, true) := by
  obtain ⟨hp, rfl⟩ := ht
  obtain ⟨⟨a, b⟩, hl, hs⟩ := puz_sm hp
  have hn : (58 : UInt8) ∉ dn h := nodig (dn_digits a b) (by decide)
  have hd := dn_len2 b
  have hj := joinAll_len l hs
  have hsz : (bsOf (puzL h l)).size ≤ 100 := by
    rw [bsOf_size]
    unfold puzL
    simp only [List.length_append, List.length_singleton]
    omega
  have hpc : pieces 58 (bsOf (puzL h l)) = [bsOf (dn h), bsOf (Lib.join (l.map clueL) [44])] := by
    unfold pieces puzL
    rw [bsOf_list, List.append_assoc, List.singleton_append, splitL_sep 58 _ _ hn, splitL_none 58 _ (join_no58 l hs)]
    rfl
  unfold resS
  rw [if_neg (by omega), hpc]
  show (if ((bsOf (Lib.join (l.map clueL) [44])).size : Int) > 0 then outS (bsOf (puzL h l)) (readL (bsOf (dn h))) (piecesS (pieces 44 (bsOf (Lib.join (l.map clueL) [44]))) []) else endS (bsOf (puzL h l)) (readL (bsOf (dn h))) []) = _
  rw [read_dn a b]
  by_cases e : l = []
  · subst e
    rw [if_neg (by rw [bsOf_size]; simp [Lib.join_nil])]
    unfold endS
    rw [if_pos hp, decide_eq_true rfl]
  · have hne := join_ne l e
    have : 0 < (Lib.join (l.map clueL) [44]).length := by
      rcases Nat.eq_zero_or_pos (Lib.join (l.map clueL) [44]).length with z | z
      · exact absurd (List.eq_nil_of_length_eq_zero z) hne
      · exact z
    rw [if_pos (by rw [bsOf_size]; omega), pieces_join l e hs, piecesS_rt l [] hs]
    show endS (bsOf (puzL h l)) h ([] ++ l) = _
    rw [List.nil_append]
    unfold endS
    rw [if_pos hp, decide_eq_true rfl]
def okI (s : ByteArray) (r : PRes) : Prop := r = (0, [], false) ∨ (r.2.2 = true ∧ isText s r.1 r.2.1)
theorem endI_ok (s : ByteArray) (ok : Bool) (h : Int) (l : List IClue) : okI s (endI s ok h l) := by
  unfold endI
  split
  · next c => exact .inr ⟨rfl, c.2.1, c.2.2⟩
  · exact .inl rfl
theorem resI_ok (s : ByteArray) : okI s (resI s) := by
  unfold resI
  split
  · exact endI_ok _ _ _ _
  · cases piecesI (pieces 44 (cutB s).2) (rn (cutB s).1 24).2 [] with
    | none => exact .inl rfl
    | some p => exact endI_ok _ _ _ _
theorem endS_ok (s : ByteArray) (h : Int) (l : List IClue) (ht : (endS s h l).2.2 = true) : isText s (endS s h l).1 (endS s h l).2.1 := by
  unfold endS at ht ⊢
  by_cases c : puzzleOk h l = true
  · rw [if_pos c] at ht ⊢
    exact ⟨c, of_decide_eq_true ht⟩
  · rw [if_neg c] at ht
    cases ht
theorem resS_ok (s : ByteArray) (ht : (resS s).2.2 = true) : isText s (resS s).1 (resS s).2.1 := by
  have key : resS s = (0, [], false) ∨ ∃ h l, resS s = endS s h l := by
    unfold resS
    split
    · exact .inl rfl
    · unfold q2
      split
      · dsimp only
        split
        · cases piecesS _ [] with
          | none => exact .inl rfl
          | some p => exact .inr ⟨_, _, rfl⟩
        · exact .inr ⟨_, _, rfl⟩
      · exact .inl rfl
  rcases key with e | ⟨h, l, e⟩
  · rw [e] at ht; cases ht
  · rw [e] at ht ⊢; exact endS_ok s h l ht
/-- What both say. -/
theorem both_pp (s : ByteArray) : (if (resS s).2.2 = true then ((resS s).1, (resS s).2.1, true) else ((0 : Int), ([] : List IClue), false)) = resI s := by
  by_cases c : (resS s).2.2 = true
  · rw [if_pos c, resI_rt (resS_ok s c)]
  · rw [if_neg c]
    rcases resI_ok s with h | ⟨_, h⟩
    · exact h.symm
    · have := resS_rt h
      rw [this] at c
      exact absurd rfl c
theorem spec_ParsePuzzle_eq {N : Nat} (hN : 3000000 ≤ N) (s : ByteArray) (hs : s.size ≤ 1048576) : zq55.g N s = some (resI s) := by
  rw [← both_pp s]
  unfold zq55.g zq55.o0
  rw [spec_pp_eq hN s hs, Option.bind_some]
  cases c : (resS s).2.2 with
  | true => rw [if_pos rfl]; rfl
  | false => rw [if_neg (by decide)]; rfl
theorem resI_len (s : ByteArray) : (resI s).2.1.length ≤ 6 := by
  rcases resI_ok s with h | ⟨_, h⟩
  · rw [h]; simp
  · exact (puzzleOk_facts h.1).2.2.1

theorem kHas_l' (N : Nat) (l : List Int) (x : Int) (hs : l.length < 1000000000) : ∀ (d i n : Nat), i + d = l.length → d < n → zq36.l1 N n x l l.length i = some (decide (x ∈ l.drop i))
  | 0, i, n+1, hi, hn => by
    unfold zq36.l1 zq36.d1 zq36.o1
    rw [dcF (by omega), cond_false, List.drop_eq_nil_of_le (by omega)]; simp
  | d+1, i, n+1, hi, hn => by
    have hlt : i < l.length := by omega
    unfold zq36.l1 zq36.d1 zq36.o1
    rw [dcT (show (i : Int) < (l.length : Int) by omega), cond_true, dcT (show 0 ≤ (i : Int) by omega), cond_true, cond_true, Int.toNat_natCast, getAt hlt, List.drop_eq_getElem_cons hlt]
    by_cases e : l[i] = x
    · rw [ieqT e, cond_true, dcT (by rw [e]; exact List.mem_cons_self)]
    · rw [ieqF e, cond_false, w1add (by omega)]
      refine (kHas_l' N l x hs d (i+1) n (by omega) (by omega)).trans ?_
      congr 1
      apply decide_eq_decide.2
      exact ⟨fun h => List.mem_cons_of_mem _ h, fun h => (List.mem_cons.1 h).resolve_left (fun z => e z.symm)⟩
  | _, _, 0, _, hn => by omega
theorem kHas_eq' {N : Nat} (l : List Int) (x : Int) (hs : l.length < 1000000000) (hN : l.length < N) : zq36.g N l x = some (decide (x ∈ l)) := by
  have := kHas_l' N l x hs l.length 0 N (by omega) hN
  rw [List.drop_zero] at this
  exact this
theorem kPz_l (N : Nat) (h : Int) (l : List IClue) (hs : l.length < 1000000000) : ∀ (d i n : Nat), i + d = l.length → d < n → zq37.l2 N n l.length i h l h l = some true
  | 0, i, n+1, hi, hn => by
    unfold zq37.l2 zq37.d2 zq37.o2
    rw [dcF (by omega), cond_false]
  | d+1, i, n+1, hi, hn => by
    unfold zq37.l2 zq37.d2 zq37.o2
    have hlt : i < l.length := by omega
    simp (disch := omega) only [dcT, cond_true, Int.toNat_natCast, getAt, beq_self_eq_true, Bool.and_self, Bool.not_true, cond_false, w1add]
    exact kPz_l N h l hs d (i+1) n (by omega) (by omega)
  | _, _, 0, _, hn => by omega
theorem kPz_self {N : Nat} (h : Int) (l : List IClue) (hs : l.length < 1000000000) (hN : l.length < N) : zq37.g N h l h l = some true := by
  unfold zq37.g zq37.o0 zq37.d1 zq37.o1
  rw [ineF rfl, cond_false, ineF rfl]
  exact kPz_l N h l hs l.length 0 N (by omega) hN
/-! ### facts about the minutes -/
theorem hvs_iff {p : Nat → Bool} {n : Nat} {x : Nat} (hx : x < n) : ((x : Int) ∈ hvs p n) ↔ p x = true := by
  constructor
  · intro h
    clear hx
    induction n with
    | zero => simp [hvs] at h
    | succ n ih =>
      simp only [hvs, List.mem_append] at h
      rcases h with h | h
      · exact ih h
      · cases hp : p n with
        | false => rw [hp] at h; simp at h
        | true =>
          rw [hp] at h
          simp only [cond_true, List.mem_singleton] at h
          have : x = n := by omega
          rw [this, hp]
  · exact hvs_mem p hx
theorem hvs_lt {p : Nat → Bool} : ∀ {n : Nat} {x : Int}, x ∈ hvs p n → x < (n : Int)
  | 0, x, h => by simp [hvs] at h
  | n + 1, x, h => by
    simp only [hvs, List.mem_append] at h
    rcases h with h | h
    · have := hvs_lt h; omega
    · cases hp : p n with
      | false => rw [hp] at h; simp at h
      | true => rw [hp] at h; simp only [cond_true, List.mem_singleton] at h; omega
theorem hvs_inc (p : Nat → Bool) : ∀ n, (hvs p n).Pairwise (· < ·)
  | 0 => List.Pairwise.nil
  | n + 1 => by
    simp only [hvs]
    refine List.pairwise_append.2 ⟨hvs_inc p n, ?_, ?_⟩
    · cases p n <;> simp
    · intro a ha b hb
      have := hvs_lt ha
      cases hp : p n with
      | false => rw [hp] at hb; simp at hb
      | true => rw [hp] at hb; simp only [cond_true, List.mem_singleton] at hb; omega
theorem hvs_all {p : Nat → Bool} (hp : ∀ x, p x = true) : ∀ n, (hvs p n).length = n
  | 0 => rfl
  | n + 1 => by simp [hvs, hp n, hvs_all hp n]
theorem sols_nil {h : Int} (h1 : 2 ≤ h) (h2 : h ≤ 24) : ((sols h []).length : Int) = 60 * h := by
  unfold sols
  rw [hvs_all (p := fun x => fitsAll h [] x) (fun x => rfl)]; omega
theorem erase_ok {h : Int} {l : List IClue} (hp : puzzleOk h l = true) {k : Nat} (hk : k < l.length) : puzzleOk h (l.eraseIdx k) = true := by
  obtain ⟨h1, h2, h3, h4⟩ := puzzleOk_facts hp
  exact puzzleOk_mk h1 h2 (by rw [List.length_eraseIdx]; split <;> omega) (all_erase h4 k)
/-! ### the law: reading -/
theorem str1_size (x : Int) : (strOfNums [x]).size = 1 := rfl
theorem ext_sizeA (v : ByteArray) (a : Nat) (h : a ≤ v.size) : (v.extract 0 a).size = a := by rw [ByteArray.size_extract]; omega
theorem ext_sizeB (v : ByteArray) (a : Nat) : (v.extract a v.size).size = v.size - a := by rw [ByteArray.size_extract]; omega
theorem spoilt_l (N : Nat) {code : List Int} (hc : Bs code) (v1 : ByteArray) (hv : v1.size = 10) : ∀ (n k : Nat) (v0 : ByteArray) (pos seed : Int), k < n → v0.size + k ≤ 1000 → 0 ≤ pos → pos ≤ 9000 - 10 * k → k ≤ 100 →
    Tot (zq70.l1 N n v0 v1 (k : Int) code pos seed) fun r => r.1.size ≤ 1000
  | 0, _, _, _, _, hn, _, _, _, _ => by omega
  | n + 1, 0, v0, pos, seed, hn, hz, p1, p2, hk => by
    unfold zq70.l1 zq70.d1 zq70.o1
    rw [dcF (by omega), cond_false]
    exact Tot.now (by dsimp only; omega)
  | n + 1, k + 1, v0, pos, seed, hn, hz, p1, p2, hk => by
    unfold zq70.l1 zq70.d1 zq70.o1
    rw [dcT (by omega), cond_true]
    refine Tot.dif (fun hs => ?_) (fun _ => Tot.now (by dsimp only; omega))
    unfold zq70.d2 zq70.o2 zq70.d3 zq70.o3
    refine Tot.bind (pick_tot N hc _ p1 (by omega) seed) ?_
    rintro ⟨x, c, p, s⟩ ⟨⟨x1, x2⟩, rfl, q1, q2⟩
    dsimp only at x1 x2 q1 q2 ⊢
    refine Tot.bind (pick_tot N hc _ q1 (by omega) s) ?_
    rintro ⟨y, c, p, s⟩ ⟨⟨y1, y2⟩, rfl, r1, r2⟩
    dsimp only at y1 y2 r1 r2 ⊢
    rw [dcT y1, cond_true, dcT (by omega), cond_true, numsO_all, Option.bind_some]
    refine Tot.bind (pick_tot N hc 3 r1 (by omega) s) ?_
    rintro ⟨z, c, p, s⟩ ⟨⟨z1, z2⟩, rfl, t1, t2⟩
    dsimp only at z1 z2 t1 t2 ⊢
    obtain ⟨i, rfl⟩ := Int.eq_ofNat_of_zero_le x1
    have hi : i < v0.size := by omega
    have e1 : w64 ((i : Int) + 1) = ((i + 1 : Nat) : Int) := w1add (by omega)
    have e2 : w64 (((k + 1 : Nat) : Int) - 1) = (k : Int) := by rw [w64s (by omega) (by omega)]; omega
    have sA := ext_sizeA v0 i (by omega)
    have sB := ext_sizeB v0 i
    have sC := ext_sizeB v0 (i + 1)
    rw [e1, e2]
    simp only [dcT (show 0 ≤ (i : Int) by omega), dcT (show (i : Int) ≤ (v0.size : Int) by omega), dcT (show 0 ≤ (v0.size : Int) by omega), dcT (show (v0.size : Int) ≤ (v0.size : Int) by omega), dcT (show 0 ≤ ((i + 1 : Nat) : Int) by omega), dcT (show ((i + 1 : Nat) : Int) ≤ (v0.size : Int) by omega), cond_true, Int.toNat_natCast, Int.toNat_zero]
    refine Tot.bif (fun _ => ?_) (fun _ => Tot.bif (fun _ => ?_) (fun _ => ?_))
    · rw [bleT (by rw [sA, str1_size]; omega), cond_true, bleT (by rw [ByteArray.size_append, sA, sB, str1_size]; omega), cond_true]
      exact spoilt_l N hc v1 hv n k _ p s (by omega) (by rw [ByteArray.size_append, ByteArray.size_append, sA, sB, str1_size]; omega) t1 (by omega) (by omega)
    · rw [bleT (by rw [sA, str1_size]; omega), cond_true, bleT (by rw [ByteArray.size_append, sA, sC, str1_size]; omega), cond_true]
      exact spoilt_l N hc v1 hv n k _ p s (by omega) (by rw [ByteArray.size_append, ByteArray.size_append, sA, sC, str1_size]; omega) t1 (by omega) (by omega)
    · rw [bleT (by rw [sA, sC]; omega), cond_true]
      exact spoilt_l N hc v1 hv n k _ p s (by omega) (by rw [ByteArray.size_append, sA, sC]; omega) t1 (by omega) (by omega)
theorem spoilt_tot {N : Nat} (hN : 10000 ≤ N) {code : List Int} (hc : Bs code) (v0 v1 : ByteArray) (hv : v1.size = 10) (hz : v0.size ≤ 500) {pos : Int} (p1 : 0 ≤ pos) (p2 : pos ≤ 5000) (seed : Int) :
    Tot (zq70.g N v0 v1 code pos seed) fun r => r.1.size ≤ 1000 := by
  unfold zq70.g zq70.o0
  refine Tot.bind (pick_tot N hc 2 p1 (by omega) seed) ?_
  rintro ⟨x, c, p, s⟩ ⟨⟨x1, x2⟩, rfl, q1, q2⟩
  dsimp only at x1 x2 q1 q2 ⊢
  obtain ⟨i, rfl⟩ := Int.eq_ofNat_of_zero_le x1
  have e : w64 (1 + (i : Int)) = ((i + 1 : Nat) : Int) := by rw [w64s (by omega) (by omega)]; omega
  rw [e]
  exact spoilt_l N hc v1 hv N (i + 1) v0 p s (by omega) (by omega) q1 (by omega) (by omega)
theorem drawParse_tot {N : Nat} (hN : 10000 ≤ N) {code : List Int} (hc : Bs code) : Tot (zq48.g N code) fun r => r.size ≤ 1000 := by
  unfold zq48.g zq48.o0 zq48.d1 zq48.o1
  refine Tot.bind (sure_tot hN hc (most := 4) (by omega) (pos := 0) (by omega) (by omega) 0) ?_
  rintro ⟨h, l, c, p, s⟩ ⟨⟨⟨h1, h2⟩, h3, h4, h5⟩, rfl, q1, q2⟩
  dsimp only at h1 h2 h3 h4 q1 q2 ⊢
  have hs : ∀ c ∈ l, clueSm c := fun c hc => clueSm_of h1 (by omega) (List.all_eq_true.1 h4 c hc)
  have hsz : (bsOf (puzL h l)).size ≤ 500 := by
    have x := dn_len2 (show h < 100 by omega)
    have y := joinAll_len l hs
    rw [bsOf_size]; unfold puzL; simp only [List.length_append, List.length_singleton]; omega
  rw [spec_pt_eq (by omega) h (by omega) (by omega) l (by omega) (by omega) hs, Option.bind_some]
  refine Tot.bind (one_tot N hc 3 q1 (by omega) s) ?_
  rintro ⟨b, c, p, s⟩ ⟨rfl, r1, r2⟩
  dsimp only at r1 r2 ⊢
  refine Tot.bif (fun _ => ?_) (fun _ => Tot.now (by omega))
  refine Tot.bind (spoilt_tot hN hc _ _ rfl hsz r1 (by omega) s) ?_
  rintro ⟨v, c, p, s⟩ hv
  exact Tot.now hv
theorem drawSol_tot {N : Nat} (hN : 10000 ≤ N) {code : List Int} (hc : Bs code) : Tot (zq49.g N code) fun r => r.2.length ≤ 9 := by
  unfold zq49.g zq49.o0 zq47.g zq47.o0
  refine Tot.bind (P := fun r : Int × List IClue => r.2.length ≤ 9) (Tot.bind (puzzle_tot hN hc (pos := 0) (by omega) (by omega) 0) (fun r hr => Tot.now hr.1)) ?_
  rintro ⟨h, l⟩ hl
  exact Tot.now hl
/-! ### the law: reading -/
theorem law_d3d {N : Nat} (hN : 3000000 ≤ N) (s : List Int) (hs : Bs s) : zq33.d3 N s = some true := by
  unfold zq33.d3 zq33.o3 zq33.d5 zq33.o5
  obtain ⟨q, eq, hq⟩ := drawParse_tot (N := N) (by omega) hs
  have hl := resI_len q
  have hq2 : q.size ≤ 1048576 := by omega
  rw [eq, Option.bind_some, impl_pp_eq hN q hq2, Option.bind_some, spec_ParsePuzzle_eq hN q hq2, Option.bind_some, beq_self_eq_true, Bool.not_true, cond_false, kPz_self _ _ (by omega) (by omega), Option.bind_some]
  dsimp only
  rw [Bool.not_true, cond_false]
  rcases resI_ok q with h | ⟨h, ht⟩
  · rw [h]; rfl
  · rw [h, cond_true, PuzzleText_eq (by omega), Option.bind_some]
    unfold textR
    rw [if_pos ht.1]
    dsimp only
    rw [cond_true, bsBeq, dcT ht.2]
/-! ### the law: dropping -/
theorem law_l9d {N : Nat} (hN : 3000000 ≤ N) (s : List Int) (hs : Bs s) {h : Int} {l : List IClue} (hp : puzzleOk h l = true) : ∀ (d i n : Nat), i + d = l.length → d < n →
    zq33.l9 N n s ((sols h l).length : Int) (hvs (needP h l) l.length) (leftL h l (l.length + 1)) (bsOf (puzL h l)) (l.length : Int) i h l = some true
  | 0, i, n+1, hi, hn => by
    obtain ⟨h1, h2, h3, h4⟩ := puzzleOk_facts hp
    have hsz : (bsOf (puzL h l)).size ≤ 1048576 := by
      obtain ⟨a, b, c⟩ := puz_sm hp
      have x := dn_len2 a.2
      have y := joinAll_len l c
      rw [bsOf_size]; unfold puzL; simp only [List.length_append, List.length_singleton]; omega
    unfold zq33.l9 zq33.d9 zq33.o9 zq33.d11 zq33.o11
    rw [dcF (by omega), cond_false, impl_pp_eq hN _ hsz, Option.bind_some, resI_rt ⟨hp, rfl⟩]
    dsimp only
    rw [Bool.not_true, cond_false, kPz_self _ _ (by omega) (by omega), Option.bind_some, Bool.not_true, cond_false]
    exact law_d3d hN s hs
  | d+1, i, n+1, hi, hn => by
    obtain ⟨h1, h2, h3, h4⟩ := puzzleOk_facts hp
    have hlt : i < l.length := by omega
    have hdr : dropR h l i = (h, l.eraseIdx i, true) := by
      unfold dropR
      rw [hp, inB_iff.2 (by omega), if_pos (by rfl), Int.toNat_natCast]
    have hco : solsB h (l.eraseIdx i) = (sols h (l.eraseIdx i), true) := by unfold solsB; rw [if_pos (erase_ok hp hlt)]
    have hnl := hvs_len_le (needP h l) l.length
    have hmm : decide ((i : Int) ∈ hvs (needP h l) l.length) = (((sols h (l.eraseIdx i)).length : Int) == ((sols h l).length : Int)) := by
      rw [ieqD]
      apply decide_eq_decide.2
      rw [hvs_iff hlt]
      unfold needP
      rw [decide_eq_true_eq]; omega
    have g1 := leftL_get h l (l.length + 1) (i + 1) (by omega)
    have g0 := leftL_get h l (l.length + 1) i (by omega)
    have hle : (sols h (l.take (i + 1))).length ≤ (sols h (l.take i)).length := sols_sub (by rw [List.take_succ_eq_append_getElem hlt]; exact List.sublist_append_left _ _)
    unfold zq33.l9 zq33.d9 zq33.o9 zq33.d10 zq33.o10
    rw [dcT (show (i : Int) < (l.length : Int) by omega), cond_true, Drop_eq (by omega), Option.bind_some, hdr]
    dsimp only
    rw [Count_eq (by omega), Option.bind_some, hco]
    dsimp only
    rw [Bool.not_true, cond_false, cond_false, kHas_eq' _ _ (by omega) (by omega), Option.bind_some, hmm, beq_self_eq_true, Bool.not_true, cond_false, w1add (by omega), dcT (show 0 ≤ ((i + 1 : Nat) : Int) by omega), cond_true, dcT (show ((i + 1 : Nat) : Int) < ((leftL h l (l.length + 1)).length : Int) by rw [leftL_len]; omega), cond_true, Int.toNat_natCast, g1, Option.bind_some, dcT (show 0 ≤ (i : Int) by omega), cond_true, dcT (show (i : Int) < ((leftL h l (l.length + 1)).length : Int) by rw [leftL_len]; omega), cond_true, Int.toNat_natCast, g0, Option.bind_some, dcF (by omega), cond_false]
    exact law_l9d hN s hs hp d (i+1) n (by omega) (by omega)
  | _, _, 0, _, hn => by omega
theorem law_l7d {N : Nat} (hN : 3000000 ≤ N) (s : List Int) (hs : Bs s) {h : Nat} {l : List IClue} (hp : puzzleOk h l = true) : ∀ (d i n : Nat), i + d = (sols h l).length → d < n →
    zq33.l7 N n s (sols h l) ((sols h l).length : Int) ((sols h l).map (tmI h)) (hvs (needP h l) l.length) (leftL h l (l.length + 1)) (bsOf (puzL h l)) h (sols h l) ((sols h l).length : Int) i h l = some true
  | 0, i, n+1, hi, hn => by
    obtain ⟨h1, h2, h3, h4⟩ := puzzleOk_facts hp
    unfold zq33.l7 zq33.d7 zq33.o7
    rw [dcF (by omega), cond_false]
    exact law_l9d hN s hs hp l.length 0 N (by omega) (by omega)
  | d+1, i, n+1, hi, hn => by
    obtain ⟨h1, h2, h3, h4⟩ := puzzleOk_facts hp
    have hlt : i < (sols h l).length := by omega
    have hS := sols_len h2 l
    obtain ⟨k, hk, ek⟩ := sols_nat l _ (List.getElem_mem hlt)
    have hT : i < ((sols h l).map (tmI h)).length := by rw [List.length_map]; exact hlt
    have eT : ((sols h l).map (tmI h))[i] = tm h k := by rw [List.getElem_map, ek]; rfl
    obtain ⟨eh, em⟩ := tm_split (N := N) (by omega) (show 2 ≤ h by omega) (show h ≤ 24 by omega) hk
    have ih := law_l7d hN s hs hp d (i+1) n (by omega) (by omega)
    unfold zq33.l7 zq33.d7 zq33.o7 zq33.d8 zq33.o8
    rw [dcT (show (i : Int) < ((sols h l).length : Int) by omega), cond_true, dcT (show 0 ≤ (i : Int) by omega), cond_true, cond_true, Int.toNat_natCast, getAt hlt, cond_true, dcT (show (i : Int) < (((sols h l).map (tmI h)).length : Int) by omega), cond_true, getAt hT, eT, eh, Option.bind_some, cond_true, cond_true, getAt hT, eT, em, Option.bind_some, ek]
    dsimp only
    have ew : w64 ((w64 (60 * ((k / 60 : Nat) : Int))) + ((k % 60 : Nat) : Int)) = (k : Int) := by
      rw [w64s (n := 60 * ((k / 60 : Nat) : Int)) (by omega) (by omega), w64s (by omega) (by omega)]; omega
    rw [Bool.not_true, cond_false, cond_false, ew, ineF rfl, cond_false]
    by_cases c : (i : Int) > 0
    · have hlt2 : i - 1 < (sols h l).length := by omega
      have hinc : (sols h l)[i-1] < (sols h l)[i] := List.pairwise_iff_getElem.1 (hvs_inc _ _) (i-1) i hlt2 hlt (by omega)
      have e1 : w64 ((i : Int) - 1) = ((i - 1 : Nat) : Int) := by rw [w64s (by omega) (by omega)]; omega
      rw [dcT c, cond_true, e1, dcT (show 0 ≤ ((i - 1 : Nat) : Int) by omega), cond_true, dcT (show ((i - 1 : Nat) : Int) < ((sols h l).length : Int) by omega), cond_true, Int.toNat_natCast, getAt hlt2, dcF (by omega), cond_false, w1add (by omega)]
      exact ih
    · rw [dcF c, cond_false, cond_false, w1add (by omega)]
      exact ih
  | _, _, 0, _, hn => by omega
theorem law_l6d {N : Nat} (s : List Int) (S : List Int) (hS : S.length ≤ 2000) (hN : 3000000 ≤ N) (cnt : Int) (T : List S46) (nd lf : List Int) (tx : ByteArray) {h m : Nat} (h1 : 2 ≤ (h : Int)) (h2 : (h : Int) ≤ 24) (hm : m < 60 * h) (l : List IClue) (hl : l.length ≤ 100) (hc : l.all (cok h) = true) (v13 : Int) (v14 : List IClue) (C : (List Int) → (List Int) → Int → (List S46) → (List Int) → (List Int) → ByteArray → Int → Int → Int → (List S41) → Option zq33.R) : ∀ (d i n : Nat) (ok : Bool), i + d = l.length → d < n → (ok && (l.drop i).all fun c => fitB h c.f0 c.f1 c.f2 m) = decide ((m : Int) ∈ S) →
    zq33.l6 N n s S cnt T nd lf tx h m ok l (l.length : Int) i v13 v14 C = C s S cnt T nd lf tx h ((m + 1 : Nat) : Int) v13 v14
  | 0, i, n+1, ok, hi, hn, he => by
    rw [List.drop_eq_nil_of_le (by omega), List.all_nil, Bool.and_true] at he
    unfold zq33.l6 zq33.d6 zq33.o6
    rw [dcF (by omega), cond_false, kHas_eq' _ _ (by omega) (by omega), Option.bind_some, he, beq_self_eq_true, Bool.not_true, cond_false, w1add (by omega)]
  | d+1, i, n+1, ok, hi, hn, he => by
    have hlt : i < l.length := by omega
    have hk : cok h l[i] = true := List.all_eq_true.1 hc _ (List.getElem_mem hlt)
    unfold cok at hk
    rw [List.drop_eq_getElem_cons hlt, List.all_cons] at he
    have hdf : dfit h l[i].f0 l[i].f1 l[i].f2 m = (fitB h l[i].f0 l[i].f1 l[i].f2 m, true) := by
      unfold dfit
      rw [inB_iff.2 (by omega), hk, inB_iff.2 (by omega), if_pos (by rfl)]
    unfold zq33.l6 zq33.d6 zq33.o6
    rw [dcT (show (i : Int) < (l.length : Int) by omega), cond_true, dcT (show 0 ≤ (i : Int) by omega), cond_true, cond_true, Int.toNat_natCast, getAt hlt, doesFit_eq, Option.bind_some, hdf]
    dsimp only
    rw [Bool.not_true, cond_false, w1add (by omega)]
    cases ok with
    | true =>
      rw [cond_true]
      exact law_l6d s S hS hN cnt T nd lf tx h1 h2 hm l hl hc v13 v14 C d (i+1) n _ (by omega) (by omega) (by rw [← he, Bool.true_and])
    | false =>
      rw [cond_false]
      exact law_l6d s S hS hN cnt T nd lf tx h1 h2 hm l hl hc v13 v14 C d (i+1) n _ (by omega) (by omega) (by rw [← he, Bool.false_and, Bool.false_and])
  | _, _, 0, _, _, hn, _ => by omega
theorem law_l4d {N : Nat} (hN : 3000000 ≤ N) (s : List Int) (hs : Bs s) {h : Nat} {l : List IClue} (hp : puzzleOk h l = true) : ∀ (d i n : Nat), i + d = 60 * h → d < n →
    zq33.l4 N n s (sols h l) ((sols h l).length : Int) ((sols h l).map (tmI h)) (hvs (needP h l) l.length) (leftL h l (l.length + 1)) (bsOf (puzL h l)) h i h l = some true
  | 0, i, n+1, hi, hn => by
    obtain ⟨h1, h2, h3, h4⟩ := puzzleOk_facts hp
    have hS := sols_len h2 l
    unfold zq33.l4 zq33.d4 zq33.o4
    rw [w64s (by omega) (by omega), dcF (by omega), cond_false]
    exact law_l7d hN s hs hp (sols h l).length 0 N (by omega) (by omega)
  | d+1, i, n+1, hi, hn => by
    obtain ⟨h1, h2, h3, h4⟩ := puzzleOk_facts hp
    have hS := sols_len h2 l
    unfold zq33.l4 zq33.d4 zq33.o4
    rw [w64s (by omega) (by omega), dcT (by omega), cond_true]
    refine (law_l6d s (sols h l) (by omega) hN _ _ _ _ _ h1 h2 (show i < 60 * h by omega) l (by omega) h4 h l _ l.length 0 N true (by omega) (by omega) ?_).trans ?_
    · rw [List.drop_zero, Bool.true_and]
      rw [Bool.eq_iff_iff, decide_eq_true_eq]
      unfold sols
      rw [hvs_iff (by rw [Int.toNat_natCast]; omega)]; rfl
    · exact law_l4d hN s hs hp d (i+1) n (by omega) (by omega)
  | _, _, 0, _, hn => by omega
theorem law_d1d {N : Nat} (hN : 3000000 ≤ N) (s : List Int) (hs : Bs s) {h : Nat} {l : List IClue} (hp : puzzleOk h l = true) :
    zq33.d1 N s (sols h l) true ((sols h l).length : Int) (firstR h l).1 (firstR h l).2 ((sols h l).map (tmI h)) (((sols h l).length : Int) == 1) (hvs (needP h l) l.length) (leftL h l (l.length + 1)) (bsOf (puzL h l)) false h l = some true := by
  obtain ⟨h1, h2, h3, h4⟩ := puzzleOk_facts hp
  have hS := sols_len h2 l
  have fin : zq33.d2 N s (sols h l) ((sols h l).length : Int) ((sols h l).map (tmI h)) (hvs (needP h l) l.length) (leftL h l (l.length + 1)) (bsOf (puzL h l)) h false h l = some true :=
    law_l4d hN s hs hp (60 * h) 0 N (by omega) (by omega)
  have g0 := leftL_get h l (l.length + 1) 0 (by omega)
  have g1 := leftL_get h l (l.length + 1) l.length (by omega)
  rw [List.take_zero, sols_nil h1 h2] at g0
  rw [List.take_length] at g1
  unfold zq33.d1 zq33.o1
  rw [cond_false, cond_true, ineF rfl, cond_false, beq_self_eq_true, Bool.not_true, cond_false, ineF (by rw [List.length_map]), cond_false, ineF (by rw [leftL_len, w1add (by omega)]), cond_false, dcT (show (0 : Int) < ((leftL h l (l.length + 1)).length : Int) by rw [leftL_len]; omega), cond_true, Int.toNat_zero, g0, Option.bind_some, ineF (by rw [w64s (by omega) (by omega)]), cond_false, dcT (show 0 ≤ (l.length : Int) by omega), cond_true, dcT (show (l.length : Int) < ((leftL h l (l.length + 1)).length : Int) by rw [leftL_len]; omega), cond_true, Int.toNat_natCast, g1, Option.bind_some, ineF rfl, cond_false]
  have hf : ∀ x t, sols h l = x :: t → firstR h l = (x, true) := fun x t e => by
    unfold firstR solsB; rw [if_pos hp]; dsimp only; rw [e]
  have hf0 : sols h l = [] → firstR h l = (0, false) := fun e => by
    unfold firstR solsB; rw [if_pos hp]; dsimp only; rw [e]
  rcases e : sols h l with _ | ⟨x, t⟩
  · rw [hf0 e]
    rw [e] at fin
    exact fin
  · rw [hf x t e]
    rw [e] at fin
    dsimp only
    rw [cond_true, dcT (by simp), cond_true, getAt (by simp), List.getElem_cons_zero, ineF rfl]
    exact fin
theorem firstR_posd {h : Int} {l : List IClue} (hp : puzzleOk h l = true) : (firstR h l).2 = decide (((sols h l).length : Int) > 0) := by
  unfold firstR solsB
  rw [if_pos hp]
  dsimp only
  cases sols h l with
  | nil => rfl
  | cons x t => rw [dcT (by simp)]
theorem bestR_posd {h : Int} {l : List IClue} (hp : puzzleOk h l = true) : (bestR h l).2 = decide ((l.length : Int) > 0) := by
  unfold bestR
  rw [hp, Bool.true_and]
  by_cases c : 0 < l.length
  · rw [dcT c, dcT (by omega)]; rfl
  · rw [dcF c, dcF (by omega)]; rfl
theorem law_goodd {N : Nat} (hN : 3000000 ≤ N) (s : List Int) (hs : Bs s) {h : Nat} {l : List IClue} (hp : puzzleOk h l = true) {z : List Int} (hb : zq35.g N z s = some false) (hd : zq49.g N z = some ((h : Int), l)) : zq33.g N z s = some true := by
  have h4 : 10000 ≤ N := by omega
  have h5 : 1000000 ≤ N := by omega
  obtain ⟨h1, h2, h3, _⟩ := puzzleOk_facts hp
  have hS := sols_len h2 l
  have hnl := hvs_len_le (needP h l) l.length
  have hll := leftL_len h l (l.length + 1)
  have e1 : solsB h l = (sols h l, true) := by unfold solsB; rw [if_pos hp]
  have e2 : timesR h l = ((sols h l).map (tmI h), true) := by unfold timesR; rw [if_pos hp]
  have e3 : leftR h l = (leftL h l (l.length + 1), true) := by unfold leftR; rw [if_pos hp]
  have e4 : textR h l = (bsOf (puzL h l), true) := by unfold textR; rw [if_pos hp]
  have k1 : zq38.g N (sols h l) (sols h l) = some true := by rw [kSame_eq _ _ (by omega) (by omega), dcT rfl]
  have k2 : zq38.g N (hvs (needP h l) l.length) (hvs (needP h l) l.length) = some true := by rw [kSame_eq _ _ (by omega) (by omega), dcT rfl]
  have k3 : zq38.g N (leftL h l (l.length + 1)) (leftL h l (l.length + 1)) = some true := by rw [kSame_eq _ _ (by omega) (by omega), dcT rfl]
  have k4 : zq39.g N ((sols h l).map (tmI h)) ((sols h l).map (tmI h)) = some true := kTurns_self _ (by rw [List.length_map]; omega) (by rw [List.length_map]; omega)
  have key := law_d1d hN s hs hp
  unfold zq33.g zq33.o0
  rw [hb, Option.bind_some, cond_false, hd, Option.bind_some, Solutions_eq h4, Option.bind_some, sSolutions_eq h4, Option.bind_some, Count_eq h4, Option.bind_some, sCount_eq h4, Option.bind_some, First_eq h4, Option.bind_some, sFirst_eq h4, Option.bind_some, Times_eq h5, Option.bind_some, sTimes_eq h5, Option.bind_some, IsSolved_eq h4, Option.bind_some, sIsSolved_eq h4, Option.bind_some, Needless_eq h4, Option.bind_some, sNeedless_eq h4, Option.bind_some, Left_eq h4, Option.bind_some, sLeft_eq h4, Option.bind_some, Best_eq h4, Option.bind_some, sBest_eq h4, Option.bind_some, PuzzleText_eq h4, Option.bind_some, sPuzzleText_eq h4, Option.bind_some, e1, e2, e3, e4, if_pos hp, isPuzzle_eq h4, hp, sIsPuzzle_eq h4, hp]
  dsimp only
  simp only [beq_self_eq_true, Bool.not_true, cond_false, cond_true, k1, k2, k3, k4, Option.bind_some, bne_self_eq_false, firstR_posd hp, bestR_posd hp]
  rw [firstR_posd hp] at key
  exact key
theorem law_badd {N : Nat} (hN : 3000000 ≤ N) (s : List Int) (hs : Bs s) {h : Int} {l : List IClue} (hp : puzzleOk h l = false) {z : List Int} (hb : zq35.g N z s = some false) (hd : zq49.g N z = some (h, l)) : zq33.g N z s = some true := by
  have h4 : 10000 ≤ N := by omega
  have h5 : 1000000 ≤ N := by omega
  have hp' : ¬ puzzleOk h l = true := by rw [hp]; decide
  have e1 : solsB h l = ([], false) := by unfold solsB; rw [if_neg hp']
  have e2 : timesR h l = ([], false) := by unfold timesR; rw [if_neg hp']
  have e3 : leftR h l = ([], false) := by unfold leftR; rw [if_neg hp']
  have e4 : textR h l = (⟨#[]⟩, false) := by unfold textR; rw [if_neg hp']
  have e5 : firstR h l = (0, false) := by unfold firstR; rw [e1]
  have e6 : bestR h l = (0, false) := by unfold bestR; rw [hp]; rfl
  have k1 : zq38.g N [] [] = some true := by rw [kSame_eq _ _ (by simp) (by simp; omega), dcT rfl]
  have k4 : zq39.g N [] [] = some true := kTurns_self _ (by simp) (by simp; omega)
  have key := law_d3d hN s hs
  unfold zq33.g zq33.o0
  rw [hb, Option.bind_some, cond_false, hd, Option.bind_some, Solutions_eq h4, Option.bind_some, sSolutions_eq h4, Option.bind_some, Count_eq h4, Option.bind_some, sCount_eq h4, Option.bind_some, First_eq h4, Option.bind_some, sFirst_eq h4, Option.bind_some, Times_eq h5, Option.bind_some, sTimes_eq h5, Option.bind_some, IsSolved_eq h4, Option.bind_some, sIsSolved_eq h4, Option.bind_some, Needless_eq h4, Option.bind_some, sNeedless_eq h4, Option.bind_some, Left_eq h4, Option.bind_some, sLeft_eq h4, Option.bind_some, Best_eq h4, Option.bind_some, sBest_eq h4, Option.bind_some, PuzzleText_eq h4, Option.bind_some, sPuzzleText_eq h4, Option.bind_some, e1, e2, e3, e4, e5, e6, if_neg hp', isPuzzle_eq h4, hp, sIsPuzzle_eq h4, hp]
  dsimp only
  simp only [beq_self_eq_true, Bool.not_true, cond_false, cond_true, k1, k4, Option.bind_some, bne_self_eq_false]
  exact key
theorem FnTimesSolved.pure : FnTimesSolved.Pure := by
  intro z s hz hs
  refine ⟨3000000, ?_⟩
  have big : zq35.g 3000000 z s = some (decide ((z.length : Int) > 1048576 ∨ (s.length : Int) > 1048576 - (z.length : Int))) := by
    unfold zq35.g zq35.o0
    by_cases c : (z.length : Int) > 1048576
    · rw [dcT c, dcT (Or.inl c : (z.length : Int) > 1048576 ∨ (s.length : Int) > 1048576 - (z.length : Int))]; rfl
    · rw [dcF c, w64s (by omega) (by omega), cond_false]
      congr 1
      apply decide_eq_decide.2
      constructor
      · exact .inr
      · intro h; exact h.resolve_left c
  by_cases c : (z.length : Int) > 1048576 ∨ (s.length : Int) > 1048576 - (z.length : Int)
  · unfold zq33.g zq33.o0
    rw [big, dcT c]; rfl
  · rw [dcF c] at big
    have u8 : ∀ x : Int, (Lit.int .u8 x).wf = true → 0 ≤ x ∧ x ≤ 255 := fun x hx => by simpa [Lit.wf, IntKind.min, IntKind.max, IntKind.signed, IntKind.bits] using hx
    have hz' : Bs z := ⟨by omega, fun x hx => u8 x (hz.2.2 x hx)⟩
    have hs' : Bs s := ⟨by omega, fun x hx => u8 x (hs.2.2 x hx)⟩
    obtain ⟨⟨h, l⟩, ed, _⟩ := drawSol_tot (N := 3000000) (by omega) hz'
    cases hp : puzzleOk h l with
    | false => exact law_badd (by omega) s hs' hp big ed
    | true =>
      obtain ⟨h1, h2, h3, _⟩ := puzzleOk_facts hp
      obtain ⟨k, rfl⟩ := Int.eq_ofNat_of_zero_le (show 0 ≤ h by omega)
      exact law_goodd (by omega) s hs' hp big ed
end Go.Proofs.YtpeleommbipeaaaGreatDoor.M
