/- What is a puzzle: the program's test and the reference's are one. -/
import Derived.Test.YtpeleommbipeaaaLClue
import Derived.Test.YtpeleommbipeaaaFImplIsPuzzle
import Derived.Test.YtpeleommbipeaaaFSpecPzGood
import Derived.Test.YtpeleommbipeaaaFLawsEqPuzzle
namespace Go.Proofs.Ytpeleommbipeaaa.P
open Go.RowKit Go.Proofs.YtpeleommbipeaaaW.PrintWords Go.Proofs.YtpeleommbipeaaaW.PrintLast
set_option linter.unusedVariables false
set_option linter.unusedSimpArgs false

abbrev IClue := S38
def clueOk' (h : Int) (c : IClue) : Bool := clueOk h c.f0 c.f1 c.f2
def puzzleOk (h : Int) (l : List IClue) : Bool := wi h 2 24 && (decide ((l.length : Int) ≤ 6) && l.all (clueOk' h))

theorem rd_get (l : List IClue) (i : Nat) (h : i < l.length) : rd_T38 l i = l[i] := by
  show l.getD (i : Int).toNat _ = _
  rw [Int.toNat_natCast, List.getD_eq_getElem?_getD, List.getElem?_eq_getElem h]; rfl
theorem eqClue_self (c : IClue) : laws_eqClue.f c.f0 c.f1 c.f2 c.f0 c.f1 c.f2 = some true := by simp [laws_eqClue.f]
theorem eqClueS_l (l : List IClue) (hn : l.length ≤ 9223372036854775807) : ∀ (d i : Nat), i + d = l.length → ∀ k, d < k → laws_eqClueS.l0 k l l i = some true := by
  intro d
  induction d with
  | zero =>
    intro i hi k hk
    obtain ⟨k, rfl⟩ : ∃ m, k = m + 1 := ⟨k - 1, by omega⟩
    simp only [laws_eqClueS.l0]
    rw [if_neg (by omega)]
  | succ d ih =>
    intro i hi k hk
    obtain ⟨k, rfl⟩ : ∃ m, k = m + 1 := ⟨k - 1, by omega⟩
    have hlt : i < l.length := by omega
    simp only [laws_eqClueS.l0]
    rw [if_pos (by omega), if_pos (by omega), if_pos (by omega), eqClue_self]
    simp only [Option.bind_some, if_true]
    rw [wrap_succ hlt hn]
    exact ih (i + 1) (by omega) k (by omega)
theorem eqPuzzle_self (h : Int) (l : List IClue) (hn : l.length ≤ 9223372036854775807) : Ev (fun k => laws_eqPuzzle.f k h l h l) true := by
  refine ⟨l.length + 1, fun k hk => ?_⟩
  simp only [laws_eqPuzzle.f, if_true, laws_eqClueS.f]
  have := eqClueS_l l hn l.length 0 (by omega) k (by omega)
  rw [show ((0 : Nat) : Int) = 0 from rfl] at this
  rw [this]
  rfl
theorem pzGood_l (h : Int) (l : List IClue) (hn : l.length ≤ 9223372036854775807) : ∀ (d i : Nat), i + d = l.length → ∀ k, d + 1 < k → spec_pzGood.l0 k l l.length i h l = some ((l.drop i).all (clueOk' h)) := by
  intro d
  induction d with
  | zero =>
    intro i hi k hk
    obtain ⟨k, rfl⟩ : ∃ m, k = m + 1 := ⟨k - 1, by omega⟩
    simp only [spec_pzGood.l0]
    rw [if_neg (by omega), List.drop_eq_nil_of_le (by omega)]
    rfl
  | succ d ih =>
    intro i hi k hk
    obtain ⟨k, rfl⟩ : ∃ m, k = m + 2 := ⟨k - 2, by omega⟩
    have hlt : i < l.length := by omega
    have hs : spec_pzGood.l0 (k + 2) l l.length i h l = if clueOk' h l[i] = true then spec_pzGood.l0 (k + 1) l l.length ((i + 1 : Nat) : Int) h l else some false := by
      rw [spec_pzGood.l0]
      rw [if_pos (by omega), if_pos (by omega), if_pos (by omega), rd_get l i hlt, pzClue_eq, wrap_succ hlt hn]
      rfl
    rw [hs, List.drop_eq_getElem_cons hlt, List.all_cons]
    by_cases hc : clueOk' h l[i] = true
    · rw [if_pos hc, ih (i + 1) (by omega) (k + 1) (by omega), hc, Bool.true_and]
    · rw [if_neg hc]
      simp only [Bool.not_eq_true] at hc
      rw [hc, Bool.false_and]
theorem pzGood_ev (h : Int) (l : List IClue) (hn : l.length ≤ 9223372036854775807) : Ev (fun k => spec_pzGood.f k h l) (puzzleOk h l) := by
  refine ⟨l.length + 3, fun k hk => ?_⟩
  obtain ⟨k, rfl⟩ : ∃ m, k = m + 1 := ⟨k - 1, by omega⟩
  simp only [spec_pzGood.f, diHours_eq, Option.bind_some, puzzleOk]
  by_cases h0 : wi h 2 24 = true
  · simp only [h0, if_true, Bool.true_and]
    rw [spec_pzGood.j0]
    by_cases h1 : (l.length : Int) ≤ 6
    · rw [decide_eq_false (by omega), if_neg (by simp), decide_eq_true h1, Bool.true_and]
      have := pzGood_l h l hn l.length 0 (by omega) k (by omega)
      simpa using this
    · rw [decide_eq_true (by omega), if_pos rfl, decide_eq_false h1, Bool.false_and]
  · simp only [Bool.not_eq_true] at h0
    simp only [h0, Bool.false_eq_true, if_false, Bool.false_and]
    rw [spec_pzGood.j0, if_pos rfl]
theorem isPuzzle_eq (k : Nat) (h : Int) (l : List IClue) : impl_IsPuzzle.f (k + 1) h l = some (puzzleOk h l) := by
  simp only [impl_IsPuzzle.f, isDial_eq, Option.bind_some, puzzleOk, isClue_eq]
  by_cases h0 : wi h 2 24 = true
  · simp only [h0, if_true, Bool.true_and]
    by_cases h1 : (l.length : Int) ≤ 6
    · have := anyO_some (q := fun x : IClue => some (!clueOk h x.f0 x.f1 x.f2)) (p := fun c => !clueOk' h c) l (fun _ _ => rfl)
      rw [if_pos h1, this, decide_eq_true h1, Bool.true_and]
      simp only [Option.bind_some]
      congr 1
      clear h1 this
      induction l with
      | nil => rfl
      | cons c l ih => simp only [List.any_cons, List.all_cons, Bool.not_or, Bool.not_not, ih]
    · rw [if_neg h1, decide_eq_false h1, Bool.false_and]
  · simp only [Bool.not_eq_true] at h0; simp [h0]

theorem puzzleOk_facts {h : Int} {l : List IClue} (hp : puzzleOk h l = true) : 2 ≤ h ∧ h ≤ 24 ∧ l.length ≤ 6 ∧ l.all (clueOk' h) = true := by
  simp only [puzzleOk, Bool.and_eq_true, wi_true, decide_eq_true_eq] at hp
  exact ⟨hp.1.1, hp.1.2, by omega, hp.2.2⟩
theorem isPuzzle_ev (h : Int) (l : List IClue) : Ev (fun k => impl_IsPuzzle.f k h l) (puzzleOk h l) := ev_later (fun k => isPuzzle_eq k h l)

end Go.Proofs.Ytpeleommbipeaaa.P
