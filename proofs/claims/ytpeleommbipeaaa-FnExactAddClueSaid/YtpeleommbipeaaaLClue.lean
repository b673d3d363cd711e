/- Whether there is a clue of a dial: the program's test and the reference's are one; no conditions. -/
import Derived.Test.YtpeleommbipeaaaLBase
import Derived.Test.YtpeleommbipeaaaFSpecPzClue
import Derived.Test.YtpeleommbipeaaaFImplIsClue
namespace Go.Proofs.Ytpeleommbipeaaa.P
open Go.RowKit Go.Proofs.YtpeleommbipeaaaW.PrintWords Go.Proofs.YtpeleommbipeaaaW.PrintLast
set_option linter.unusedVariables false
set_option linter.unusedSimpArgs false

def kindOk (h k a b : Int) : Bool :=
  if k = 0 then wi a 0 (wrap64 (h - 1)) else if k = 1 then wi a 2 60 && wi b 0 (wrap64 (a - 1)) else if k = 2 then wi a 0 30 else if k = 3 then wi a 0 1 else if k = 4 then wi a 1 h else if k = 5 then wi a 0 59 else false
def clueOk (h k a b : Int) : Bool := (decide (k = 1) || decide (b = 0)) && kindOk h k a b
theorem pzClue_j (k : Nat) (h : Int) (e : Bool) (c a b : Int) : spec_pzClue.j0 (k + 1) h e c a b = some (!e && kindOk h c a b) := by
  simp only [spec_pzClue.j0, l1In_eq, Option.bind_some, kindOk]
  cases e
  · simp only [Bool.false_eq_true, if_false, Bool.not_false, Bool.true_and]
    by_cases h1 : c = 1
    · subst h1
      simp only [Int.reduceEq, if_false, if_true]
      by_cases h2 : wi a 2 60 = true
      · simp only [h2, if_true, Bool.true_and]
      · simp only [Bool.not_eq_true] at h2; simp only [h2, Bool.false_eq_true, if_false, Bool.false_and]
    · simp only [h1, if_false]
      repeat' split
      all_goals rfl
  · simp
theorem isClue_j (k : Nat) (h : Int) (e : Bool) (c a b : Int) : impl_IsClue.j0 (k + 1) h e c a b = some (!e && kindOk h c a b) := pzClue_j k h e c a b
theorem pzClue_eq (k : Nat) (h c a b : Int) : spec_pzClue.f (k + 1) h c a b = some (clueOk h c a b) := by
  simp only [spec_pzClue.f, pzClue_j, clueOk]
  by_cases h1 : c = 1
  · simp [h1]
  · by_cases h2 : b = 0 <;> simp [h1, h2]
theorem isClue_eq (k : Nat) (h c a b : Int) : impl_IsClue.f (k + 1) h c a b = some (wi h 2 24 && clueOk h c a b) := by
  simp only [impl_IsClue.f, isClue_j, isDial_eq, Option.bind_some, clueOk]
  by_cases h0 : wi h 2 24 = true
  · simp only [h0, if_true, Bool.true_and]
    by_cases h1 : c = 1
    · simp [h1]
    · by_cases h2 : b = 0 <;> simp [h1, h2]
  · simp only [Bool.not_eq_true] at h0; simp [h0]

end Go.Proofs.Ytpeleommbipeaaa.P
