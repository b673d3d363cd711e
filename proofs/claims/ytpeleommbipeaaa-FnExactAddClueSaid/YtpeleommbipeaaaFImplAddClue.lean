-- written by wip/gen.py (this session's) with the kit's printer; Lean checks it.
import Derived.Test.YtpeleommbipeaaaK
import Derived.Test.YtpeleommbipeaaaFImplIsPuzzle
import Derived.Test.YtpeleommbipeaaaFSlicesCloneImplClue
namespace Go.Proofs.Ytpeleommbipeaaa.P
open Go.RowKit Go.Proofs.YtpeleommbipeaaaW.PrintWords Go.Proofs.YtpeleommbipeaaaW.PrintLast Go.Proofs.YtpeleommbipeaaaW.PrintMore
attribute [local go_sem] max2_int min2_int max_two min_two max_three min_three max_four min_four
set_option linter.unusedVariables false
set_option linter.unusedSimpArgs false

/-! ### impl_AddClue: function 16 -/
def impl_AddClue.f (k : Nat) (a0_0 : Int) (l0_1 : List (S38)) (a1_0 : Int) (a1_1 : Int) (a1_2 : Int) : Option (Int × (List (S38)) × Bool) := (slices_Clone_impl_Clue.f l0_1).bind fun t104 => ((some (([(⟨a1_0, a1_1, a1_2⟩ : S38)] : List (S38)) : List (S38))).bind fun y107 => (if t104.length + y107.length < 5864062014805 then ((some (t104 ++ y107 : List (S38))).bind fun y110 => ((impl_IsPuzzle.f k a0_0 l0_1).bind fun t114 => (if t114 = true then ((impl_IsPuzzle.f k a0_0 y110).bind fun t115 => (if t115 = true then (some (a0_0, y110, true)) else (some (0, ([] : List (S38)), false)))) else (some (0, ([] : List (S38)), false))))) else (none)))
theorem impl_AddClue.mono : ∀ a0 a1 a2 a3 a4 k, LeO (impl_AddClue.f k a0 a1 a2 a3 a4) (impl_AddClue.f (k + 1) a0 a1 a2 a3 a4) := by
 intro a0 a1 a2 a3 a4 k
 unfold impl_AddClue.f
 repeat' first
   | (with_reducible exact impl_IsPuzzle.mono _ _ _)
   | (with_reducible exact LeO.refl _)
   | (with_reducible exact LeO.none _)
   | (with_reducible refine LeO.ite ?_ ?_)
   | (with_reducible refine LeO.bind ?_ (fun _ => ?_))
   | exact impl_IsPuzzle.mono _ _ _
   | exact LeO.none _
   | refine LeO.ite ?_ ?_
   | refine LeO.bind ?_ (fun _ => ?_)
def impl_AddClue.T1 : Bool × List (List Nat × List Nat) := (true, [([], []), ([0], [0]), ([], []), ([2], [2]), ([3], [3]), ([], []), ([5], [5]), ([4, 6, 4], [4, 6]), ([1, 7], [1, 7]), ([], []), ([9, 8, 7, 0, 1, 2, 3, 4, 5, 6, 7, 8, 9], [8, 9])])
def impl_AddClue.B1 : List Nat := [0, 1, 0, 4, 12, 0, 32, 124, 255, 0, 1023]
theorem impl_AddClue.tab1 : rtab .any (opsOf Try.f16 1) = impl_AddClue.T1 := by kernel_rfl
theorem impl_AddClue.bits1 : waitsOk impl_AddClue.T1.2 impl_AddClue.B1 = true := by kernel_rfl

end Go.Proofs.Ytpeleommbipeaaa.P
