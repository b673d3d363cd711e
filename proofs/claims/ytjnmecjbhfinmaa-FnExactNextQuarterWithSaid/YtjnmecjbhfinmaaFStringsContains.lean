-- written by wip/gen.py (this session's) with the kit's printer; Lean checks it.
import Derived.Test.YtjnmecjbhfinmaaK
import Derived.Test.YtjnmecjbhfinmaaShelf
namespace Go.Proofs.Ytjnmecjbhfinmaa.P
open Go.RowKit Go.Proofs.YtjnmecjbhfinmaaW.PrintWords Go.Proofs.YtjnmecjbhfinmaaW.PrintLast Go.Proofs.YtjnmecjbhfinmaaW.PrintMore
attribute [local go_sem] max2_int min2_int max_two min_two max_three min_three max_four min_four
set_option linter.unusedVariables false
set_option linter.unusedSimpArgs false

/-! ### strings_Contains: function 72 -/
def strings_Contains.f (a0 : ByteArray) (a1 : ByteArray) : Option (Bool) := match a1.data.toList with
  | [c] => some (decide (0 ≤ Lib.indexByte a0.data.toList c))
  | _ => none
theorem strings_Contains.calls (a0 : ByteArray) (a1 : ByteArray) (r : Bool) (w : World) (h : strings_Contains.f a0 a1 = some r) :
    Calls Try.prog 72 #[.string a0, .string a1] w fun e w' => e = .returned (.bool r) ∧ Drawn0 w w' := by
  obtain ⟨⟨l⟩⟩ := a1
  match l, h with
  | [c], h =>
    cases Option.some.inj h
    refine (Try.strings_Contains_one a0 c w).mono ?_
    rintro e w' ⟨rfl, rfl⟩
    exact ⟨rfl, Drawn0.refl _⟩

end Go.Proofs.Ytjnmecjbhfinmaa.P
