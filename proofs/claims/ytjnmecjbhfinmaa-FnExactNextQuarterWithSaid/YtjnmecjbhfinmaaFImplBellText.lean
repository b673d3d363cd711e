-- written by wip/gen.py (this session's) with the kit's printer; Lean checks it.
import Derived.Test.YtjnmecjbhfinmaaK
import Derived.Laws.Runes
namespace Go.Proofs.Ytjnmecjbhfinmaa.P
open Go.RowKit Go.Proofs.YtjnmecjbhfinmaaW.PrintWords Go.Proofs.YtjnmecjbhfinmaaW.PrintLast Go.Proofs.YtjnmecjbhfinmaaW.PrintMore
attribute [local go_sem] max2_int min2_int max_two min_two max_three min_three max_four min_four
set_option linter.unusedVariables false
set_option linter.unusedSimpArgs false

/-! ### impl_bellText: function 69 -/
def impl_bellText.f (a0 : Int) : Option (ByteArray) := if 1 ≤ a0 ∧ a0 ≤ 8 then some (strOfNums [48 + a0]) else none
set_option maxHeartbeats 2000000 in
theorem impl_bellText.calls (a0 : Int) (r : ByteArray) (w : World) (h : impl_bellText.f a0 = some r) :
    Calls Try.prog 69 #[.int .i64 a0] w fun e w' => e = .returned (.string r) ∧ Drawn0 w w' := by
  unfold impl_bellText.f at h
  by_cases c : 1 ≤ a0 ∧ a0 ≤ 8
  · rw [if_pos c] at h
    cases Option.some.inj h
    clear h
    have hc : a0 = 1 ∨ a0 = 2 ∨ a0 = 3 ∨ a0 = 4 ∨ a0 = 5 ∨ a0 = 6 ∨ a0 = 7 ∨ a0 = 8 := by omega
    clear c
    rcases hc with rfl | rfl | rfl | rfl | rfl | rfl | rfl | rfl
    all_goals
      go_enter Try.func69, Try.ntmps69
      go_wp2
      go_ret
      exact ⟨rfl, by repeat (first | exact Drawn0.refl _ | apply Drawn0.step)⟩
  · rw [if_neg c] at h
    cases h

end Go.Proofs.Ytjnmecjbhfinmaa.P
