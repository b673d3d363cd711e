-- written by wip/gen.py (this session's) with the kit's printer; Lean checks it.
import Derived.Test.YtpeleommbipeaaaK
namespace Go.Proofs.Ytpeleommbipeaaa.P
open Go.RowKit Go.Proofs.YtpeleommbipeaaaW.PrintWords Go.Proofs.YtpeleommbipeaaaW.PrintLast Go.Proofs.YtpeleommbipeaaaW.PrintMore
attribute [local go_sem] max2_int min2_int max_two min_two max_three min_three max_four min_four
set_option linter.unusedVariables false
set_option linter.unusedSimpArgs false

/-! ### spec_pzAhead: function 73 -/
def spec_pzAhead.f (a0 : Int) (a1 : Int) : Option (Int) := if (wrap64 (60 * a0)) = 0 then (none) else (some (Int.tmod (wrap64 ((Int.tmod (wrap64 ((wrap64 (a0 - 1)) * a1)) (wrap64 (60 * a0))) + (wrap64 (60 * a0)))) (wrap64 (60 * a0))))
set_option maxHeartbeats 8000000 in
set_option maxRecDepth 100000 in
theorem spec_pzAhead.calls (a0 : Int) (a1 : Int) (r : Int) (w : World) (h : spec_pzAhead.f a0 a1 = some r) :
    Calls Try.prog 73 #[.int .i64 a0, .int .i64 a1] w fun e w' => e = .returned (.int .i64 r) ∧ Drawn0 w w' := by
  have H : (if (wrap64 (60 * a0)) = 0 then (none) else (some (Int.tmod (wrap64 ((Int.tmod (wrap64 ((wrap64 (a0 - 1)) * a1)) (wrap64 (60 * a0))) + (wrap64 (60 * a0)))) (wrap64 (60 * a0))))) = some r := h
  clear h
  by_cases c3 : (wrap64 (60 * a0)) = 0
  · rw [if_pos c3] at H
    exact absurd H (by simp)
  · rw [if_neg c3] at H
    have c3b0 : ((wrap64 (60 * a0)) == 0) = false := beq_eq_false_iff_ne.mpr c3
    have c3b1 : ((wrap64 (60 * a0)) != 0) = true := bne_iff_ne.mpr c3
    obtain rfl := Option.some.inj H
    go_enter Try.func73, Try.ntmps73
    go_wp2
    go_ret
    exact ⟨by first | rfl | (simp; done) | (simp [*]; done), by repeat (first | exact Drawn0.refl _ | apply Drawn0.step)⟩

end Go.Proofs.Ytpeleommbipeaaa.P
