-- written by wip/gen.py (this session's) with the kit's printer; Lean checks it.
import Derived.Test.YtpeleommbipeaaaDoorK
import Derived.Test.YtpeleommbipeaaaDoorShelf
namespace Go.Proofs.YtpeleommbipeaaaDoor.P
open Go.RowKit Go.Proofs.YtpeleommbipeaaaDoorW.PrintWords Go.Proofs.YtpeleommbipeaaaDoorW.PrintLast Go.Proofs.YtpeleommbipeaaaDoorW.PrintMore
attribute [local go_sem] max2_int min2_int max_two min_two max_three min_three max_four min_four
set_option linter.unusedVariables false
set_option linter.unusedSimpArgs false

/-! ### strconv_Itoa_25: function 25 -/
def strconv_Itoa_25.f (a0 : Int) : Option (ByteArray) := if 0 ≤ a0 ∧ a0 < 100 then some ⟨(Lib.decDigits a0.toNat).toArray⟩ else none
theorem strconv_Itoa_25.calls (a0 : Int) (r : ByteArray) (w : World) (h : strconv_Itoa_25.f a0 = some r) :
    Calls Tryd.prog 25 #[.int .i64 a0] w fun e w' => e = .returned (.string r) ∧ Drawn0 w w' := by
  unfold strconv_Itoa_25.f at h
  by_cases c : 0 ≤ a0 ∧ a0 < 100
  · rw [if_pos c] at h
    cases Option.some.inj h
    clear h
    obtain ⟨n, rfl⟩ := Int.eq_ofNat_of_zero_le c.1
    refine (Tryd.strconv_Itoa_small n (by omega) w).mono ?_
    rintro e w' ⟨rfl, rfl⟩
    exact ⟨rfl, Drawn0.refl _⟩
  · rw [if_neg c] at h
    cases h

end Go.Proofs.YtpeleommbipeaaaDoor.P
