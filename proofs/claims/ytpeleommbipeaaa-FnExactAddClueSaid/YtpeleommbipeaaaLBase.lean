/- Hours on a dial are numbers between bounds. -/
import Derived.Test.YtpeleommbipeaaaK
import Derived.Test.YtpeleommbipeaaaLNum
import Derived.Test.YtpeleommbipeaaaFImplIsDial
import Derived.Test.YtpeleommbipeaaaFSpecDiHours
namespace Go.Proofs.Ytpeleommbipeaaa.P
open Go.RowKit Go.Proofs.YtpeleommbipeaaaW.PrintWords Go.Proofs.YtpeleommbipeaaaW.PrintLast
set_option linter.unusedVariables false
set_option linter.unusedSimpArgs false

theorem isDial_eq (h : Int) : impl_isDial.f h = some (wi h 2 24) := by unfold impl_isDial.f; rw [within_eq]; rfl
theorem diHours_eq (h : Int) : spec_diHours.f h = some (wi h 2 24) := by unfold spec_diHours.f; rw [l1In_eq]; rfl

end Go.Proofs.Ytpeleommbipeaaa.P
