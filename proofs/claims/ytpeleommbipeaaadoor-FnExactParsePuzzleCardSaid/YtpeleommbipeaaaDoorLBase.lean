/- Hours on a dial are numbers between bounds. -/
import Derived.Test.YtpeleommbipeaaaDoorK
import Derived.Test.YtpeleommbipeaaaDoorLNum
import Derived.Test.YtpeleommbipeaaaDoorFImplIsDial
import Derived.Test.YtpeleommbipeaaaDoorFSpecDiHours
namespace Go.Proofs.YtpeleommbipeaaaDoor.P
open Go.RowKit Go.Proofs.YtpeleommbipeaaaDoorW.PrintWords Go.Proofs.YtpeleommbipeaaaDoorW.PrintLast
set_option linter.unusedVariables false
set_option linter.unusedSimpArgs false

theorem isDial_eq (h : Int) : impl_isDial.f h = some (wi h 2 24) := by unfold impl_isDial.f; rw [within_eq]; rfl
theorem diHours_eq (h : Int) : spec_diHours.f h = some (wi h 2 24) := by unfold spec_diHours.f; rw [l1In_eq]; rfl

end Go.Proofs.YtpeleommbipeaaaDoor.P
