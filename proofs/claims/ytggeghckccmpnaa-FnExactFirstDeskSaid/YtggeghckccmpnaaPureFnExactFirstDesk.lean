/- The pure law of FirstDesk: the program's first desk equals the reference's, field by field; no conditions. -/
import Derived.Test.YtggeghckccmpnaaPFnExactFirstDeskx1
namespace Go.Proofs.Ytggeghckccmpnaa.Pure
open Go.RowKit Go.Proofs.Ytggeghckccmpnaa.PFnExactFirstDesk Go.Proofs.YtggeghckccmpnaaW.PrintWords Go.Proofs.YtggeghckccmpnaaW.PrintLast

/-- YOURS: laws_FnExactFirstDesk.f  = some true
What it reaches (each with k first where it has rounds; `.mono`: more rounds tell the same; `.l0`, ..: its loops, with `.mono_l`): spec_FirstDesk.f, impl_FirstDesk.f, laws_eqTurn.f, laws_eqClock.f, laws_eqDesk.f, laws_FnExactFirstDesk.f -/
theorem FnExactFirstDesk : laws_FnExactFirstDesk.Pure := by
  rfl

end Go.Proofs.Ytggeghckccmpnaa.Pure
