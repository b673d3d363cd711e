/- The pure law of IsDesk: for all numbers the program's test of a desk answers as the reference's; no conditions. -/
import Derived.Test.YtggeghckccmpnaaStFnExactIsDesk
import Derived.Test.YtggeghckccmpnaaLDesk
import Derived.Test.YtggeghckccmpnaaFSpecIsDesk
namespace Go.Proofs.Ytggeghckccmpnaa.Pure
open Go.RowKit Go.Proofs.Ytggeghckccmpnaa.P Go.Proofs.YtggeghckccmpnaaW.PrintWords Go.Proofs.YtggeghckccmpnaaW.PrintLast

theorem FnExactIsDesk : FnExactIsDesk.Pure := by
  intro y _
  refine Ev.rounds ?_
  simp only [laws_FnExactIsDesk.f, laws_toDesk.f, laws_toTurn.f, laws_toClock.f, Option.bind_some, spec_IsDesk.f]
  refine Ev.bind (Ev.last (coGood_ev _ _ _ _ _ _ _)) (Ev.bind (isDesk_ev _ _ _ _ _ _ _) ?_)
  refine Ev.const ?_
  simp

end Go.Proofs.Ytggeghckccmpnaa.Pure
