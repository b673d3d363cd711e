/- The pure law of IsClue: for all numbers the program's test of a clue answers as the reference's; no conditions. -/
import Derived.Test.YtggeghckccmpnaaStFnExactIsClue
import Derived.Test.YtggeghckccmpnaaLClue
import Derived.Test.YtggeghckccmpnaaFSpecIsClue
namespace Go.Proofs.Ytggeghckccmpnaa.Pure
open Go.RowKit Go.Proofs.Ytggeghckccmpnaa.P Go.Proofs.YtggeghckccmpnaaW.PrintWords Go.Proofs.YtggeghckccmpnaaW.PrintLast

theorem FnExactIsClue : FnExactIsClue.Pure := by
  intro h c _ _
  refine ⟨1, ?_⟩
  simp only [laws_FnExactIsClue.f, laws_toClue.f, Option.bind_some, isClue_eq, spec_IsClue.f, diHours_eq, pzClue_eq]
  by_cases h0 : wi h 2 24 = true
  · simp [h0]
  · simp only [Bool.not_eq_true] at h0; simp [h0]

end Go.Proofs.Ytggeghckccmpnaa.Pure
