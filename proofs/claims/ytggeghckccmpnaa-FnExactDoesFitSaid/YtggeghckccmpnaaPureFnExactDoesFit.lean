/- The pure law of DoesFit: for all numbers the program's answer is the reference's; no conditions. -/
import Derived.Test.YtggeghckccmpnaaStFnExactDoesFit
import Derived.Test.YtggeghckccmpnaaLFits
namespace Go.Proofs.Ytggeghckccmpnaa.Pure
open Go.RowKit Go.Proofs.Ytggeghckccmpnaa.P Go.Proofs.YtggeghckccmpnaaW.PrintWords Go.Proofs.YtggeghckccmpnaaW.PrintLast
set_option linter.unusedVariables false
set_option linter.unusedSimpArgs false

theorem FnExactDoesFit : FnExactDoesFit.Pure := by
  intro h c m _ _ _
  refine ⟨1, ?_⟩
  simp only [laws_FnExactDoesFit.f, laws_toClue.f, Option.bind_some, impl_DoesFit.f, spec_DoesFit.f, isClue_eq, diHours_eq, pzClue_eq, isMinute_eq, l1In_eq]
  by_cases h0 : wi h 2 24 = true
  · have h1 := wi_true.1 h0
    have e1 : wrap64 (60 * h) = 60 * h := wsm (by omega) (by omega)
    have e2 : wrap64 (60 * h - 1) = 60 * h - 1 := wsm (by omega) (by omega)
    simp only [e1, e2]
    simp only [h0, Bool.true_and, if_true]
    by_cases hc : clueOk h c.f0 c.f1 c.f2 = true
    · simp only [hc, if_true]
      by_cases hm : wi m 0 (60 * h - 1) = true
      · have h2 := wi_true.1 hm
        simp only [hm, if_true, pzFits_eq h1.1 h1.2 h2.1 (by omega) hc, fits_eq h1.1 h1.2 h2.1 (by omega) hc, Option.bind_some]
        simp
      · simp only [Bool.not_eq_true] at hm; simp [hm]
    · simp only [Bool.not_eq_true] at hc; simp [hc]
  · simp only [Bool.not_eq_true] at h0; simp [h0]

end Go.Proofs.Ytggeghckccmpnaa.Pure
