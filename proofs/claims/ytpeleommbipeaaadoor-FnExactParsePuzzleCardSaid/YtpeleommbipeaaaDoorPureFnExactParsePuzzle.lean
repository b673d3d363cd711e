/- The pure law of ParsePuzzle: for all texts of at most 1048576 bytes the program's answer is the reference's. -/
import Derived.Test.YtpeleommbipeaaaDoorStFnExactParsePuzzle
import Derived.Test.YtpeleommbipeaaaDoorLMarkP
import Derived.Test.YtpeleommbipeaaaDoorLParseRt
namespace Go.Proofs.YtpeleommbipeaaaDoor.Pure
open Go.RowKit Go.Proofs.YtpeleommbipeaaaDoor.P Go.Proofs.YtpeleommbipeaaaDoorW.PrintWords Go.Proofs.YtpeleommbipeaaaDoorW.PrintLast
set_option linter.unusedVariables false
set_option linter.unusedSimpArgs false

theorem FnExactParsePuzzle : FnExactParsePuzzle.Pure := by
  intro s hy
  refine Ev.rounds ?_
  simp only [laws_FnExactParsePuzzle.f]
  by_cases hb : (s.size : Int) > 1048576
  · exact ev_pos hb (Ev.now _)
  refine ev_neg hb ?_
  have hl := resI_len s
  refine Ev.bind (spec_ParsePuzzle_ev s (by omega)) ?_
  refine Ev.bind (impl_pp_ev s (by omega)) ?_
  refine Ev.bind (eqPuzzle_self (resI s).1 (resI s).2.1 (by omega)) ?_
  simp only [if_true, bne_self_eq_false]
  refine ev_succ ?_
  simp only [laws_FnExactParsePuzzle.j0, Bool.false_eq_true, if_false]
  refine Ev.bind (markPuzzle_ev (resI s).1 (resI s).2.1 (by omega)) ?_
  refine Ev.bind (heldPuzzle_ev (resI s).1 (resI s).2.1.length (by omega)) ?_
  refine ev_neg (by first | omega | (dsimp only; omega)) ?_
  refine ev_pos rfl ?_
  refine Ev.bind (impl_pp_ev s (by omega)) ?_
  refine Ev.bind (eqPuzzle_self (resI s).1 (resI s).2.1 (by omega)) ?_
  simp only [if_true, bne_self_eq_false]
  refine ev_succ ?_
  simp only [laws_FnExactParsePuzzle.j1, Bool.false_eq_true, if_false]
  refine Ev.bind (heldPuzzle_ev (resI s).1 (resI s).2.1.length (by omega)) ?_
  refine ev_neg (by first | omega | (dsimp only; omega)) ?_
  refine ev_pos rfl ?_
  exact Ev.now _

end Go.Proofs.YtpeleommbipeaaaDoor.Pure
