/- The pure law of ParseTune. -/
import Derived.Test.YtjnmecjbhfinmaaDoorStFnExactParseTune
import Derived.Test.YtjnmecjbhfinmaaDoorLTextM
import Derived.Test.YtjnmecjbhfinmaaDoorLParseTune
namespace Go.Proofs.YtjnmecjbhfinmaaDoor.Pure
open Go.RowKit Go.Proofs.YtjnmecjbhfinmaaDoor.P Go.Proofs.YtjnmecjbhfinmaaDoorW.PrintWords Go.Proofs.YtjnmecjbhfinmaaDoorW.PrintLast
set_option linter.unusedVariables false
set_option linter.unusedSimpArgs false

theorem FnExactParseTune : FnExactParseTune.Pure := by
  intro s hy
  refine Ev.rounds ?_
  simp only [laws_FnExactParseTune.f]
  by_cases hb : (s.size : Int) > 1048576
  · exact ev_pos hb (Ev.now _)
  refine ev_neg hb ?_
  have hr := parse_len s
  refine Ev.bind (spec_parse_ev s (by omega)) ?_
  refine Ev.bind (impl_parse_ev s (by omega)) ?_
  refine Ev.bind (eqS_self (parseB s).1 (by omega)) ?_
  simp only [if_true, bne_self_eq_false]
  refine ev_succ ?_
  simp only [laws_FnExactParseTune.j0, Bool.false_eq_true, if_false]
  refine Ev.bind (markS_ev (parseB s).1 1 (by omega) (by omega) (by omega)) ?_
  refine Ev.bind (heldS_ev 1 (by omega) (by omega) (parseB s).1.length (by omega)) ?_
  refine ev_neg (by first | omega | (dsimp only; omega)) ?_
  refine ev_pos rfl ?_
  refine Ev.bind (impl_parse_ev s (by omega)) ?_
  refine Ev.bind (eqS_self (parseB s).1 (by omega)) ?_
  simp only [if_true, bne_self_eq_false]
  refine ev_succ ?_
  simp only [laws_FnExactParseTune.j1, Bool.false_eq_true, if_false]
  refine Ev.bind (heldS_ev 1 (by omega) (by omega) (parseB s).1.length (by omega)) ?_
  refine ev_neg (by first | omega | (dsimp only; omega)) ?_
  refine ev_pos rfl ?_
  exact Ev.now _

end Go.Proofs.YtjnmecjbhfinmaaDoor.Pure
