/- The pure law of MakePuzzle: for all numbers the program's answer is the reference's. -/
import Derived.Test.YtpeleommbipeaaaStFnExactMakePuzzle
import Derived.Test.YtpeleommbipeaaaLMarkP
import Derived.Test.YtpeleommbipeaaaLMakePz
namespace Go.Proofs.Ytpeleommbipeaaa.Pure
open Go.RowKit Go.Proofs.Ytpeleommbipeaaa.P Go.Proofs.YtpeleommbipeaaaW.PrintWords Go.Proofs.YtpeleommbipeaaaW.PrintLast
set_option linter.unusedVariables false
set_option linter.unusedSimpArgs false

theorem FnExactMakePuzzle : FnExactMakePuzzle.Pure := by
  intro h m n s _ _ _ _
  refine Ev.rounds ?_
  simp only [laws_FnExactMakePuzzle.f]
  obtain ⟨r, hl, hi, hs⟩ := make_ev h m n s
  refine Ev.bind hs ?_
  refine Ev.bind hi ?_
  refine Ev.bind (eqPuzzle_self r.1 r.2.1 (by omega)) ?_
  simp only [if_true, bne_self_eq_false]
  refine ev_succ ?_
  simp only [laws_FnExactMakePuzzle.j0, Bool.false_eq_true, if_false]
  refine Ev.bind (markPuzzle_ev r.1 r.2.1 (by omega)) ?_
  refine Ev.bind (heldPuzzle_ev r.1 r.2.1.length (by omega)) ?_
  refine ev_neg (by first | omega | (dsimp only; omega)) ?_
  refine ev_pos rfl ?_
  refine Ev.bind hi ?_
  refine Ev.bind (eqPuzzle_self r.1 r.2.1 (by omega)) ?_
  simp only [if_true, bne_self_eq_false]
  refine ev_succ ?_
  simp only [laws_FnExactMakePuzzle.j1, Bool.false_eq_true, if_false]
  refine Ev.bind (heldPuzzle_ev r.1 r.2.1.length (by omega)) ?_
  refine ev_neg (by first | omega | (dsimp only; omega)) ?_
  refine ev_pos rfl ?_
  exact Ev.now _

end Go.Proofs.Ytpeleommbipeaaa.Pure
