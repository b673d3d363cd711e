/- The pure law of PuzzleText: for all puzzles of at most 1048576 clues the program's answer is the reference's, and the argument stays. -/
import Derived.Test.YtjnmecjbhfinmaaDoorStFnExactPuzzleText
import Derived.Test.YtjnmecjbhfinmaaDoorLPuzText
namespace Go.Proofs.YtjnmecjbhfinmaaDoor.Pure
open Go.RowKit Go.Proofs.YtjnmecjbhfinmaaDoor.P Go.Proofs.YtjnmecjbhfinmaaDoorW.PrintWords Go.Proofs.YtjnmecjbhfinmaaDoorW.PrintLast
set_option linter.unusedVariables false
set_option linter.unusedSimpArgs false

theorem FnExactPuzzleText : FnExactPuzzleText.Pure := by
  rintro ⟨h, l⟩ ⟨_, hl, hs, _⟩
  have hs : l.length * 24 ≤ 140737488351232 := hs
  refine Ev.rounds ?_
  simp only [laws_FnExactPuzzleText.f]
  refine sz_law hs (fun hlen => ?_)
  have hm := cv_length l hlen
  refine Ev.bind (toPuzzle_ev h l hs) ?_
  refine Ev.bind (spec_PuzzleText_ev h (l.map cv) (by omega)) ?_
  refine Ev.bind (toPuzzle_ev h l hs) ?_
  refine Ev.bind (impl_PuzzleText_ev h _) ?_
  simp only [if_true, bne_self_eq_false, Bool.false_eq_true, if_false]
  refine ev_succ ?_
  simp only [laws_FnExactPuzzleText.j0, Bool.false_eq_true, if_false]
  refine Ev.bind (toPuzzle_ev h l hs) ?_
  refine Ev.bind (eqPuzzle_self h _ (by omega)) ?_
  simp only [if_true]
  exact Ev.now _

end Go.Proofs.YtjnmecjbhfinmaaDoor.Pure
