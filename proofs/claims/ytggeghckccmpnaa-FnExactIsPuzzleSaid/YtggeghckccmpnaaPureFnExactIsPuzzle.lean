/- The pure law of IsPuzzle: for all puzzles of at most 1048576 clues the program's answer is the reference's, and the argument stays. -/
import Derived.Test.YtggeghckccmpnaaStFnExactIsPuzzle
import Derived.Test.YtggeghckccmpnaaLPuzzle
import Derived.Test.YtggeghckccmpnaaFSpecIsPuzzle
namespace Go.Proofs.Ytggeghckccmpnaa.Pure
open Go.RowKit Go.Proofs.Ytggeghckccmpnaa.P Go.Proofs.YtggeghckccmpnaaW.PrintWords Go.Proofs.YtggeghckccmpnaaW.PrintLast
set_option linter.unusedVariables false
set_option linter.unusedSimpArgs false

theorem FnExactIsPuzzle : FnExactIsPuzzle.Pure := by
  rintro ⟨h, l⟩ ⟨_, hl, hs, _⟩
  have hs : l.length * 24 ≤ 140737488351232 := hs
  refine Ev.rounds ?_
  simp only [laws_FnExactIsPuzzle.f, laws_szPuzzle.f, laws_szClueS.f]
  have hw : wrap64 (1048576 - (l.length : Int)) = 1048576 - (l.length : Int) := wsm (by omega) (by omega)
  simp only [hw]
  by_cases h0 : 1048576 - (l.length : Int) < 0
  · simp only [h0, if_true, Option.bind_some, show ((-1 : Int) < 0) from by omega]
    exact Ev.now _
  · simp only [h0, if_false, Option.bind_some]
    have hm : (l.map cv).length ≤ 9223372036854775807 := by rw [List.length_map]; omega
    refine Ev.bind (toPuzzle_ev h l hs) ?_
    refine Ev.bind (a := puzzleOk h (l.map cv)) (by unfold spec_IsPuzzle.f; exact ev_last (pzGood_ev h _ hm)) ?_
    refine Ev.bind (toPuzzle_ev h l hs) ?_
    refine Ev.bind (a := puzzleOk h (l.map cv)) ⟨1, fun k hk => by obtain ⟨m, rfl⟩ : ∃ m, k = m + 1 := ⟨k - 1, by omega⟩; exact isPuzzle_eq m h _⟩ ?_
    simp only [bne_self_eq_false, Bool.false_eq_true, if_false]
    refine Ev.bind (toPuzzle_ev h l hs) ?_
    refine Ev.bind (eqPuzzle_self h _ hm) ?_
    simp only [if_true]
    exact Ev.now _

end Go.Proofs.Ytggeghckccmpnaa.Pure
