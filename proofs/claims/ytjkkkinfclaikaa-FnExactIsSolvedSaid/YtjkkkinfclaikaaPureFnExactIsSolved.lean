/- The pure law of IsSolved: for all puzzles of at most 1048576 clues the program's answer is the reference's, and the argument stays. -/
import Derived.Test.YtjkkkinfclaikaaStFnExactIsSolved
import Derived.Test.YtjkkkinfclaikaaLSols
namespace Go.Proofs.Ytjkkkinfclaikaa.Pure
open Go.RowKit Go.Proofs.Ytjkkkinfclaikaa.P Go.Proofs.YtjkkkinfclaikaaW.PrintWords Go.Proofs.YtjkkkinfclaikaaW.PrintLast
set_option linter.unusedVariables false
set_option linter.unusedSimpArgs false

def solvedB (h : Int) (l : List IClue) : Bool × Bool := if puzzleOk h l = true then (((sols h l).length : Int) == 1, true) else (false, false)
theorem spec_IsSolved_ev (h : Int) (l : List IClue) (hn : l.length ≤ 1048576) : Ev (fun k => spec_IsSolved.f k h l) (solvedB h l) := by
  unfold spec_IsSolved.f solvedB
  refine pz_ev h l hn (fun h1 h2 h3 h4 => ?_)
  unfold spec_pzSolved.f
  exact Ev.bind (Ev.bind (pzAll_ev h1 h2 l (by omega) h4) (Ev.now _)) (Ev.now _)
theorem impl_IsSolved_ev (h : Int) (l : List IClue) : Ev (fun k => impl_IsSolved.f k h l) (solvedB h l) := by
  unfold impl_IsSolved.f impl_CountSolutions.f
  refine Ev.bind (Ev.bind (implSolutions_ev h l) (Ev.now _)) ?_
  unfold solsB solvedB
  split <;> exact Ev.now _
theorem FnExactIsSolved : FnExactIsSolved.Pure := by
  rintro ⟨h, l⟩ ⟨_, hl, hs, _⟩
  have hs : l.length * 24 ≤ 140737488351232 := hs
  refine Ev.rounds ?_
  simp only [laws_FnExactIsSolved.f]
  refine sz_law hs (fun hlen => ?_)
  have hm := cv_length l hlen
  refine Ev.bind (toPuzzle_ev h l hs) ?_
  refine Ev.bind (spec_IsSolved_ev h _ hm) ?_
  refine Ev.bind (toPuzzle_ev h l hs) ?_
  refine Ev.bind (impl_IsSolved_ev h _) ?_
  simp only [if_true, bne_self_eq_false, Bool.false_eq_true, if_false]
  refine ev_succ ?_
  simp only [laws_FnExactIsSolved.j0, Bool.false_eq_true, if_false]
  refine Ev.bind (toPuzzle_ev h l hs) ?_
  refine Ev.bind (eqPuzzle_self h _ (by omega)) ?_
  simp only [if_true]
  exact Ev.now _

end Go.Proofs.Ytjkkkinfclaikaa.Pure
