/- The pure law of Solutions: for all puzzles of at most 1048576 clues the program's answer is the reference's, the argument stays, and the answer is new memory. -/
import Derived.Test.YtjkkkinfclaikaaStFnExactSolutions
import Derived.Test.YtjkkkinfclaikaaLSols
import Derived.Test.YtjkkkinfclaikaaLMark
import Derived.Test.YtjkkkinfclaikaaFSpecSolutions
namespace Go.Proofs.Ytjkkkinfclaikaa.Pure
open Go.RowKit Go.Proofs.Ytjkkkinfclaikaa.P Go.Proofs.YtjkkkinfclaikaaW.PrintWords Go.Proofs.YtjkkkinfclaikaaW.PrintLast
set_option linter.unusedVariables false
set_option linter.unusedSimpArgs false

theorem Solutions_len (h : Int) (l : List IClue) : (solsB h l).1.length ≤ 1440 := by
  unfold solsB
  split
  · next hp => exact sols_length (puzzleOk_facts hp).2.1 l
  · simp
theorem spec_Solutions_ev (h : Int) (l : List IClue) (hn : l.length ≤ 1048576) : Ev (fun k => spec_Solutions.f k h l) (solsB h l) := by
  unfold spec_Solutions.f solsB
  exact pz_ev h l hn (fun h1 h2 h3 h4 => Ev.bind (pzAll_ev h1 h2 l (by omega) h4) (Ev.now _))
theorem impl_Solutions_ev (h : Int) (l : List IClue) (_ : l.length ≤ 1048576) : Ev (fun k => impl_Solutions.f k h l) (solsB h l) := implSolutions_ev h l
theorem FnExactSolutions : FnExactSolutions.Pure := by
  rintro ⟨h, l⟩ ⟨_, hl, hs, _⟩
  have hs : l.length * 24 ≤ 140737488351232 := hs
  refine Ev.rounds ?_
  simp only [laws_FnExactSolutions.f]
  refine sz_law hs (fun hlen => ?_)
  have hm := cv_length l hlen
  have hr := Solutions_len h (l.map cv)
  refine Ev.bind (toPuzzle_ev h l hs) ?_
  refine Ev.bind (spec_Solutions_ev h _ hm) ?_
  refine Ev.bind (toPuzzle_ev h l hs) ?_
  refine Ev.bind (impl_Solutions_ev h _ hm) ?_
  refine Ev.bind (eqIntS_self (solsB h (l.map cv)).1 (by omega)) ?_
  simp only [if_true, bne_self_eq_false]
  refine ev_succ ?_
  simp only [laws_FnExactSolutions.j0, Bool.false_eq_true, if_false]
  refine Ev.bind (toPuzzle_ev h l hs) ?_
  refine Ev.bind (eqPuzzle_self h _ (by omega)) ?_
  simp only [if_true]
  refine Ev.bind (markPuzzle_ev h _ (by omega)) ?_
  refine ev_neg (by first | omega | (dsimp only; omega)) ?_
  refine Ev.bind (eqIntS_self (solsB h (l.map cv)).1 (by omega)) ?_
  simp only [if_true, bne_self_eq_false]
  refine ev_succ ?_
  simp only [laws_FnExactSolutions.j1, Bool.false_eq_true, if_false]
  refine Ev.bind (markIntS_ev (solsB h (l.map cv)).1 (by omega)) ?_
  refine Ev.bind (heldIntS_ev (solsB h (l.map cv)).1.length (by omega)) ?_
  refine ev_neg (by first | omega | (dsimp only; omega)) ?_
  refine ev_pos rfl ?_
  refine Ev.bind (toPuzzle_ev h l hs) ?_
  refine Ev.bind (impl_Solutions_ev h _ hm) ?_
  refine Ev.bind (eqIntS_self (solsB h (l.map cv)).1 (by omega)) ?_
  simp only [if_true, bne_self_eq_false]
  refine ev_succ ?_
  simp only [laws_FnExactSolutions.j2, Bool.false_eq_true, if_false]
  refine Ev.bind (heldIntS_ev (solsB h (l.map cv)).1.length (by omega)) ?_
  refine ev_neg (by first | omega | (dsimp only; omega)) ?_
  refine ev_pos rfl ?_
  exact Ev.now _

end Go.Proofs.Ytjkkkinfclaikaa.Pure
