/- The pure law of NextQuarterWith. -/
import Derived.Test.YtjnmecjbhfinmaaStFnExactNextQuarterWith
import Derived.Test.YtjnmecjbhfinmaaLText
import Derived.Test.YtjnmecjbhfinmaaLNext
namespace Go.Proofs.Ytjnmecjbhfinmaa.Pure
open Go.RowKit Go.Proofs.Ytjnmecjbhfinmaa.P Go.Proofs.YtjnmecjbhfinmaaW.PrintWords Go.Proofs.YtjnmecjbhfinmaaW.PrintLast
set_option linter.unusedVariables false
set_option linter.unusedSimpArgs false

theorem FnExactNextQuarterWith : FnExactNextQuarterWith.Pure := by
  intro l b q hy hb hq
  refine Ev.rounds ?_
  simp only [laws_FnExactNextQuarterWith.f]
  refine szS_law hy (by omega) (by omega) (fun r h0 h1 hn hs0 => ?_)
  have hs : ∀ s ∈ l, s.size ≤ 9223372036854775807 := fun s h => by have := hs0 s h; omega
  obtain ⟨r, hr1, hr2⟩ := nextQ l hs b q
  refine Ev.bind (toS_ev l hn) ?_
  refine Ev.bind hr2 ?_
  refine Ev.bind (toS_ev l hn) ?_
  refine Ev.bind hr1 ?_
  simp only [if_true, bne_self_eq_false]
  refine ev_succ ?_
  simp only [laws_FnExactNextQuarterWith.j0, Bool.false_eq_true, if_false]
  refine Ev.bind (toS_ev l hn) ?_
  refine Ev.bind (eqS_self l (by omega)) ?_
  simp only [if_true]
  exact Ev.now _

end Go.Proofs.Ytjnmecjbhfinmaa.Pure
