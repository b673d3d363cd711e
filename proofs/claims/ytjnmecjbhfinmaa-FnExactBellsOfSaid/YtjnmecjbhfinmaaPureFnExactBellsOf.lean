/- The pure law of BellsOf. -/
import Derived.Test.YtjnmecjbhfinmaaStFnExactBellsOf
import Derived.Test.YtjnmecjbhfinmaaLMarkI
import Derived.Test.YtjnmecjbhfinmaaLBells
namespace Go.Proofs.Ytjnmecjbhfinmaa.Pure
open Go.RowKit Go.Proofs.Ytjnmecjbhfinmaa.P Go.Proofs.YtjnmecjbhfinmaaW.PrintWords Go.Proofs.YtjnmecjbhfinmaaW.PrintLast
set_option linter.unusedVariables false
set_option linter.unusedSimpArgs false

def bellB (l : List ByteArray) : List Int × Bool := if tuneOk l = true then (bellsL l 8, true) else ([], false)
theorem bell_len (l : List ByteArray) : (bellB l).1.length ≤ 12 := by
  unfold bellB
  split
  · have := bellsL_le l 8
    dsimp only; omega
  · simp
theorem impl_bell_ev (l : List ByteArray) (hs : ∀ s ∈ l, s.size ≤ 9223372036854775807) : Ev (fun k => impl_BellsOf.f k l) (bellB l) := by
  unfold impl_BellsOf.f bellB
  refine Ev.bind (isTune_ev l hs) ?_
  by_cases ht : tuneOk l = true
  · simp only [ht, if_true]
    exact Ev.bind (impl_bells_ev l ht) (Ev.now _)
  · simp only [Bool.not_eq_true] at ht
    simp only [ht, Bool.false_eq_true, if_false]
    exact Ev.now _
theorem spec_bell_ev (l : List ByteArray) (hs : ∀ s ∈ l, s.size ≤ 9223372036854775807) : Ev (fun k => spec_BellsOf.f k l) (bellB l) := by
  unfold spec_BellsOf.f bellB
  refine Ev.bind (beTune_ev l hs) ?_
  by_cases ht : tuneOk l = true
  · simp only [ht, if_true]
    exact spec_bells_ev l ht
  · simp only [Bool.not_eq_true] at ht
    simp only [ht, Bool.false_eq_true, if_false]
    exact Ev.now _
theorem FnExactBellsOf : FnExactBellsOf.Pure := by
  intro l hy
  refine Ev.rounds ?_
  simp only [laws_FnExactBellsOf.f]
  refine szS_law hy (by omega) (by omega) (fun r h0 h1 hn hs0 => ?_)
  have hs : ∀ s ∈ l, s.size ≤ 9223372036854775807 := fun s h => by have := hs0 s h; omega
  have hr := bell_len l
  refine Ev.bind (toS_ev l hn) ?_
  refine Ev.bind (spec_bell_ev l hs) ?_
  refine Ev.bind (toS_ev l hn) ?_
  refine Ev.bind (impl_bell_ev l hs) ?_
  refine Ev.bind (eqIntS_self (bellB l).1 (by omega)) ?_
  simp only [if_true, bne_self_eq_false]
  refine ev_succ ?_
  simp only [laws_FnExactBellsOf.j0, Bool.false_eq_true, if_false]
  refine Ev.bind (toS_ev l hn) ?_
  refine Ev.bind (eqS_self l (by omega)) ?_
  simp only [if_true]
  refine Ev.bind (markS_ev l 1 (by omega) (by omega) (by omega)) ?_
  refine ev_neg (by first | omega | (dsimp only; omega)) ?_
  refine Ev.bind (eqIntS_self (bellB l).1 (by omega)) ?_
  simp only [if_true, bne_self_eq_false]
  refine ev_succ ?_
  simp only [laws_FnExactBellsOf.j1, Bool.false_eq_true, if_false]
  refine Ev.bind (markIntS_ev (bellB l).1 (by omega)) ?_
  refine Ev.bind (heldIntS_ev (bellB l).1.length (by omega)) ?_
  refine ev_neg (by first | omega | (dsimp only; omega)) ?_
  refine ev_pos rfl ?_
  refine Ev.bind (toS_ev l hn) ?_
  refine Ev.bind (impl_bell_ev l hs) ?_
  refine Ev.bind (eqIntS_self (bellB l).1 (by omega)) ?_
  simp only [if_true, bne_self_eq_false]
  refine ev_succ ?_
  simp only [laws_FnExactBellsOf.j2, Bool.false_eq_true, if_false]
  refine Ev.bind (heldIntS_ev (bellB l).1.length (by omega)) ?_
  refine ev_neg (by first | omega | (dsimp only; omega)) ?_
  refine ev_pos rfl ?_
  exact Ev.now _

end Go.Proofs.Ytjnmecjbhfinmaa.Pure
