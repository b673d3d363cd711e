/- The pure law of QuartersOfHeard. -/
import Derived.Test.YtjnmecjbhfinmaaStFnExactQuartersOfHeard
import Derived.Test.YtjnmecjbhfinmaaLMarkI
import Derived.Test.YtjnmecjbhfinmaaLHeard
import Derived.Test.YtjnmecjbhfinmaaFImplQuartersOfHeard
import Derived.Test.YtjnmecjbhfinmaaFSpecQuartersOfHeard
namespace Go.Proofs.Ytjnmecjbhfinmaa.Pure
open Go.RowKit Go.Proofs.Ytjnmecjbhfinmaa.P Go.Proofs.YtjnmecjbhfinmaaW.PrintWords Go.Proofs.YtjnmecjbhfinmaaW.PrintLast
set_option linter.unusedVariables false
set_option linter.unusedSimpArgs false

def qhB (l p : List ByteArray) : List Int × Bool := if tuneOk l = true then (if wi p.length 1 8 = true then (quartersL l p (4 * hoursOf l).toNat, true) else ([], false)) else ([], false)
theorem qh_len (l p : List ByteArray) : (qhB l p).1.length ≤ 48 := by
  unfold qhB
  split
  · next ht =>
    obtain ⟨h1, h2, _⟩ := tuneOk_facts ht
    have := hours_bounds h1 h2
    split
    · have := quartersL_le l p (4 * hoursOf l).toNat
      dsimp only; omega
    · simp
  · simp
theorem impl_qh_ev (l p : List ByteArray) (hs : ∀ s ∈ l, s.size ≤ 9223372036854775807) : Ev (fun k => impl_QuartersOfHeard.f k l p) (qhB l p) := by
  unfold impl_QuartersOfHeard.f qhB
  refine Ev.bind (isTune_ev l hs) ?_
  by_cases ht : tuneOk l = true
  · simp only [ht, if_true, within_eq, Option.bind_some]
    by_cases hw : wi p.length 1 8 = true
    · simp only [hw, if_true]
      have := wi_true.1 hw
      exact Ev.bind (impl_quarters_ev l ht p (by omega)) (Ev.now _)
    · simp only [Bool.not_eq_true] at hw
      simp only [hw, Bool.false_eq_true, if_false]
      exact Ev.now _
  · simp only [Bool.not_eq_true] at ht
    simp only [ht, Bool.false_eq_true, if_false]
    exact Ev.now _
theorem spec_qh_ev (l p : List ByteArray) (hs : ∀ s ∈ l, s.size ≤ 9223372036854775807) : Ev (fun k => spec_QuartersOfHeard.f k l p) (qhB l p) := by
  unfold spec_QuartersOfHeard.f qhB
  refine Ev.bind (beTune_ev l hs) ?_
  by_cases ht : tuneOk l = true
  · simp only [ht, if_true, l1In_eq, Option.bind_some]
    by_cases hw : wi p.length 1 8 = true
    · simp only [hw, if_true]
      have := wi_true.1 hw
      exact Ev.bind (spec_quarters_ev l ht p (by omega)) (Ev.now _)
    · simp only [Bool.not_eq_true] at hw
      simp only [hw, Bool.false_eq_true, if_false]
      exact Ev.now _
  · simp only [Bool.not_eq_true] at ht
    simp only [ht, Bool.false_eq_true, if_false]
    exact Ev.now _
theorem FnExactQuartersOfHeard : FnExactQuartersOfHeard.Pure := by
  intro l p hy hz
  refine Ev.rounds ?_
  simp only [laws_FnExactQuartersOfHeard.f]
  refine szS_law hy (by omega) (by omega) (fun r h0 h1 hn hs0 => ?_)
  refine szS_law hz h0 h1 (fun r2 h02 h12 hnp hsp => ?_)
  have hs : ∀ s ∈ l, s.size ≤ 9223372036854775807 := fun s h => by have := hs0 s h; omega
  have hr := qh_len l p
  refine Ev.bind (toS_ev l hn) ?_
  refine Ev.bind (toS_ev p hnp) ?_
  refine Ev.bind (spec_qh_ev l p hs) ?_
  refine Ev.bind (toS_ev l hn) ?_
  refine Ev.bind (toS_ev p hnp) ?_
  refine Ev.bind (impl_qh_ev l p hs) ?_
  refine Ev.bind (eqIntS_self (qhB l p).1 (by omega)) ?_
  simp only [if_true, bne_self_eq_false]
  refine ev_succ ?_
  simp only [laws_FnExactQuartersOfHeard.j0, Bool.false_eq_true, if_false]
  refine Ev.bind (toS_ev l hn) ?_
  refine Ev.bind (eqS_self l (by omega)) ?_
  simp only [if_true]
  refine Ev.bind (toS_ev p hnp) ?_
  refine Ev.bind (eqS_self p (by omega)) ?_
  simp only [if_true]
  refine Ev.bind (markS_ev l 1 (by omega) (by omega) (by omega)) ?_
  refine Ev.bind (markS_ev p (1 + l.length) (by omega) (by omega) (by omega)) ?_
  refine ev_neg (by first | omega | (dsimp only; omega)) ?_
  refine Ev.bind (eqIntS_self (qhB l p).1 (by omega)) ?_
  simp only [if_true, bne_self_eq_false]
  refine ev_succ ?_
  simp only [laws_FnExactQuartersOfHeard.j1, Bool.false_eq_true, if_false]
  refine Ev.bind (markIntS_ev (qhB l p).1 (by omega)) ?_
  refine Ev.bind (heldIntS_ev (qhB l p).1.length (by omega)) ?_
  refine ev_neg (by first | omega | (dsimp only; omega)) ?_
  refine ev_pos rfl ?_
  refine Ev.bind (toS_ev l hn) ?_
  refine Ev.bind (toS_ev p hnp) ?_
  refine Ev.bind (impl_qh_ev l p hs) ?_
  refine Ev.bind (eqIntS_self (qhB l p).1 (by omega)) ?_
  simp only [if_true, bne_self_eq_false]
  refine ev_succ ?_
  simp only [laws_FnExactQuartersOfHeard.j2, Bool.false_eq_true, if_false]
  refine Ev.bind (heldIntS_ev (qhB l p).1.length (by omega)) ?_
  refine ev_neg (by first | omega | (dsimp only; omega)) ?_
  refine ev_pos rfl ?_
  exact Ev.now _

end Go.Proofs.Ytjnmecjbhfinmaa.Pure
