/- The pure law of FullHours. -/
import Derived.Test.YtjnmecjbhfinmaaStFnExactFullHours
import Derived.Test.YtjnmecjbhfinmaaLText
import Derived.Test.YtjnmecjbhfinmaaFImplFullHours
import Derived.Test.YtjnmecjbhfinmaaFSpecFullHours
namespace Go.Proofs.Ytjnmecjbhfinmaa.Pure
open Go.RowKit Go.Proofs.Ytjnmecjbhfinmaa.P Go.Proofs.YtjnmecjbhfinmaaW.PrintWords Go.Proofs.YtjnmecjbhfinmaaW.PrintLast
set_option linter.unusedVariables false
set_option linter.unusedSimpArgs false

def fulls (l : List ByteArray) (n : Nat) : List ByteArray := (List.range n).map fun (i : Nat) => notesOf l (4 * i + 3)
theorem fulls_length (l : List ByteArray) (n : Nat) : (fulls l n).length = n := by simp [fulls]
theorem fulls_succ (l : List ByteArray) (n : Nat) : fulls l (n + 1) = fulls l n ++ [notesOf l (4 * n + 3)] := by simp [fulls, List.range_succ]
def fullB (l : List ByteArray) : List ByteArray × Bool := if tuneOk l = true then (fulls l (hoursOf l).toNat, true) else ([], false)
theorem full_len (l : List ByteArray) : (fullB l).1.length ≤ 12 := by
  unfold fullB
  split
  · next ht =>
    obtain ⟨h1, h2, _⟩ := tuneOk_facts ht
    have := hours_bounds h1 h2
    rw [fulls_length]; omega
  · simp
theorem impl_full_l (l : List ByteArray) (ht : tuneOk l = true) (n : Nat) (hn : n ≤ 12) : ∀ (d i : Nat), i + d = n → Ev (fun k => impl_FullHours.l0 k l (fulls l i) n i) (fulls l n, true) := by
  intro d
  induction d with
  | zero =>
    intro i hi
    refine ev_succ ?_
    simp only [impl_FullHours.l0]
    refine ev_neg (by omega) ?_
    rw [show i = n by omega]
    exact Ev.now _
  | succ d ih =>
    intro i hi
    refine ev_succ ?_
    simp only [impl_FullHours.l0]
    refine ev_pos (by omega) ?_
    rw [wsm (n := 4 * (i : Int)) (by omega) (by omega), wsm (n := 4 * (i : Int) + 3) (by omega) (by omega)]
    refine Ev.bind (notes_ev l ht (by omega) (by omega)) ?_
    refine ev_pos (by rw [fulls_length]; omega) ?_
    rw [wrap_succ (n := 12) (by omega) (by omega), ← fulls_succ]
    exact ih (i + 1) (by omega)
theorem spec_full_l (l : List ByteArray) (ht : tuneOk l = true) (n : Nat) (hn : n ≤ 12) (hh : hoursOf l = n) : ∀ (d i : Nat), i + d = n → Ev (fun k => spec_FullHours.l0 k l (fulls l i) i) (fulls l n, true) := by
  obtain ⟨h1, h2, _⟩ := tuneOk_facts ht
  intro d
  induction d with
  | zero =>
    intro i hi
    refine ev_succ ?_
    simp only [spec_FullHours.l0]
    refine Ev.bind (beHours_ev l h1 h2) ?_
    refine ev_neg (by omega) ?_
    rw [show i = n by omega]
    exact Ev.now _
  | succ d ih =>
    intro i hi
    refine ev_succ ?_
    simp only [spec_FullHours.l0]
    refine Ev.bind (beHours_ev l h1 h2) ?_
    refine ev_pos (by omega) ?_
    rw [wsm (n := 4 * (i : Int)) (by omega) (by omega), wsm (n := 4 * (i : Int) + 3) (by omega) (by omega)]
    refine Ev.bind (beNotes_ev l ht (by omega) (by omega)) ?_
    refine ev_pos (by rw [fulls_length]; omega) ?_
    rw [wrap_succ (n := 12) (by omega) (by omega), ← fulls_succ]
    exact ih (i + 1) (by omega)
theorem impl_full_ev (l : List ByteArray) (hs : ∀ s ∈ l, s.size ≤ 9223372036854775807) : Ev (fun k => impl_FullHours.f k l) (fullB l) := by
  unfold impl_FullHours.f fullB
  refine Ev.bind (isTune_ev l hs) ?_
  by_cases ht : tuneOk l = true
  · simp only [ht, if_true]
    obtain ⟨h1, h2, _⟩ := tuneOk_facts ht
    have hb := hours_bounds h1 h2
    refine Ev.bind (hours_ev l h1 h2) ?_
    have := impl_full_l l ht (hoursOf l).toNat (by omega) (hoursOf l).toNat 0 (by omega)
    rw [Int.toNat_of_nonneg (by omega)] at this
    exact this
  · simp only [Bool.not_eq_true] at ht
    simp only [ht, Bool.false_eq_true, if_false]
    exact Ev.now _
theorem spec_full_ev (l : List ByteArray) (hs : ∀ s ∈ l, s.size ≤ 9223372036854775807) : Ev (fun k => spec_FullHours.f k l) (fullB l) := by
  unfold spec_FullHours.f fullB
  refine Ev.bind (beTune_ev l hs) ?_
  by_cases ht : tuneOk l = true
  · simp only [ht, if_true]
    obtain ⟨h1, h2, _⟩ := tuneOk_facts ht
    have hb := hours_bounds h1 h2
    exact spec_full_l l ht (hoursOf l).toNat (by omega) (by omega) (hoursOf l).toNat 0 (by omega)
  · simp only [Bool.not_eq_true] at ht
    simp only [ht, Bool.false_eq_true, if_false]
    exact Ev.now _
theorem FnExactFullHours : FnExactFullHours.Pure := by
  intro l hy
  refine Ev.rounds ?_
  simp only [laws_FnExactFullHours.f]
  refine szS_law hy (by omega) (by omega) (fun r h0 h1 hn hs0 => ?_)
  have hs : ∀ s ∈ l, s.size ≤ 9223372036854775807 := fun s h => by have := hs0 s h; omega
  have hr := full_len l
  refine Ev.bind (toS_ev l hn) ?_
  refine Ev.bind (spec_full_ev l hs) ?_
  refine Ev.bind (toS_ev l hn) ?_
  refine Ev.bind (impl_full_ev l hs) ?_
  refine Ev.bind (eqS_self (fullB l).1 (by omega)) ?_
  simp only [if_true, bne_self_eq_false]
  refine ev_succ ?_
  simp only [laws_FnExactFullHours.j0, Bool.false_eq_true, if_false]
  refine Ev.bind (toS_ev l hn) ?_
  refine Ev.bind (eqS_self l (by omega)) ?_
  simp only [if_true]
  refine Ev.bind (markS_ev l 1 (by omega) (by omega) (by omega)) ?_
  refine ev_neg (by first | omega | (dsimp only; omega)) ?_
  refine Ev.bind (eqS_self (fullB l).1 (by omega)) ?_
  simp only [if_true, bne_self_eq_false]
  refine ev_succ ?_
  simp only [laws_FnExactFullHours.j1, Bool.false_eq_true, if_false]
  refine Ev.bind (markS_ev (fullB l).1 1 (by omega) (by omega) (by omega)) ?_
  refine Ev.bind (heldS_ev 1 (by omega) (by omega) (fullB l).1.length (by omega)) ?_
  refine ev_neg (by first | omega | (dsimp only; omega)) ?_
  refine ev_pos rfl ?_
  refine Ev.bind (toS_ev l hn) ?_
  refine Ev.bind (impl_full_ev l hs) ?_
  refine Ev.bind (eqS_self (fullB l).1 (by omega)) ?_
  simp only [if_true, bne_self_eq_false]
  refine ev_succ ?_
  simp only [laws_FnExactFullHours.j2, Bool.false_eq_true, if_false]
  refine Ev.bind (heldS_ev 1 (by omega) (by omega) (fullB l).1.length (by omega)) ?_
  refine ev_neg (by first | omega | (dsimp only; omega)) ?_
  refine ev_pos rfl ?_
  exact Ev.now _

end Go.Proofs.Ytjnmecjbhfinmaa.Pure
