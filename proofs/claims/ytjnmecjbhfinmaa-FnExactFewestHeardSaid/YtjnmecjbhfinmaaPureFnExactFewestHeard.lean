/- The pure law of FewestHeard. -/
import Derived.Test.YtjnmecjbhfinmaaStFnExactFewestHeard
import Derived.Test.YtjnmecjbhfinmaaLText
import Derived.Test.YtjnmecjbhfinmaaLHeard
import Derived.Test.YtjnmecjbhfinmaaFImplFewestHeard
import Derived.Test.YtjnmecjbhfinmaaFSpecFewestHeard
namespace Go.Proofs.Ytjnmecjbhfinmaa.Pure
open Go.RowKit Go.Proofs.Ytjnmecjbhfinmaa.P Go.Proofs.YtjnmecjbhfinmaaW.PrintWords Go.Proofs.YtjnmecjbhfinmaaW.PrintLast
set_option linter.unusedVariables false
set_option linter.unusedSimpArgs false

def heardL (l : List ByteArray) (q n : Nat) : List ByteArray := (List.range n).map fun (j : Nat) => notesOf l ((q : Int) + j)
theorem heardL_length (l : List ByteArray) (q n : Nat) : (heardL l q n).length = n := by simp [heardL]
theorem heardL_succ (l : List ByteArray) (q n : Nat) : heardL l q (n + 1) = heardL l q n ++ [notesOf l ((q : Int) + n)] := by simp [heardL, List.range_succ]
def oneAt (l : List ByteArray) (q n : Nat) : Bool := ((quartersL l (heardL l q n) (4 * hoursOf l).toNat).length : Int) == 1
def okQ (l : List ByteArray) (n : Nat) : Nat → Nat → Bool
  | 0, _ => true
  | d + 1, q => oneAt l q n && okQ l n d (q + 1)
def fewFrom (l : List ByteArray) : Nat → Nat → Int × Bool
  | 0, _ => (0, false)
  | d + 1, n => if okQ l n (4 * hoursOf l).toNat 0 = true then ((n : Int), true) else fewFrom l d (n + 1)
def fewB (l : List ByteArray) : Int × Bool := if tuneOk l = true then fewFrom l 8 1 else (0, false)
theorem impl_heard (l : List ByteArray) (ht : tuneOk l = true) (n : Nat) (hn : n ≤ 8) (b : Bool) (q : Nat) (hq : q ≤ 1000) (N : Int) (r : Int × Bool)
    (h : Ev (fun k => impl_FewestHeard.l1 k l n (b && oneAt l q n) N (wrap64 ((q : Int) + 1))) r) : ∀ (d i : Nat), i + d = n →
    Ev (fun k => impl_FewestHeard.l2 k l n b q (heardL l q i) N q n i) r := by
  intro d
  induction d with
  | zero =>
    intro i hi
    refine ev_succ ?_
    simp only [impl_FewestHeard.l2]
    refine ev_neg (by omega) ?_
    rw [show i = n by omega]
    cases b
    · simp only [Bool.false_eq_true, if_false]
      exact h
    · simp only [if_true]
      exact Ev.bind (impl_quarters_ev l ht _ (by rw [heardL_length]; omega)) h
  | succ d ih =>
    intro i hi
    refine ev_succ ?_
    simp only [impl_FewestHeard.l2]
    refine ev_pos (by omega) ?_
    rw [wsm (n := (q : Int) + i) (by omega) (by omega)]
    refine Ev.bind (notes_ev l ht (by omega) (by omega)) ?_
    refine ev_pos (by rw [heardL_length]; omega) ?_
    rw [← heardL_succ, wrap_succ (n := 8) (by omega) (by omega)]
    exact ih (i + 1) (by omega)
theorem impl_few_q (l : List ByteArray) (ht : tuneOk l = true) (n : Nat) (hn : n ≤ 8) (N : Nat) (hN : N ≤ 1000) (r : Int × Bool) : ∀ (d q : Nat) (b : Bool), q + d = N →
    Ev (fun k => if (b && okQ l n d q) = true then some ((n : Int), true) else impl_FewestHeard.l0 k l (wrap64 ((n : Int) + 1))) r →
    Ev (fun k => impl_FewestHeard.l1 k l n b N q) r := by
  intro d
  induction d with
  | zero =>
    intro q b hi h
    refine ev_succ ?_
    simp only [impl_FewestHeard.l1]
    refine ev_neg (by omega) ?_
    simpa only [okQ, Bool.and_true] using h
  | succ d ih =>
    intro q b hi h
    refine ev_succ ?_
    simp only [impl_FewestHeard.l1]
    refine ev_pos (by omega) ?_
    refine impl_heard l ht n hn b q (by omega) N r ?_ n 0 (by omega)
    rw [wrap_succ (n := N) (by omega) (by omega)]
    refine ih (q + 1) _ (by omega) ?_
    rw [show ((b && oneAt l q n) && okQ l n d (q + 1)) = (b && okQ l n (d + 1) q) by simp [okQ, Bool.and_assoc]]
    exact h
theorem impl_few_l (l : List ByteArray) (ht : tuneOk l = true) : ∀ (d n : Nat), n + d = 9 → Ev (fun k => impl_FewestHeard.l0 k l n) (fewFrom l d n) := by
  obtain ⟨h1, h2, _⟩ := tuneOk_facts ht
  have hb := hours_bounds h1 h2
  intro d
  induction d with
  | zero =>
    intro n hn
    refine ev_succ ?_
    simp only [impl_FewestHeard.l0, fewFrom]
    exact ev_neg (by omega) (Ev.now _)
  | succ d ih =>
    intro n hn
    refine ev_succ ?_
    simp only [impl_FewestHeard.l0, fewFrom]
    refine ev_pos (by omega) ?_
    refine Ev.bind (hours_ev l h1 h2) ?_
    rw [wsm (n := 4 * hoursOf l) (by omega) (by omega)]
    have := impl_few_q l ht n (by omega) (4 * hoursOf l).toNat (by omega) (if okQ l n (4 * hoursOf l).toNat 0 = true then ((n : Int), true) else fewFrom l d (n + 1)) (4 * hoursOf l).toNat 0 true (by omega) ?_
    · rw [Int.toNat_of_nonneg (by omega)] at this
      exact this
    · simp only [Bool.true_and]
      by_cases hk : okQ l n (4 * hoursOf l).toNat 0 = true
      · rw [if_pos hk]; exact ev_pos hk (Ev.now _)
      · rw [if_neg hk]
        refine ev_neg hk ?_
        rw [wrap_succ (n := 9) (by omega) (by omega)]
        exact ih (n + 1) (by omega)
theorem impl_few_ev (l : List ByteArray) (hs : ∀ s ∈ l, s.size ≤ 9223372036854775807) : Ev (fun k => impl_FewestHeard.f k l) (fewB l) := by
  unfold impl_FewestHeard.f fewB
  refine Ev.bind (isTune_ev l hs) ?_
  by_cases ht : tuneOk l = true
  · simp only [ht, if_true]
    exact impl_few_l l ht 8 1 (by omega)
  · simp only [Bool.not_eq_true] at ht
    simp only [ht, Bool.false_eq_true, if_false]
    exact Ev.now _
theorem spec_heard (l : List ByteArray) (ht : tuneOk l = true) (n : Nat) (hn : n ≤ 8) (b : Bool) (q : Nat) (hq : q ≤ 1000) (r : Int × Bool)
    (h : Ev (fun k => spec_FewestHeard.l1 k l n (b && oneAt l q n) (wrap64 ((q : Int) + 1))) r) : ∀ (d i : Nat), i + d = n →
    Ev (fun k => spec_FewestHeard.l2 k l n b q (heardL l q i) i) r := by
  intro d
  induction d with
  | zero =>
    intro i hi
    refine ev_succ ?_
    simp only [spec_FewestHeard.l2]
    refine ev_neg (by omega) ?_
    rw [show i = n by omega]
    cases b
    · simp only [Bool.false_eq_true, if_false]
      exact h
    · simp only [if_true]
      exact Ev.bind (spec_quarters_ev l ht _ (by rw [heardL_length]; omega)) h
  | succ d ih =>
    intro i hi
    refine ev_succ ?_
    simp only [spec_FewestHeard.l2]
    refine ev_pos (by omega) ?_
    rw [wsm (n := (q : Int) + i) (by omega) (by omega)]
    refine Ev.bind (beNotes_ev l ht (by omega) (by omega)) ?_
    refine ev_pos (by rw [heardL_length]; omega) ?_
    rw [← heardL_succ, wrap_succ (n := 8) (by omega) (by omega)]
    exact ih (i + 1) (by omega)
theorem spec_few_q (l : List ByteArray) (ht : tuneOk l = true) (n : Nat) (hn : n ≤ 8) (N : Nat) (hN : N ≤ 1000) (hh : 4 * hoursOf l = N) (r : Int × Bool) : ∀ (d q : Nat) (b : Bool), q + d = N →
    Ev (fun k => if (b && okQ l n d q) = true then some ((n : Int), true) else spec_FewestHeard.l0 k l (wrap64 ((n : Int) + 1))) r →
    Ev (fun k => spec_FewestHeard.l1 k l n b q) r := by
  obtain ⟨h1, h2, _⟩ := tuneOk_facts ht
  intro d
  induction d with
  | zero =>
    intro q b hi h
    refine ev_succ ?_
    simp only [spec_FewestHeard.l1]
    refine Ev.bind (beHours_ev l h1 h2) ?_
    rw [wsm (n := 4 * hoursOf l) (by omega) (by omega)]
    refine ev_neg (by omega) ?_
    simpa only [okQ, Bool.and_true] using h
  | succ d ih =>
    intro q b hi h
    refine ev_succ ?_
    simp only [spec_FewestHeard.l1]
    refine Ev.bind (beHours_ev l h1 h2) ?_
    rw [wsm (n := 4 * hoursOf l) (by omega) (by omega)]
    refine ev_pos (by omega) ?_
    refine spec_heard l ht n hn b q (by omega) r ?_ n 0 (by omega)
    rw [wrap_succ (n := N) (by omega) (by omega)]
    refine ih (q + 1) _ (by omega) ?_
    rw [show ((b && oneAt l q n) && okQ l n d (q + 1)) = (b && okQ l n (d + 1) q) by simp [okQ, Bool.and_assoc]]
    exact h
theorem spec_few_l (l : List ByteArray) (ht : tuneOk l = true) : ∀ (d n : Nat), n + d = 9 → Ev (fun k => spec_FewestHeard.l0 k l n) (fewFrom l d n) := by
  obtain ⟨h1, h2, _⟩ := tuneOk_facts ht
  have hb := hours_bounds h1 h2
  intro d
  induction d with
  | zero =>
    intro n hn
    refine ev_succ ?_
    simp only [spec_FewestHeard.l0, fewFrom]
    exact ev_neg (by omega) (Ev.now _)
  | succ d ih =>
    intro n hn
    refine ev_succ ?_
    simp only [spec_FewestHeard.l0, fewFrom]
    refine ev_pos (by omega) ?_
    refine spec_few_q l ht n (by omega) (4 * hoursOf l).toNat (by omega) (by omega) _ (4 * hoursOf l).toNat 0 true (by omega) ?_
    simp only [Bool.true_and]
    by_cases hk : okQ l n (4 * hoursOf l).toNat 0 = true
    · rw [if_pos hk]; exact ev_pos hk (Ev.now _)
    · rw [if_neg hk]
      refine ev_neg hk ?_
      rw [wrap_succ (n := 9) (by omega) (by omega)]
      exact ih (n + 1) (by omega)
theorem spec_few_ev (l : List ByteArray) (hs : ∀ s ∈ l, s.size ≤ 9223372036854775807) : Ev (fun k => spec_FewestHeard.f k l) (fewB l) := by
  unfold spec_FewestHeard.f fewB
  refine Ev.bind (beTune_ev l hs) ?_
  by_cases ht : tuneOk l = true
  · simp only [ht, if_true]
    exact spec_few_l l ht 8 1 (by omega)
  · simp only [Bool.not_eq_true] at ht
    simp only [ht, Bool.false_eq_true, if_false]
    exact Ev.now _
theorem FnExactFewestHeard : FnExactFewestHeard.Pure := by
  intro l hy
  refine Ev.rounds ?_
  simp only [laws_FnExactFewestHeard.f]
  refine szS_law hy (by omega) (by omega) (fun r h0 h1 hn hs0 => ?_)
  have hs : ∀ s ∈ l, s.size ≤ 9223372036854775807 := fun s h => by have := hs0 s h; omega
  refine Ev.bind (toS_ev l hn) ?_
  refine Ev.bind (spec_few_ev l hs) ?_
  refine Ev.bind (toS_ev l hn) ?_
  refine Ev.bind (impl_few_ev l hs) ?_
  refine ev_pos rfl ?_
  simp only [bne_self_eq_false]
  refine ev_succ ?_
  simp only [laws_FnExactFewestHeard.j0, Bool.false_eq_true, if_false]
  refine Ev.bind (toS_ev l hn) ?_
  refine Ev.bind (eqS_self l (by omega)) ?_
  simp only [if_true]
  exact Ev.now _

end Go.Proofs.Ytjnmecjbhfinmaa.Pure
