/- Where a list of heard notes fits: told by the program and by the reference alike. -/
import Derived.Test.YtjnmecjbhfinmaaLTune
import Derived.Test.YtjnmecjbhfinmaaFImplQuartersOf
import Derived.Test.YtjnmecjbhfinmaaFSpecBeQuarters
namespace Go.Proofs.Ytjnmecjbhfinmaa.P
open Go.RowKit Go.Proofs.YtjnmecjbhfinmaaW.PrintWords Go.Proofs.YtjnmecjbhfinmaaW.PrintLast
set_option linter.unusedVariables false
set_option linter.unusedSimpArgs false

def matchFrom (l : List ByteArray) (q : Int) : Nat → List ByteArray → Bool
  | _, [] => true
  | i, x :: xs => ((notesOf l (q + i)).toList == x.toList) && matchFrom l q (i + 1) xs
def quartersL (l p : List ByteArray) (n : Nat) : List Int := ((List.range n).filter fun (q : Nat) => matchFrom l q 0 p).map fun (q : Nat) => (q : Int)
theorem quartersL_le (l p : List ByteArray) (n : Nat) : (quartersL l p n).length ≤ n := by
  unfold quartersL
  rw [List.length_map]
  exact Nat.le_trans (List.length_filter_le _ _) (by simp)
theorem quartersL_succ (l p : List ByteArray) (n : Nat) : quartersL l p (n + 1) = if matchFrom l n 0 p = true then quartersL l p n ++ [(n : Int)] else quartersL l p n := by
  unfold quartersL
  rw [List.range_succ, List.filter_append, List.map_append]
  by_cases e : matchFrom l n 0 p = true
  · rw [if_pos e]; simp [e]
  · rw [if_neg e]; simp [e]
theorem impl_match (l : List ByteArray) (ht : tuneOk l = true) (p : List ByteArray) (hp : p.length ≤ 1000) (acc : List Int) (ha : acc.length ≤ 1000) (q : Nat) (hq : q ≤ 1000) (N : Int) (r : List Int) : ∀ (d i : Nat) (b : Bool), i + d = p.length →
    Ev (fun k => impl_quartersOf.l0 k l p (if (b && matchFrom l q i (p.drop i)) = true then acc ++ [(q : Int)] else acc) N (wrap64 ((q : Int) + 1))) r →
    Ev (fun k => impl_quartersOf.l1 k l p acc q b N q p p.length i) r := by
  intro d
  induction d with
  | zero =>
    intro i b hi h
    refine ev_succ ?_
    simp only [impl_quartersOf.l1]
    refine ev_neg (by omega) ?_
    rw [List.drop_eq_nil_of_le (by omega)] at h
    simp only [matchFrom, Bool.and_true] at h
    cases b
    · simp only [Bool.false_eq_true, if_false] at h ⊢
      exact h
    · simp only [if_true] at h ⊢
      exact ev_pos (by omega) h
  | succ d ih =>
    intro i b hi h
    have hlt : i < p.length := by omega
    refine ev_succ ?_
    simp only [impl_quartersOf.l1]
    refine ev_pos (by omega) (ev_pos (by omega) (ev_pos (by omega) ?_))
    rw [rdS p i hlt, wsm (n := (q : Int) + i) (by omega) (by omega), wrap_succ (n := p.length) (by omega) (by omega)]
    rw [List.drop_eq_getElem_cons hlt] at h
    simp only [matchFrom] at h
    cases b
    · simp only [Bool.false_eq_true, if_false]
      exact ih (i + 1) false (by omega) (by simpa using h)
    · simp only [if_true]
      refine Ev.bind (notes_ev l ht (by omega) (by omega)) ?_
      exact ih (i + 1) _ (by omega) (by simpa using h)
theorem impl_quarters_l (l : List ByteArray) (ht : tuneOk l = true) (p : List ByteArray) (hp : p.length ≤ 1000) (n : Nat) (hn : n ≤ 1000) : ∀ (d i : Nat), i + d = n → Ev (fun k => impl_quartersOf.l0 k l p (quartersL l p i) n i) (quartersL l p n) := by
  intro d
  induction d with
  | zero =>
    intro i hi
    refine ev_succ ?_
    simp only [impl_quartersOf.l0]
    refine ev_neg (by omega) ?_
    rw [show i = n by omega]
    exact Ev.now _
  | succ d ih =>
    intro i hi
    refine ev_succ ?_
    simp only [impl_quartersOf.l0]
    refine ev_pos (by omega) ?_
    have hle := quartersL_le l p i
    refine impl_match l ht p hp _ (by omega) i (by omega) n _ p.length 0 true (by omega) ?_
    simp only [Bool.true_and, List.drop_zero]
    rw [← quartersL_succ, wrap_succ (n := 1000) (by omega) (by omega)]
    exact ih (i + 1) (by omega)
theorem impl_quarters_ev (l : List ByteArray) (ht : tuneOk l = true) (p : List ByteArray) (hp : p.length ≤ 1000) : Ev (fun k => impl_quartersOf.f k l p) (quartersL l p (4 * hoursOf l).toNat) := by
  obtain ⟨h1, h2, _⟩ := tuneOk_facts ht
  have hb := hours_bounds h1 h2
  unfold impl_quartersOf.f
  refine Ev.bind (hours_ev l h1 h2) ?_
  rw [wsm (n := 4 * hoursOf l) (by omega) (by omega)]
  have := impl_quarters_l l ht p hp (4 * hoursOf l).toNat (by omega) (4 * hoursOf l).toNat 0 (by omega)
  rw [Int.toNat_of_nonneg (by omega)] at this
  exact this
theorem spec_match (l : List ByteArray) (ht : tuneOk l = true) (p : List ByteArray) (hp : p.length ≤ 1000) (acc : List Int) (ha : acc.length ≤ 1000) (q : Nat) (hq : q ≤ 1000) (r : List Int) : ∀ (d i : Nat) (b : Bool), i + d = p.length →
    Ev (fun k => spec_beQuarters.l0 k l p (if (b && matchFrom l q i (p.drop i)) = true then acc ++ [(q : Int)] else acc) (wrap64 ((q : Int) + 1))) r →
    Ev (fun k => spec_beQuarters.l1 k l p acc q b p p.length i) r := by
  intro d
  induction d with
  | zero =>
    intro i b hi h
    refine ev_succ ?_
    simp only [spec_beQuarters.l1]
    refine ev_neg (by omega) ?_
    rw [List.drop_eq_nil_of_le (by omega)] at h
    simp only [matchFrom, Bool.and_true] at h
    cases b
    · simp only [Bool.false_eq_true, if_false] at h ⊢
      exact h
    · simp only [if_true] at h ⊢
      exact ev_pos (by omega) h
  | succ d ih =>
    intro i b hi h
    have hlt : i < p.length := by omega
    refine ev_succ ?_
    simp only [spec_beQuarters.l1]
    refine ev_pos (by omega) (ev_pos (by omega) (ev_pos (by omega) ?_))
    rw [rdS p i hlt, wsm (n := (q : Int) + i) (by omega) (by omega), wrap_succ (n := p.length) (by omega) (by omega)]
    rw [List.drop_eq_getElem_cons hlt] at h
    simp only [matchFrom] at h
    cases b
    · simp only [Bool.false_eq_true, if_false]
      exact ih (i + 1) false (by omega) (by simpa using h)
    · simp only [if_true]
      refine Ev.bind (beNotes_ev l ht (by omega) (by omega)) ?_
      exact ih (i + 1) _ (by omega) (by simpa using h)
theorem spec_quarters_l (l : List ByteArray) (ht : tuneOk l = true) (p : List ByteArray) (hp : p.length ≤ 1000) (n : Nat) (hn : n ≤ 1000) (hh : 4 * hoursOf l = n) : ∀ (d i : Nat), i + d = n → Ev (fun k => spec_beQuarters.l0 k l p (quartersL l p i) i) (quartersL l p n) := by
  obtain ⟨h1, h2, _⟩ := tuneOk_facts ht
  intro d
  induction d with
  | zero =>
    intro i hi
    refine ev_succ ?_
    simp only [spec_beQuarters.l0]
    refine Ev.bind (beHours_ev l h1 h2) ?_
    rw [wsm (n := 4 * hoursOf l) (by omega) (by omega)]
    refine ev_neg (by omega) ?_
    rw [show i = n by omega]
    exact Ev.now _
  | succ d ih =>
    intro i hi
    refine ev_succ ?_
    simp only [spec_beQuarters.l0]
    refine Ev.bind (beHours_ev l h1 h2) ?_
    rw [wsm (n := 4 * hoursOf l) (by omega) (by omega)]
    refine ev_pos (by omega) ?_
    have hle := quartersL_le l p i
    refine spec_match l ht p hp _ (by omega) i (by omega) _ p.length 0 true (by omega) ?_
    simp only [Bool.true_and, List.drop_zero]
    rw [← quartersL_succ, wrap_succ (n := 1000) (by omega) (by omega)]
    exact ih (i + 1) (by omega)
theorem spec_quarters_ev (l : List ByteArray) (ht : tuneOk l = true) (p : List ByteArray) (hp : p.length ≤ 1000) : Ev (fun k => spec_beQuarters.f k l p) (quartersL l p (4 * hoursOf l).toNat) := by
  obtain ⟨h1, h2, _⟩ := tuneOk_facts ht
  have hb := hours_bounds h1 h2
  unfold spec_beQuarters.f
  exact spec_quarters_l l ht p hp (4 * hoursOf l).toNat (by omega) (by omega) (4 * hoursOf l).toNat 0 (by omega)

end Go.Proofs.Ytjnmecjbhfinmaa.P
