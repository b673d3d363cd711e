/- The bells of a tune. -/
import Derived.Test.YtjnmecjbhfinmaaLBell
import Derived.Test.YtjnmecjbhfinmaaFSpecBellsOf
import Derived.Test.YtjnmecjbhfinmaaFImplBellsOf
namespace Go.Proofs.Ytjnmecjbhfinmaa.P
open Go.RowKit Go.Proofs.YtjnmecjbhfinmaaW.PrintWords Go.Proofs.YtjnmecjbhfinmaaW.PrintLast
set_option linter.unusedVariables false
set_option linter.unusedSimpArgs false

def flat (l : List ByteArray) : List UInt8 := (l.map (·.data.toList)).flatten
theorem join_flat : ∀ l : List (List UInt8), Lib.join l [] = l.flatten
  | [] => rfl
  | x :: l => by rw [Lib.join_cons]; simp [Lib.joinTail]
theorem flat_length : ∀ l : List ByteArray, (∀ s ∈ l, s.size ≤ 8) → (flat l).length ≤ 8 * l.length
  | [], _ => by simp [flat]
  | x :: l, h => by
    have ih := flat_length l (fun s hs => h s (List.mem_cons_of_mem _ hs))
    have hx := h x List.mem_cons_self
    have hl : x.data.toList.length = x.size := Array.length_toList
    unfold flat at ih ⊢
    rw [List.map_cons, List.flatten_cons, List.length_append, List.length_cons]
    omega
theorem join_eq (l : List ByteArray) (ht : tuneOk l = true) : strings_Join.f l (⟨#[]⟩ : ByteArray) = some (⟨(flat l).toArray⟩ : ByteArray) := by
  obtain ⟨h1, h2, hs⟩ := tuneOk_facts ht
  have hl := flat_length l (fun s h => (hs s h).2)
  unfold strings_Join.f
  have e : Lib.join (l.map (·.data.toList)) (⟨#[]⟩ : ByteArray).data.toList = flat l := join_flat _
  rw [e, if_pos ⟨by omega, by omega⟩]
def hasBell (l : List ByteArray) (b : Int) : Bool := l.any fun s => decide (0 < bellN s b)
theorem hasBell_cons (x : ByteArray) (l : List ByteArray) (b : Int) : hasBell (x :: l) b = (decide (0 < bellN x b) || hasBell l b) := rfl
theorem hasBell_flat (l : List ByteArray) (b : Int) : decide (0 < bellN (⟨(flat l).toArray⟩ : ByteArray) b) = hasBell l b := by
  unfold hasBell bellN flat
  rw [Bool.eq_iff_iff]
  simp only [decide_eq_true_eq, List.any_eq_true, List.count_pos_iff, List.mem_flatten, List.mem_map]
  constructor
  · rintro ⟨x, ⟨s, hs, rfl⟩, hb⟩
    exact ⟨s, hs, hb⟩
  · rintro ⟨s, hs, hb⟩
    exact ⟨_, ⟨s, hs, rfl⟩, hb⟩
def bellsL (l : List ByteArray) (n : Nat) : List Int := ((List.range n).filter fun (b : Nat) => hasBell l ((b : Int) + 1)).map fun (b : Nat) => (b : Int) + 1
theorem bellsL_le (l : List ByteArray) (n : Nat) : (bellsL l n).length ≤ n := by
  unfold bellsL
  rw [List.length_map]
  exact Nat.le_trans (List.length_filter_le _ _) (by simp)
theorem bellsL_succ (l : List ByteArray) (n : Nat) : bellsL l (n + 1) = if hasBell l ((n : Int) + 1) = true then bellsL l n ++ [(n : Int) + 1] else bellsL l n := by
  unfold bellsL
  rw [List.range_succ, List.filter_append, List.map_append]
  by_cases e : hasBell l ((n : Int) + 1) = true
  · rw [if_pos e]; simp [e]
  · rw [if_neg e]; simp [e]
theorem impl_bells_l (l : List ByteArray) (ht : tuneOk l = true) : ∀ (d i : Nat), i + d = 8 → Ev (fun k => impl_bells.l0 k l (bellsL l i) ((i : Int) + 1)) (bellsL l 8) := by
  intro d
  induction d with
  | zero =>
    intro i hi
    refine ev_succ ?_
    simp only [impl_bells.l0]
    refine ev_neg (by omega) ?_
    rw [show i = 8 by omega]
    exact Ev.now _
  | succ d ih =>
    intro i hi
    have hle := bellsL_le l i
    refine ev_succ ?_
    simp only [impl_bells.l0]
    refine ev_pos (by omega) ?_
    rw [join_eq l ht]
    simp only [Option.bind_some]
    rw [show impl_bellText.f ((i : Int) + 1) = some (strOfNums [48 + ((i : Int) + 1)]) from if_pos (by omega)]
    simp only [Option.bind_some, contains_bell, hasBell_flat]
    rw [wsm (n := (i : Int) + 1 + 1) (by omega) (by omega)]
    have := ih (i + 1) (by omega)
    rw [bellsL_succ] at this
    by_cases e : hasBell l ((i : Int) + 1) = true
    · rw [if_pos e] at this
      exact ev_pos e (ev_pos (by omega) this)
    · rw [if_neg e] at this
      exact ev_neg e this
theorem impl_bells_ev (l : List ByteArray) (ht : tuneOk l = true) : Ev (fun k => impl_bells.f k l) (bellsL l 8) := impl_bells_l l ht 8 0 (by omega)
theorem spec_bells_in (l : List ByteArray) (hs : ∀ s ∈ l, s.size ≤ 8) (hn : l.length ≤ 12) (acc : List Int) (ha : acc.length ≤ 8) (b : Int) (h1 : 1 ≤ b) (h2 : b ≤ 8) (r : List Int × Bool) : ∀ (d i : Nat), i + d = l.length →
    Ev (fun k => spec_BellsOf.l0 k l (if hasBell (l.drop i) b = true then acc ++ [b] else acc) (wrap64 (b + 1))) r → Ev (fun k => spec_BellsOf.l1 k l acc b l l.length i) r := by
  intro d
  induction d with
  | zero =>
    intro i hi h
    refine ev_succ ?_
    simp only [spec_BellsOf.l1]
    refine ev_neg (by omega) ?_
    rw [List.drop_eq_nil_of_le (by omega)] at h
    exact h
  | succ d ih =>
    intro i hi h
    have hlt : i < l.length := by omega
    refine ev_succ ?_
    simp only [spec_BellsOf.l1]
    refine ev_pos (by omega) (ev_pos (by omega) (ev_pos (by omega) ?_))
    rw [rdS l i hlt, wrap_succ (n := 12) (by omega) (by omega)]
    refine Ev.bind (beBell_ev l[i] h1 h2 (by have := hs _ (List.getElem_mem hlt); omega)) ?_
    rw [List.drop_eq_getElem_cons hlt, hasBell_cons] at h
    by_cases e : 0 < bellN l[i] b
    · refine ev_pos (by omega) (ev_pos (by omega) ?_)
      rw [decide_eq_true e] at h
      simpa using h
    · refine ev_neg (by omega) (ih (i + 1) (by omega) ?_)
      rw [decide_eq_false e, Bool.false_or] at h
      exact h
theorem spec_bells_l (l : List ByteArray) (ht : tuneOk l = true) : ∀ (d i : Nat), i + d = 8 → Ev (fun k => spec_BellsOf.l0 k l (bellsL l i) ((i : Int) + 1)) (bellsL l 8, true) := by
  obtain ⟨h1, h2, hs⟩ := tuneOk_facts ht
  intro d
  induction d with
  | zero =>
    intro i hi
    refine ev_succ ?_
    simp only [spec_BellsOf.l0]
    refine ev_neg (by omega) ?_
    rw [show i = 8 by omega]
    exact Ev.now _
  | succ d ih =>
    intro i hi
    have hle := bellsL_le l i
    refine ev_succ ?_
    simp only [spec_BellsOf.l0]
    refine ev_pos (by omega) ?_
    refine spec_bells_in l (fun s h => (hs s h).2) h2 _ (by omega) _ (by omega) (by omega) _ l.length 0 (by omega) ?_
    rw [wsm (n := (i : Int) + 1 + 1) (by omega) (by omega), List.drop_zero, ← bellsL_succ]
    exact ih (i + 1) (by omega)
theorem spec_bells_ev (l : List ByteArray) (ht : tuneOk l = true) : Ev (fun k => spec_BellsOf.l0 k l [] 1) (bellsL l 8, true) := spec_bells_l l ht 8 0 (by omega)

end Go.Proofs.Ytjnmecjbhfinmaa.P
