/- Lists of texts: their equality, the marks laid into them. -/
import Derived.Test.YtjnmecjbhfinmaaDoorLNum
import Derived.Test.YtjnmecjbhfinmaaDoorFLawsEqStringS
import Derived.Test.YtjnmecjbhfinmaaDoorFLawsMarkStringS
import Derived.Test.YtjnmecjbhfinmaaDoorFLawsHeldStringS
namespace Go.Proofs.YtjnmecjbhfinmaaDoor.P
open Go.RowKit Go.Proofs.YtjnmecjbhfinmaaDoorW.PrintWords Go.Proofs.YtjnmecjbhfinmaaDoorW.PrintLast
set_option linter.unusedVariables false
set_option linter.unusedSimpArgs false

theorem set_midS {α : Type} (a : List α) (b : List α) (i : Nat) (v : α) (ha : a.length = i) (hb : 0 < b.length) : (a ++ b).set i v = (a ++ [v]) ++ b.drop 1 := by
  subst ha
  cases b with
  | nil => simp at hb
  | cons x b => simp
theorem eqS_l (l : List ByteArray) (hn : l.length ≤ 9223372036854775807) : ∀ (d i : Nat), i + d = l.length → ∀ k, d < k → laws_eqStringS.l0 k l l i = some true := by
  intro d
  induction d with
  | zero =>
    intro i hi k hk
    obtain ⟨k, rfl⟩ : ∃ m, k = m + 1 := ⟨k - 1, by omega⟩
    simp only [laws_eqStringS.l0]
    rw [if_neg (by omega)]
  | succ d ih =>
    intro i hi k hk
    obtain ⟨k, rfl⟩ : ∃ m, k = m + 1 := ⟨k - 1, by omega⟩
    simp only [laws_eqStringS.l0]
    rw [if_pos (by omega), if_pos (by omega), if_pos (by omega), if_pos trivial, wrap_succ (n := l.length) (by omega) hn]
    exact ih (i + 1) (by omega) k (by omega)
theorem eqS_self (l : List ByteArray) (hn : l.length ≤ 9223372036854775807) : Ev (fun k => laws_eqStringS.f k l l) true :=
  ⟨l.length + 1, fun k hk => by
    have := eqS_l l hn l.length 0 (by omega) k (by omega)
    simpa [laws_eqStringS.f] using this⟩
/-- The text of a mark. -/
def mtD : Nat → Int → ByteArray → ByteArray
  | 0, _, acc => acc
  | d + 1, x, acc => if x > 0 then mtD d (x / 10) (strOfNums ([(wrap64 (48 + x % 10)) % 256] : List Int) ++ acc) else (⟨#[109]⟩ : ByteArray) ++ acc
def mt (n : Int) : ByteArray := mtD 20 n (⟨#[]⟩ : ByteArray)
theorem strOf1 (a : Int) : (strOfNums [a]).size = 1 := by simp [strOfNums]; rfl
theorem mt_l : ∀ (d : Nat) (x : Int) (acc : ByteArray), 0 ≤ x → x < 10 ^ d → x ≤ 1000000000000000 → acc.size + d ≤ 1000 → Ev (fun k => laws_markText.l0 k x acc) (mtD (d + 1) x acc) := by
  intro d
  induction d with
  | zero =>
    intro x acc h0 h1 h2 h3
    refine ev_succ ?_
    have : x = 0 := by simp at h1; omega
    subst this
    simp only [laws_markText.l0, mtD]
    refine ev_neg (by omega) (ev_pos (by omega) ?_)
    rw [if_neg (by omega)]
    exact Ev.now _
  | succ d ih =>
    intro x acc h0 h1 h2 h3
    refine ev_succ ?_
    rw [mtD]
    simp only [laws_markText.l0]
    by_cases hp : x > 0
    · refine ev_pos hp ?_
      simp only [Option.bind_some]
      rw [if_pos hp]
      rw [Int.tdiv_eq_ediv_of_nonneg h0, Int.tmod_eq_emod_of_nonneg h0, wsm (n := x / 10) (by omega) (by omega)]
      refine ev_pos (by rw [strOf1]; omega) ?_
      refine ih (x / 10) _ (by omega) ?_ (by omega) (by rw [ByteArray.size_append, strOf1]; omega)
      rw [Int.pow_succ] at h1
      omega
    · rw [if_neg hp]
      exact ev_neg hp (ev_pos (by omega) (Ev.now _))
theorem mt_ev (n : Int) (h1 : 1 ≤ n) (h2 : n ≤ 1000000000000000) : Ev (fun k => laws_markText.f k n) (mt n) := by
  unfold laws_markText.f mt
  exact ev_neg (by omega) (mt_l 19 n _ (by omega) (by omega) h2 (by decide))
def marksS (c : Int) (n : Nat) : List ByteArray := (List.range n).map fun (i : Nat) => mt (c + i)
theorem marksS_length (c : Int) (n : Nat) : (marksS c n).length = n := by simp [marksS]
theorem marksS_succ (c : Int) (n : Nat) : marksS c (n + 1) = marksS c n ++ [mt (c + n)] := by simp [marksS, List.range_succ]
theorem markS_l (l : List ByteArray) (c : Int) (hc : 1 ≤ c) (hc2 : c ≤ 100000000) (hn : l.length ≤ 100000000) : ∀ (d i : Nat), i + d = l.length → Ev (fun k => laws_markStringS.l0 k (marksS c i ++ l.drop i) (c + i) i) (c + l.length, marksS c l.length) := by
  intro d
  induction d with
  | zero =>
    intro i hi
    refine ev_succ ?_
    simp only [laws_markStringS.l0]
    refine ev_neg (by simp [marksS_length]; omega) ?_
    rw [show i = l.length by omega, List.drop_eq_nil_of_le (by omega), List.append_nil]
    exact Ev.now _
  | succ d ih =>
    intro i hi
    refine ev_succ ?_
    simp only [laws_markStringS.l0]
    refine ev_pos (by simp [marksS_length]; omega) ?_
    refine Ev.bind (mt_ev (c + i) (by omega) (by omega)) ?_
    refine ev_pos (by omega) ?_
    rw [Int.toNat_natCast, set_midS _ _ i _ (marksS_length c i) (by simp; omega), ← marksS_succ, List.drop_drop, wsm (n := c + (i : Int) + 1) (by omega) (by omega), wrap_succ (n := l.length) (by omega) (by omega)]
    have := ih (i + 1) (by omega)
    rw [show (c + ((i + 1 : Nat) : Int)) = c + (i : Int) + 1 by omega] at this
    exact this
theorem markS_ev (l : List ByteArray) (c : Int) (hc : 1 ≤ c) (hc2 : c ≤ 100000000) (hn : l.length ≤ 100000000) : Ev (fun k => laws_markStringS.f k l c) (c + l.length, marksS c l.length) := by
  have := markS_l l c hc hc2 hn l.length 0 (by omega)
  simpa [laws_markStringS.f, marksS] using this
theorem heldS_l (c : Int) (hc : 1 ≤ c) (hc2 : c ≤ 100000000) (n : Nat) (hn : n ≤ 100000000) : ∀ (d i : Nat), i + d = n → Ev (fun k => laws_heldStringS.l0 k (marksS c n) (c + i) i) (c + n) := by
  intro d
  induction d with
  | zero =>
    intro i hi
    refine ev_succ ?_
    simp only [laws_heldStringS.l0]
    refine ev_neg (by rw [marksS_length]; omega) ?_
    rw [show i = n by omega]
    exact Ev.now _
  | succ d ih =>
    intro i hi
    have hlt : i < (marksS c n).length := by rw [marksS_length]; omega
    refine ev_succ ?_
    simp only [laws_heldStringS.l0]
    refine ev_pos (by rw [marksS_length]; omega) (ev_pos (by omega) ?_)
    refine Ev.bind (mt_ev (c + i) (by omega) (by omega)) ?_
    refine ev_pos (by rw [rdS _ i hlt]; simp [marksS]) ?_
    rw [wsm (n := c + (i : Int) + 1) (by omega) (by omega), wrap_succ (n := n) (by omega) (by omega)]
    have := ih (i + 1) (by omega)
    rw [show (c + ((i + 1 : Nat) : Int)) = c + (i : Int) + 1 by omega] at this
    exact this
theorem heldS_ev (c : Int) (hc : 1 ≤ c) (hc2 : c ≤ 100000000) (n : Nat) (hn : n ≤ 100000000) : Ev (fun k => laws_heldStringS.f k (marksS c n) c) (c + n) := by
  have := heldS_l c hc hc2 n hn n 0 (by omega)
  simpa [laws_heldStringS.f] using this

end Go.Proofs.YtjnmecjbhfinmaaDoor.P
