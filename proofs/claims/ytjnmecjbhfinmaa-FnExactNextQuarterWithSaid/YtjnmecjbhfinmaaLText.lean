/- Lists of texts: their size, their copy, their equality, the marks laid into them. -/
import Derived.Test.YtjnmecjbhfinmaaLNum
import Derived.Test.YtjnmecjbhfinmaaLTune
import Derived.Test.YtjnmecjbhfinmaaFLawsSzStringS
import Derived.Test.YtjnmecjbhfinmaaFLawsToStringS
import Derived.Test.YtjnmecjbhfinmaaFLawsEqStringS
import Derived.Test.YtjnmecjbhfinmaaFLawsMarkStringS
import Derived.Test.YtjnmecjbhfinmaaFLawsHeldStringS
namespace Go.Proofs.Ytjnmecjbhfinmaa.P
open Go.RowKit Go.Proofs.YtjnmecjbhfinmaaW.PrintWords Go.Proofs.YtjnmecjbhfinmaaW.PrintLast
set_option linter.unusedVariables false
set_option linter.unusedSimpArgs false

theorem szS_l (l : List ByteArray) (hs : ∀ s ∈ l, s.size ≤ 140737488351232) (hn : l.length ≤ 8796093022208) : ∀ (d i : Nat) (a : Int), i + d = l.length → 0 ≤ a → a ≤ 1048576 →
    ∃ r : Int, Ev (fun k => laws_szStringS.l0 k l a i) r ∧ r ≤ a ∧ (0 ≤ r → ∀ s ∈ l.drop i, (s.size : Int) ≤ a) := by
  intro d
  induction d with
  | zero =>
    intro i a hi h1 h2
    refine ⟨a, ev_succ ?_, Int.le_refl _, fun _ s h => ?_⟩
    · simp only [laws_szStringS.l0]
      exact ev_neg (by omega) (Ev.now _)
    · rw [List.drop_eq_nil_of_le (by omega)] at h
      cases h
  | succ d ih =>
    intro i a hi h1 h2
    have hlt : i < l.length := by omega
    have hz := hs _ (List.getElem_mem hlt)
    by_cases hc : a - (l[i].size : Int) < 0
    · refine ⟨-1, ev_succ ?_, by omega, fun h => by omega⟩
      simp only [laws_szStringS.l0]
      refine ev_pos (by omega) (ev_pos (by omega) ?_)
      rw [rdS l i hlt, wsm (n := a - (l[i].size : Int)) (by omega) (by omega)]
      exact ev_pos hc (Ev.now _)
    · obtain ⟨r, hr, hl, hm⟩ := ih (i + 1) (a - (l[i].size : Int)) (by omega) (by omega) (by omega)
      refine ⟨r, ev_succ ?_, by omega, fun h s hx => ?_⟩
      · simp only [laws_szStringS.l0]
        refine ev_pos (by omega) (ev_pos (by omega) ?_)
        rw [rdS l i hlt, wsm (n := a - (l[i].size : Int)) (by omega) (by omega), wrap_succ (n := 8796093022209) (by omega) (by omega)]
        exact ev_neg hc hr
      · rw [List.drop_eq_getElem_cons hlt] at hx
        rcases List.mem_cons.1 hx with rfl | hx
        · omega
        · have := hm h s hx; omega
theorem szS_ev (l : List ByteArray) (hs : ∀ s ∈ l, s.size ≤ 140737488351232) (hn : l.length ≤ 8796093022208) (a : Int) (h2 : a ≤ 1048576) (h0 : 0 ≤ a) :
    ∃ r : Int, Ev (fun k => laws_szStringS.f k l a) r ∧ r ≤ a ∧ (0 ≤ r → (l.length : Int) ≤ a ∧ ∀ s ∈ l, (s.size : Int) ≤ a) := by
  unfold laws_szStringS.f
  rw [wsm (n := a - (l.length : Int)) (by omega) (by omega)]
  by_cases hc : a - (l.length : Int) < 0
  · exact ⟨-1, ev_pos hc (Ev.now _), by omega, fun h => by omega⟩
  · obtain ⟨r, hr, hl, hm⟩ := szS_l l hs hn l.length 0 (a - (l.length : Int)) (by omega) (by omega) (by omega)
    refine ⟨r, ev_neg hc ?_, by omega, fun h => ⟨by omega, fun s hx => ?_⟩⟩
    · simpa using hr
    · have := hm h s (by simpa using hx); omega
/-- A law that stops at texts that are too large. -/
theorem szS_law {F : Nat → Int → Option Bool} {l : List ByteArray} {a : Int} (hy : l.length ≤ maxLen ∧ l.length * 16 ≤ 140737488351232 ∧ ∀ y ∈ l, y.size ≤ 140737488351232) (h0 : 0 ≤ a) (h2 : a ≤ 1048576)
    (h : ∀ r : Int, 0 ≤ r → r ≤ a → l.length ≤ 1048576 → (∀ s ∈ l, s.size ≤ 1048576) → Ev (fun k => F k r) true) : Ev (fun k => (laws_szStringS.f k l a).bind fun t => if t < 0 then some true else F k t) true := by
  obtain ⟨_, h16, hs⟩ := hy
  obtain ⟨r, hr, hl, hm⟩ := szS_ev l hs (by omega) a h2 h0
  refine Ev.bind hr ?_
  by_cases hc : r < 0
  · exact ev_pos hc (Ev.now _)
  · refine ev_neg hc (h r (by omega) hl ?_ ?_)
    · have := hm (by omega); omega
    · intro s hx; have := (hm (by omega)).2 s hx; omega
theorem set_midS {α : Type} (a : List α) (b : List α) (i : Nat) (v : α) (ha : a.length = i) (hb : 0 < b.length) : (a ++ b).set i v = (a ++ [v]) ++ b.drop 1 := by
  subst ha
  cases b with
  | nil => simp at hb
  | cons x b => simp
theorem toS_l (l : List ByteArray) (hn : l.length ≤ 9223372036854775806) (R : List ByteArray) (hR : R.length = l.length) : ∀ (d i : Nat), i + d = l.length → ∀ k, d < k → laws_toStringS.l0 k l (l.take i ++ R.drop i) i = some l := by
  intro d
  induction d with
  | zero =>
    intro i hi k hk
    obtain ⟨k, rfl⟩ : ∃ m, k = m + 1 := ⟨k - 1, by omega⟩
    simp only [laws_toStringS.l0]
    rw [if_neg (by omega), List.take_of_length_le (by omega), List.drop_eq_nil_of_le (by omega), List.append_nil]
  | succ d ih =>
    intro i hi k hk
    obtain ⟨k, rfl⟩ : ∃ m, k = m + 1 := ⟨k - 1, by omega⟩
    have hlt : i < l.length := by omega
    simp only [laws_toStringS.l0]
    rw [if_pos (by omega), if_pos (by omega), if_pos (by simp; omega), rdS l i hlt, Int.toNat_natCast, set_midS _ _ i _ (by simp; omega) (by simp; omega), ← List.take_succ_eq_append_getElem hlt, List.drop_drop, wrap_succ (n := l.length) (by omega) (by omega)]
    exact ih (i + 1) (by omega) k (by omega)
theorem toS_ev (l : List ByteArray) (hn : l.length ≤ 1048576) : Ev (fun k => laws_toStringS.f k l) l := by
  refine ⟨l.length + 1, fun k hk => ?_⟩
  unfold laws_toStringS.f
  simp only [Int.toNat_natCast]
  rw [if_pos (by omega), if_pos (by omega)]
  have := toS_l l (by omega) (List.replicate l.length (⟨#[]⟩ : ByteArray)) (by simp) l.length 0 (by omega) k (by omega)
  simpa using this
theorem eqS_l (l : List ByteArray) (hn : l.length ≤ 9223372036854775807) : ∀ (d i : Nat), i + d = l.length → ∀ k, d < k → laws_eqStringS.l0 k l l i = some true := by
  intro d
  induction d with
  | zero =>
    intro i hi k hk
    obtain ⟨k, rfl⟩ : ∃ m, k = m + 1 := ⟨k - 1, by omega⟩
    simp only [laws_eqStringS.l0]
    rw [if_neg (by omega)]
  | succ d ih =>
    intro i hi k hk
    obtain ⟨k, rfl⟩ : ∃ m, k = m + 1 := ⟨k - 1, by omega⟩
    simp only [laws_eqStringS.l0]
    rw [if_pos (by omega), if_pos (by omega), if_pos (by omega), if_pos trivial, wrap_succ (n := l.length) (by omega) hn]
    exact ih (i + 1) (by omega) k (by omega)
theorem eqS_self (l : List ByteArray) (hn : l.length ≤ 9223372036854775807) : Ev (fun k => laws_eqStringS.f k l l) true :=
  ⟨l.length + 1, fun k hk => by
    have := eqS_l l hn l.length 0 (by omega) k (by omega)
    simpa [laws_eqStringS.f] using this⟩
/-- The text of a mark. -/
def mtD : Nat → Int → ByteArray → ByteArray
  | 0, _, acc => acc
  | d + 1, x, acc => if x > 0 then mtD d (x / 10) (strOfNums ([(wrap64 (48 + x % 10)) % 256] : List Int) ++ acc) else (⟨#[109]⟩ : ByteArray) ++ acc
def mt (n : Int) : ByteArray := mtD 20 n (⟨#[]⟩ : ByteArray)
theorem strOf1 (a : Int) : (strOfNums [a]).size = 1 := by simp [strOfNums]; rfl
theorem mt_l : ∀ (d : Nat) (x : Int) (acc : ByteArray), 0 ≤ x → x < 10 ^ d → x ≤ 1000000000000000 → acc.size + d ≤ 1000 → Ev (fun k => laws_markText.l0 k x acc) (mtD (d + 1) x acc) := by
  intro d
  induction d with
  | zero =>
    intro x acc h0 h1 h2 h3
    refine ev_succ ?_
    have : x = 0 := by simp at h1; omega
    subst this
    simp only [laws_markText.l0, mtD]
    refine ev_neg (by omega) (ev_pos (by omega) ?_)
    rw [if_neg (by omega)]
    exact Ev.now _
  | succ d ih =>
    intro x acc h0 h1 h2 h3
    refine ev_succ ?_
    rw [mtD]
    simp only [laws_markText.l0]
    by_cases hp : x > 0
    · refine ev_pos hp ?_
      simp only [Option.bind_some]
      rw [if_pos hp]
      rw [Int.tdiv_eq_ediv_of_nonneg h0, Int.tmod_eq_emod_of_nonneg h0, wsm (n := x / 10) (by omega) (by omega)]
      refine ev_pos (by rw [strOf1]; omega) ?_
      refine ih (x / 10) _ (by omega) ?_ (by omega) (by rw [ByteArray.size_append, strOf1]; omega)
      rw [Int.pow_succ] at h1
      omega
    · rw [if_neg hp]
      exact ev_neg hp (ev_pos (by omega) (Ev.now _))
theorem mt_ev (n : Int) (h1 : 1 ≤ n) (h2 : n ≤ 1000000000000000) : Ev (fun k => laws_markText.f k n) (mt n) := by
  unfold laws_markText.f mt
  exact ev_neg (by omega) (mt_l 19 n _ (by omega) (by omega) h2 (by decide))
def marksS (c : Int) (n : Nat) : List ByteArray := (List.range n).map fun (i : Nat) => mt (c + i)
theorem marksS_length (c : Int) (n : Nat) : (marksS c n).length = n := by simp [marksS]
theorem marksS_succ (c : Int) (n : Nat) : marksS c (n + 1) = marksS c n ++ [mt (c + n)] := by simp [marksS, List.range_succ]
theorem markS_l (l : List ByteArray) (c : Int) (hc : 1 ≤ c) (hc2 : c ≤ 100000000) (hn : l.length ≤ 100000000) : ∀ (d i : Nat), i + d = l.length → Ev (fun k => laws_markStringS.l0 k (marksS c i ++ l.drop i) (c + i) i) (c + l.length, marksS c l.length) := by
  intro d
  induction d with
  | zero =>
    intro i hi
    refine ev_succ ?_
    simp only [laws_markStringS.l0]
    refine ev_neg (by simp [marksS_length]; omega) ?_
    rw [show i = l.length by omega, List.drop_eq_nil_of_le (by omega), List.append_nil]
    exact Ev.now _
  | succ d ih =>
    intro i hi
    refine ev_succ ?_
    simp only [laws_markStringS.l0]
    refine ev_pos (by simp [marksS_length]; omega) ?_
    refine Ev.bind (mt_ev (c + i) (by omega) (by omega)) ?_
    refine ev_pos (by omega) ?_
    rw [Int.toNat_natCast, set_midS _ _ i _ (marksS_length c i) (by simp; omega), ← marksS_succ, List.drop_drop, wsm (n := c + (i : Int) + 1) (by omega) (by omega), wrap_succ (n := l.length) (by omega) (by omega)]
    have := ih (i + 1) (by omega)
    rw [show (c + ((i + 1 : Nat) : Int)) = c + (i : Int) + 1 by omega] at this
    exact this
theorem markS_ev (l : List ByteArray) (c : Int) (hc : 1 ≤ c) (hc2 : c ≤ 100000000) (hn : l.length ≤ 100000000) : Ev (fun k => laws_markStringS.f k l c) (c + l.length, marksS c l.length) := by
  have := markS_l l c hc hc2 hn l.length 0 (by omega)
  simpa [laws_markStringS.f, marksS] using this
theorem heldS_l (c : Int) (hc : 1 ≤ c) (hc2 : c ≤ 100000000) (n : Nat) (hn : n ≤ 100000000) : ∀ (d i : Nat), i + d = n → Ev (fun k => laws_heldStringS.l0 k (marksS c n) (c + i) i) (c + n) := by
  intro d
  induction d with
  | zero =>
    intro i hi
    refine ev_succ ?_
    simp only [laws_heldStringS.l0]
    refine ev_neg (by rw [marksS_length]; omega) ?_
    rw [show i = n by omega]
    exact Ev.now _
  | succ d ih =>
    intro i hi
    have hlt : i < (marksS c n).length := by rw [marksS_length]; omega
    refine ev_succ ?_
    simp only [laws_heldStringS.l0]
    refine ev_pos (by rw [marksS_length]; omega) (ev_pos (by omega) ?_)
    refine Ev.bind (mt_ev (c + i) (by omega) (by omega)) ?_
    refine ev_pos (by rw [rdS _ i hlt]; simp [marksS]) ?_
    rw [wsm (n := c + (i : Int) + 1) (by omega) (by omega), wrap_succ (n := n) (by omega) (by omega)]
    have := ih (i + 1) (by omega)
    rw [show (c + ((i + 1 : Nat) : Int)) = c + (i : Int) + 1 by omega] at this
    exact this
theorem heldS_ev (c : Int) (hc : 1 ≤ c) (hc2 : c ≤ 100000000) (n : Nat) (hn : n ≤ 100000000) : Ev (fun k => laws_heldStringS.f k (marksS c n) c) (c + n) := by
  have := heldS_l c hc hc2 n hn n 0 (by omega)
  simpa [laws_heldStringS.f] using this

end Go.Proofs.Ytjnmecjbhfinmaa.P
