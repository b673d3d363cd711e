/- Part 3 of 4 of the texts behind the law FnExactBellUpTo: what the program's functions compute, and the plain lemmas. -/
import Derived.Test.YtjnmecjbhfinmaaBFnExactBellUpTo2
import Derived.Test.YtjnmecjbhfinmaaBFnExactBellUpTo1
/- Lists of texts: their size, their copy, their equality, the marks laid into them. -/
namespace Go.Proofs.Ytjnmecjbhfinmaa.P
open Go.RowKit Go.Proofs.YtjnmecjbhfinmaaW.PrintWords Go.Proofs.YtjnmecjbhfinmaaW.PrintLast
set_option linter.unusedVariables false
set_option linter.unusedSimpArgs false

theorem szS_l (l : List ByteArray) (hs : ∀ s ∈ l, s.size ≤ 140737488351232) (hn : l.length ≤ 8796093022208) : ∀ (d i : Nat) (a : Int), i + d = l.length → 0 ≤ a → a ≤ 1048576 →
    ∃ r : Int, Ev (fun k => laws_szStringS.l0 k l a i) r ∧ r ≤ a ∧ (0 ≤ r → ∀ s ∈ l.drop i, (s.size : Int) ≤ a) := by
  intro d
  induction d with
  | zero =>
    intro i a hi h1 h2
    refine ⟨a, ev_succ ?_, Int.le_refl _, fun _ s h => ?_⟩
    · simp only [laws_szStringS.l0]
      exact ev_neg (by omega) (Ev.now _)
    · rw [List.drop_eq_nil_of_le (by omega)] at h
      cases h
  | succ d ih =>
    intro i a hi h1 h2
    have hlt : i < l.length := by omega
    have hz := hs _ (List.getElem_mem hlt)
    by_cases hc : a - (l[i].size : Int) < 0
    · refine ⟨-1, ev_succ ?_, by omega, fun h => by omega⟩
      simp only [laws_szStringS.l0]
      refine ev_pos (by omega) (ev_pos (by omega) ?_)
      rw [rdS l i hlt, wsm (n := a - (l[i].size : Int)) (by omega) (by omega)]
      exact ev_pos hc (Ev.now _)
    · obtain ⟨r, hr, hl, hm⟩ := ih (i + 1) (a - (l[i].size : Int)) (by omega) (by omega) (by omega)
      refine ⟨r, ev_succ ?_, by omega, fun h s hx => ?_⟩
      · simp only [laws_szStringS.l0]
        refine ev_pos (by omega) (ev_pos (by omega) ?_)
        rw [rdS l i hlt, wsm (n := a - (l[i].size : Int)) (by omega) (by omega), wrap_succ (n := 8796093022209) (by omega) (by omega)]
        exact ev_neg hc hr
      · rw [List.drop_eq_getElem_cons hlt] at hx
        rcases List.mem_cons.1 hx with rfl | hx
        · omega
        · have := hm h s hx; omega
theorem szS_ev (l : List ByteArray) (hs : ∀ s ∈ l, s.size ≤ 140737488351232) (hn : l.length ≤ 8796093022208) (a : Int) (h2 : a ≤ 1048576) (h0 : 0 ≤ a) :
    ∃ r : Int, Ev (fun k => laws_szStringS.f k l a) r ∧ r ≤ a ∧ (0 ≤ r → (l.length : Int) ≤ a ∧ ∀ s ∈ l, (s.size : Int) ≤ a) := by
  unfold laws_szStringS.f
  rw [wsm (n := a - (l.length : Int)) (by omega) (by omega)]
  by_cases hc : a - (l.length : Int) < 0
  · exact ⟨-1, ev_pos hc (Ev.now _), by omega, fun h => by omega⟩
  · obtain ⟨r, hr, hl, hm⟩ := szS_l l hs hn l.length 0 (a - (l.length : Int)) (by omega) (by omega) (by omega)
    refine ⟨r, ev_neg hc ?_, by omega, fun h => ⟨by omega, fun s hx => ?_⟩⟩
    · simpa using hr
    · have := hm h s (by simpa using hx); omega
/-- A law that stops at texts that are too large. -/
theorem szS_law {F : Nat → Int → Option Bool} {l : List ByteArray} {a : Int} (hy : l.length ≤ maxLen ∧ l.length * 16 ≤ 140737488351232 ∧ ∀ y ∈ l, y.size ≤ 140737488351232) (h0 : 0 ≤ a) (h2 : a ≤ 1048576)
    (h : ∀ r : Int, 0 ≤ r → r ≤ a → l.length ≤ 1048576 → (∀ s ∈ l, s.size ≤ 1048576) → Ev (fun k => F k r) true) : Ev (fun k => (laws_szStringS.f k l a).bind fun t => if t < 0 then some true else F k t) true := by
  obtain ⟨_, h16, hs⟩ := hy
  obtain ⟨r, hr, hl, hm⟩ := szS_ev l hs (by omega) a h2 h0
  refine Ev.bind hr ?_
  by_cases hc : r < 0
  · exact ev_pos hc (Ev.now _)
  · refine ev_neg hc (h r (by omega) hl ?_ ?_)
    · have := hm (by omega); omega
    · intro s hx; have := (hm (by omega)).2 s hx; omega
theorem set_midS {α : Type} (a : List α) (b : List α) (i : Nat) (v : α) (ha : a.length = i) (hb : 0 < b.length) : (a ++ b).set i v = (a ++ [v]) ++ b.drop 1 := by
  subst ha
  cases b with
  | nil => simp at hb
  | cons x b => simp
theorem toS_l (l : List ByteArray) (hn : l.length ≤ 9223372036854775806) (R : List ByteArray) (hR : R.length = l.length) : ∀ (d i : Nat), i + d = l.length → ∀ k, d < k → laws_toStringS.l0 k l (l.take i ++ R.drop i) i = some l := by
  intro d
  induction d with
  | zero =>
    intro i hi k hk
    obtain ⟨k, rfl⟩ : ∃ m, k = m + 1 := ⟨k - 1, by omega⟩
    simp only [laws_toStringS.l0]
    rw [if_neg (by omega), List.take_of_length_le (by omega), List.drop_eq_nil_of_le (by omega), List.append_nil]
  | succ d ih =>
    intro i hi k hk
    obtain ⟨k, rfl⟩ : ∃ m, k = m + 1 := ⟨k - 1, by omega⟩
    have hlt : i < l.length := by omega
    simp only [laws_toStringS.l0]
    rw [if_pos (by omega), if_pos (by omega), if_pos (by simp; omega), rdS l i hlt, Int.toNat_natCast, set_midS _ _ i _ (by simp; omega) (by simp; omega), ← List.take_succ_eq_append_getElem hlt, List.drop_drop, wrap_succ (n := l.length) (by omega) (by omega)]
    exact ih (i + 1) (by omega) k (by omega)
theorem toS_ev (l : List ByteArray) (hn : l.length ≤ 1048576) : Ev (fun k => laws_toStringS.f k l) l := by
  refine ⟨l.length + 1, fun k hk => ?_⟩
  unfold laws_toStringS.f
  simp only [Int.toNat_natCast]
  rw [if_pos (by omega), if_pos (by omega)]
  have := toS_l l (by omega) (List.replicate l.length (⟨#[]⟩ : ByteArray)) (by simp) l.length 0 (by omega) k (by omega)
  simpa using this
theorem eqS_l (l : List ByteArray) (hn : l.length ≤ 9223372036854775807) : ∀ (d i : Nat), i + d = l.length → ∀ k, d < k → laws_eqStringS.l0 k l l i = some true := by
  intro d
  induction d with
  | zero =>
    intro i hi k hk
    obtain ⟨k, rfl⟩ : ∃ m, k = m + 1 := ⟨k - 1, by omega⟩
    simp only [laws_eqStringS.l0]
    rw [if_neg (by omega)]
  | succ d ih =>
    intro i hi k hk
    obtain ⟨k, rfl⟩ : ∃ m, k = m + 1 := ⟨k - 1, by omega⟩
    simp only [laws_eqStringS.l0]
    rw [if_pos (by omega), if_pos (by omega), if_pos (by omega), if_pos trivial, wrap_succ (n := l.length) (by omega) hn]
    exact ih (i + 1) (by omega) k (by omega)
theorem eqS_self (l : List ByteArray) (hn : l.length ≤ 9223372036854775807) : Ev (fun k => laws_eqStringS.f k l l) true :=
  ⟨l.length + 1, fun k hk => by
    have := eqS_l l hn l.length 0 (by omega) k (by omega)
    simpa [laws_eqStringS.f] using this⟩
/-- The text of a mark. -/
def mtD : Nat → Int → ByteArray → ByteArray
  | 0, _, acc => acc
  | d + 1, x, acc => if x > 0 then mtD d (x / 10) (strOfNums ([(wrap64 (48 + x % 10)) % 256] : List Int) ++ acc) else (⟨#[109]⟩ : ByteArray) ++ acc
def mt (n : Int) : ByteArray := mtD 20 n (⟨#[]⟩ : ByteArray)
theorem strOf1 (a : Int) : (strOfNums [a]).size = 1 := by simp [strOfNums]; rfl
theorem mt_l : ∀ (d : Nat) (x : Int) (acc : ByteArray), 0 ≤ x → x < 10 ^ d → x ≤ 1000000000000000 → acc.size + d ≤ 1000 → Ev (fun k => laws_markText.l0 k x acc) (mtD (d + 1) x acc) := by
  intro d
  induction d with
  | zero =>
    intro x acc h0 h1 h2 h3
    refine ev_succ ?_
    have : x = 0 := by simp at h1; omega
    subst this
    simp only [laws_markText.l0, mtD]
    refine ev_neg (by omega) (ev_pos (by omega) ?_)
    rw [if_neg (by omega)]
    exact Ev.now _
  | succ d ih =>
    intro x acc h0 h1 h2 h3
    refine ev_succ ?_
    rw [mtD]
    simp only [laws_markText.l0]
    by_cases hp : x > 0
    · refine ev_pos hp ?_
      simp only [Option.bind_some]
      rw [if_pos hp]
      rw [Int.tdiv_eq_ediv_of_nonneg h0, Int.tmod_eq_emod_of_nonneg h0, wsm (n := x / 10) (by omega) (by omega)]
      refine ev_pos (by rw [strOf1]; omega) ?_
      refine ih (x / 10) _ (by omega) ?_ (by omega) (by rw [ByteArray.size_append, strOf1]; omega)
      rw [Int.pow_succ] at h1
      omega
    · rw [if_neg hp]
      exact ev_neg hp (ev_pos (by omega) (Ev.now _))
theorem mt_ev (n : Int) (h1 : 1 ≤ n) (h2 : n ≤ 1000000000000000) : Ev (fun k => laws_markText.f k n) (mt n) := by
  unfold laws_markText.f mt
  exact ev_neg (by omega) (mt_l 19 n _ (by omega) (by omega) h2 (by decide))
def marksS (c : Int) (n : Nat) : List ByteArray := (List.range n).map fun (i : Nat) => mt (c + i)
theorem marksS_length (c : Int) (n : Nat) : (marksS c n).length = n := by simp [marksS]
theorem marksS_succ (c : Int) (n : Nat) : marksS c (n + 1) = marksS c n ++ [mt (c + n)] := by simp [marksS, List.range_succ]
theorem markS_l (l : List ByteArray) (c : Int) (hc : 1 ≤ c) (hc2 : c ≤ 100000000) (hn : l.length ≤ 100000000) : ∀ (d i : Nat), i + d = l.length → Ev (fun k => laws_markStringS.l0 k (marksS c i ++ l.drop i) (c + i) i) (c + l.length, marksS c l.length) := by
  intro d
  induction d with
  | zero =>
    intro i hi
    refine ev_succ ?_
    simp only [laws_markStringS.l0]
    refine ev_neg (by simp [marksS_length]; omega) ?_
    rw [show i = l.length by omega, List.drop_eq_nil_of_le (by omega), List.append_nil]
    exact Ev.now _
  | succ d ih =>
    intro i hi
    refine ev_succ ?_
    simp only [laws_markStringS.l0]
    refine ev_pos (by simp [marksS_length]; omega) ?_
    refine Ev.bind (mt_ev (c + i) (by omega) (by omega)) ?_
    refine ev_pos (by omega) ?_
    rw [Int.toNat_natCast, set_midS _ _ i _ (marksS_length c i) (by simp; omega), ← marksS_succ, List.drop_drop, wsm (n := c + (i : Int) + 1) (by omega) (by omega), wrap_succ (n := l.length) (by omega) (by omega)]
    have := ih (i + 1) (by omega)
    rw [show (c + ((i + 1 : Nat) : Int)) = c + (i : Int) + 1 by omega] at this
    exact this
theorem markS_ev (l : List ByteArray) (c : Int) (hc : 1 ≤ c) (hc2 : c ≤ 100000000) (hn : l.length ≤ 100000000) : Ev (fun k => laws_markStringS.f k l c) (c + l.length, marksS c l.length) := by
  have := markS_l l c hc hc2 hn l.length 0 (by omega)
  simpa [laws_markStringS.f, marksS] using this
theorem heldS_l (c : Int) (hc : 1 ≤ c) (hc2 : c ≤ 100000000) (n : Nat) (hn : n ≤ 100000000) : ∀ (d i : Nat), i + d = n → Ev (fun k => laws_heldStringS.l0 k (marksS c n) (c + i) i) (c + n) := by
  intro d
  induction d with
  | zero =>
    intro i hi
    refine ev_succ ?_
    simp only [laws_heldStringS.l0]
    refine ev_neg (by rw [marksS_length]; omega) ?_
    rw [show i = n by omega]
    exact Ev.now _
  | succ d ih =>
    intro i hi
    have hlt : i < (marksS c n).length := by rw [marksS_length]; omega
    refine ev_succ ?_
    simp only [laws_heldStringS.l0]
    refine ev_pos (by rw [marksS_length]; omega) (ev_pos (by omega) ?_)
    refine Ev.bind (mt_ev (c + i) (by omega) (by omega)) ?_
    refine ev_pos (by rw [rdS _ i hlt]; simp [marksS]) ?_
    rw [wsm (n := c + (i : Int) + 1) (by omega) (by omega), wrap_succ (n := n) (by omega) (by omega)]
    have := ih (i + 1) (by omega)
    rw [show (c + ((i + 1 : Nat) : Int)) = c + (i : Int) + 1 by omega] at this
    exact this
theorem heldS_ev (c : Int) (hc : 1 ≤ c) (hc2 : c ≤ 100000000) (n : Nat) (hn : n ≤ 100000000) : Ev (fun k => laws_heldStringS.f k (marksS c n) c) (c + n) := by
  have := heldS_l c hc hc2 n hn n 0 (by omega)
  simpa [laws_heldStringS.f] using this

end Go.Proofs.Ytjnmecjbhfinmaa.P

-- written by wip/gen.py (this session's) with the kit's printer; Lean checks it.
namespace Go.Proofs.Ytjnmecjbhfinmaa.P
open Go.RowKit Go.Proofs.YtjnmecjbhfinmaaW.PrintWords Go.Proofs.YtjnmecjbhfinmaaW.PrintLast Go.Proofs.YtjnmecjbhfinmaaW.PrintMore
attribute [local go_sem] max2_int min2_int max_two min_two max_three min_three max_four min_four
set_option linter.unusedVariables false
set_option linter.unusedSimpArgs false

/-! ### strings_Contains: function 72 -/
def strings_Contains.f (a0 : ByteArray) (a1 : ByteArray) : Option (Bool) := match a1.data.toList with
  | [c] => some (decide (0 ≤ Lib.indexByte a0.data.toList c))
  | _ => none
theorem strings_Contains.calls (a0 : ByteArray) (a1 : ByteArray) (r : Bool) (w : World) (h : strings_Contains.f a0 a1 = some r) :
    Calls Try.prog 72 #[.string a0, .string a1] w fun e w' => e = .returned (.bool r) ∧ Drawn0 w w' := by
  obtain ⟨⟨l⟩⟩ := a1
  match l, h with
  | [c], h =>
    cases Option.some.inj h
    refine (Try.strings_Contains_one a0 c w).mono ?_
    rintro e w' ⟨rfl, rfl⟩
    exact ⟨rfl, Drawn0.refl _⟩

end Go.Proofs.Ytjnmecjbhfinmaa.P

-- written by wip/gen.py (this session's) with the kit's printer; Lean checks it.
namespace Go.Proofs.Ytjnmecjbhfinmaa.P
open Go.RowKit Go.Proofs.YtjnmecjbhfinmaaW.PrintWords Go.Proofs.YtjnmecjbhfinmaaW.PrintLast Go.Proofs.YtjnmecjbhfinmaaW.PrintMore
attribute [local go_sem] max2_int min2_int max_two min_two max_three min_three max_four min_four
set_option linter.unusedVariables false
set_option linter.unusedSimpArgs false

/-! ### strings_Join: function 87 -/
def strings_Join.f (l0 : List ByteArray) (a1 : ByteArray) : Option (ByteArray) := if (Lib.join (l0.map (·.data.toList)) a1.data.toList).length ≤ 140737488355328 ∧ l0.length ≤ 140737488355328 then some ⟨(Lib.join (l0.map (·.data.toList)) a1.data.toList).toArray⟩ else none
theorem strings_Join.calls (A0 : Option Addr) (c0 : Nat) (l0 : List ByteArray) (a1 : ByteArray) (r : ByteArray) (w : World) (hr0 : Kd.C Kd.string w A0 l0.length l0) (hc0 : l0.length ≤ c0) (h : strings_Join.f l0 a1 = some r) :
    Calls Try.prog 87 #[.slice A0 l0.length c0, .string a1] w fun e w' => e = .returned (.string r) ∧ Below w.heap.size w w' := by
  unfold strings_Join.f at h
  by_cases c : (Lib.join (l0.map (·.data.toList)) a1.data.toList).length ≤ 140737488355328 ∧ l0.length ≤ 140737488355328
  · rw [if_pos c] at h
    cases Option.some.inj h
    cases l0 with
    | nil =>
      refine (Try.strings_Join_none A0 c0 a1 w).mono ?_
      rintro e w' ⟨rfl, rfl⟩
      exact ⟨rfl, Below.refl _ _⟩
    | cons x l =>
      have hbig := hr0.2.1
      obtain ⟨⟨bk, o, sp⟩, rfl, h0⟩ := Kd.at_string hr0 0 (by omega) (by simp)
      have hsp : sp = none := by
        cases sp with
        | none => rfl
        | some z =>
          exfalso
          simp only [World.cell?, Addr.add, Option.isSome_some, if_true] at h0
          split at h0 <;> simp at h0
      subst hsp
      have hb : bk < w.heap.size := World.block_lt_of_cell? w _ h0
      refine (Try.strings_Join bk o c0 (x :: l) a1 w ?_ hb c.2 hc0 c.1).mono ?_
      · intro j y hj
        have hlt : j < (x :: l).length := by
          rcases Nat.lt_or_ge j (x :: l).length with h | h
          · exact h
          · rw [List.getElem?_eq_none h] at hj; cases hj
        obtain ⟨ad, e, hc⟩ := Kd.at_string hr0 (j : Int) (by omega) (by omega)
        cases Option.some.inj e
        have : rdOf ByteArray.empty (x :: l) (j : Int) = y := by
          show (x :: l).getD (j : Int).toNat _ = _
          rw [Int.toNat_natCast, List.getD_eq_getElem?_getD, hj]; rfl
        rw [this, Int.toNat_natCast] at hc
        cases j <;> simpa [Addr.add] using hc
      · rintro e w' ⟨rfl, hb'⟩
        exact ⟨rfl, hb'⟩
  · rw [if_neg c] at h
    cases h

end Go.Proofs.Ytjnmecjbhfinmaa.P

-- written by wip/gen.py (this session's) with the kit's printer; Lean checks it.
namespace Go.Proofs.Ytjnmecjbhfinmaa.P
open Go.RowKit Go.Proofs.YtjnmecjbhfinmaaW.PrintWords Go.Proofs.YtjnmecjbhfinmaaW.PrintLast Go.Proofs.YtjnmecjbhfinmaaW.PrintMore
attribute [local go_sem] max2_int min2_int max_two min_two max_three min_three max_four min_four
set_option linter.unusedVariables false
set_option linter.unusedSimpArgs false

/-! ### impl_bells: function 70 -/
def impl_bells.l0 : Nat → List ByteArray → List Int → Int → Option (List Int)
  | 0, _, _, _ => none
  | k + 1, x0, x3, x4 => if x4 ≤ 8 then ((strings_Join.f x0 (⟨#[]⟩ : ByteArray)).bind fun t104 => ((impl_bellText.f x4).bind fun t105 => ((strings_Contains.f t104 t105).bind fun t106 => (if t106 = true then (if x3.length < 17592186044416 then (impl_bells.l0 k x0 (x3 ++ [x4]) (wrap64 (x4 + 1))) else (none)) else (impl_bells.l0 k x0 x3 (wrap64 (x4 + 1))))))) else (some x3)
def impl_bells.f (k : Nat) (l0 : List ByteArray) : Option (List Int) := impl_bells.l0 k l0 (([] : List Int)) 1
theorem impl_bells.mono_l : ∀ k, (∀ y0 y1 y2, LeO (impl_bells.l0 k y0 y1 y2) (impl_bells.l0 (k + 1) y0 y1 y2))
  | 0 => fun _ _ _ r h => by simp [impl_bells.l0] at h
  | k + 1 => by
    have ih0 := impl_bells.mono_l k
    · intro y0 y1 y2
      unfold impl_bells.l0
      repeat' first
      | (with_reducible exact ih0 _ _ _)
      | (with_reducible exact LeO.refl _)
      | (with_reducible exact LeO.none _)
      | (with_reducible refine LeO.ite ?_ ?_)
      | (with_reducible refine LeO.bind ?_ (fun _ => ?_))
      | exact ih0 _ _ _
      | exact LeO.none _
      | refine LeO.ite ?_ ?_
      | refine LeO.bind ?_ (fun _ => ?_)
theorem impl_bells.mono : ∀ a0 k, LeO (impl_bells.f k a0) (impl_bells.f (k + 1) a0) := by
  intro a0 k
  have ih0 := impl_bells.mono_l k
  unfold impl_bells.f
  repeat' first
      | (with_reducible exact ih0 _ _ _)
      | (with_reducible exact LeO.refl _)
      | (with_reducible exact LeO.none _)
      | (with_reducible refine LeO.ite ?_ ?_)
      | (with_reducible refine LeO.bind ?_ (fun _ => ?_))
      | exact ih0 _ _ _
      | exact LeO.none _
      | refine LeO.ite ?_ ?_
      | refine LeO.bind ?_ (fun _ => ?_)
set_option maxHeartbeats 8000000 in
set_option maxRecDepth 100000 in
theorem impl_bells.calls (k : Nat) (A0 : Option Addr) (c0 : Nat) (l0 : List ByteArray) (r : List Int) (w : World) (hr0 : Kd.C Kd.string w A0 l0.length l0) (hc0 : l0.length ≤ c0) (h : impl_bells.f k l0 = some r) :
    Calls Try.prog 70 #[.slice A0 l0.length c0] w fun e w' => ∃ v0_ : Value, e = .returned (v0_) ∧ Kd.R (Kd.int .i64) 3 w' w.heap.size (fun _ => True) v0_ r ∧ Below w.heap.size w w' := by
  have HR0 := Aside0.mk hr0
  have HC0 := Aside0.mk hc0
  clear hr0 hc0
  have HB := Aside0.mk (Below.refl w.heap.size w)
  have H : (impl_bells.l0 k l0 (([] : List Int)) 1) = some r := h
  clear h
  obtain ⟨y101, hy101⟩ : ∃ y_ : List Int, y_ = (([] : List Int)) := ⟨_, rfl⟩
  replace H : (impl_bells.l0 k l0 y101 1) = some r := by first | (rw [hy101]; with_reducible exact H) | (have H2_ := (Option.bind_some _ _).symm.trans H; rw [hy101]; with_reducible exact H2_) | (have H2_ := (Option.bind_some _ _).symm.trans H; with_reducible exact H2_) | with_reducible exact H | (rw [hy101]; exact H) | exact H
  have Ny101 := Aside0.mk hy101
  clear hy101
  have H' := Aside0.mk H
  clear H
  go_enter Try.func70, Try.ntmps70
  go_wp2_with (first | ((with_reducible refine gate_dst (N := 5) rfl ?_); refine Kd.R_lit (Kd.int .i64) _ 3 ?hg (N := 5) ?hd (xs := ([] : List Int)) (inner := []) (ok := fun _ => True) (okp := fun _ => True) ?hr ?hp (fun _ hk => hk) trivial (Below.refl _ _) (Nat.le_refl _) (by simp) ?_; (case hd => rfl); (case hg => rfl); (case hr => first | (go_simp; done) | (go_simp; rfl)); (case hp => exact (Reps.none _ _)); intro v102 w2 ho3 hb hg_ hnew_; clear hg_ hnew_; (first | rw [← Ny101.out] at ho3 | (simp only [Int.reduceToNat] at ho3; rw [← Ny101.out] at ho3)); have n0_ := Aside0.mk (Kd.R_lower ho3 (below_size (by repeat (first | (with_reducible first | exact HB.out | apply below_alloc | apply pw_below_drewN | apply below_drew1) | exact HB.out)))); have n1_ := Aside0.mk (below_step (by repeat (first | (with_reducible first | exact HB.out | apply below_alloc | apply pw_below_drewN | apply below_drew1) | exact HB.out)) hb); clear HB; have HO103 := n0_; have HB := n1_; clear n0_ n1_; clear hb ho3))
  go_loopg [3, 4] k (fun kq v3 v4 w' => ∃ (x3_1 : List Int) (x4_1 : Int), v4 = .int .i64 x4_1 ∧ Aside0 (impl_bells.l0 kq l0 x3_1 x4_1 = some r) ∧ Aside0 (kq ≤ k) ∧ Aside0 (Kd.R (Kd.int .i64) 3 w' w.heap.size (fun _ => True) v3 x3_1) ∧ Aside0 (Below w.heap.size w w'))
  case atStart => exact ⟨(y101), (1), (by first | rfl | (simp; done) | (simp [*]; done)), H', ⟨Nat.le_refl _⟩, ⟨by (with_reducible repeat (first | apply Kd.R_alloc | apply Kd.R_drewN | apply Kd.R_drew)); exact HO103.out⟩, ⟨by repeat (first | (with_reducible first | exact HB.out | apply below_alloc | apply pw_below_drewN | apply below_drew1) | exact HB.out)⟩⟩
  case round =>
    clear H'
    try clear p2
    obtain ⟨x3_1, x4_1, rfl, HA, HK1, HO_3, HB⟩ := hrel
    cases gk with
    | zero => exact absurd HA.out (by simp [impl_bells.l0])
    | succ k1 =>
      have H := HA.out
      clear HA
      simp only [impl_bells.l0] at H
      by_cases c4 : x4_1 ≤ 8
      · rw [if_pos c4] at H
        have c4b0 : decide (x4_1 ≤ 8) = true := decide_eq_true c4
        clear c4
        replace H := Option.bind_eq_some_iff.mp H
        obtain ⟨t104, A50, H⟩ := H
        replace H : ((impl_bellText.f x4_1).bind fun t105 => ((strings_Contains.f t104 t105).bind fun t106 => (if t106 = true then (if x3_1.length < 17592186044416 then (impl_bells.l0 k1 l0 (x3_1 ++ [x4_1]) (wrap64 (x4_1 + 1))) else (none)) else (impl_bells.l0 k1 l0 x3_1 (wrap64 (x4_1 + 1)))))) = some r := H
        have A5 := Aside0.mk A50
        clear A50
        replace H := Option.bind_eq_some_iff.mp H
        obtain ⟨t105, A60, H⟩ := H
        replace H : ((strings_Contains.f t104 t105).bind fun t106 => (if t106 = true then (if x3_1.length < 17592186044416 then (impl_bells.l0 k1 l0 (x3_1 ++ [x4_1]) (wrap64 (x4_1 + 1))) else (none)) else (impl_bells.l0 k1 l0 x3_1 (wrap64 (x4_1 + 1))))) = some r := H
        have A6 := Aside0.mk A60
        clear A60
        replace H := Option.bind_eq_some_iff.mp H
        obtain ⟨t106, A70, H⟩ := H
        replace H : (if t106 = true then (if x3_1.length < 17592186044416 then (impl_bells.l0 k1 l0 (x3_1 ++ [x4_1]) (wrap64 (x4_1 + 1))) else (none)) else (impl_bells.l0 k1 l0 x3_1 (wrap64 (x4_1 + 1)))) = some r := H
        have A7 := Aside0.mk A70
        clear A70
        by_cases c8 : t106 = true
        · subst c8
          have H1 : (if x3_1.length < 17592186044416 then (impl_bells.l0 k1 l0 (x3_1 ++ [x4_1]) (wrap64 (x4_1 + 1))) else (none)) = some r := by rw [if_pos rfl] at H; exact H
          clear H
          have H := H1
          clear H1
          by_cases c9 : x3_1.length < 17592186044416
          · rw [if_pos c9] at H
            have LMc9 := Aside0.mk c9
            clear c9
            obtain ⟨y107, hy107⟩ : ∃ y_ : List Int, y_ = (x3_1 ++ [x4_1]) := ⟨_, rfl⟩
            replace H : (impl_bells.l0 k1 l0 y107 (wrap64 (x4_1 + 1))) = some r := by first | (rw [hy107]; with_reducible exact H) | (have H2_ := (Option.bind_some _ _).symm.trans H; rw [hy107]; with_reducible exact H2_) | (have H2_ := (Option.bind_some _ _).symm.trans H; with_reducible exact H2_) | with_reducible exact H | (rw [hy107]; exact H) | exact H
            have Ny107 := Aside0.mk hy107
            clear hy107
            have H' := Aside0.mk H
            clear H
            go_wp2_with (first | ((with_reducible refine gate_callee (f := 87) rfl ?_); refine goesL_ (some 11) rfl rfl Try.func87 (by kernel_rfl) rfl #[.slice A0 l0.length c0, .string (⟨#[]⟩ : ByteArray)] rfl (by (try simp only [List.map_toArray, List.map_cons, List.map_nil]); first | done | rfl | (simp only [List.length_drop, List.length_take]; rfl)) ?_; (with_reducible refine (strings_Join.calls _ _ l0 (⟨#[]⟩ : ByteArray) t104 _ ?side1 ?side2 A5.out).mono ?_); (case side1 => repeat (first | exact (Kd.C_below HR0.out HB.out) | (with_reducible refine Kd.C_alloc ?_ _) | (with_reducible refine Kd.C_drewN ?_ _) | (with_reducible refine Kd.C_drew ?_))); (case side2 => exact HC0.out); rintro e w10 ⟨rfl, hb⟩; refine ⟨_, rfl, ?_⟩; have n0_ := Aside0.mk (Kd.R_below (by (with_reducible repeat (first | apply Kd.R_alloc | apply Kd.R_drewN | apply Kd.R_drew)); exact HO_3.out) hb); have n1_ := Aside0.mk (below_step (by repeat (first | (with_reducible first | exact HB.out | apply below_alloc | apply pw_below_drewN | apply below_drew1) | exact HB.out)) hb); clear HO_3; clear HB; have HO_3 := n0_; have HB := n1_; clear n0_ n1_; (try clear hb); (try clear hb2); (try clear hk); (try clear hi)) | ((with_reducible refine gate_callee (f := 69) rfl ?_); refine goesL_ (some 13) rfl rfl Try.func69 (by kernel_rfl) rfl #[.int .i64 x4_1] rfl (by (try simp only [List.map_toArray, List.map_cons, List.map_nil]); first | done | rfl | (simp only [List.length_drop, List.length_take]; rfl)) ?_; (with_reducible refine (impl_bellText.calls x4_1 t105 _ A6.out).mono ?_); rintro e w' ⟨rfl, ⟨nd, rfl⟩⟩; refine ⟨_, rfl, ?_⟩) | ((with_reducible refine gate_callee (f := 72) rfl ?_); refine goesL_ (some 14) rfl rfl Try.func72 (by kernel_rfl) rfl #[.string t104, .string t105] rfl (by (try simp only [List.map_toArray, List.map_cons, List.map_nil]); first | done | rfl | (simp only [List.length_drop, List.length_take]; rfl)) ?_; (with_reducible refine (strings_Contains.calls t104 t105 true _ A7.out).mono ?_); rintro e w' ⟨rfl, ⟨nd, rfl⟩⟩; refine ⟨_, rfl, ?_⟩) | ((with_reducible refine gate_builtin (b := .append) (xs := #[.tmp 15, .tmp 17]) rfl ?_); at_builtin; refine Kd.R_append (Kd.int .i64) (w0 := w) w.heap.size rfl (.tmp 15) (.tmp 17) 31 3 (.int .i64 0) 8 rfl Try.underlying31 info3 rfl (by decide) (by omega) u3 x3_1 x4_1 [.int .i64 x4_1] (fun _ => True) (fun _ => False) rfl rfl ?aP (fun _ hk => hk.elim) ?aF ?aO ?aB ?aS ?aL ?_; (case aP => exact rfl); (case aB => exact (by repeat (first | (with_reducible first | exact HB.out | apply below_alloc | apply pw_below_drewN | apply below_drew1) | exact HB.out))); (case aF => exact (fun _ _ => trivial)); (case aO => exact (by (with_reducible repeat (first | apply Kd.R_alloc | apply Kd.R_drewN | apply Kd.R_drew)); exact HO_3.out)); (case aS => exact (below_size (by repeat (first | (with_reducible first | exact HB.out | apply below_alloc | apply pw_below_drewN | apply below_drew1) | exact HB.out)))); (case aL => have := LMc9.out; omega); intro v108 w11 ho hb hg hat; rw [← Ny107.out] at ho; have n0_ := Aside0.mk (hb); have n1_ := Aside0.mk (ho); clear HB; clear HO_3; have HB := n0_; have HO109 := n1_; clear n0_ n1_; clear ho hb hg hat))
            go_roundg k1
            case measure => have := HK1.out; omega
            case rel => exact ⟨(y107), (wrap64 (x4_1 + 1)), (by first | rfl | (simp; done) | (simp [*]; done)), H', ⟨by have := HK1.out; omega⟩, ⟨by (with_reducible repeat (first | apply Kd.R_alloc | apply Kd.R_drewN | apply Kd.R_drew)); exact HO109.out⟩, ⟨by repeat (first | (with_reducible first | exact HB.out | apply below_alloc | apply pw_below_drewN | apply below_drew1) | exact HB.out)⟩⟩
          · rw [if_neg c9] at H
            exact absurd H (by simp)
        · replace c8 := Bool.eq_false_iff.mpr c8
          subst c8
          have H1 : (impl_bells.l0 k1 l0 x3_1 (wrap64 (x4_1 + 1))) = some r := by rw [if_neg (show ¬ (false = true) by decide)] at H; exact H
          clear H
          have H := H1
          clear H1
          have H' := Aside0.mk H
          clear H
          go_wp2_with (first | ((with_reducible refine gate_callee (f := 87) rfl ?_); refine goesL_ (some 11) rfl rfl Try.func87 (by kernel_rfl) rfl #[.slice A0 l0.length c0, .string (⟨#[]⟩ : ByteArray)] rfl (by (try simp only [List.map_toArray, List.map_cons, List.map_nil]); first | done | rfl | (simp only [List.length_drop, List.length_take]; rfl)) ?_; (with_reducible refine (strings_Join.calls _ _ l0 (⟨#[]⟩ : ByteArray) t104 _ ?side1 ?side2 A5.out).mono ?_); (case side1 => repeat (first | exact (Kd.C_below HR0.out HB.out) | (with_reducible refine Kd.C_alloc ?_ _) | (with_reducible refine Kd.C_drewN ?_ _) | (with_reducible refine Kd.C_drew ?_))); (case side2 => exact HC0.out); rintro e w12 ⟨rfl, hb⟩; refine ⟨_, rfl, ?_⟩; have n0_ := Aside0.mk (Kd.R_below (by (with_reducible repeat (first | apply Kd.R_alloc | apply Kd.R_drewN | apply Kd.R_drew)); exact HO_3.out) hb); have n1_ := Aside0.mk (below_step (by repeat (first | (with_reducible first | exact HB.out | apply below_alloc | apply pw_below_drewN | apply below_drew1) | exact HB.out)) hb); clear HO_3; clear HB; have HO_3 := n0_; have HB := n1_; clear n0_ n1_; (try clear hb); (try clear hb2); (try clear hk); (try clear hi)) | ((with_reducible refine gate_callee (f := 69) rfl ?_); refine goesL_ (some 13) rfl rfl Try.func69 (by kernel_rfl) rfl #[.int .i64 x4_1] rfl (by (try simp only [List.map_toArray, List.map_cons, List.map_nil]); first | done | rfl | (simp only [List.length_drop, List.length_take]; rfl)) ?_; (with_reducible refine (impl_bellText.calls x4_1 t105 _ A6.out).mono ?_); rintro e w' ⟨rfl, ⟨nd, rfl⟩⟩; refine ⟨_, rfl, ?_⟩) | ((with_reducible refine gate_callee (f := 72) rfl ?_); refine goesL_ (some 14) rfl rfl Try.func72 (by kernel_rfl) rfl #[.string t104, .string t105] rfl (by (try simp only [List.map_toArray, List.map_cons, List.map_nil]); first | done | rfl | (simp only [List.length_drop, List.length_take]; rfl)) ?_; (with_reducible refine (strings_Contains.calls t104 t105 false _ A7.out).mono ?_); rintro e w' ⟨rfl, ⟨nd, rfl⟩⟩; refine ⟨_, rfl, ?_⟩))
          go_roundg k1
          case measure => have := HK1.out; omega
          case rel => exact ⟨(x3_1), (wrap64 (x4_1 + 1)), (by first | rfl | (simp; done) | (simp [*]; done)), H', ⟨by have := HK1.out; omega⟩, ⟨by (with_reducible repeat (first | apply Kd.R_alloc | apply Kd.R_drewN | apply Kd.R_drew)); exact HO_3.out⟩, ⟨by repeat (first | (with_reducible first | exact HB.out | apply below_alloc | apply pw_below_drewN | apply below_drew1) | exact HB.out)⟩⟩
      · rw [if_neg c4] at H
        have c4b0 : decide (x4_1 ≤ 8) = false := decide_eq_false c4
        clear c4
        obtain rfl := Option.some.inj H
        go_wp2
        go_ret
        exact ⟨_, by first | rfl | (simp [errW_none, errW_some] <;> rfl) | (simp [*, errW_none, errW_some] <;> rfl), by (with_reducible repeat (first | apply Kd.R_alloc | apply Kd.R_drewN | apply Kd.R_drew)); exact HO_3.out, by repeat (first | (with_reducible first | exact HB.out | apply below_alloc | apply pw_below_drewN | apply below_drew1) | exact HB.out)⟩

end Go.Proofs.Ytjnmecjbhfinmaa.P

/- Bells in texts: what the program looks for in joined phrases, and what the reference counts. -/
namespace Go.Proofs.Ytjnmecjbhfinmaa.P
open Go.RowKit Go.Proofs.YtjnmecjbhfinmaaW.PrintWords Go.Proofs.YtjnmecjbhfinmaaW.PrintLast
set_option linter.unusedVariables false
set_option linter.unusedSimpArgs false

/-- The byte of a bell. -/
def bc (b : Int) : UInt8 := UInt8.ofNat (48 + b).toNat
theorem strOf_bell (b : Int) : (strOfNums [48 + b]).data.toList = [bc b] := by simp [strOfNums, bc]
theorem indexByte_iff (c : UInt8) : ∀ l : List UInt8, 0 ≤ Lib.indexByte l c ↔ c ∈ l
  | [] => by simp [Lib.indexByte]
  | x :: l => by
    have hg := Lib.indexByte_ge l c
    have ih := indexByte_iff c l
    unfold Lib.indexByte
    by_cases h : x = c
    · subst h; simp
    · have h' : (x == c) = false := by simpa using h
      have h2 : c ≠ x := fun z => h z.symm
      simp only [h', Bool.false_eq_true, if_false, List.mem_cons, h2, false_or]
      rw [← ih]
      by_cases e : Lib.indexByte l c = -1
      · simp [e]
      · have e' : (Lib.indexByte l c == -1) = false := by simpa using e
        simp only [e', Bool.false_eq_true, if_false]
        omega
theorem bell_test {b : Int} (h1 : 1 ≤ b) (h2 : b ≤ 8) (x : UInt8) : (((x.toNat : Int) - 48) % 256 = b) ↔ x = bc b := by
  have hx := x.toNat_lt
  unfold bc
  constructor
  · intro h
    apply UInt8.toNat_inj.1
    rw [UInt8.toNat_ofNat']
    omega
  · intro h
    have := congrArg UInt8.toNat h
    rw [UInt8.toNat_ofNat'] at this
    omega
theorem bt_list (s : ByteArray) (i : Nat) (h : i < s.data.toList.length) : bt s i = (s.data.toList[i].toNat : Int) := by
  have hs : i < s.size := by rw [Array.length_toList] at h; exact h
  unfold bt
  rw [dif_pos (by simpa using hs)]
  simp only [Int.toNat_natCast]
  rfl
/-- How often a bell is in a text. -/
def bellN (s : ByteArray) (b : Int) : Nat := s.data.toList.count (bc b)
theorem beBell_l (s : ByteArray) {b : Int} (h1 : 1 ≤ b) (h2 : b ≤ 8) (hs : s.size ≤ 1000000) : ∀ (d i n : Nat), i + d = s.size → n ≤ i → Ev (fun k => spec_beBell.l0 k s b n i) ((n + (s.data.toList.drop i).count (bc b) : Nat) : Int) := by
  have hl : s.data.toList.length = s.size := Array.length_toList
  intro d
  induction d with
  | zero =>
    intro i n hi hn
    refine ev_succ ?_
    simp only [spec_beBell.l0]
    refine ev_neg (by omega) ?_
    rw [List.drop_eq_nil_of_le (by omega)]
    exact Ev.now _
  | succ d ih =>
    intro i n hi hn
    have hlt : i < s.data.toList.length := by omega
    refine ev_succ ?_
    simp only [spec_beBell.l0]
    refine ev_pos (by omega) (ev_pos (by omega) ?_)
    rw [bt_list s i hlt, wrap_succ (n := 1000000) (i := i) (by omega) (by omega), wrap_succ (n := 1000000) (i := n) (by omega) (by omega), List.drop_eq_getElem_cons hlt, List.count_cons]
    by_cases e : s.data.toList[i] = bc b
    · refine ev_pos ((bell_test h1 h2 _).2 e) ?_
      have := ih (i + 1) (n + 1) (by omega) (by omega)
      rw [e]
      simp only [beq_self_eq_true, if_true]
      rw [show n + ((s.data.toList.drop (i + 1)).count (bc b) + 1) = n + 1 + (s.data.toList.drop (i + 1)).count (bc b) by omega]
      exact this
    · refine ev_neg (fun z => e ((bell_test h1 h2 _).1 z)) ?_
      have := ih (i + 1) n (by omega) (by omega)
      have e' : (s.data.toList[i] == bc b) = false := by simpa using e
      simp only [e', Bool.false_eq_true, if_false, Nat.add_zero]
      exact this
theorem beBell_ev (s : ByteArray) {b : Int} (h1 : 1 ≤ b) (h2 : b ≤ 8) (hs : s.size ≤ 1000000) : Ev (fun k => spec_beBell.f k s b) (bellN s b : Int) := by
  have := beBell_l s h1 h2 hs s.size 0 0 (by omega) (by omega)
  simpa [spec_beBell.f, bellN] using this
theorem contains_bell (s : ByteArray) (b : Int) : strings_Contains.f s (strOfNums [48 + b]) = some (decide (0 < bellN s b)) := by
  unfold strings_Contains.f
  rw [strOf_bell]
  simp only [indexByte_iff, bellN, List.count_pos_iff]

end Go.Proofs.Ytjnmecjbhfinmaa.P

-- written by wip/gen.py (this session's) with the kit's printer; Lean checks it.
namespace Go.Proofs.Ytjnmecjbhfinmaa.P
open Go.RowKit Go.Proofs.YtjnmecjbhfinmaaW.PrintWords Go.Proofs.YtjnmecjbhfinmaaW.PrintLast Go.Proofs.YtjnmecjbhfinmaaW.PrintMore
attribute [local go_sem] max2_int min2_int max_two min_two max_three min_three max_four min_four
set_option linter.unusedVariables false
set_option linter.unusedSimpArgs false

/-! ### spec_BellsOf: function 27 -/
mutual
def spec_BellsOf.l0 : Nat → List ByteArray → List Int → Int → Option (List Int × Bool)
  | 0, _, _, _ => none
  | k + 1, x0, x4, x5 => if x5 ≤ 8 then (spec_BellsOf.l1 k x0 x4 x5 x0 (x0.length : Int) 0) else (some (x4, true))
def spec_BellsOf.l1 : Nat → List ByteArray → List Int → Int → List ByteArray → Int → Int → Option (List Int × Bool)
  | 0, _, _, _, _, _, _ => none
  | k + 1, x0, x4, x5, x15, x16, x17 => if x17 < x16 then (if 0 ≤ x17 then (if x17 < (x15.length : Int) then ((spec_beBell.f k (rdOf ByteArray.empty x15 x17) x5).bind fun t103 => (if t103 > 0 then (if x4.length < 17592186044416 then (spec_BellsOf.l0 k x0 (x4 ++ [x5]) (wrap64 (x5 + 1))) else (none)) else (spec_BellsOf.l1 k x0 x4 x5 x15 x16 (wrap64 (x17 + 1))))) else (none)) else (none)) else (spec_BellsOf.l0 k x0 x4 (wrap64 (x5 + 1)))
end
def spec_BellsOf.f (k : Nat) (l0 : List ByteArray) : Option (List Int × Bool) := (spec_beTune.f k l0).bind fun t101 => (if t101 = true then (spec_BellsOf.l0 k l0 ([] : List Int) 1) else (some (([] : List Int), false)))
theorem spec_BellsOf.mono_l : ∀ k, (∀ y0 y1 y2, LeO (spec_BellsOf.l0 k y0 y1 y2) (spec_BellsOf.l0 (k + 1) y0 y1 y2)) ∧ (∀ y0 y1 y2 y3 y4 y5, LeO (spec_BellsOf.l1 k y0 y1 y2 y3 y4 y5) (spec_BellsOf.l1 (k + 1) y0 y1 y2 y3 y4 y5))
  | 0 => ⟨fun _ _ _ r h => by simp [spec_BellsOf.l0] at h, fun _ _ _ _ _ _ r h => by simp [spec_BellsOf.l1] at h⟩
  | k + 1 => by
    obtain ⟨ih0, ih1⟩ := spec_BellsOf.mono_l k
    refine ⟨?_, ?_⟩
    · intro y0 y1 y2
      unfold spec_BellsOf.l0
      repeat' first
      | (with_reducible exact ih0 _ _ _)
      | (with_reducible exact ih1 _ _ _ _ _ _)
      | (with_reducible exact spec_beBell.mono _ _ _)
      | (with_reducible exact spec_beTune.mono _ _)
      | (with_reducible exact LeO.refl _)
      | (with_reducible exact LeO.none _)
      | (with_reducible refine LeO.ite ?_ ?_)
      | (with_reducible refine LeO.bind ?_ (fun _ => ?_))
      | exact ih0 _ _ _
      | exact ih1 _ _ _ _ _ _
      | exact spec_beBell.mono _ _ _
      | exact spec_beTune.mono _ _
      | exact LeO.none _
      | refine LeO.ite ?_ ?_
      | refine LeO.bind ?_ (fun _ => ?_)
    · intro y0 y1 y2 y3 y4 y5
      unfold spec_BellsOf.l1
      repeat' first
      | (with_reducible exact ih0 _ _ _)
      | (with_reducible exact ih1 _ _ _ _ _ _)
      | (with_reducible exact spec_beBell.mono _ _ _)
      | (with_reducible exact spec_beTune.mono _ _)
      | (with_reducible exact LeO.refl _)
      | (with_reducible exact LeO.none _)
      | (with_reducible refine LeO.ite ?_ ?_)
      | (with_reducible refine LeO.bind ?_ (fun _ => ?_))
      | exact ih0 _ _ _
      | exact ih1 _ _ _ _ _ _
      | exact spec_beBell.mono _ _ _
      | exact spec_beTune.mono _ _
      | exact LeO.none _
      | refine LeO.ite ?_ ?_
      | refine LeO.bind ?_ (fun _ => ?_)
theorem spec_BellsOf.mono : ∀ a0 k, LeO (spec_BellsOf.f k a0) (spec_BellsOf.f (k + 1) a0) := by
  intro a0 k
  obtain ⟨ih0, ih1⟩ := spec_BellsOf.mono_l k
  unfold spec_BellsOf.f
  repeat' first
      | (with_reducible exact ih0 _ _ _)
      | (with_reducible exact ih1 _ _ _ _ _ _)
      | (with_reducible exact spec_beBell.mono _ _ _)
      | (with_reducible exact spec_beTune.mono _ _)
      | (with_reducible exact LeO.refl _)
      | (with_reducible exact LeO.none _)
      | (with_reducible refine LeO.ite ?_ ?_)
      | (with_reducible refine LeO.bind ?_ (fun _ => ?_))
      | exact ih0 _ _ _
      | exact ih1 _ _ _ _ _ _
      | exact spec_beBell.mono _ _ _
      | exact spec_beTune.mono _ _
      | exact LeO.none _
      | refine LeO.ite ?_ ?_
      | refine LeO.bind ?_ (fun _ => ?_)
set_option maxHeartbeats 8000000 in
set_option maxRecDepth 100000 in
theorem spec_BellsOf.calls (k : Nat) (A0 : Option Addr) (c0 : Nat) (l0 : List ByteArray) (r1 : List Int) (r2 : Bool) (w : World) (hr0 : Kd.C Kd.string w A0 l0.length l0) (hc0 : l0.length ≤ c0) (h : spec_BellsOf.f k l0 = some (r1, r2)) :
    Calls Try.prog 27 #[.slice A0 l0.length c0] w fun e w' => ∃ v0_ : Value, e = .returned (.tuple #[v0_, .bool r2]) ∧ Kd.R (Kd.int .i64) 3 w' w.heap.size (fun _ => True) v0_ r1 ∧ Below w.heap.size w w' := by
  have HR0 := Aside0.mk hr0
  have HC0 := Aside0.mk hc0
  clear hr0 hc0
  have HB := Aside0.mk (Below.refl w.heap.size w)
  have H : ((spec_beTune.f k l0).bind fun t101 => (if t101 = true then (spec_BellsOf.l0 k l0 ([] : List Int) 1) else (some (([] : List Int), false)))) = some (r1, r2) := h
  clear h
  replace H := Option.bind_eq_some_iff.mp H
  obtain ⟨t101, A20, H⟩ := H
  replace H : (if t101 = true then (spec_BellsOf.l0 k l0 ([] : List Int) 1) else (some (([] : List Int), false))) = some (r1, r2) := H
  have A2 := Aside0.mk A20
  clear A20
  by_cases c3 : t101 = true
  · subst c3
    have H1 : (spec_BellsOf.l0 k l0 ([] : List Int) 1) = some (r1, r2) := by rw [if_pos rfl] at H; exact H
    clear H
    have H := H1
    clear H1
    have H' := Aside0.mk H
    clear H
    go_enter Try.func27, Try.ntmps27
    go_wp2_with (first | ((with_reducible refine gate_callee (f := 49) rfl ?_); refine goesL_ (some 9) rfl rfl Try.func49 (by kernel_rfl) rfl #[.slice A0 l0.length c0] rfl (by (try simp only [List.map_toArray, List.map_cons, List.map_nil]); first | done | rfl | (simp only [List.length_drop, List.length_take]; rfl)) ?_; (with_reducible refine (spec_beTune.calls k _ _ l0 true _ ?side1 ?side2 A2.out).mono ?_); (case side1 => repeat (first | exact HR0.out | (with_reducible refine Kd.C_alloc ?_ _) | (with_reducible refine Kd.C_drewN ?_ _) | (with_reducible refine Kd.C_drew ?_))); (case side2 => exact HC0.out); rintro e w' ⟨rfl, ⟨nd, rfl⟩⟩; refine ⟨_, rfl, ?_⟩))
    go_loopg [4, 5] k (fun kq v4 v5 w' => ∃ (x4_1 : List Int) (x5_1 : Int), v5 = .int .i64 x5_1 ∧ Aside0 (spec_BellsOf.l0 kq l0 x4_1 x5_1 = some (r1, r2)) ∧ Aside0 (kq ≤ k) ∧ Aside0 (Kd.R (Kd.int .i64) 3 w' w.heap.size (fun _ => True) v4 x4_1) ∧ Aside0 (Below w.heap.size w w'))
    case atStart => exact ⟨(([] : List Int)), (1), (by first | rfl | (simp; done) | (simp [*]; done)), H', ⟨Nat.le_refl _⟩, ⟨by first | exact Kd.R_nil _ _ _ _ _ | exact Kd.N_nil _ _ _ _ _ | exact Kd.V_nil _ _ _ _ _ | exact Kd.Q_nil _ _ _ _ _ | exact Kd.S_nil _ _ _ _ _⟩, ⟨by repeat (first | (with_reducible first | exact HB.out | apply below_alloc | apply pw_below_drewN | apply below_drew1) | exact HB.out)⟩⟩
    case round =>
      clear H'
      try clear c2
      try clear p2
      try clear c3
      obtain ⟨x4_1, x5_1, rfl, HA, HK1, HO_4, HB⟩ := hrel
      cases gk with
      | zero => exact absurd HA.out (by simp [spec_BellsOf.l0])
      | succ k1 =>
        have H := HA.out
        clear HA
        simp only [spec_BellsOf.l0] at H
        by_cases c4 : x5_1 ≤ 8
        · rw [if_pos c4] at H
          have c4b0 : decide (x5_1 ≤ 8) = true := decide_eq_true c4
          clear c4
          have H' := Aside0.mk H
          clear H
          go_wp2
          go_loopg [4, 17] k1 (fun kq v4 v17 w' => ∃ (x4_2 : List Int) (x17_2 : Int), v17 = .int .i64 x17_2 ∧ Aside0 (spec_BellsOf.l1 kq l0 x4_2 x5_1 l0 (l0.length : Int) x17_2 = some (r1, r2)) ∧ Aside0 (kq ≤ k1) ∧ Aside0 (Kd.R (Kd.int .i64) 3 w' w.heap.size (fun _ => True) v4 x4_2) ∧ Aside0 (Below w.heap.size w w'))
          case atStart => exact ⟨(x4_1), (0), (by first | rfl | (simp; done) | (simp [*]; done)), H', ⟨Nat.le_refl _⟩, ⟨by (with_reducible repeat (first | apply Kd.R_alloc | apply Kd.R_drewN | apply Kd.R_drew)); exact HO_4.out⟩, ⟨by repeat (first | (with_reducible first | exact HB.out | apply below_alloc | apply pw_below_drewN | apply below_drew1) | exact HB.out)⟩⟩
          case round =>
            clear H'
            try clear c2
            try clear p2
            try clear c3
            try clear c4
            try clear c4b0
            try clear p2
            obtain ⟨x4_2, x17_2, rfl, HA, HK2, HO_4, HB⟩ := hrel
            cases gk with
            | zero => exact absurd HA.out (by simp [spec_BellsOf.l1])
            | succ k2 =>
              have H := HA.out
              clear HA
              simp only [spec_BellsOf.l1] at H
              by_cases c5 : x17_2 < (l0.length : Int)
              · rw [if_pos c5] at H
                have c5b0 : decide (x17_2 < (l0.length : Int)) = true := decide_eq_true c5
                clear c5
                by_cases c6 : 0 ≤ x17_2
                · rw [if_pos c6] at H
                  have c6b0 : decide (0 ≤ x17_2) = true := decide_eq_true c6
                  clear c6
                  by_cases c7 : x17_2 < (l0.length : Int)
                  · rw [if_pos c7] at H
                    have c7b0 : decide (x17_2 < (l0.length : Int)) = true := decide_eq_true c7
                    clear c7
                    replace H := Option.bind_eq_some_iff.mp H
                    obtain ⟨t103, A80, H⟩ := H
                    replace H : (if t103 > 0 then (if x4_2.length < 17592186044416 then (spec_BellsOf.l0 k2 l0 (x4_2 ++ [x5_1]) (wrap64 (x5_1 + 1))) else (none)) else (spec_BellsOf.l1 k2 l0 x4_2 x5_1 l0 (l0.length : Int) (wrap64 (x17_2 + 1)))) = some (r1, r2) := H
                    have A8 := Aside0.mk A80
                    clear A80
                    by_cases c9 : t103 > 0
                    · rw [if_pos c9] at H
                      have c9b0 : decide (0 < t103) = true := decide_eq_true c9
                      clear c9
                      by_cases c10 : x4_2.length < 17592186044416
                      · rw [if_pos c10] at H
                        have LMc10 := Aside0.mk c10
                        clear c10
                        obtain ⟨y104, hy104⟩ : ∃ y_ : List Int, y_ = (x4_2 ++ [x5_1]) := ⟨_, rfl⟩
                        replace H : (spec_BellsOf.l0 k2 l0 y104 (wrap64 (x5_1 + 1))) = some (r1, r2) := by first | (rw [hy104]; with_reducible exact H) | (have H2_ := (Option.bind_some _ _).symm.trans H; rw [hy104]; with_reducible exact H2_) | (have H2_ := (Option.bind_some _ _).symm.trans H; with_reducible exact H2_) | with_reducible exact H | (rw [hy104]; exact H) | exact H
                        have Ny104 := Aside0.mk hy104
                        clear hy104
                        have H' := Aside0.mk H
                        clear H
                        have p102 : 0 ≤ (x17_2 : Int) := of_decide_eq_true (by first | (with_reducible assumption) | assumption)
                        have q102 : x17_2 < (l0.length : Int) := of_decide_eq_true (by first | (with_reducible assumption) | assumption)
                        obtain ⟨ad102, e102, hx102_0⟩ := Kd.at_string HR0.out x17_2 p102 q102
                        cases e102
                        replace hx102_0 := (HB.out.cell (World.block_lt_of_cell? w _ hx102_0)).trans hx102_0
                        replace p102 := eq_true p102
                        replace q102 := eq_true q102
                        go_wp2_with (first | ((with_reducible refine gate_callee (f := 61) rfl ?_); refine goesL_ (some 23) rfl rfl Try.func61 (by kernel_rfl) rfl #[.string (rdOf ByteArray.empty l0 x17_2), .int .i64 x5_1] rfl (by (try simp only [List.map_toArray, List.map_cons, List.map_nil]); first | done | rfl | (simp only [List.length_drop, List.length_take]; rfl)) ?_; (with_reducible refine (spec_beBell.calls k2 (rdOf ByteArray.empty l0 x17_2) x5_1 t103 _ A8.out).mono ?_); rintro e w' ⟨rfl, ⟨nd, rfl⟩⟩; refine ⟨_, rfl, ?_⟩) | ((with_reducible refine gate_builtin (b := .append) (xs := #[.tmp 25, .tmp 27]) rfl ?_); at_builtin; refine Kd.R_append (Kd.int .i64) (w0 := w) w.heap.size rfl (.tmp 25) (.tmp 27) 31 3 (.int .i64 0) 8 rfl Try.underlying31 info3 rfl (by decide) (by omega) u4 x4_2 x5_1 [.int .i64 x5_1] (fun _ => True) (fun _ => False) rfl rfl ?aP (fun _ hk => hk.elim) ?aF ?aO ?aB ?aS ?aL ?_; (case aP => exact rfl); (case aB => exact (by repeat (first | (with_reducible first | exact HB.out | apply below_alloc | apply pw_below_drewN | apply below_drew1) | exact HB.out))); (case aF => exact (fun _ _ => trivial)); (case aO => exact (by (with_reducible repeat (first | apply Kd.R_alloc | apply Kd.R_drewN | apply Kd.R_drew)); exact HO_4.out)); (case aS => exact (below_size (by repeat (first | (with_reducible first | exact HB.out | apply below_alloc | apply pw_below_drewN | apply below_drew1) | exact HB.out)))); (case aL => have := LMc10.out; omega); intro v105 w11 ho hb hg hat; rw [← Ny104.out] at ho; have n0_ := Aside0.mk (hb); have n1_ := Aside0.mk (ho); clear HB; clear HO_4; have HB := n0_; have HO106 := n1_; clear n0_ n1_; clear ho hb hg hat))
                        go_roundg k2
                        case measure => have := HK1.out; have := HK2.out; omega
                        case rel => exact ⟨(y104), (wrap64 (x5_1 + 1)), (by first | rfl | (simp; done) | (simp [*]; done)), H', ⟨by have := HK1.out; have := HK2.out; omega⟩, ⟨by (with_reducible repeat (first | apply Kd.R_alloc | apply Kd.R_drewN | apply Kd.R_drew)); exact HO106.out⟩, ⟨by repeat (first | (with_reducible first | exact HB.out | apply below_alloc | apply pw_below_drewN | apply below_drew1) | exact HB.out)⟩⟩
                      · rw [if_neg c10] at H
                        exact absurd H (by simp)
                    · rw [if_neg c9] at H
                      have c9b0 : decide (0 < t103) = false := decide_eq_false c9
                      clear c9
                      have H' := Aside0.mk H
                      clear H
                      have p102 : 0 ≤ (x17_2 : Int) := of_decide_eq_true (by first | (with_reducible assumption) | assumption)
                      have q102 : x17_2 < (l0.length : Int) := of_decide_eq_true (by first | (with_reducible assumption) | assumption)
                      obtain ⟨ad102, e102, hx102_0⟩ := Kd.at_string HR0.out x17_2 p102 q102
                      cases e102
                      replace hx102_0 := (HB.out.cell (World.block_lt_of_cell? w _ hx102_0)).trans hx102_0
                      replace p102 := eq_true p102
                      replace q102 := eq_true q102
                      go_wp2_with (first | ((with_reducible refine gate_callee (f := 61) rfl ?_); refine goesL_ (some 23) rfl rfl Try.func61 (by kernel_rfl) rfl #[.string (rdOf ByteArray.empty l0 x17_2), .int .i64 x5_1] rfl (by (try simp only [List.map_toArray, List.map_cons, List.map_nil]); first | done | rfl | (simp only [List.length_drop, List.length_take]; rfl)) ?_; (with_reducible refine (spec_beBell.calls k2 (rdOf ByteArray.empty l0 x17_2) x5_1 t103 _ A8.out).mono ?_); rintro e w' ⟨rfl, ⟨nd, rfl⟩⟩; refine ⟨_, rfl, ?_⟩))
                      go_roundg k2
                      case measure => have := HK1.out; have := HK2.out; omega
                      case rel => exact ⟨(x4_2), (wrap64 (x17_2 + 1)), (by first | rfl | (simp; done) | (simp [*]; done)), H', ⟨by have := HK1.out; have := HK2.out; omega⟩, ⟨by (with_reducible repeat (first | apply Kd.R_alloc | apply Kd.R_drewN | apply Kd.R_drew)); exact HO_4.out⟩, ⟨by repeat (first | (with_reducible first | exact HB.out | apply below_alloc | apply pw_below_drewN | apply below_drew1) | exact HB.out)⟩⟩
                  · rw [if_neg c7] at H
                    exact absurd H (by simp)
                · rw [if_neg c6] at H
                  exact absurd H (by simp)
              · rw [if_neg c5] at H
                have c5b0 : decide (x17_2 < (l0.length : Int)) = false := decide_eq_false c5
                clear c5
                have H' := Aside0.mk H
                clear H
                go_wp2
                go_roundg k2
                case measure => have := HK1.out; have := HK2.out; omega
                case rel => exact ⟨(x4_2), (wrap64 (x5_1 + 1)), (by first | rfl | (simp; done) | (simp [*]; done)), H', ⟨by have := HK1.out; have := HK2.out; omega⟩, ⟨by (with_reducible repeat (first | apply Kd.R_alloc | apply Kd.R_drewN | apply Kd.R_drew)); exact HO_4.out⟩, ⟨by repeat (first | (with_reducible first | exact HB.out | apply below_alloc | apply pw_below_drewN | apply below_drew1) | exact HB.out)⟩⟩
        · rw [if_neg c4] at H
          have c4b0 : decide (x5_1 ≤ 8) = false := decide_eq_false c4
          clear c4
          simp only [Option.some.injEq, Prod.mk.injEq] at H
          obtain ⟨rfl, rfl⟩ := H
          go_wp2
          go_ret2
          exact ⟨_, by first | rfl | (simp [errW_none, errW_some] <;> rfl) | (simp [*, errW_none, errW_some] <;> rfl), by (with_reducible repeat (first | apply Kd.R_alloc | apply Kd.R_drewN | apply Kd.R_drew)); exact HO_4.out, by repeat (first | (with_reducible first | exact HB.out | apply below_alloc | apply pw_below_drewN | apply below_drew1) | exact HB.out)⟩
  · replace c3 := Bool.eq_false_iff.mpr c3
    subst c3
    have H1 : (some (([] : List Int), false)) = some (r1, r2) := by rw [if_neg (show ¬ (false = true) by decide)] at H; exact H
    clear H
    have H := H1
    clear H1
    simp only [Option.some.injEq, Prod.mk.injEq] at H
    obtain ⟨rfl, rfl⟩ := H
    go_enter Try.func27, Try.ntmps27
    go_wp2_with (first | ((with_reducible refine gate_callee (f := 49) rfl ?_); refine goesL_ (some 9) rfl rfl Try.func49 (by kernel_rfl) rfl #[.slice A0 l0.length c0] rfl (by (try simp only [List.map_toArray, List.map_cons, List.map_nil]); first | done | rfl | (simp only [List.length_drop, List.length_take]; rfl)) ?_; (with_reducible refine (spec_beTune.calls k _ _ l0 false _ ?side1 ?side2 A2.out).mono ?_); (case side1 => repeat (first | exact HR0.out | (with_reducible refine Kd.C_alloc ?_ _) | (with_reducible refine Kd.C_drewN ?_ _) | (with_reducible refine Kd.C_drew ?_))); (case side2 => exact HC0.out); rintro e w' ⟨rfl, ⟨nd, rfl⟩⟩; refine ⟨_, rfl, ?_⟩))
    go_ret2
    exact ⟨_, by first | rfl | (simp [errW_none, errW_some] <;> rfl) | (simp [*, errW_none, errW_some] <;> rfl), by first | exact Kd.R_nil _ _ _ _ _ | exact Kd.N_nil _ _ _ _ _ | exact Kd.V_nil _ _ _ _ _ | exact Kd.Q_nil _ _ _ _ _ | exact Kd.S_nil _ _ _ _ _, by repeat (first | (with_reducible first | exact HB.out | apply below_alloc | apply pw_below_drewN | apply below_drew1) | exact HB.out)⟩

end Go.Proofs.Ytjnmecjbhfinmaa.P

-- written by wip/gen.py (this session's) with the kit's printer; Lean checks it.
namespace Go.Proofs.Ytjnmecjbhfinmaa.P
open Go.RowKit Go.Proofs.YtjnmecjbhfinmaaW.PrintWords Go.Proofs.YtjnmecjbhfinmaaW.PrintLast Go.Proofs.YtjnmecjbhfinmaaW.PrintMore
attribute [local go_sem] max2_int min2_int max_two min_two max_three min_three max_four min_four
set_option linter.unusedVariables false
set_option linter.unusedSimpArgs false

/-! ### impl_BellsOf: function 28 -/
def impl_BellsOf.f (k : Nat) (l0 : List ByteArray) : Option (List Int × Bool) := (impl_IsTune.f k l0).bind fun t101 => (if t101 = true then ((impl_bells.f k l0).bind fun t102 => (some (t102, true))) else (some (([] : List Int), false)))
theorem impl_BellsOf.mono : ∀ a0 k, LeO (impl_BellsOf.f k a0) (impl_BellsOf.f (k + 1) a0) := by
  intro a0 k
  unfold impl_BellsOf.f
  repeat' first
      | (with_reducible exact impl_IsTune.mono _ _)
      | (with_reducible exact impl_bells.mono _ _)
      | (with_reducible exact LeO.refl _)
      | (with_reducible exact LeO.none _)
      | (with_reducible refine LeO.ite ?_ ?_)
      | (with_reducible refine LeO.bind ?_ (fun _ => ?_))
      | exact impl_IsTune.mono _ _
      | exact impl_bells.mono _ _
      | exact LeO.none _
      | refine LeO.ite ?_ ?_
      | refine LeO.bind ?_ (fun _ => ?_)
set_option maxHeartbeats 8000000 in
set_option maxRecDepth 100000 in
theorem impl_BellsOf.calls (k : Nat) (A0 : Option Addr) (c0 : Nat) (l0 : List ByteArray) (r1 : List Int) (r2 : Bool) (w : World) (hr0 : Kd.C Kd.string w A0 l0.length l0) (hc0 : l0.length ≤ c0) (h : impl_BellsOf.f k l0 = some (r1, r2)) :
    Calls Try.prog 28 #[.slice A0 l0.length c0] w fun e w' => ∃ v0_ : Value, e = .returned (.tuple #[v0_, .bool r2]) ∧ Kd.R (Kd.int .i64) 3 w' w.heap.size (fun _ => True) v0_ r1 ∧ Below w.heap.size w w' := by
  have HR0 := Aside0.mk hr0
  have HC0 := Aside0.mk hc0
  clear hr0 hc0
  have HB := Aside0.mk (Below.refl w.heap.size w)
  have H : ((impl_IsTune.f k l0).bind fun t101 => (if t101 = true then ((impl_bells.f k l0).bind fun t102 => (some (t102, true))) else (some (([] : List Int), false)))) = some (r1, r2) := h
  clear h
  replace H := Option.bind_eq_some_iff.mp H
  obtain ⟨t101, A20, H⟩ := H
  replace H : (if t101 = true then ((impl_bells.f k l0).bind fun t102 => (some (t102, true))) else (some (([] : List Int), false))) = some (r1, r2) := H
  have A2 := Aside0.mk A20
  clear A20
  by_cases c3 : t101 = true
  · subst c3
    have H1 : ((impl_bells.f k l0).bind fun t102 => (some (t102, true))) = some (r1, r2) := by rw [if_pos rfl] at H; exact H
    clear H
    have H := H1
    clear H1
    replace H := Option.bind_eq_some_iff.mp H
    obtain ⟨t102, A40, H⟩ := H
    replace H : (some (t102, true)) = some (r1, r2) := H
    have A4 := Aside0.mk A40
    clear A40
    simp only [Option.some.injEq, Prod.mk.injEq] at H
    obtain ⟨rfl, rfl⟩ := H
    go_enter Try.func28, Try.ntmps28
    go_wp2_with (first | ((with_reducible refine gate_callee (f := 43) rfl ?_); refine goesL_ (some 5) rfl rfl Try.func43 (by kernel_rfl) rfl #[.slice A0 l0.length c0] rfl (by (try simp only [List.map_toArray, List.map_cons, List.map_nil]); first | done | rfl | (simp only [List.length_drop, List.length_take]; rfl)) ?_; (with_reducible refine (impl_IsTune.calls k _ _ l0 true _ ?side1 ?side2 A2.out).mono ?_); (case side1 => repeat (first | exact HR0.out | (with_reducible refine Kd.C_alloc ?_ _) | (with_reducible refine Kd.C_drewN ?_ _) | (with_reducible refine Kd.C_drew ?_))); (case side2 => exact HC0.out); rintro e w5 ⟨rfl, hb⟩; refine ⟨_, rfl, ?_⟩; have n0_ := Aside0.mk (below_step (by repeat (first | (with_reducible first | exact HB.out | apply below_alloc | apply pw_below_drewN | apply below_drew1) | exact HB.out)) hb); clear HB; have HB := n0_; clear n0_; (try clear hb); (try clear hb2); (try clear hk); (try clear hi)) | ((with_reducible refine gate_callee (f := 70) rfl ?_); refine goesL_ (some 8) rfl rfl Try.func70 (by kernel_rfl) rfl #[.slice A0 l0.length c0] rfl (by (try simp only [List.map_toArray, List.map_cons, List.map_nil]); first | done | rfl | (simp only [List.length_drop, List.length_take]; rfl)) ?_; (with_reducible refine (impl_bells.calls k _ _ l0 t102 _ ?side1 ?side2 A4.out).mono ?_); (case side1 => repeat (first | exact (Kd.C_below HR0.out HB.out) | (with_reducible refine Kd.C_alloc ?_ _) | (with_reducible refine Kd.C_drewN ?_ _) | (with_reducible refine Kd.C_drew ?_))); (case side2 => exact HC0.out); rintro e w6 ⟨v103, rfl, ho0, hb⟩; refine ⟨_, rfl, ?_⟩; have n0_ := Aside0.mk (Kd.R_lower ho0 (below_size (by repeat (first | (with_reducible first | exact HB.out | apply below_alloc | apply pw_below_drewN | apply below_drew1) | exact HB.out)))); have n1_ := Aside0.mk (below_step (by repeat (first | (with_reducible first | exact HB.out | apply below_alloc | apply pw_below_drewN | apply below_drew1) | exact HB.out)) hb); clear HB; have HO104 := n0_; have HB := n1_; clear n0_ n1_; (try clear hb); (try clear hb2); (try clear hk); (try clear hi); (try clear ho0)))
    go_ret2
    exact ⟨_, by first | rfl | (simp [errW_none, errW_some] <;> rfl) | (simp [*, errW_none, errW_some] <;> rfl), by (with_reducible repeat (first | apply Kd.R_alloc | apply Kd.R_drewN | apply Kd.R_drew)); exact HO104.out, by repeat (first | (with_reducible first | exact HB.out | apply below_alloc | apply pw_below_drewN | apply below_drew1) | exact HB.out)⟩
  · replace c3 := Bool.eq_false_iff.mpr c3
    subst c3
    have H1 : (some (([] : List Int), false)) = some (r1, r2) := by rw [if_neg (show ¬ (false = true) by decide)] at H; exact H
    clear H
    have H := H1
    clear H1
    simp only [Option.some.injEq, Prod.mk.injEq] at H
    obtain ⟨rfl, rfl⟩ := H
    go_enter Try.func28, Try.ntmps28
    go_wp2_with (first | ((with_reducible refine gate_callee (f := 43) rfl ?_); refine goesL_ (some 5) rfl rfl Try.func43 (by kernel_rfl) rfl #[.slice A0 l0.length c0] rfl (by (try simp only [List.map_toArray, List.map_cons, List.map_nil]); first | done | rfl | (simp only [List.length_drop, List.length_take]; rfl)) ?_; (with_reducible refine (impl_IsTune.calls k _ _ l0 false _ ?side1 ?side2 A2.out).mono ?_); (case side1 => repeat (first | exact HR0.out | (with_reducible refine Kd.C_alloc ?_ _) | (with_reducible refine Kd.C_drewN ?_ _) | (with_reducible refine Kd.C_drew ?_))); (case side2 => exact HC0.out); rintro e w7 ⟨rfl, hb⟩; refine ⟨_, rfl, ?_⟩; have n0_ := Aside0.mk (below_step (by repeat (first | (with_reducible first | exact HB.out | apply below_alloc | apply pw_below_drewN | apply below_drew1) | exact HB.out)) hb); clear HB; have HB := n0_; clear n0_; (try clear hb); (try clear hb2); (try clear hk); (try clear hi)))
    go_ret2
    exact ⟨_, by first | rfl | (simp [errW_none, errW_some] <;> rfl) | (simp [*, errW_none, errW_some] <;> rfl), by first | exact Kd.R_nil _ _ _ _ _ | exact Kd.N_nil _ _ _ _ _ | exact Kd.V_nil _ _ _ _ _ | exact Kd.Q_nil _ _ _ _ _ | exact Kd.S_nil _ _ _ _ _, by repeat (first | (with_reducible first | exact HB.out | apply below_alloc | apply pw_below_drewN | apply below_drew1) | exact HB.out)⟩

end Go.Proofs.Ytjnmecjbhfinmaa.P

/- The bells of a tune. -/
namespace Go.Proofs.Ytjnmecjbhfinmaa.P
open Go.RowKit Go.Proofs.YtjnmecjbhfinmaaW.PrintWords Go.Proofs.YtjnmecjbhfinmaaW.PrintLast
set_option linter.unusedVariables false
set_option linter.unusedSimpArgs false

def flat (l : List ByteArray) : List UInt8 := (l.map (·.data.toList)).flatten
theorem join_flat : ∀ l : List (List UInt8), Lib.join l [] = l.flatten
  | [] => rfl
  | x :: l => by rw [Lib.join_cons]; simp [Lib.joinTail]
theorem flat_length : ∀ l : List ByteArray, (∀ s ∈ l, s.size ≤ 8) → (flat l).length ≤ 8 * l.length
  | [], _ => by simp [flat]
  | x :: l, h => by
    have ih := flat_length l (fun s hs => h s (List.mem_cons_of_mem _ hs))
    have hx := h x List.mem_cons_self
    have hl : x.data.toList.length = x.size := Array.length_toList
    unfold flat at ih ⊢
    rw [List.map_cons, List.flatten_cons, List.length_append, List.length_cons]
    omega
theorem join_eq (l : List ByteArray) (ht : tuneOk l = true) : strings_Join.f l (⟨#[]⟩ : ByteArray) = some (⟨(flat l).toArray⟩ : ByteArray) := by
  obtain ⟨h1, h2, hs⟩ := tuneOk_facts ht
  have hl := flat_length l (fun s h => (hs s h).2)
  unfold strings_Join.f
  have e : Lib.join (l.map (·.data.toList)) (⟨#[]⟩ : ByteArray).data.toList = flat l := join_flat _
  rw [e, if_pos ⟨by omega, by omega⟩]
def hasBell (l : List ByteArray) (b : Int) : Bool := l.any fun s => decide (0 < bellN s b)
theorem hasBell_cons (x : ByteArray) (l : List ByteArray) (b : Int) : hasBell (x :: l) b = (decide (0 < bellN x b) || hasBell l b) := rfl
theorem hasBell_flat (l : List ByteArray) (b : Int) : decide (0 < bellN (⟨(flat l).toArray⟩ : ByteArray) b) = hasBell l b := by
  unfold hasBell bellN flat
  rw [Bool.eq_iff_iff]
  simp only [decide_eq_true_eq, List.any_eq_true, List.count_pos_iff, List.mem_flatten, List.mem_map]
  constructor
  · rintro ⟨x, ⟨s, hs, rfl⟩, hb⟩
    exact ⟨s, hs, hb⟩
  · rintro ⟨s, hs, hb⟩
    exact ⟨_, ⟨s, hs, rfl⟩, hb⟩
def bellsL (l : List ByteArray) (n : Nat) : List Int := ((List.range n).filter fun (b : Nat) => hasBell l ((b : Int) + 1)).map fun (b : Nat) => (b : Int) + 1
theorem bellsL_le (l : List ByteArray) (n : Nat) : (bellsL l n).length ≤ n := by
  unfold bellsL
  rw [List.length_map]
  exact Nat.le_trans (List.length_filter_le _ _) (by simp)
theorem bellsL_succ (l : List ByteArray) (n : Nat) : bellsL l (n + 1) = if hasBell l ((n : Int) + 1) = true then bellsL l n ++ [(n : Int) + 1] else bellsL l n := by
  unfold bellsL
  rw [List.range_succ, List.filter_append, List.map_append]
  by_cases e : hasBell l ((n : Int) + 1) = true
  · rw [if_pos e]; simp [e]
  · rw [if_neg e]; simp [e]
theorem impl_bells_l (l : List ByteArray) (ht : tuneOk l = true) : ∀ (d i : Nat), i + d = 8 → Ev (fun k => impl_bells.l0 k l (bellsL l i) ((i : Int) + 1)) (bellsL l 8) := by
  intro d
  induction d with
  | zero =>
    intro i hi
    refine ev_succ ?_
    simp only [impl_bells.l0]
    refine ev_neg (by omega) ?_
    rw [show i = 8 by omega]
    exact Ev.now _
  | succ d ih =>
    intro i hi
    have hle := bellsL_le l i
    refine ev_succ ?_
    simp only [impl_bells.l0]
    refine ev_pos (by omega) ?_
    rw [join_eq l ht]
    simp only [Option.bind_some]
    rw [show impl_bellText.f ((i : Int) + 1) = some (strOfNums [48 + ((i : Int) + 1)]) from if_pos (by omega)]
    simp only [Option.bind_some, contains_bell, hasBell_flat]
    rw [wsm (n := (i : Int) + 1 + 1) (by omega) (by omega)]
    have := ih (i + 1) (by omega)
    rw [bellsL_succ] at this
    by_cases e : hasBell l ((i : Int) + 1) = true
    · rw [if_pos e] at this
      exact ev_pos e (ev_pos (by omega) this)
    · rw [if_neg e] at this
      exact ev_neg e this
theorem impl_bells_ev (l : List ByteArray) (ht : tuneOk l = true) : Ev (fun k => impl_bells.f k l) (bellsL l 8) := impl_bells_l l ht 8 0 (by omega)
theorem spec_bells_in (l : List ByteArray) (hs : ∀ s ∈ l, s.size ≤ 8) (hn : l.length ≤ 12) (acc : List Int) (ha : acc.length ≤ 8) (b : Int) (h1 : 1 ≤ b) (h2 : b ≤ 8) (r : List Int × Bool) : ∀ (d i : Nat), i + d = l.length →
    Ev (fun k => spec_BellsOf.l0 k l (if hasBell (l.drop i) b = true then acc ++ [b] else acc) (wrap64 (b + 1))) r → Ev (fun k => spec_BellsOf.l1 k l acc b l l.length i) r := by
  intro d
  induction d with
  | zero =>
    intro i hi h
    refine ev_succ ?_
    simp only [spec_BellsOf.l1]
    refine ev_neg (by omega) ?_
    rw [List.drop_eq_nil_of_le (by omega)] at h
    exact h
  | succ d ih =>
    intro i hi h
    have hlt : i < l.length := by omega
    refine ev_succ ?_
    simp only [spec_BellsOf.l1]
    refine ev_pos (by omega) (ev_pos (by omega) (ev_pos (by omega) ?_))
    rw [rdS l i hlt, wrap_succ (n := 12) (by omega) (by omega)]
    refine Ev.bind (beBell_ev l[i] h1 h2 (by have := hs _ (List.getElem_mem hlt); omega)) ?_
    rw [List.drop_eq_getElem_cons hlt, hasBell_cons] at h
    by_cases e : 0 < bellN l[i] b
    · refine ev_pos (by omega) (ev_pos (by omega) ?_)
      rw [decide_eq_true e] at h
      simpa using h
    · refine ev_neg (by omega) (ih (i + 1) (by omega) ?_)
      rw [decide_eq_false e, Bool.false_or] at h
      exact h
theorem spec_bells_l (l : List ByteArray) (ht : tuneOk l = true) : ∀ (d i : Nat), i + d = 8 → Ev (fun k => spec_BellsOf.l0 k l (bellsL l i) ((i : Int) + 1)) (bellsL l 8, true) := by
  obtain ⟨h1, h2, hs⟩ := tuneOk_facts ht
  intro d
  induction d with
  | zero =>
    intro i hi
    refine ev_succ ?_
    simp only [spec_BellsOf.l0]
    refine ev_neg (by omega) ?_
    rw [show i = 8 by omega]
    exact Ev.now _
  | succ d ih =>
    intro i hi
    have hle := bellsL_le l i
    refine ev_succ ?_
    simp only [spec_BellsOf.l0]
    refine ev_pos (by omega) ?_
    refine spec_bells_in l (fun s h => (hs s h).2) h2 _ (by omega) _ (by omega) (by omega) _ l.length 0 (by omega) ?_
    rw [wsm (n := (i : Int) + 1 + 1) (by omega) (by omega), List.drop_zero, ← bellsL_succ]
    exact ih (i + 1) (by omega)
theorem spec_bells_ev (l : List ByteArray) (ht : tuneOk l = true) : Ev (fun k => spec_BellsOf.l0 k l [] 1) (bellsL l 8, true) := spec_bells_l l ht 8 0 (by omega)

end Go.Proofs.Ytjnmecjbhfinmaa.P

-- written by wip/gen.py (this session's) with the kit's printer; Lean checks it.
namespace Go.Proofs.Ytjnmecjbhfinmaa.P
open Go.RowKit Go.Proofs.YtjnmecjbhfinmaaW.PrintWords Go.Proofs.YtjnmecjbhfinmaaW.PrintLast Go.Proofs.YtjnmecjbhfinmaaW.PrintMore
attribute [local go_sem] max2_int min2_int max_two min_two max_three min_three max_four min_four
set_option linter.unusedVariables false
set_option linter.unusedSimpArgs false

/-! ### slices_Index_int: function 88 -/
def slices_Index_int.l0 : Nat → List Int → Int → Int → Int → Option (Int)
  | 0, _, _, _, _ => none
  | k + 1, x0, x1, x7, x8 => if x8 < x7 then (if 0 ≤ x8 then (if x8 < (x0.length : Int) then (if x1 = (rd x0 x8) then (some x8) else (slices_Index_int.l0 k x0 x1 x7 (wrap64 (x8 + 1)))) else (none)) else (none)) else (some (-1))
def slices_Index_int.f (k : Nat) (l0 : List Int) (a1 : Int) : Option (Int) := slices_Index_int.l0 k l0 a1 (l0.length : Int) 0
theorem slices_Index_int.mono_l : ∀ k, (∀ y0 y1 y2 y3, LeO (slices_Index_int.l0 k y0 y1 y2 y3) (slices_Index_int.l0 (k + 1) y0 y1 y2 y3))
  | 0 => fun _ _ _ _ r h => by simp [slices_Index_int.l0] at h
  | k + 1 => by
    have ih0 := slices_Index_int.mono_l k
    · intro y0 y1 y2 y3
      unfold slices_Index_int.l0
      repeat' first
      | (with_reducible exact ih0 _ _ _ _)
      | (with_reducible exact LeO.refl _)
      | (with_reducible exact LeO.none _)
      | (with_reducible refine LeO.ite ?_ ?_)
      | (with_reducible refine LeO.bind ?_ (fun _ => ?_))
      | exact ih0 _ _ _ _
      | exact LeO.none _
      | refine LeO.ite ?_ ?_
      | refine LeO.bind ?_ (fun _ => ?_)
theorem slices_Index_int.mono : ∀ a0 a1 k, LeO (slices_Index_int.f k a0 a1) (slices_Index_int.f (k + 1) a0 a1) := by
  intro a0 a1 k
  have ih0 := slices_Index_int.mono_l k
  unfold slices_Index_int.f
  repeat' first
      | (with_reducible exact ih0 _ _ _ _)
      | (with_reducible exact LeO.refl _)
      | (with_reducible exact LeO.none _)
      | (with_reducible refine LeO.ite ?_ ?_)
      | (with_reducible refine LeO.bind ?_ (fun _ => ?_))
      | exact ih0 _ _ _ _
      | exact LeO.none _
      | refine LeO.ite ?_ ?_
      | refine LeO.bind ?_ (fun _ => ?_)
set_option maxHeartbeats 8000000 in
set_option maxRecDepth 100000 in
theorem slices_Index_int.calls (k : Nat) (A0 : Option Addr) (c0 : Nat) (l0 : List Int) (a1 : Int) (r : Int) (w : World) (hr0 : Kd.C (Kd.int .i64) w A0 l0.length l0) (hc0 : l0.length ≤ c0) (h : slices_Index_int.f k l0 a1 = some r) :
    Calls Try.prog 88 #[.slice A0 l0.length c0, .int .i64 a1] w fun e w' => e = .returned (.int .i64 r) ∧ Drawn0 w w' := by
  have HR0 := Aside0.mk hr0
  have HC0 := Aside0.mk hc0
  clear hr0 hc0
  have H : (slices_Index_int.l0 k l0 a1 (l0.length : Int) 0) = some r := h
  clear h
  have H' := Aside0.mk H
  clear H
  go_enter Try.func88, Try.ntmps88
  go_wp2
  go_loopg [8] k (fun kq v8 w' => ∃ (x8_1 : Int), v8 = .int .i64 x8_1 ∧ Aside0 (slices_Index_int.l0 kq l0 a1 (l0.length : Int) x8_1 = some r) ∧ Aside0 (kq ≤ k) ∧ Drawn0 w w')
  case atStart => exact ⟨(0), (by first | rfl | (simp; done) | (simp [*]; done)), H', ⟨Nat.le_refl _⟩, by repeat (first | exact Drawn0.refl _ | apply Drawn0.step)⟩
  case round =>
    clear H'
    try clear p2
    obtain ⟨x8_1, rfl, HA, HK1, ⟨m1, rfl⟩⟩ := hrel
    cases gk with
    | zero => exact absurd HA.out (by simp [slices_Index_int.l0])
    | succ k1 =>
      have H := HA.out
      clear HA
      simp only [slices_Index_int.l0] at H
      by_cases c3 : x8_1 < (l0.length : Int)
      · rw [if_pos c3] at H
        have c3b0 : decide (x8_1 < (l0.length : Int)) = true := decide_eq_true c3
        clear c3
        by_cases c4 : 0 ≤ x8_1
        · rw [if_pos c4] at H
          have c4b0 : decide (0 ≤ x8_1) = true := decide_eq_true c4
          clear c4
          by_cases c5 : x8_1 < (l0.length : Int)
          · rw [if_pos c5] at H
            have c5b0 : decide (x8_1 < (l0.length : Int)) = true := decide_eq_true c5
            clear c5
            by_cases c6 : a1 = (rd l0 x8_1)
            · rw [if_pos c6] at H
              have c6b0 : (a1 == (rd l0 x8_1)) = true := beq_iff_eq.mpr c6
              have c6b1 : (a1 != (rd l0 x8_1)) = false := bne_eq_false_iff_eq.mpr c6
              clear c6
              obtain rfl := Option.some.inj H
              have p101 : 0 ≤ (x8_1 : Int) := of_decide_eq_true (by first | (with_reducible assumption) | assumption)
              have q101 : x8_1 < (l0.length : Int) := of_decide_eq_true (by first | (with_reducible assumption) | assumption)
              obtain ⟨ad101, e101, hx101_0⟩ := Kd.at_int HR0.out x8_1 p101 q101
              cases e101
              replace p101 := eq_true p101
              replace q101 := eq_true q101
              go_wp2
              go_ret
              exact ⟨by first | rfl | (simp; done) | (simp [*]; done), by repeat (first | exact Drawn0.refl _ | apply Drawn0.step)⟩
            · rw [if_neg c6] at H
              have c6b0 : (a1 == (rd l0 x8_1)) = false := beq_eq_false_iff_ne.mpr c6
              have c6b1 : (a1 != (rd l0 x8_1)) = true := bne_iff_ne.mpr c6
              have H' := Aside0.mk H
              clear H
              have p101 : 0 ≤ (x8_1 : Int) := of_decide_eq_true (by first | (with_reducible assumption) | assumption)
              have q101 : x8_1 < (l0.length : Int) := of_decide_eq_true (by first | (with_reducible assumption) | assumption)
              obtain ⟨ad101, e101, hx101_0⟩ := Kd.at_int HR0.out x8_1 p101 q101
              cases e101
              replace p101 := eq_true p101
              replace q101 := eq_true q101
              go_wp2
              go_roundg k1
              case measure => have := HK1.out; omega
              case rel => exact ⟨(wrap64 (x8_1 + 1)), (by first | rfl | (simp; done) | (simp [*]; done)), H', ⟨by have := HK1.out; omega⟩, by repeat (first | exact Drawn0.refl _ | apply Drawn0.step)⟩
          · rw [if_neg c5] at H
            exact absurd H (by simp)
        · rw [if_neg c4] at H
          exact absurd H (by simp)
      · rw [if_neg c3] at H
        have c3b0 : decide (x8_1 < (l0.length : Int)) = false := decide_eq_false c3
        clear c3
        obtain rfl := Option.some.inj H
        go_wp2
        go_ret
        exact ⟨by first | rfl | (simp; done) | (simp [*]; done), by repeat (first | exact Drawn0.refl _ | apply Drawn0.step)⟩

end Go.Proofs.Ytjnmecjbhfinmaa.P

-- written by wip/gen.py (this session's) with the kit's printer; Lean checks it.
namespace Go.Proofs.Ytjnmecjbhfinmaa.P
open Go.RowKit Go.Proofs.YtjnmecjbhfinmaaW.PrintWords Go.Proofs.YtjnmecjbhfinmaaW.PrintLast Go.Proofs.YtjnmecjbhfinmaaW.PrintMore
attribute [local go_sem] max2_int min2_int max_two min_two max_three min_three max_four min_four
set_option linter.unusedVariables false
set_option linter.unusedSimpArgs false

/-! ### slices_Contains_int: function 71 -/
def slices_Contains_int.f (k : Nat) (l0 : List Int) (a1 : Int) : Option (Bool) := (slices_Index_int.f k l0 a1).bind fun t101 => (some (decide (t101 ≥ 0)))
theorem slices_Contains_int.mono : ∀ a0 a1 k, LeO (slices_Contains_int.f k a0 a1) (slices_Contains_int.f (k + 1) a0 a1) := by
  intro a0 a1 k
  unfold slices_Contains_int.f
  repeat' first
      | (with_reducible exact slices_Index_int.mono _ _ _)
      | (with_reducible exact LeO.refl _)
      | (with_reducible exact LeO.none _)
      | (with_reducible refine LeO.ite ?_ ?_)
      | (with_reducible refine LeO.bind ?_ (fun _ => ?_))
      | exact slices_Index_int.mono _ _ _
      | exact LeO.none _
      | refine LeO.ite ?_ ?_
      | refine LeO.bind ?_ (fun _ => ?_)
set_option maxHeartbeats 8000000 in
set_option maxRecDepth 100000 in
theorem slices_Contains_int.calls (k : Nat) (A0 : Option Addr) (c0 : Nat) (l0 : List Int) (a1 : Int) (r : Bool) (w : World) (hr0 : Kd.C (Kd.int .i64) w A0 l0.length l0) (hc0 : l0.length ≤ c0) (h : slices_Contains_int.f k l0 a1 = some r) :
    Calls Try.prog 71 #[.slice A0 l0.length c0, .int .i64 a1] w fun e w' => e = .returned (.bool r) ∧ Drawn0 w w' := by
  have HR0 := Aside0.mk hr0
  have HC0 := Aside0.mk hc0
  clear hr0 hc0
  have H : ((slices_Index_int.f k l0 a1).bind fun t101 => (some (decide (t101 ≥ 0)))) = some r := h
  clear h
  replace H := Option.bind_eq_some_iff.mp H
  obtain ⟨t101, A30, H⟩ := H
  replace H : (some (decide (t101 ≥ 0))) = some r := H
  have A3 := Aside0.mk A30
  clear A30
  obtain rfl := Option.some.inj H
  go_enter Try.func71, Try.ntmps71
  go_wp2_with (first | ((with_reducible refine gate_callee (f := 88) rfl ?_); refine goesL_ (some 7) rfl rfl Try.func88 (by kernel_rfl) rfl #[.slice A0 l0.length c0, .int .i64 a1] rfl (by (try simp only [List.map_toArray, List.map_cons, List.map_nil]); first | done | rfl | (simp only [List.length_drop, List.length_take]; rfl)) ?_; (with_reducible refine (slices_Index_int.calls k _ _ l0 a1 t101 _ ?side1 ?side2 A3.out).mono ?_); (case side1 => repeat (first | exact HR0.out | (with_reducible refine Kd.C_alloc ?_ _) | (with_reducible refine Kd.C_drewN ?_ _) | (with_reducible refine Kd.C_drew ?_))); (case side2 => exact HC0.out); rintro e w' ⟨rfl, ⟨nd, rfl⟩⟩; refine ⟨_, rfl, ?_⟩))
  go_ret
  exact ⟨by first | rfl | (simp; done) | (simp [*]; done), by repeat (first | exact Drawn0.refl _ | apply Drawn0.step)⟩

end Go.Proofs.Ytjnmecjbhfinmaa.P

-- written by wip/gen.py (this session's) with the kit's printer; Lean checks it.
namespace Go.Proofs.Ytjnmecjbhfinmaa.P
open Go.RowKit Go.Proofs.YtjnmecjbhfinmaaW.PrintWords Go.Proofs.YtjnmecjbhfinmaaW.PrintLast Go.Proofs.YtjnmecjbhfinmaaW.PrintMore
attribute [local go_sem] max2_int min2_int max_two min_two max_three min_three max_four min_four
set_option linter.unusedVariables false
set_option linter.unusedSimpArgs false

/-! ### impl_NextQuarterWith: function 30 -/
mutual
def impl_NextQuarterWith.j0 : Nat → List ByteArray → Int → Int → Bool → Option (Int × Bool)
  | 0, _, _, _, _ => none
  | k + 1, x0, x1, x2, x23 => if x23 = true then (some (0, false)) else (impl_NextQuarterWith.l0 k x0 x1 x2)
def impl_NextQuarterWith.l0 : Nat → List ByteArray → Int → Int → Option (Int × Bool)
  | 0, _, _, _ => none
  | k + 1, x0, x1, x2 => (impl_notes.f k x0 x2).bind fun t107 => ((impl_bellText.f x1).bind fun t108 => ((strings_Contains.f t107 t108).bind fun t109 => (if t109 = true then (some (x2, true)) else (impl_NextQuarterWith.l0 k x0 x1 (wrap64 (x2 + 1))))))
end
def impl_NextQuarterWith.f (k : Nat) (l0 : List ByteArray) (a1 : Int) (a2 : Int) : Option (Int × Bool) := (impl_isQuarter.f k l0 a2).bind fun t101 => (if t101 = true then ((impl_isBell.f a1).bind fun t102 => (if t102 = true then ((impl_bells.f k l0).bind fun t103 => ((slices_Contains_int.f k t103 a1).bind fun t106 => (impl_NextQuarterWith.j0 k l0 a1 a2 (!t106)))) else (impl_NextQuarterWith.j0 k l0 a1 a2 true))) else (impl_NextQuarterWith.j0 k l0 a1 a2 true))
theorem impl_NextQuarterWith.mono_l : ∀ k, (∀ y0 y1 y2 y3, LeO (impl_NextQuarterWith.j0 k y0 y1 y2 y3) (impl_NextQuarterWith.j0 (k + 1) y0 y1 y2 y3)) ∧ (∀ y0 y1 y2, LeO (impl_NextQuarterWith.l0 k y0 y1 y2) (impl_NextQuarterWith.l0 (k + 1) y0 y1 y2))
  | 0 => ⟨fun _ _ _ _ r h => by simp [impl_NextQuarterWith.j0] at h, fun _ _ _ r h => by simp [impl_NextQuarterWith.l0] at h⟩
  | k + 1 => by
    obtain ⟨ih0, ih1⟩ := impl_NextQuarterWith.mono_l k
    refine ⟨?_, ?_⟩
    · intro y0 y1 y2 y3
      unfold impl_NextQuarterWith.j0
      repeat' first
      | (with_reducible exact ih0 _ _ _ _)
      | (with_reducible exact ih1 _ _ _)
      | (with_reducible exact impl_bells.mono _ _)
      | (with_reducible exact impl_isQuarter.mono _ _ _)
      | (with_reducible exact impl_notes.mono _ _ _)
      | (with_reducible exact slices_Contains_int.mono _ _ _)
      | (with_reducible exact LeO.refl _)
      | (with_reducible exact LeO.none _)
      | (with_reducible refine LeO.ite ?_ ?_)
      | (with_reducible refine LeO.bind ?_ (fun _ => ?_))
      | exact ih0 _ _ _ _
      | exact ih1 _ _ _
      | exact impl_bells.mono _ _
      | exact impl_isQuarter.mono _ _ _
      | exact impl_notes.mono _ _ _
      | exact slices_Contains_int.mono _ _ _
      | exact LeO.none _
      | refine LeO.ite ?_ ?_
      | refine LeO.bind ?_ (fun _ => ?_)
    · intro y0 y1 y2
      unfold impl_NextQuarterWith.l0
      repeat' first
      | (with_reducible exact ih0 _ _ _ _)
      | (with_reducible exact ih1 _ _ _)
      | (with_reducible exact impl_bells.mono _ _)
      | (with_reducible exact impl_isQuarter.mono _ _ _)
      | (with_reducible exact impl_notes.mono _ _ _)
      | (with_reducible exact slices_Contains_int.mono _ _ _)
      | (with_reducible exact LeO.refl _)
      | (with_reducible exact LeO.none _)
      | (with_reducible refine LeO.ite ?_ ?_)
      | (with_reducible refine LeO.bind ?_ (fun _ => ?_))
      | exact ih0 _ _ _ _
      | exact ih1 _ _ _
      | exact impl_bells.mono _ _
      | exact impl_isQuarter.mono _ _ _
      | exact impl_notes.mono _ _ _
      | exact slices_Contains_int.mono _ _ _
      | exact LeO.none _
      | refine LeO.ite ?_ ?_
      | refine LeO.bind ?_ (fun _ => ?_)
theorem impl_NextQuarterWith.mono : ∀ a0 a1 a2 k, LeO (impl_NextQuarterWith.f k a0 a1 a2) (impl_NextQuarterWith.f (k + 1) a0 a1 a2) := by
  intro a0 a1 a2 k
  obtain ⟨ih0, ih1⟩ := impl_NextQuarterWith.mono_l k
  unfold impl_NextQuarterWith.f
  repeat' first
      | (with_reducible exact ih0 _ _ _ _)
      | (with_reducible exact ih1 _ _ _)
      | (with_reducible exact impl_bells.mono _ _)
      | (with_reducible exact impl_isQuarter.mono _ _ _)
      | (with_reducible exact impl_notes.mono _ _ _)
      | (with_reducible exact slices_Contains_int.mono _ _ _)
      | (with_reducible exact LeO.refl _)
      | (with_reducible exact LeO.none _)
      | (with_reducible refine LeO.ite ?_ ?_)
      | (with_reducible refine LeO.bind ?_ (fun _ => ?_))
      | exact ih0 _ _ _ _
      | exact ih1 _ _ _
      | exact impl_bells.mono _ _
      | exact impl_isQuarter.mono _ _ _
      | exact impl_notes.mono _ _ _
      | exact slices_Contains_int.mono _ _ _
      | exact LeO.none _
      | refine LeO.ite ?_ ?_
      | refine LeO.bind ?_ (fun _ => ?_)
set_option maxHeartbeats 8000000 in
set_option maxRecDepth 100000 in
theorem impl_NextQuarterWith.calls (k : Nat) (A0 : Option Addr) (c0 : Nat) (l0 : List ByteArray) (a1 : Int) (a2 : Int) (r1 : Int) (r2 : Bool) (w : World) (hr0 : Kd.C Kd.string w A0 l0.length l0) (hc0 : l0.length ≤ c0) (h : impl_NextQuarterWith.f k l0 a1 a2 = some (r1, r2)) :
    Calls Try.prog 30 #[.slice A0 l0.length c0, .int .i64 a1, .int .i64 a2] w fun e w' => e = .returned (.tuple #[.int .i64 r1, .bool r2]) ∧ Below w.heap.size w w' := by
  have HR0 := Aside0.mk hr0
  have HC0 := Aside0.mk hc0
  clear hr0 hc0
  have HB := Aside0.mk (Below.refl w.heap.size w)
  have H : ((impl_isQuarter.f k l0 a2).bind fun t101 => (if t101 = true then ((impl_isBell.f a1).bind fun t102 => (if t102 = true then ((impl_bells.f k l0).bind fun t103 => ((slices_Contains_int.f k t103 a1).bind fun t106 => (impl_NextQuarterWith.j0 k l0 a1 a2 (!t106)))) else (impl_NextQuarterWith.j0 k l0 a1 a2 true))) else (impl_NextQuarterWith.j0 k l0 a1 a2 true))) = some (r1, r2) := h
  clear h
  have HC4 := Aside0.mk H
  clear H
  go_enter Try.func30, Try.ntmps30
  go_upto_region 1 with (fail)
  go_cut [23] (fun v23 wc => ∃ (kq : Nat) (x23_3 : Bool), v23 = .bool x23_3 ∧ Aside0 (impl_NextQuarterWith.j0 kq l0 a1 a2 x23_3 = some (r1, r2)) ∧ Aside0 (kq ≤ k) ∧ Aside0 (Below w.heap.size w wc))
  case first =>
    have H := HC4.out
    clear HC4
    replace H := Option.bind_eq_some_iff.mp H
    obtain ⟨t101, A50, H⟩ := H
    replace H : (if t101 = true then ((impl_isBell.f a1).bind fun t102 => (if t102 = true then ((impl_bells.f k l0).bind fun t103 => ((slices_Contains_int.f k t103 a1).bind fun t106 => (impl_NextQuarterWith.j0 k l0 a1 a2 (!t106)))) else (impl_NextQuarterWith.j0 k l0 a1 a2 true))) else (impl_NextQuarterWith.j0 k l0 a1 a2 true)) = some (r1, r2) := H
    have A5 := Aside0.mk A50
    clear A50
    by_cases c6 : t101 = true
    · subst c6
      have H1 : ((impl_isBell.f a1).bind fun t102 => (if t102 = true then ((impl_bells.f k l0).bind fun t103 => ((slices_Contains_int.f k t103 a1).bind fun t106 => (impl_NextQuarterWith.j0 k l0 a1 a2 (!t106)))) else (impl_NextQuarterWith.j0 k l0 a1 a2 true))) = some (r1, r2) := by rw [if_pos rfl] at H; exact H
      clear H
      have H := H1
      clear H1
      replace H := Option.bind_eq_some_iff.mp H
      obtain ⟨t102, A70, H⟩ := H
      replace H : (if t102 = true then ((impl_bells.f k l0).bind fun t103 => ((slices_Contains_int.f k t103 a1).bind fun t106 => (impl_NextQuarterWith.j0 k l0 a1 a2 (!t106)))) else (impl_NextQuarterWith.j0 k l0 a1 a2 true)) = some (r1, r2) := H
      have A7 := Aside0.mk A70
      clear A70
      by_cases c8 : t102 = true
      · subst c8
        have H1 : ((impl_bells.f k l0).bind fun t103 => ((slices_Contains_int.f k t103 a1).bind fun t106 => (impl_NextQuarterWith.j0 k l0 a1 a2 (!t106)))) = some (r1, r2) := by rw [if_pos rfl] at H; exact H
        clear H
        have H := H1
        clear H1
        replace H := Option.bind_eq_some_iff.mp H
        obtain ⟨t103, A90, H⟩ := H
        replace H : ((slices_Contains_int.f k t103 a1).bind fun t106 => (impl_NextQuarterWith.j0 k l0 a1 a2 (!t106))) = some (r1, r2) := H
        have A9 := Aside0.mk A90
        clear A90
        replace H := Option.bind_eq_some_iff.mp H
        obtain ⟨t106, A100, H⟩ := H
        replace H : (impl_NextQuarterWith.j0 k l0 a1 a2 (!t106)) = some (r1, r2) := H
        have A10 := Aside0.mk A100
        clear A100
        have H' := Aside0.mk H
        clear H
        go_wp2_with (first | ((with_reducible refine gate_callee (f := 64) rfl ?_); refine goesL_ (some 10) rfl rfl Try.func64 (by kernel_rfl) rfl #[.slice A0 l0.length c0, .int .i64 a2] rfl (by (try simp only [List.map_toArray, List.map_cons, List.map_nil]); first | done | rfl | (simp only [List.length_drop, List.length_take]; rfl)) ?_; (with_reducible refine (impl_isQuarter.calls k _ _ l0 a2 true _ ?side1 ?side2 A5.out).mono ?_); (case side1 => repeat (first | exact (Kd.C_below HR0.out HB.out) | (with_reducible refine Kd.C_alloc ?_ _) | (with_reducible refine Kd.C_drewN ?_ _) | (with_reducible refine Kd.C_drew ?_))); (case side2 => exact HC0.out); rintro e w11 ⟨rfl, hb⟩; refine ⟨_, rfl, ?_⟩; have n0_ := Aside0.mk (below_step (by repeat (first | (with_reducible first | exact HB.out | apply below_alloc | apply pw_below_drewN | apply below_drew1) | exact HB.out)) hb); clear HB; have HB := n0_; clear n0_; (try clear hb); (try clear hb2); (try clear hk); (try clear hi)) | (go_at_call 65; (with_reducible refine (impl_isBell.calls a1 true _ A7.out).mono ?_); rintro e w' ⟨rfl, ⟨nd, rfl⟩⟩) | (go_at_call 70; (with_reducible refine (impl_bells.calls k _ _ l0 t103 _ ?side1 ?side2 A9.out).mono ?_); (case side1 => repeat (first | exact (Kd.C_below HR0.out (by repeat (first | (with_reducible first | exact HB.out | apply below_alloc | apply pw_below_drewN | apply below_drew1) | exact HB.out))) | (with_reducible refine Kd.C_alloc ?_ _) | (with_reducible refine Kd.C_drewN ?_ _) | (with_reducible refine Kd.C_drew ?_))); (case side2 => exact HC0.out); rintro e w12 ⟨v104, rfl, ho0, hb⟩; have n0_ := Aside0.mk (Kd.R_lower ho0 (below_size (by repeat (first | (with_reducible first | exact HB.out | apply below_alloc | apply pw_below_drewN | apply below_drew1) | exact HB.out)))); have n1_ := Aside0.mk (below_step (by repeat (first | (with_reducible first | exact HB.out | apply below_alloc | apply pw_below_drewN | apply below_drew1) | exact HB.out)) hb); clear HB; have HO105 := n0_; have HB := n1_; clear n0_ n1_; (try clear hb); (try clear hb2); (try clear hk); (try clear hi); (try clear ho0); obtain ⟨Ao13, co13, eo13⟩ := Kd.R_slice HO105.out; subst eo13) | (go_at_call 71; (with_reducible refine (slices_Contains_int.calls k _ _ t103 a1 t106 _ ?side1 ?side2 A10.out).mono ?_); (case side1 => repeat (first | exact (Kd.R_reads' HO105.out).2.2 | (with_reducible refine Kd.C_alloc ?_ _) | (with_reducible refine Kd.C_drewN ?_ _) | (with_reducible refine Kd.C_drew ?_))); (case side2 => exact (Kd.R_reads' HO105.out).2.1); rintro e w' ⟨rfl, ⟨nd, rfl⟩⟩))
        go_meet
        case rel => exact ⟨_, (!t106), (by first | rfl | (simp; done) | (simp [*]; done)), H', ⟨by first | omega | exact Nat.le_refl _⟩, ⟨by repeat (first | (with_reducible first | exact HB.out | apply below_alloc | apply pw_below_drewN | apply below_drew1) | exact HB.out)⟩⟩
      · replace c8 := Bool.eq_false_iff.mpr c8
        subst c8
        have H1 : (impl_NextQuarterWith.j0 k l0 a1 a2 true) = some (r1, r2) := by rw [if_neg (show ¬ (false = true) by decide)] at H; exact H
        clear H
        have H := H1
        clear H1
        have H' := Aside0.mk H
        clear H
        go_wp2_with (first | ((with_reducible refine gate_callee (f := 64) rfl ?_); refine goesL_ (some 10) rfl rfl Try.func64 (by kernel_rfl) rfl #[.slice A0 l0.length c0, .int .i64 a2] rfl (by (try simp only [List.map_toArray, List.map_cons, List.map_nil]); first | done | rfl | (simp only [List.length_drop, List.length_take]; rfl)) ?_; (with_reducible refine (impl_isQuarter.calls k _ _ l0 a2 true _ ?side1 ?side2 A5.out).mono ?_); (case side1 => repeat (first | exact (Kd.C_below HR0.out HB.out) | (with_reducible refine Kd.C_alloc ?_ _) | (with_reducible refine Kd.C_drewN ?_ _) | (with_reducible refine Kd.C_drew ?_))); (case side2 => exact HC0.out); rintro e w14 ⟨rfl, hb⟩; refine ⟨_, rfl, ?_⟩; have n0_ := Aside0.mk (below_step (by repeat (first | (with_reducible first | exact HB.out | apply below_alloc | apply pw_below_drewN | apply below_drew1) | exact HB.out)) hb); clear HB; have HB := n0_; clear n0_; (try clear hb); (try clear hb2); (try clear hk); (try clear hi)) | (go_at_call 65; (with_reducible refine (impl_isBell.calls a1 false _ A7.out).mono ?_); rintro e w' ⟨rfl, ⟨nd, rfl⟩⟩))
        go_meet
        case rel => exact ⟨_, (true), (by first | rfl | (simp; done) | (simp [*]; done)), H', ⟨by first | omega | exact Nat.le_refl _⟩, ⟨by repeat (first | (with_reducible first | exact HB.out | apply below_alloc | apply pw_below_drewN | apply below_drew1) | exact HB.out)⟩⟩
    · replace c6 := Bool.eq_false_iff.mpr c6
      subst c6
      have H1 : (impl_NextQuarterWith.j0 k l0 a1 a2 true) = some (r1, r2) := by rw [if_neg (show ¬ (false = true) by decide)] at H; exact H
      clear H
      have H := H1
      clear H1
      have H' := Aside0.mk H
      clear H
      go_wp2_with (first | ((with_reducible refine gate_callee (f := 64) rfl ?_); refine goesL_ (some 10) rfl rfl Try.func64 (by kernel_rfl) rfl #[.slice A0 l0.length c0, .int .i64 a2] rfl (by (try simp only [List.map_toArray, List.map_cons, List.map_nil]); first | done | rfl | (simp only [List.length_drop, List.length_take]; rfl)) ?_; (with_reducible refine (impl_isQuarter.calls k _ _ l0 a2 false _ ?side1 ?side2 A5.out).mono ?_); (case side1 => repeat (first | exact (Kd.C_below HR0.out HB.out) | (with_reducible refine Kd.C_alloc ?_ _) | (with_reducible refine Kd.C_drewN ?_ _) | (with_reducible refine Kd.C_drew ?_))); (case side2 => exact HC0.out); rintro e w15 ⟨rfl, hb⟩; refine ⟨_, rfl, ?_⟩; have n0_ := Aside0.mk (below_step (by repeat (first | (with_reducible first | exact HB.out | apply below_alloc | apply pw_below_drewN | apply below_drew1) | exact HB.out)) hb); clear HB; have HB := n0_; clear n0_; (try clear hb); (try clear hb2); (try clear hk); (try clear hi)))
      go_meet
      case rel => exact ⟨_, (true), (by first | rfl | (simp; done) | (simp [*]; done)), H', ⟨by first | omega | exact Nat.le_refl _⟩, ⟨by repeat (first | (with_reducible first | exact HB.out | apply below_alloc | apply pw_below_drewN | apply below_drew1) | exact HB.out)⟩⟩
  case rest =>
    clear HC4
    try clear p2
    try clear c3
    try clear c6
    try clear c8
    obtain ⟨kq, x23_3, rfl, HA, HJ3, HB⟩ := hcut
    cases kq with
    | zero => exact absurd HA.out (by simp [impl_NextQuarterWith.j0])
    | succ kj3 =>
      have H := HA.out
      clear HA
      simp only [impl_NextQuarterWith.j0] at H
      by_cases c16 : x23_3 = true
      · subst c16
        have H1 : (some (0, false)) = some (r1, r2) := by rw [if_pos rfl] at H; exact H
        clear H
        have H := H1
        clear H1
        simp only [Option.some.injEq, Prod.mk.injEq] at H
        obtain ⟨rfl, rfl⟩ := H
        go_wp2
        go_ret2
        exact ⟨by first | rfl | (simp [errW_none, errW_some] <;> rfl) | (simp [*, errW_none, errW_some] <;> rfl), by repeat (first | (with_reducible first | exact HB.out | apply below_alloc | apply pw_below_drewN | apply below_drew1) | exact HB.out)⟩
      · replace c16 := Bool.eq_false_iff.mpr c16
        subst c16
        have H1 : (impl_NextQuarterWith.l0 kj3 l0 a1 a2) = some (r1, r2) := by rw [if_neg (show ¬ (false = true) by decide)] at H; exact H
        clear H
        have H := H1
        clear H1
        have H' := Aside0.mk H
        clear H
        go_wp2
        go_loopg [2] kj3 (fun kq v2 w' => ∃ (x2_2 : Int), v2 = .int .i64 x2_2 ∧ Aside0 (impl_NextQuarterWith.l0 kq l0 a1 x2_2 = some (r1, r2)) ∧ Aside0 (kq ≤ kj3) ∧ Aside0 (Below w.heap.size w w'))
        case atStart => exact ⟨(a2), (by first | rfl | (simp; done) | (simp [*]; done)), H', ⟨Nat.le_refl _⟩, ⟨by repeat (first | (with_reducible first | exact HB.out | apply below_alloc | apply pw_below_drewN | apply below_drew1) | exact HB.out)⟩⟩
        case round =>
          clear H'
          try clear c1
          try clear p2
          try clear c3
          try clear c6
          try clear c8
          try clear c16
          try clear p2
          obtain ⟨x2_2, rfl, HA, HK2, HB⟩ := hrel
          cases gk with
          | zero => exact absurd HA.out (by simp [impl_NextQuarterWith.l0])
          | succ k2 =>
            have H := HA.out
            clear HA
            simp only [impl_NextQuarterWith.l0] at H
            replace H := Option.bind_eq_some_iff.mp H
            obtain ⟨t107, A170, H⟩ := H
            replace H : ((impl_bellText.f a1).bind fun t108 => ((strings_Contains.f t107 t108).bind fun t109 => (if t109 = true then (some (x2_2, true)) else (impl_NextQuarterWith.l0 k2 l0 a1 (wrap64 (x2_2 + 1)))))) = some (r1, r2) := H
            have A17 := Aside0.mk A170
            clear A170
            replace H := Option.bind_eq_some_iff.mp H
            obtain ⟨t108, A180, H⟩ := H
            replace H : ((strings_Contains.f t107 t108).bind fun t109 => (if t109 = true then (some (x2_2, true)) else (impl_NextQuarterWith.l0 k2 l0 a1 (wrap64 (x2_2 + 1))))) = some (r1, r2) := H
            have A18 := Aside0.mk A180
            clear A180
            replace H := Option.bind_eq_some_iff.mp H
            obtain ⟨t109, A190, H⟩ := H
            replace H : (if t109 = true then (some (x2_2, true)) else (impl_NextQuarterWith.l0 k2 l0 a1 (wrap64 (x2_2 + 1)))) = some (r1, r2) := H
            have A19 := Aside0.mk A190
            clear A190
            by_cases c20 : t109 = true
            · subst c20
              have H1 : (some (x2_2, true)) = some (r1, r2) := by rw [if_pos rfl] at H; exact H
              clear H
              have H := H1
              clear H1
              simp only [Option.some.injEq, Prod.mk.injEq] at H
              obtain ⟨rfl, rfl⟩ := H
              go_wp2_with (first | ((with_reducible refine gate_callee (f := 53) rfl ?_); refine goesL_ (some 26) rfl rfl Try.func53 (by kernel_rfl) rfl #[.slice A0 l0.length c0, .int .i64 x2_2] rfl (by (try simp only [List.map_toArray, List.map_cons, List.map_nil]); first | done | rfl | (simp only [List.length_drop, List.length_take]; rfl)) ?_; (with_reducible refine (impl_notes.calls k2 _ _ l0 x2_2 t107 _ ?side1 ?side2 A17.out).mono ?_); (case side1 => repeat (first | exact (Kd.C_below HR0.out HB.out) | (with_reducible refine Kd.C_alloc ?_ _) | (with_reducible refine Kd.C_drewN ?_ _) | (with_reducible refine Kd.C_drew ?_))); (case side2 => exact HC0.out); rintro e w21 ⟨rfl, hb⟩; refine ⟨_, rfl, ?_⟩; have n0_ := Aside0.mk (below_step (by repeat (first | (with_reducible first | exact HB.out | apply below_alloc | apply pw_below_drewN | apply below_drew1) | exact HB.out)) hb); clear HB; have HB := n0_; clear n0_; (try clear hb); (try clear hb2); (try clear hk); (try clear hi)) | ((with_reducible refine gate_callee (f := 69) rfl ?_); refine goesL_ (some 28) rfl rfl Try.func69 (by kernel_rfl) rfl #[.int .i64 a1] rfl (by (try simp only [List.map_toArray, List.map_cons, List.map_nil]); first | done | rfl | (simp only [List.length_drop, List.length_take]; rfl)) ?_; (with_reducible refine (impl_bellText.calls a1 t108 _ A18.out).mono ?_); rintro e w' ⟨rfl, ⟨nd, rfl⟩⟩; refine ⟨_, rfl, ?_⟩) | ((with_reducible refine gate_callee (f := 72) rfl ?_); refine goesL_ (some 29) rfl rfl Try.func72 (by kernel_rfl) rfl #[.string t107, .string t108] rfl (by (try simp only [List.map_toArray, List.map_cons, List.map_nil]); first | done | rfl | (simp only [List.length_drop, List.length_take]; rfl)) ?_; (with_reducible refine (strings_Contains.calls t107 t108 true _ A19.out).mono ?_); rintro e w' ⟨rfl, ⟨nd, rfl⟩⟩; refine ⟨_, rfl, ?_⟩))
              go_ret2
              exact ⟨by first | rfl | (simp [errW_none, errW_some] <;> rfl) | (simp [*, errW_none, errW_some] <;> rfl), by repeat (first | (with_reducible first | exact HB.out | apply below_alloc | apply pw_below_drewN | apply below_drew1) | exact HB.out)⟩
            · replace c20 := Bool.eq_false_iff.mpr c20
              subst c20
              have H1 : (impl_NextQuarterWith.l0 k2 l0 a1 (wrap64 (x2_2 + 1))) = some (r1, r2) := by rw [if_neg (show ¬ (false = true) by decide)] at H; exact H
              clear H
              have H := H1
              clear H1
              have H' := Aside0.mk H
              clear H
              go_wp2_with (first | ((with_reducible refine gate_callee (f := 53) rfl ?_); refine goesL_ (some 26) rfl rfl Try.func53 (by kernel_rfl) rfl #[.slice A0 l0.length c0, .int .i64 x2_2] rfl (by (try simp only [List.map_toArray, List.map_cons, List.map_nil]); first | done | rfl | (simp only [List.length_drop, List.length_take]; rfl)) ?_; (with_reducible refine (impl_notes.calls k2 _ _ l0 x2_2 t107 _ ?side1 ?side2 A17.out).mono ?_); (case side1 => repeat (first | exact (Kd.C_below HR0.out HB.out) | (with_reducible refine Kd.C_alloc ?_ _) | (with_reducible refine Kd.C_drewN ?_ _) | (with_reducible refine Kd.C_drew ?_))); (case side2 => exact HC0.out); rintro e w22 ⟨rfl, hb⟩; refine ⟨_, rfl, ?_⟩; have n0_ := Aside0.mk (below_step (by repeat (first | (with_reducible first | exact HB.out | apply below_alloc | apply pw_below_drewN | apply below_drew1) | exact HB.out)) hb); clear HB; have HB := n0_; clear n0_; (try clear hb); (try clear hb2); (try clear hk); (try clear hi)) | ((with_reducible refine gate_callee (f := 69) rfl ?_); refine goesL_ (some 28) rfl rfl Try.func69 (by kernel_rfl) rfl #[.int .i64 a1] rfl (by (try simp only [List.map_toArray, List.map_cons, List.map_nil]); first | done | rfl | (simp only [List.length_drop, List.length_take]; rfl)) ?_; (with_reducible refine (impl_bellText.calls a1 t108 _ A18.out).mono ?_); rintro e w' ⟨rfl, ⟨nd, rfl⟩⟩; refine ⟨_, rfl, ?_⟩) | ((with_reducible refine gate_callee (f := 72) rfl ?_); refine goesL_ (some 29) rfl rfl Try.func72 (by kernel_rfl) rfl #[.string t107, .string t108] rfl (by (try simp only [List.map_toArray, List.map_cons, List.map_nil]); first | done | rfl | (simp only [List.length_drop, List.length_take]; rfl)) ?_; (with_reducible refine (strings_Contains.calls t107 t108 false _ A19.out).mono ?_); rintro e w' ⟨rfl, ⟨nd, rfl⟩⟩; refine ⟨_, rfl, ?_⟩))
              go_roundg k2
              case measure => have := HJ3.out; have := HK2.out; omega
              case rel => exact ⟨(wrap64 (x2_2 + 1)), (by first | rfl | (simp; done) | (simp [*]; done)), H', ⟨by have := HJ3.out; have := HK2.out; omega⟩, ⟨by repeat (first | (with_reducible first | exact HB.out | apply below_alloc | apply pw_below_drewN | apply below_drew1) | exact HB.out)⟩⟩

end Go.Proofs.Ytjnmecjbhfinmaa.P

-- written by wip/gen.py (this session's) with the kit's printer; Lean checks it.
namespace Go.Proofs.Ytjnmecjbhfinmaa.P
open Go.RowKit Go.Proofs.YtjnmecjbhfinmaaW.PrintWords Go.Proofs.YtjnmecjbhfinmaaW.PrintLast Go.Proofs.YtjnmecjbhfinmaaW.PrintMore
attribute [local go_sem] max2_int min2_int max_two min_two max_three min_three max_four min_four
set_option linter.unusedVariables false
set_option linter.unusedSimpArgs false

/-! ### spec_NextQuarterWith: function 29 -/
mutual
def spec_NextQuarterWith.j0 : Nat → List ByteArray → Int → Int → Bool → Option (Int × Bool)
  | 0, _, _, _, _ => none
  | k + 1, x0, x1, x2, x17 => if x17 = true then (some (0, false)) else (spec_NextQuarterWith.l0 k x0 x1 x2 0)
def spec_NextQuarterWith.l0 : Nat → List ByteArray → Int → Int → Int → Option (Int × Bool)
  | 0, _, _, _, _ => none
  | k + 1, x0, x1, x2, x8 => (spec_beHours.f k x0).bind fun t103 => (if x8 < (wrap64 (4 * t103)) then ((spec_beNotes.f k x0 (wrap64 (x2 + x8))).bind fun t104 => ((spec_beBell.f k t104 x1).bind fun t105 => (if t105 > 0 then (some (wrap64 (x2 + x8), true)) else (spec_NextQuarterWith.l0 k x0 x1 x2 (wrap64 (x8 + 1)))))) else (some (0, false)))
end
def spec_NextQuarterWith.f (k : Nat) (l0 : List ByteArray) (a1 : Int) (a2 : Int) : Option (Int × Bool) := (spec_beAsked.f k l0 a2).bind fun t101 => (if t101 = true then ((spec_beIs.f a1).bind fun t102 => (spec_NextQuarterWith.j0 k l0 a1 a2 (!t102))) else (spec_NextQuarterWith.j0 k l0 a1 a2 true))
theorem spec_NextQuarterWith.mono_l : ∀ k, (∀ y0 y1 y2 y3, LeO (spec_NextQuarterWith.j0 k y0 y1 y2 y3) (spec_NextQuarterWith.j0 (k + 1) y0 y1 y2 y3)) ∧ (∀ y0 y1 y2 y3, LeO (spec_NextQuarterWith.l0 k y0 y1 y2 y3) (spec_NextQuarterWith.l0 (k + 1) y0 y1 y2 y3))
  | 0 => ⟨fun _ _ _ _ r h => by simp [spec_NextQuarterWith.j0] at h, fun _ _ _ _ r h => by simp [spec_NextQuarterWith.l0] at h⟩
  | k + 1 => by
    obtain ⟨ih0, ih1⟩ := spec_NextQuarterWith.mono_l k
    refine ⟨?_, ?_⟩
    · intro y0 y1 y2 y3
      unfold spec_NextQuarterWith.j0
      repeat' first
      | (with_reducible exact ih0 _ _ _ _)
      | (with_reducible exact ih1 _ _ _ _)
      | (with_reducible exact spec_beAsked.mono _ _ _)
      | (with_reducible exact spec_beBell.mono _ _ _)
      | (with_reducible exact spec_beHours.mono _ _)
      | (with_reducible exact spec_beNotes.mono _ _ _)
      | (with_reducible exact LeO.refl _)
      | (with_reducible exact LeO.none _)
      | (with_reducible refine LeO.ite ?_ ?_)
      | (with_reducible refine LeO.bind ?_ (fun _ => ?_))
      | exact ih0 _ _ _ _
      | exact ih1 _ _ _ _
      | exact spec_beAsked.mono _ _ _
      | exact spec_beBell.mono _ _ _
      | exact spec_beHours.mono _ _
      | exact spec_beNotes.mono _ _ _
      | exact LeO.none _
      | refine LeO.ite ?_ ?_
      | refine LeO.bind ?_ (fun _ => ?_)
    · intro y0 y1 y2 y3
      unfold spec_NextQuarterWith.l0
      repeat' first
      | (with_reducible exact ih0 _ _ _ _)
      | (with_reducible exact ih1 _ _ _ _)
      | (with_reducible exact spec_beAsked.mono _ _ _)
      | (with_reducible exact spec_beBell.mono _ _ _)
      | (with_reducible exact spec_beHours.mono _ _)
      | (with_reducible exact spec_beNotes.mono _ _ _)
      | (with_reducible exact LeO.refl _)
      | (with_reducible exact LeO.none _)
      | (with_reducible refine LeO.ite ?_ ?_)
      | (with_reducible refine LeO.bind ?_ (fun _ => ?_))
      | exact ih0 _ _ _ _
      | exact ih1 _ _ _ _
      | exact spec_beAsked.mono _ _ _
      | exact spec_beBell.mono _ _ _
      | exact spec_beHours.mono _ _
      | exact spec_beNotes.mono _ _ _
      | exact LeO.none _
      | refine LeO.ite ?_ ?_
      | refine LeO.bind ?_ (fun _ => ?_)
theorem spec_NextQuarterWith.mono : ∀ a0 a1 a2 k, LeO (spec_NextQuarterWith.f k a0 a1 a2) (spec_NextQuarterWith.f (k + 1) a0 a1 a2) := by
  intro a0 a1 a2 k
  obtain ⟨ih0, ih1⟩ := spec_NextQuarterWith.mono_l k
  unfold spec_NextQuarterWith.f
  repeat' first
      | (with_reducible exact ih0 _ _ _ _)
      | (with_reducible exact ih1 _ _ _ _)
      | (with_reducible exact spec_beAsked.mono _ _ _)
      | (with_reducible exact spec_beBell.mono _ _ _)
      | (with_reducible exact spec_beHours.mono _ _)
      | (with_reducible exact spec_beNotes.mono _ _ _)
      | (with_reducible exact LeO.refl _)
      | (with_reducible exact LeO.none _)
      | (with_reducible refine LeO.ite ?_ ?_)
      | (with_reducible refine LeO.bind ?_ (fun _ => ?_))
      | exact ih0 _ _ _ _
      | exact ih1 _ _ _ _
      | exact spec_beAsked.mono _ _ _
      | exact spec_beBell.mono _ _ _
      | exact spec_beHours.mono _ _
      | exact spec_beNotes.mono _ _ _
      | exact LeO.none _
      | refine LeO.ite ?_ ?_
      | refine LeO.bind ?_ (fun _ => ?_)
set_option maxHeartbeats 8000000 in
set_option maxRecDepth 100000 in
theorem spec_NextQuarterWith.calls (k : Nat) (A0 : Option Addr) (c0 : Nat) (l0 : List ByteArray) (a1 : Int) (a2 : Int) (r1 : Int) (r2 : Bool) (w : World) (hr0 : Kd.C Kd.string w A0 l0.length l0) (hc0 : l0.length ≤ c0) (h : spec_NextQuarterWith.f k l0 a1 a2 = some (r1, r2)) :
    Calls Try.prog 29 #[.slice A0 l0.length c0, .int .i64 a1, .int .i64 a2] w fun e w' => e = .returned (.tuple #[.int .i64 r1, .bool r2]) ∧ Below w.heap.size w w' := by
  have HR0 := Aside0.mk hr0
  have HC0 := Aside0.mk hc0
  clear hr0 hc0
  have HB := Aside0.mk (Below.refl w.heap.size w)
  have H : ((spec_beAsked.f k l0 a2).bind fun t101 => (if t101 = true then ((spec_beIs.f a1).bind fun t102 => (spec_NextQuarterWith.j0 k l0 a1 a2 (!t102))) else (spec_NextQuarterWith.j0 k l0 a1 a2 true))) = some (r1, r2) := h
  clear h
  have HC4 := Aside0.mk H
  clear H
  go_enter Try.func29, Try.ntmps29
  go_upto_region 1 with (fail)
  go_cut [17] (fun v17 wc => ∃ (kq : Nat) (x17_3 : Bool), v17 = .bool x17_3 ∧ Aside0 (spec_NextQuarterWith.j0 kq l0 a1 a2 x17_3 = some (r1, r2)) ∧ Aside0 (kq ≤ k) ∧ Aside0 (Below w.heap.size w wc))
  case first =>
    have H := HC4.out
    clear HC4
    replace H := Option.bind_eq_some_iff.mp H
    obtain ⟨t101, A50, H⟩ := H
    replace H : (if t101 = true then ((spec_beIs.f a1).bind fun t102 => (spec_NextQuarterWith.j0 k l0 a1 a2 (!t102))) else (spec_NextQuarterWith.j0 k l0 a1 a2 true)) = some (r1, r2) := H
    have A5 := Aside0.mk A50
    clear A50
    by_cases c6 : t101 = true
    · subst c6
      have H1 : ((spec_beIs.f a1).bind fun t102 => (spec_NextQuarterWith.j0 k l0 a1 a2 (!t102))) = some (r1, r2) := by rw [if_pos rfl] at H; exact H
      clear H
      have H := H1
      clear H1
      replace H := Option.bind_eq_some_iff.mp H
      obtain ⟨t102, A70, H⟩ := H
      replace H : (spec_NextQuarterWith.j0 k l0 a1 a2 (!t102)) = some (r1, r2) := H
      have A7 := Aside0.mk A70
      clear A70
      have H' := Aside0.mk H
      clear H
      go_wp2_with (first | ((with_reducible refine gate_callee (f := 59) rfl ?_); refine goesL_ (some 11) rfl rfl Try.func59 (by kernel_rfl) rfl #[.slice A0 l0.length c0, .int .i64 a2] rfl (by (try simp only [List.map_toArray, List.map_cons, List.map_nil]); first | done | rfl | (simp only [List.length_drop, List.length_take]; rfl)) ?_; (with_reducible refine (spec_beAsked.calls k _ _ l0 a2 true _ ?side1 ?side2 A5.out).mono ?_); (case side1 => repeat (first | exact (Kd.C_below HR0.out HB.out) | (with_reducible refine Kd.C_alloc ?_ _) | (with_reducible refine Kd.C_drewN ?_ _) | (with_reducible refine Kd.C_drew ?_))); (case side2 => exact HC0.out); rintro e w' ⟨rfl, ⟨nd, rfl⟩⟩; refine ⟨_, rfl, ?_⟩) | (go_at_call 60; (with_reducible refine (spec_beIs.calls a1 t102 _ A7.out).mono ?_); rintro e w' ⟨rfl, ⟨nd, rfl⟩⟩))
      go_meet
      case rel => exact ⟨_, (!t102), (by first | rfl | (simp; done) | (simp [*]; done)), H', ⟨by first | omega | exact Nat.le_refl _⟩, ⟨by repeat (first | (with_reducible first | exact HB.out | apply below_alloc | apply pw_below_drewN | apply below_drew1) | exact HB.out)⟩⟩
    · replace c6 := Bool.eq_false_iff.mpr c6
      subst c6
      have H1 : (spec_NextQuarterWith.j0 k l0 a1 a2 true) = some (r1, r2) := by rw [if_neg (show ¬ (false = true) by decide)] at H; exact H
      clear H
      have H := H1
      clear H1
      have H' := Aside0.mk H
      clear H
      go_wp2_with (first | ((with_reducible refine gate_callee (f := 59) rfl ?_); refine goesL_ (some 11) rfl rfl Try.func59 (by kernel_rfl) rfl #[.slice A0 l0.length c0, .int .i64 a2] rfl (by (try simp only [List.map_toArray, List.map_cons, List.map_nil]); first | done | rfl | (simp only [List.length_drop, List.length_take]; rfl)) ?_; (with_reducible refine (spec_beAsked.calls k _ _ l0 a2 false _ ?side1 ?side2 A5.out).mono ?_); (case side1 => repeat (first | exact (Kd.C_below HR0.out HB.out) | (with_reducible refine Kd.C_alloc ?_ _) | (with_reducible refine Kd.C_drewN ?_ _) | (with_reducible refine Kd.C_drew ?_))); (case side2 => exact HC0.out); rintro e w' ⟨rfl, ⟨nd, rfl⟩⟩; refine ⟨_, rfl, ?_⟩))
      go_meet
      case rel => exact ⟨_, (true), (by first | rfl | (simp; done) | (simp [*]; done)), H', ⟨by first | omega | exact Nat.le_refl _⟩, ⟨by repeat (first | (with_reducible first | exact HB.out | apply below_alloc | apply pw_below_drewN | apply below_drew1) | exact HB.out)⟩⟩
  case rest =>
    clear HC4
    try clear c2
    try clear p2
    try clear c5
    try clear c6
    obtain ⟨kq, x17_3, rfl, HA, HJ3, HB⟩ := hcut
    cases kq with
    | zero => exact absurd HA.out (by simp [spec_NextQuarterWith.j0])
    | succ kj3 =>
      have H := HA.out
      clear HA
      simp only [spec_NextQuarterWith.j0] at H
      by_cases c8 : x17_3 = true
      · subst c8
        have H1 : (some (0, false)) = some (r1, r2) := by rw [if_pos rfl] at H; exact H
        clear H
        have H := H1
        clear H1
        simp only [Option.some.injEq, Prod.mk.injEq] at H
        obtain ⟨rfl, rfl⟩ := H
        go_wp2
        go_ret2
        exact ⟨by first | rfl | (simp [errW_none, errW_some] <;> rfl) | (simp [*, errW_none, errW_some] <;> rfl), by repeat (first | (with_reducible first | exact HB.out | apply below_alloc | apply pw_below_drewN | apply below_drew1) | exact HB.out)⟩
      · replace c8 := Bool.eq_false_iff.mpr c8
        subst c8
        have H1 : (spec_NextQuarterWith.l0 kj3 l0 a1 a2 0) = some (r1, r2) := by rw [if_neg (show ¬ (false = true) by decide)] at H; exact H
        clear H
        have H := H1
        clear H1
        have H' := Aside0.mk H
        clear H
        go_wp2
        go_loopg [8] kj3 (fun kq v8 w' => ∃ (x8_2 : Int), v8 = .int .i64 x8_2 ∧ Aside0 (spec_NextQuarterWith.l0 kq l0 a1 a2 x8_2 = some (r1, r2)) ∧ Aside0 (kq ≤ kj3) ∧ Aside0 (Below w.heap.size w w'))
        case atStart => exact ⟨(0), (by first | rfl | (simp; done) | (simp [*]; done)), H', ⟨Nat.le_refl _⟩, ⟨by repeat (first | (with_reducible first | exact HB.out | apply below_alloc | apply pw_below_drewN | apply below_drew1) | exact HB.out)⟩⟩
        case round =>
          clear H'
          try clear c2
          try clear p2
          try clear c5
          try clear c6
          try clear c8
          try clear p2
          obtain ⟨x8_2, rfl, HA, HK2, HB⟩ := hrel
          cases gk with
          | zero => exact absurd HA.out (by simp [spec_NextQuarterWith.l0])
          | succ k2 =>
            have H := HA.out
            clear HA
            simp only [spec_NextQuarterWith.l0] at H
            replace H := Option.bind_eq_some_iff.mp H
            obtain ⟨t103, A90, H⟩ := H
            replace H : (if x8_2 < (wrap64 (4 * t103)) then ((spec_beNotes.f k2 l0 (wrap64 (a2 + x8_2))).bind fun t104 => ((spec_beBell.f k2 t104 a1).bind fun t105 => (if t105 > 0 then (some (wrap64 (a2 + x8_2), true)) else (spec_NextQuarterWith.l0 k2 l0 a1 a2 (wrap64 (x8_2 + 1)))))) else (some (0, false))) = some (r1, r2) := H
            have A9 := Aside0.mk A90
            clear A90
            by_cases c10 : x8_2 < (wrap64 (4 * t103))
            · rw [if_pos c10] at H
              have c10b0 : decide (x8_2 < (wrap64 (4 * t103))) = true := decide_eq_true c10
              clear c10
              replace H := Option.bind_eq_some_iff.mp H
              obtain ⟨t104, A110, H⟩ := H
              replace H : ((spec_beBell.f k2 t104 a1).bind fun t105 => (if t105 > 0 then (some (wrap64 (a2 + x8_2), true)) else (spec_NextQuarterWith.l0 k2 l0 a1 a2 (wrap64 (x8_2 + 1))))) = some (r1, r2) := H
              have A11 := Aside0.mk A110
              clear A110
              replace H := Option.bind_eq_some_iff.mp H
              obtain ⟨t105, A120, H⟩ := H
              replace H : (if t105 > 0 then (some (wrap64 (a2 + x8_2), true)) else (spec_NextQuarterWith.l0 k2 l0 a1 a2 (wrap64 (x8_2 + 1)))) = some (r1, r2) := H
              have A12 := Aside0.mk A120
              clear A120
              by_cases c13 : t105 > 0
              · rw [if_pos c13] at H
                have c13b0 : decide (0 < t105) = true := decide_eq_true c13
                clear c13
                simp only [Option.some.injEq, Prod.mk.injEq] at H
                obtain ⟨rfl, rfl⟩ := H
                go_wp2_with (first | ((with_reducible refine gate_callee (f := 50) rfl ?_); refine goesL_ (some 20) rfl rfl Try.func50 (by kernel_rfl) rfl #[.slice A0 l0.length c0] rfl (by (try simp only [List.map_toArray, List.map_cons, List.map_nil]); first | done | rfl | (simp only [List.length_drop, List.length_take]; rfl)) ?_; (with_reducible refine (spec_beHours.calls k2 _ _ l0 t103 _ ?side1 ?side2 A9.out).mono ?_); (case side1 => repeat (first | exact (Kd.C_below HR0.out HB.out) | (with_reducible refine Kd.C_alloc ?_ _) | (with_reducible refine Kd.C_drewN ?_ _) | (with_reducible refine Kd.C_drew ?_))); (case side2 => exact HC0.out); rintro e w' ⟨rfl, ⟨nd, rfl⟩⟩; refine ⟨_, rfl, ?_⟩) | ((with_reducible refine gate_callee (f := 51) rfl ?_); refine goesL_ (some 29) rfl rfl Try.func51 (by kernel_rfl) rfl #[.slice A0 l0.length c0, .int .i64 (wrap64 (a2 + x8_2))] rfl (by (try simp only [List.map_toArray, List.map_cons, List.map_nil]); first | done | rfl | (simp only [List.length_drop, List.length_take]; rfl)) ?_; (with_reducible refine (spec_beNotes.calls k2 _ _ l0 (wrap64 (a2 + x8_2)) t104 _ ?side1 ?side2 A11.out).mono ?_); (case side1 => repeat (first | exact (Kd.C_below HR0.out (by repeat (first | (with_reducible first | exact HB.out | apply below_alloc | apply pw_below_drewN | apply below_drew1) | exact HB.out))) | (with_reducible refine Kd.C_alloc ?_ _) | (with_reducible refine Kd.C_drewN ?_ _) | (with_reducible refine Kd.C_drew ?_))); (case side2 => exact HC0.out); rintro e w14 ⟨rfl, hb⟩; refine ⟨_, rfl, ?_⟩; have n0_ := Aside0.mk (below_step (by repeat (first | (with_reducible first | exact HB.out | apply below_alloc | apply pw_below_drewN | apply below_drew1) | exact HB.out)) hb); clear HB; have HB := n0_; clear n0_; (try clear hb); (try clear hb2); (try clear hk); (try clear hi)) | ((with_reducible refine gate_callee (f := 61) rfl ?_); refine goesL_ (some 31) rfl rfl Try.func61 (by kernel_rfl) rfl #[.string t104, .int .i64 a1] rfl (by (try simp only [List.map_toArray, List.map_cons, List.map_nil]); first | done | rfl | (simp only [List.length_drop, List.length_take]; rfl)) ?_; (with_reducible refine (spec_beBell.calls k2 t104 a1 t105 _ A12.out).mono ?_); rintro e w' ⟨rfl, ⟨nd, rfl⟩⟩; refine ⟨_, rfl, ?_⟩))
                go_ret2
                exact ⟨by first | rfl | (simp [errW_none, errW_some] <;> rfl) | (simp [*, errW_none, errW_some] <;> rfl), by repeat (first | (with_reducible first | exact HB.out | apply below_alloc | apply pw_below_drewN | apply below_drew1) | exact HB.out)⟩
              · rw [if_neg c13] at H
                have c13b0 : decide (0 < t105) = false := decide_eq_false c13
                clear c13
                have H' := Aside0.mk H
                clear H
                go_wp2_with (first | ((with_reducible refine gate_callee (f := 50) rfl ?_); refine goesL_ (some 20) rfl rfl Try.func50 (by kernel_rfl) rfl #[.slice A0 l0.length c0] rfl (by (try simp only [List.map_toArray, List.map_cons, List.map_nil]); first | done | rfl | (simp only [List.length_drop, List.length_take]; rfl)) ?_; (with_reducible refine (spec_beHours.calls k2 _ _ l0 t103 _ ?side1 ?side2 A9.out).mono ?_); (case side1 => repeat (first | exact (Kd.C_below HR0.out HB.out) | (with_reducible refine Kd.C_alloc ?_ _) | (with_reducible refine Kd.C_drewN ?_ _) | (with_reducible refine Kd.C_drew ?_))); (case side2 => exact HC0.out); rintro e w' ⟨rfl, ⟨nd, rfl⟩⟩; refine ⟨_, rfl, ?_⟩) | ((with_reducible refine gate_callee (f := 51) rfl ?_); refine goesL_ (some 29) rfl rfl Try.func51 (by kernel_rfl) rfl #[.slice A0 l0.length c0, .int .i64 (wrap64 (a2 + x8_2))] rfl (by (try simp only [List.map_toArray, List.map_cons, List.map_nil]); first | done | rfl | (simp only [List.length_drop, List.length_take]; rfl)) ?_; (with_reducible refine (spec_beNotes.calls k2 _ _ l0 (wrap64 (a2 + x8_2)) t104 _ ?side1 ?side2 A11.out).mono ?_); (case side1 => repeat (first | exact (Kd.C_below HR0.out (by repeat (first | (with_reducible first | exact HB.out | apply below_alloc | apply pw_below_drewN | apply below_drew1) | exact HB.out))) | (with_reducible refine Kd.C_alloc ?_ _) | (with_reducible refine Kd.C_drewN ?_ _) | (with_reducible refine Kd.C_drew ?_))); (case side2 => exact HC0.out); rintro e w15 ⟨rfl, hb⟩; refine ⟨_, rfl, ?_⟩; have n0_ := Aside0.mk (below_step (by repeat (first | (with_reducible first | exact HB.out | apply below_alloc | apply pw_below_drewN | apply below_drew1) | exact HB.out)) hb); clear HB; have HB := n0_; clear n0_; (try clear hb); (try clear hb2); (try clear hk); (try clear hi)) | ((with_reducible refine gate_callee (f := 61) rfl ?_); refine goesL_ (some 31) rfl rfl Try.func61 (by kernel_rfl) rfl #[.string t104, .int .i64 a1] rfl (by (try simp only [List.map_toArray, List.map_cons, List.map_nil]); first | done | rfl | (simp only [List.length_drop, List.length_take]; rfl)) ?_; (with_reducible refine (spec_beBell.calls k2 t104 a1 t105 _ A12.out).mono ?_); rintro e w' ⟨rfl, ⟨nd, rfl⟩⟩; refine ⟨_, rfl, ?_⟩))
                go_roundg k2
                case measure => have := HJ3.out; have := HK2.out; omega
                case rel => exact ⟨(wrap64 (x8_2 + 1)), (by first | rfl | (simp; done) | (simp [*]; done)), H', ⟨by have := HJ3.out; have := HK2.out; omega⟩, ⟨by repeat (first | (with_reducible first | exact HB.out | apply below_alloc | apply pw_below_drewN | apply below_drew1) | exact HB.out)⟩⟩
            · rw [if_neg c10] at H
              have c10b0 : decide (x8_2 < (wrap64 (4 * t103))) = false := decide_eq_false c10
              clear c10
              simp only [Option.some.injEq, Prod.mk.injEq] at H
              obtain ⟨rfl, rfl⟩ := H
              go_wp2_with (first | ((with_reducible refine gate_callee (f := 50) rfl ?_); refine goesL_ (some 20) rfl rfl Try.func50 (by kernel_rfl) rfl #[.slice A0 l0.length c0] rfl (by (try simp only [List.map_toArray, List.map_cons, List.map_nil]); first | done | rfl | (simp only [List.length_drop, List.length_take]; rfl)) ?_; (with_reducible refine (spec_beHours.calls k2 _ _ l0 t103 _ ?side1 ?side2 A9.out).mono ?_); (case side1 => repeat (first | exact (Kd.C_below HR0.out HB.out) | (with_reducible refine Kd.C_alloc ?_ _) | (with_reducible refine Kd.C_drewN ?_ _) | (with_reducible refine Kd.C_drew ?_))); (case side2 => exact HC0.out); rintro e w' ⟨rfl, ⟨nd, rfl⟩⟩; refine ⟨_, rfl, ?_⟩))
              go_ret2
              exact ⟨by first | rfl | (simp [errW_none, errW_some] <;> rfl) | (simp [*, errW_none, errW_some] <;> rfl), by repeat (first | (with_reducible first | exact HB.out | apply below_alloc | apply pw_below_drewN | apply below_drew1) | exact HB.out)⟩

end Go.Proofs.Ytjnmecjbhfinmaa.P

/- The quarters at which a bell is played: one comes in each whole round. -/
namespace Go.Proofs.Ytjnmecjbhfinmaa.P
open Go.RowKit Go.Proofs.YtjnmecjbhfinmaaW.PrintWords Go.Proofs.YtjnmecjbhfinmaaW.PrintLast
set_option linter.unusedVariables false
set_option linter.unusedSimpArgs false

theorem count_addAll (l : List ByteArray) (c : UInt8) : ∀ (L : List Int) (acc : ByteArray), (addAll l acc L).data.toList.count c = acc.data.toList.count c + (L.map fun x => (rdOf ByteArray.empty l x).data.toList.count c).sum
  | [], acc => by simp [addAll]
  | x :: L, acc => by
    rw [addAll, count_addAll l c L]
    simp only [List.map_cons, List.sum_cons]
    have : (acc ++ rdOf ByteArray.empty l x).data.toList = acc.data.toList ++ (rdOf ByteArray.empty l x).data.toList := by simp
    rw [this, List.count_append]
    omega
theorem size_addAll (l : List ByteArray) (hs : ∀ s ∈ l, s.size ≤ 8) : ∀ (L : List Int) (acc : ByteArray), (∀ x ∈ L, 0 ≤ x ∧ x < l.length) → (addAll l acc L).size ≤ acc.size + 8 * L.length
  | [], acc, _ => by simp [addAll]
  | x :: L, acc, h => by
    have hb := h x List.mem_cons_self
    have ih := size_addAll l hs L (acc ++ rdOf ByteArray.empty l x) (fun y hy => h y (List.mem_cons_of_mem _ hy))
    have hsz : (rdOf ByteArray.empty l x).size ≤ 8 := by
      obtain ⟨j, hj⟩ : ∃ j : Nat, x = j := ⟨x.toNat, by omega⟩
      rw [hj, rdS l j (by omega)]
      exact hs _ (List.getElem_mem _)
    rw [addAll]
    rw [ByteArray.size_append] at ih
    rw [List.length_cons]
    omega
theorem notesOf_size (l : List ByteArray) (ht : tuneOk l = true) {q : Int} (h : 0 ≤ q) : (notesOf l q).size ≤ 32 := by
  obtain ⟨h1, h2, hs⟩ := tuneOk_facts ht
  have := size_addAll l (fun s h => (hs s h).2) (plays l.length (before q) (cnt q)) (⟨#[]⟩ : ByteArray) (plays_in _ h1 _ _)
  have hc := (cnt_eq h).2
  rw [plays_length] at this
  have e : (⟨#[]⟩ : ByteArray).size = 0 := rfl
  unfold notesOf
  omega
theorem sum_pos : ∀ (L : List Nat), 0 < L.sum ↔ ∃ x ∈ L, 0 < x
  | [] => by simp
  | x :: L => by
    have ih := sum_pos L
    simp only [List.sum_cons, List.mem_cons]
    constructor
    · intro h
      by_cases e : 0 < x
      · exact ⟨x, Or.inl rfl, e⟩
      · obtain ⟨y, hy, h2⟩ := ih.1 (by omega)
        exact ⟨y, Or.inr hy, h2⟩
    · rintro ⟨y, rfl | hy, h2⟩
      · omega
      · have := ih.2 ⟨y, hy, h2⟩; omega
theorem bellN_notes (l : List ByteArray) (b q : Int) : bellN (notesOf l q) b = ((plays l.length (before q) (cnt q)).map fun x => bellN (rdOf ByteArray.empty l x) b).sum := by
  unfold bellN notesOf
  rw [count_addAll]
  simp
theorem notes_bell_iff (l : List ByteArray) (b : Int) (q : Int) : 0 < bellN (notesOf l q) b ↔ ∃ x ∈ plays l.length (before q) (cnt q), 0 < bellN (rdOf ByteArray.empty l x) b := by
  rw [bellN_notes, sum_pos]
  simp only [List.mem_map]
  constructor
  · rintro ⟨y, ⟨x, hx, rfl⟩, h⟩
    exact ⟨x, hx, h⟩
  · rintro ⟨x, hx, h⟩
    exact ⟨_, ⟨x, hx, rfl⟩, h⟩
theorem notes_nobell (l : List ByteArray) (h1 : 1 ≤ l.length) {b : Int} (hb : hasBell l b = false) (q : Int) : ¬ 0 < bellN (notesOf l q) b := by
  rw [notes_bell_iff]
  rintro ⟨x, hx, h⟩
  have hi := plays_in l.length h1 _ _ x hx
  obtain ⟨j, hj⟩ : ∃ j : Nat, x = j := ⟨x.toNat, by omega⟩
  have hjl : j < l.length := by omega
  rw [hj, rdS l j hjl] at h
  have : hasBell l b = true := by
    unfold hasBell
    rw [List.any_eq_true]
    exact ⟨l[j], List.getElem_mem hjl, by simpa using h⟩
  rw [hb] at this
  cases this
theorem before_find {q : Int} (h : 0 ≤ q) (K : Int) (h0 : before q ≤ K) : ∀ d : Nat, K < before (q + d) → ∃ j : Nat, j < d ∧ before (q + j) ≤ K ∧ K < before (q + j + 1)
  | 0, hd => by simp at hd; omega
  | d + 1, hd => by
    by_cases e : K < before (q + d)
    · obtain ⟨j, hj, h1, h2⟩ := before_find h K h0 d e
      exact ⟨j, by omega, h1, h2⟩
    · refine ⟨d, by omega, by omega, ?_⟩
      rw [show q + (d : Int) + 1 = q + ((d + 1 : Nat) : Int) by omega]
      exact hd
theorem before_round {q : Int} (h : 0 ≤ q) (n : Int) : before (q + 4 * n) = before q + 10 * n := by
  unfold before
  have e1 : (q + 4 * n) % 4 = q % 4 := by omega
  have e2 : (q + 4 * n) / 4 = q / 4 + n := by omega
  rw [e1, e2]; omega
theorem ten_hours {l : List ByteArray} (h1 : 1 ≤ l.length) : (l.length : Int) ≤ 10 * hoursOf l := by
  unfold hoursOf
  have hg : 0 < Int.gcd l.length 10 := Int.gcd_pos_of_ne_zero_right _ (by omega)
  have hd : (Int.gcd l.length 10 : Int) ∣ (l.length : Int) := Int.gcd_dvd_left ..
  have hd2 : (Int.gcd l.length 10 : Int) ∣ 10 := Int.gcd_dvd_right ..
  have hle := Int.le_of_dvd (by omega) hd2
  obtain ⟨c, hc⟩ := hd
  have hpos : (Int.gcd l.length 10 : Int) ≠ 0 := by omega
  have e : (l.length : Int) / (Int.gcd l.length 10 : Int) = c := Int.ediv_eq_of_eq_mul_right hpos hc
  have hc0 : 0 ≤ c := by rw [← e]; exact Int.ediv_nonneg (by omega) (by omega)
  rw [e]
  have := Int.mul_le_mul_of_nonneg_right hle hc0
  omega
theorem next_exists (l : List ByteArray) (ht : tuneOk l = true) {b : Int} (hb : hasBell l b = true) {q : Int} (h : 0 ≤ q) : ∃ j : Nat, (j : Int) < 4 * hoursOf l ∧ 0 < bellN (notesOf l (q + j)) b := by
  obtain ⟨h1, h2, hs⟩ := tuneOk_facts ht
  have hh := hours_bounds h1 h2
  have ht' := ten_hours h1
  unfold hasBell at hb
  rw [List.any_eq_true] at hb
  obtain ⟨s, hs', hp⟩ := hb
  obtain ⟨p, hp1, rfl⟩ := List.getElem_of_mem hs'
  have hn : (0 : Int) < l.length := by omega
  have a1 := Int.emod_nonneg ((p : Int) - before q) (b := l.length) (by omega)
  have a2 := Int.emod_lt_of_pos ((p : Int) - before q) hn
  obtain ⟨j, hj, hk1, hk2⟩ := before_find h (before q + ((p : Int) - before q) % l.length) (by omega) (4 * hoursOf l).toNat (by
    rw [show q + ((4 * hoursOf l).toNat : Int) = q + 4 * hoursOf l by omega, before_round h]
    omega)
  have hst := before_step (q := q + j) (by omega)
  refine ⟨j, by omega, (notes_bell_iff l b _).2 ⟨(p : Int), ?_, ?_⟩⟩
  · unfold plays
    rw [List.mem_map]
    refine ⟨(before q + ((p : Int) - before q) % l.length - before (q + j)).toNat, ?_, ?_⟩
    · rw [List.mem_range]
      unfold cnt
      omega
    · rw [show before (q + j) + ((before q + ((p : Int) - before q) % l.length - before (q + j)).toNat : Int) = before q + ((p : Int) - before q) % l.length by omega, Int.add_emod, Int.emod_emod_of_dvd _ (Int.dvd_refl _), ← Int.add_emod, show before q + ((p : Int) - before q) = p by omega, Int.emod_eq_of_lt (by omega) (by omega)]
  · rw [rdS l p hp1]
    exact of_decide_eq_true hp
theorem index_ev (L : List Int) (x : Int) (hn : L.length ≤ 1000000) : ∀ (d i : Nat), i + d = L.length → ∃ r : Int, Ev (fun k => slices_Index_int.l0 k L x L.length i) r ∧ (0 ≤ r ↔ x ∈ L.drop i) := by
  intro d
  induction d with
  | zero =>
    intro i hi
    refine ⟨-1, ev_succ ?_, ?_⟩
    · simp only [slices_Index_int.l0]
      exact ev_neg (by omega) (Ev.now _)
    · rw [List.drop_eq_nil_of_le (by omega)]; simp
  | succ d ih =>
    intro i hi
    have hlt : i < L.length := by omega
    by_cases e : x = L[i]
    · refine ⟨i, ev_succ ?_, ?_⟩
      · simp only [slices_Index_int.l0]
        refine ev_pos (by omega) (ev_pos (by omega) (ev_pos (by omega) ?_))
        rw [rdI L i hlt]
        exact ev_pos e (Ev.now _)
      · rw [List.drop_eq_getElem_cons hlt, ← e]; simp
    · obtain ⟨r, hr, hm⟩ := ih (i + 1) (by omega)
      refine ⟨r, ev_succ ?_, ?_⟩
      · simp only [slices_Index_int.l0]
        refine ev_pos (by omega) (ev_pos (by omega) (ev_pos (by omega) ?_))
        rw [rdI L i hlt, wrap_succ (n := 1000000) (by omega) (by omega)]
        exact ev_neg e hr
      · rw [List.drop_eq_getElem_cons hlt, List.mem_cons, hm]; exact ⟨Or.inr, fun h => h.resolve_left e⟩
theorem contains_ev (L : List Int) (x : Int) (hn : L.length ≤ 1000000) : Ev (fun k => slices_Contains_int.f k L x) (decide (x ∈ L)) := by
  obtain ⟨r, hr, hm⟩ := index_ev L x hn L.length 0 (by omega)
  unfold slices_Contains_int.f slices_Index_int.f
  refine Ev.bind hr (ev_const ?_)
  rw [List.drop_zero] at hm
  simp only [ge_iff_le, hm]
theorem mem_bellsL (l : List ByteArray) {b : Int} (h1 : 1 ≤ b) (h2 : b ≤ 8) : decide (b ∈ bellsL l 8) = hasBell l b := by
  rw [Bool.eq_iff_iff, decide_eq_true_eq]
  unfold bellsL
  simp only [List.mem_map, List.mem_filter, List.mem_range]
  constructor
  · rintro ⟨a, ⟨_, h⟩, rfl⟩
    exact h
  · intro h
    exact ⟨(b - 1).toNat, ⟨by omega, by rw [show ((b - 1).toNat : Int) + 1 = b by omega]; exact h⟩, by omega⟩
theorem next_both (l : List ByteArray) (ht : tuneOk l = true) {b : Int} (h1 : 1 ≤ b) (h2 : b ≤ 8) {q : Int} (h : 0 ≤ q) (hq : q ≤ 1000000) : ∀ (d i : Nat), i + d = (4 * hoursOf l).toNat → (∃ j : Nat, i ≤ j ∧ (j : Int) < 4 * hoursOf l ∧ 0 < bellN (notesOf l (q + j)) b) →
    ∃ r : Int, Ev (fun k => impl_NextQuarterWith.l0 k l b (q + i)) (r, true) ∧ Ev (fun k => spec_NextQuarterWith.l0 k l b q i) (r, true) := by
  obtain ⟨t1, t2, hs⟩ := tuneOk_facts ht
  have hh := hours_bounds t1 t2
  intro d
  induction d with
  | zero =>
    rintro i hi ⟨j, hj, hj2, _⟩
    omega
  | succ d ih =>
    rintro i hi ⟨j, hj, hj2, hj3⟩
    have hsz := notesOf_size l ht (q := q + i) (by omega)
    by_cases e : 0 < bellN (notesOf l (q + i)) b
    · refine ⟨q + i, ev_succ ?_, ev_succ ?_⟩
      · simp only [impl_NextQuarterWith.l0]
        refine Ev.bind (notes_ev l ht (by omega) (by omega)) ?_
        rw [show impl_bellText.f b = some (strOfNums [48 + b]) from if_pos (by omega)]
        simp only [Option.bind_some, contains_bell]
        exact ev_pos (decide_eq_true e) (Ev.now _)
      · simp only [spec_NextQuarterWith.l0]
        refine Ev.bind (beHours_ev l t1 t2) ?_
        rw [wsm (n := 4 * hoursOf l) (by omega) (by omega), wsm (n := q + (i : Int)) (by omega) (by omega)]
        refine ev_pos (by omega) ?_
        refine Ev.bind (beNotes_ev l ht (by omega) (by omega)) ?_
        refine Ev.bind (beBell_ev _ h1 h2 (by omega)) ?_
        exact ev_pos (by omega) (Ev.now _)
    · obtain ⟨r, hr1, hr2⟩ := ih (i + 1) (by omega) ⟨j, by
        rcases Nat.lt_or_ge i j with z | z
        · exact z
        · have : i = j := by omega
          subst this
          exact absurd hj3 e, hj2, hj3⟩
      refine ⟨r, ev_succ ?_, ev_succ ?_⟩
      · simp only [impl_NextQuarterWith.l0]
        refine Ev.bind (notes_ev l ht (by omega) (by omega)) ?_
        rw [show impl_bellText.f b = some (strOfNums [48 + b]) from if_pos (by omega)]
        simp only [Option.bind_some, contains_bell]
        refine ev_neg (by simpa using e) ?_
        rw [wsm (n := q + (i : Int) + 1) (by omega) (by omega), show q + (i : Int) + 1 = q + ((i + 1 : Nat) : Int) by omega]
        exact hr1
      · simp only [spec_NextQuarterWith.l0]
        refine Ev.bind (beHours_ev l t1 t2) ?_
        rw [wsm (n := 4 * hoursOf l) (by omega) (by omega), wsm (n := q + (i : Int)) (by omega) (by omega), wrap_succ (n := 1000) (by omega) (by omega)]
        refine ev_pos (by omega) ?_
        refine Ev.bind (beNotes_ev l ht (by omega) (by omega)) ?_
        refine Ev.bind (beBell_ev _ h1 h2 (by omega)) ?_
        exact ev_neg (by omega) hr2
theorem next_none (l : List ByteArray) (ht : tuneOk l = true) {b : Int} (h1 : 1 ≤ b) (h2 : b ≤ 8) (hb : hasBell l b = false) {q : Int} (h : 0 ≤ q) (hq : q ≤ 1000000) : ∀ (d i : Nat), i + d = (4 * hoursOf l).toNat → Ev (fun k => spec_NextQuarterWith.l0 k l b q i) (0, false) := by
  obtain ⟨t1, t2, hs⟩ := tuneOk_facts ht
  have hh := hours_bounds t1 t2
  intro d
  induction d with
  | zero =>
    intro i hi
    refine ev_succ ?_
    simp only [spec_NextQuarterWith.l0]
    refine Ev.bind (beHours_ev l t1 t2) ?_
    rw [wsm (n := 4 * hoursOf l) (by omega) (by omega)]
    exact ev_neg (by omega) (Ev.now _)
  | succ d ih =>
    intro i hi
    have hsz := notesOf_size l ht (q := q + i) (by omega)
    have := notes_nobell l t1 hb (q + i)
    refine ev_succ ?_
    simp only [spec_NextQuarterWith.l0]
    refine Ev.bind (beHours_ev l t1 t2) ?_
    rw [wsm (n := 4 * hoursOf l) (by omega) (by omega), wsm (n := q + (i : Int)) (by omega) (by omega), wrap_succ (n := 1000) (by omega) (by omega)]
    refine ev_pos (by omega) ?_
    refine Ev.bind (beNotes_ev l ht (by omega) (by omega)) ?_
    refine Ev.bind (beBell_ev _ h1 h2 (by omega)) ?_
    exact ev_neg (by omega) (ih (i + 1) (by omega))
theorem isQuarter_ev (l : List ByteArray) (hs : ∀ s ∈ l, s.size ≤ 9223372036854775807) (q : Int) : Ev (fun k => impl_isQuarter.f k l q) (tuneOk l && wi q 0 1000000) := by
  unfold impl_isQuarter.f
  simp only [within_eq, Option.bind_some]
  exact ev_both (isTune_ev l hs) (fun _ => Ev.now _)
theorem beAsked_ev (l : List ByteArray) (hs : ∀ s ∈ l, s.size ≤ 9223372036854775807) (q : Int) : Ev (fun k => spec_beAsked.f k l q) (tuneOk l && wi q 0 1000000) := by
  unfold spec_beAsked.f
  simp only [l1In_eq, Option.bind_some]
  exact ev_both (beTune_ev l hs) (fun _ => Ev.now _)
theorem isBell_eq (b : Int) : impl_isBell.f b = some (wi b 1 8) := by unfold impl_isBell.f; rw [within_eq]; rfl
theorem beIs_eq (b : Int) : spec_beIs.f b = some (wi b 1 8) := by unfold spec_beIs.f; rw [l1In_eq]; rfl
/-- The program and the reference name the same next quarter. -/
theorem nextQ (l : List ByteArray) (hs : ∀ s ∈ l, s.size ≤ 9223372036854775807) (b q : Int) : ∃ r : Int × Bool, Ev (fun k => impl_NextQuarterWith.f k l b q) r ∧ Ev (fun k => spec_NextQuarterWith.f k l b q) r := by
  by_cases c1 : (tuneOk l && wi q 0 1000000) = true
  · by_cases c2 : wi b 1 8 = true
    · have c1' := c1
      simp only [Bool.and_eq_true, wi_true] at c1'
      obtain ⟨ht, hq⟩ := c1'
      have hb := c2
      rw [wi_true] at hb
      have htf := tuneOk_facts ht
      have hsp : ∀ r, Ev (fun k => spec_NextQuarterWith.l0 k l b q 0) r → Ev (fun k => spec_NextQuarterWith.f k l b q) r := fun r hr => by
        unfold spec_NextQuarterWith.f
        simp only [beIs_eq, Option.bind_some]
        refine Ev.bind (beAsked_ev l hs q) (ev_pos c1 (ev_succ ?_))
        simp only [spec_NextQuarterWith.j0, c2, Bool.not_true, Bool.false_eq_true, if_false]
        exact hr
      have him : ∀ r, Ev (fun k => impl_NextQuarterWith.j0 k l b q (!hasBell l b)) r → Ev (fun k => impl_NextQuarterWith.f k l b q) r := fun r hr => by
        unfold impl_NextQuarterWith.f
        simp only [isBell_eq, Option.bind_some]
        refine Ev.bind (isQuarter_ev l hs q) (ev_pos c1 (ev_pos c2 ?_))
        refine Ev.bind (impl_bells_ev l ht) ?_
        have := contains_ev (bellsL l 8) b (by have := bellsL_le l 8; omega)
        rw [mem_bellsL l hb.1 hb.2] at this
        exact Ev.bind this hr
      by_cases hB : hasBell l b = true
      · obtain ⟨j, hj, hj2⟩ := next_exists l ht hB hq.1
        obtain ⟨r, hr1, hr2⟩ := next_both l ht hb.1 hb.2 hq.1 hq.2 (4 * hoursOf l).toNat 0 (by omega) ⟨j, by omega, hj, hj2⟩
        refine ⟨_, him _ (ev_succ ?_), hsp _ hr2⟩
        simp only [impl_NextQuarterWith.j0, hB, Bool.not_true, Bool.false_eq_true, if_false]
        simpa using hr1
      · simp only [Bool.not_eq_true] at hB
        refine ⟨_, him _ (ev_succ ?_), hsp _ (next_none l ht hb.1 hb.2 hB hq.1 hq.2 (4 * hoursOf l).toNat 0 (by omega))⟩
        simp only [impl_NextQuarterWith.j0, hB, Bool.not_false, if_true]
        exact Ev.now _
    · refine ⟨(0, false), ?_, ?_⟩
      · unfold impl_NextQuarterWith.f
        simp only [isBell_eq, Option.bind_some]
        refine Ev.bind (isQuarter_ev l hs q) (ev_pos c1 (ev_neg c2 (ev_succ ?_)))
        simp only [impl_NextQuarterWith.j0, if_true]
        exact Ev.now _
      · unfold spec_NextQuarterWith.f
        simp only [beIs_eq, Option.bind_some]
        refine Ev.bind (beAsked_ev l hs q) (ev_pos c1 (ev_succ ?_))
        simp only [Bool.not_eq_true] at c2
        simp only [spec_NextQuarterWith.j0, c2, Bool.not_false, if_true]
        exact Ev.now _
  · refine ⟨(0, false), ?_, ?_⟩
    · unfold impl_NextQuarterWith.f
      refine Ev.bind (isQuarter_ev l hs q) (ev_neg c1 (ev_succ ?_))
      simp only [impl_NextQuarterWith.j0, if_true]
      exact Ev.now _
    · unfold spec_NextQuarterWith.f
      refine Ev.bind (beAsked_ev l hs q) (ev_neg c1 (ev_succ ?_))
      simp only [spec_NextQuarterWith.j0, if_true]
      exact Ev.now _

end Go.Proofs.Ytjnmecjbhfinmaa.P

-- written by wip/gen.py (this session's) with the kit's printer; Lean checks it.
namespace Go.Proofs.Ytjnmecjbhfinmaa.P
open Go.RowKit Go.Proofs.YtjnmecjbhfinmaaW.PrintWords Go.Proofs.YtjnmecjbhfinmaaW.PrintLast Go.Proofs.YtjnmecjbhfinmaaW.PrintMore
attribute [local go_sem] max2_int min2_int max_two min_two max_three min_three max_four min_four
set_option linter.unusedVariables false
set_option linter.unusedSimpArgs false

/-! ### impl_NotesUpTo: function 37 -/
def impl_NotesUpTo.f (k : Nat) (l0 : List ByteArray) (a1 : Int) : Option (Int × Bool) :=
  (impl_isQuarter.f k l0 a1).bind fun t => if t = true then ((impl_sumUpTo.f (fun x => some (x.size : Int)) l0 a1).bind fun v => some (v, true)) else some (0, false)
theorem impl_NotesUpTo.mono : ∀ l0 a1 k, LeO (impl_NotesUpTo.f k l0 a1) (impl_NotesUpTo.f (k + 1) l0 a1) := by
  intro l a k
  unfold impl_NotesUpTo.f
  exact LeO.bind (impl_isQuarter.mono _ _ k) (fun t => LeO.refl _)
theorem impl_NotesUpTo.lit (w : World) : NumO Try.prog 76 #[] (fun x => some (x.size : Int)) w := by
  intro W x r hB hq
  cases Option.some.inj hq
  have hBB := Aside0.mk hB
  clear hq hB
  go_enter Try.func76, Try.ntmps76
  go_wp2
  go_ret
  exact ⟨rfl, hBB.out⟩
set_option maxHeartbeats 2000000 in
set_option maxRecDepth 100000 in
theorem impl_NotesUpTo.calls (k : Nat) (A0 : Option Addr) (c0 : Nat) (l0 : List ByteArray) (a1 : Int) (r1 : Int) (r2 : Bool) (w : World) (hr0 : Kd.C Kd.string w A0 l0.length l0) (hc0 : l0.length ≤ c0) (h : impl_NotesUpTo.f k l0 a1 = some (r1, r2)) :
    Calls Try.prog 37 #[.slice A0 l0.length c0, .int .i64 a1] w fun e w' => e = .returned (.tuple #[.int .i64 r1, .bool r2]) ∧ Below w.heap.size w w' := by
  have eg : ∀ args w, (callFunc 76 args).run Try.prog w = .ok (.enter 76 args) w := fun _ _ => rfl
  unfold impl_NotesUpTo.f at h
  obtain ⟨t, ht, h'⟩ := Option.bind_eq_some_iff.mp h
  have HT := Aside0.mk ht
  have HR := Aside0.mk hr0
  clear ht hr0 h
  cases t with
  | false =>
    simp only [Bool.false_eq_true, if_false, Option.some.injEq, Prod.mk.injEq] at h'
    obtain ⟨rfl, rfl⟩ := h'
    go_enter Try.func37, Try.ntmps37
    go_wp2_with (go_at_call 64; refine (impl_isQuarter.calls k A0 c0 l0 a1 false _ HR.out hc0 HT.out).mono ?_; rintro e w' ⟨rfl, hb⟩)
    go_ret2
    exact ⟨rfl, hb⟩
  | true =>
    simp only [if_true] at h'
    obtain ⟨v, hv, h2⟩ := Option.bind_eq_some_iff.mp h'
    simp only [Option.some.injEq, Prod.mk.injEq] at h2
    obtain ⟨rfl, rfl⟩ := h2
    have HV := Aside0.mk hv
    clear h' hv
    go_enter Try.func37, Try.ntmps37
    go_wp2_with (first | (go_at_call 64; refine (impl_isQuarter.calls k A0 c0 l0 a1 true _ HR.out hc0 HT.out).mono ?_; rintro e w' ⟨rfl, hb⟩; have HB := Aside0.mk hb; clear hb) | (go_at_call 66; refine (impl_sumUpTo.calls 76 _ eg _ A0 c0 l0 a1 v _ (impl_NotesUpTo.lit _) (Kd.C_below HR.out HB.out) hc0 HV.out).mono ?_; rintro e w' ⟨rfl, hb'⟩))
    go_ret2
    exact ⟨rfl, below_step HB.out hb'⟩

end Go.Proofs.Ytjnmecjbhfinmaa.P

-- written by wip/gen.py (this session's) with the kit's printer; Lean checks it.
namespace Go.Proofs.Ytjnmecjbhfinmaa.P
open Go.RowKit Go.Proofs.YtjnmecjbhfinmaaW.PrintWords Go.Proofs.YtjnmecjbhfinmaaW.PrintLast Go.Proofs.YtjnmecjbhfinmaaW.PrintMore
attribute [local go_sem] max2_int min2_int max_two min_two max_three min_three max_four min_four
set_option linter.unusedVariables false
set_option linter.unusedSimpArgs false

/-! ### spec_NotesUpTo: function 38 -/
def spec_NotesUpTo.l0 : Nat → Int → List Int → List ByteArray → Int → Int → Option (Int × Bool)
  | 0, _, _, _, _, _ => none
  | k + 1, x1, x6, x13, x14, x15 => if x15 < x14 then (if 0 ≤ x15 then (if x15 < (x13.length : Int) then (if x6.length < 17592186044416 then (spec_NotesUpTo.l0 k x1 (x6 ++ [((rdOf ByteArray.empty x13 x15).size : Int)]) x13 x14 (wrap64 (x15 + 1))) else (none)) else (none)) else (none)) else ((spec_beBefore.f x1).bind fun t106 => ((spec_beTimes.f k x6 t106).bind fun t107 => (some (t107, true))))
def spec_NotesUpTo.f (k : Nat) (l0 : List ByteArray) (a1 : Int) : Option (Int × Bool) := (spec_beAsked.f k l0 a1).bind fun t101 => (if t101 = true then (spec_NotesUpTo.l0 k a1 ([] : List Int) l0 (l0.length : Int) 0) else (some (0, false)))
theorem spec_NotesUpTo.mono_l : ∀ k, (∀ y0 y1 y2 y3 y4, LeO (spec_NotesUpTo.l0 k y0 y1 y2 y3 y4) (spec_NotesUpTo.l0 (k + 1) y0 y1 y2 y3 y4))
  | 0 => fun _ _ _ _ _ r h => by simp [spec_NotesUpTo.l0] at h
  | k + 1 => by
    have ih0 := spec_NotesUpTo.mono_l k
    · intro y0 y1 y2 y3 y4
      unfold spec_NotesUpTo.l0
      repeat' first
      | (with_reducible exact ih0 _ _ _ _ _)
      | (with_reducible exact spec_beAsked.mono _ _ _)
      | (with_reducible exact spec_beTimes.mono _ _ _)
      | (with_reducible exact LeO.refl _)
      | (with_reducible exact LeO.none _)
      | (with_reducible refine LeO.ite ?_ ?_)
      | (with_reducible refine LeO.bind ?_ (fun _ => ?_))
      | exact ih0 _ _ _ _ _
      | exact spec_beAsked.mono _ _ _
      | exact spec_beTimes.mono _ _ _
      | exact LeO.none _
      | refine LeO.ite ?_ ?_
      | refine LeO.bind ?_ (fun _ => ?_)
theorem spec_NotesUpTo.mono : ∀ a0 a1 k, LeO (spec_NotesUpTo.f k a0 a1) (spec_NotesUpTo.f (k + 1) a0 a1) := by
  intro a0 a1 k
  have ih0 := spec_NotesUpTo.mono_l k
  unfold spec_NotesUpTo.f
  repeat' first
      | (with_reducible exact ih0 _ _ _ _ _)
      | (with_reducible exact spec_beAsked.mono _ _ _)
      | (with_reducible exact spec_beTimes.mono _ _ _)
      | (with_reducible exact LeO.refl _)
      | (with_reducible exact LeO.none _)
      | (with_reducible refine LeO.ite ?_ ?_)
      | (with_reducible refine LeO.bind ?_ (fun _ => ?_))
      | exact ih0 _ _ _ _ _
      | exact spec_beAsked.mono _ _ _
      | exact spec_beTimes.mono _ _ _
      | exact LeO.none _
      | refine LeO.ite ?_ ?_
      | refine LeO.bind ?_ (fun _ => ?_)
set_option maxHeartbeats 8000000 in
set_option maxRecDepth 100000 in
theorem spec_NotesUpTo.calls (k : Nat) (A0 : Option Addr) (c0 : Nat) (l0 : List ByteArray) (a1 : Int) (r1 : Int) (r2 : Bool) (w : World) (hr0 : Kd.C Kd.string w A0 l0.length l0) (hc0 : l0.length ≤ c0) (h : spec_NotesUpTo.f k l0 a1 = some (r1, r2)) :
    Calls Try.prog 38 #[.slice A0 l0.length c0, .int .i64 a1] w fun e w' => e = .returned (.tuple #[.int .i64 r1, .bool r2]) ∧ Below w.heap.size w w' := by
  have HR0 := Aside0.mk hr0
  have HC0 := Aside0.mk hc0
  clear hr0 hc0
  have HB := Aside0.mk (Below.refl w.heap.size w)
  have H : ((spec_beAsked.f k l0 a1).bind fun t101 => (if t101 = true then (spec_NotesUpTo.l0 k a1 ([] : List Int) l0 (l0.length : Int) 0) else (some (0, false)))) = some (r1, r2) := h
  clear h
  replace H := Option.bind_eq_some_iff.mp H
  obtain ⟨t101, A30, H⟩ := H
  replace H : (if t101 = true then (spec_NotesUpTo.l0 k a1 ([] : List Int) l0 (l0.length : Int) 0) else (some (0, false))) = some (r1, r2) := H
  have A3 := Aside0.mk A30
  clear A30
  by_cases c4 : t101 = true
  · subst c4
    have H1 : (spec_NotesUpTo.l0 k a1 ([] : List Int) l0 (l0.length : Int) 0) = some (r1, r2) := by rw [if_pos rfl] at H; exact H
    clear H
    have H := H1
    clear H1
    have H' := Aside0.mk H
    clear H
    go_enter Try.func38, Try.ntmps38
    go_wp2_with (first | ((with_reducible refine gate_callee (f := 59) rfl ?_); refine goesL_ (some 11) rfl rfl Try.func59 (by kernel_rfl) rfl #[.slice A0 l0.length c0, .int .i64 a1] rfl (by (try simp only [List.map_toArray, List.map_cons, List.map_nil]); first | done | rfl | (simp only [List.length_drop, List.length_take]; rfl)) ?_; (with_reducible refine (spec_beAsked.calls k _ _ l0 a1 true _ ?side1 ?side2 A3.out).mono ?_); (case side1 => repeat (first | exact HR0.out | (with_reducible refine Kd.C_alloc ?_ _) | (with_reducible refine Kd.C_drewN ?_ _) | (with_reducible refine Kd.C_drew ?_))); (case side2 => exact HC0.out); rintro e w' ⟨rfl, ⟨nd, rfl⟩⟩; refine ⟨_, rfl, ?_⟩))
    go_loopg [6, 15] k (fun kq v6 v15 w' => ∃ (x6_1 : List Int) (x15_1 : Int), v15 = .int .i64 x15_1 ∧ Aside0 (spec_NotesUpTo.l0 kq a1 x6_1 l0 (l0.length : Int) x15_1 = some (r1, r2)) ∧ Aside0 (kq ≤ k) ∧ Aside0 (Kd.R (Kd.int .i64) 3 w' w.heap.size (fun _ => True) v6 x6_1) ∧ Aside0 (Below w.heap.size w w'))
    case atStart => exact ⟨(([] : List Int)), (0), (by first | rfl | (simp; done) | (simp [*]; done)), H', ⟨Nat.le_refl _⟩, ⟨by first | exact Kd.R_nil _ _ _ _ _ | exact Kd.N_nil _ _ _ _ _ | exact Kd.V_nil _ _ _ _ _ | exact Kd.Q_nil _ _ _ _ _ | exact Kd.S_nil _ _ _ _ _⟩, ⟨by repeat (first | (with_reducible first | exact HB.out | apply below_alloc | apply pw_below_drewN | apply below_drew1) | exact HB.out)⟩⟩
    case round =>
      clear H'
      try clear p2
      try clear c3
      try clear c4
      obtain ⟨x6_1, x15_1, rfl, HA, HK1, HO_6, HB⟩ := hrel
      cases gk with
      | zero => exact absurd HA.out (by simp [spec_NotesUpTo.l0])
      | succ k1 =>
        have H := HA.out
        clear HA
        simp only [spec_NotesUpTo.l0] at H
        by_cases c5 : x15_1 < (l0.length : Int)
        · rw [if_pos c5] at H
          have c5b0 : decide (x15_1 < (l0.length : Int)) = true := decide_eq_true c5
          clear c5
          by_cases c6 : 0 ≤ x15_1
          · rw [if_pos c6] at H
            have c6b0 : decide (0 ≤ x15_1) = true := decide_eq_true c6
            clear c6
            by_cases c7 : x15_1 < (l0.length : Int)
            · rw [if_pos c7] at H
              have c7b0 : decide (x15_1 < (l0.length : Int)) = true := decide_eq_true c7
              clear c7
              by_cases c8 : x6_1.length < 17592186044416
              · rw [if_pos c8] at H
                have LMc8 := Aside0.mk c8
                clear c8
                obtain ⟨y103, hy103⟩ : ∃ y_ : List Int, y_ = (x6_1 ++ [((rdOf ByteArray.empty l0 x15_1).size : Int)]) := ⟨_, rfl⟩
                replace H : (spec_NotesUpTo.l0 k1 a1 y103 l0 (l0.length : Int) (wrap64 (x15_1 + 1))) = some (r1, r2) := by first | (rw [hy103]; with_reducible exact H) | (have H2_ := (Option.bind_some _ _).symm.trans H; rw [hy103]; with_reducible exact H2_) | (have H2_ := (Option.bind_some _ _).symm.trans H; with_reducible exact H2_) | with_reducible exact H | (rw [hy103]; exact H) | exact H
                have Ny103 := Aside0.mk hy103
                clear hy103
                have H' := Aside0.mk H
                clear H
                have p102 : 0 ≤ (x15_1 : Int) := of_decide_eq_true (by first | (with_reducible assumption) | assumption)
                have q102 : x15_1 < (l0.length : Int) := of_decide_eq_true (by first | (with_reducible assumption) | assumption)
                obtain ⟨ad102, e102, hx102_0⟩ := Kd.at_string HR0.out x15_1 p102 q102
                cases e102
                replace hx102_0 := (HB.out.cell (World.block_lt_of_cell? w _ hx102_0)).trans hx102_0
                replace p102 := eq_true p102
                replace q102 := eq_true q102
                go_wp2_with (first | ((with_reducible refine gate_builtin (b := .append) (xs := #[.tmp 19, .tmp 22]) rfl ?_); at_builtin; refine Kd.R_append (Kd.int .i64) (w0 := w) w.heap.size rfl (.tmp 19) (.tmp 22) 31 3 (.int .i64 0) 8 rfl Try.underlying31 info3 rfl (by decide) (by omega) u6 x6_1 ((rdOf ByteArray.empty l0 x15_1).size : Int) [.int .i64 ((rdOf ByteArray.empty l0 x15_1).size : Int)] (fun _ => True) (fun _ => False) rfl rfl ?aP (fun _ hk => hk.elim) ?aF ?aO ?aB ?aS ?aL ?_; (case aP => exact rfl); (case aB => exact (by repeat (first | (with_reducible first | exact HB.out | apply below_alloc | apply pw_below_drewN | apply below_drew1) | exact HB.out))); (case aF => exact (fun _ _ => trivial)); (case aO => exact (by (with_reducible repeat (first | apply Kd.R_alloc | apply Kd.R_drewN | apply Kd.R_drew)); exact HO_6.out)); (case aS => exact (below_size (by repeat (first | (with_reducible first | exact HB.out | apply below_alloc | apply pw_below_drewN | apply below_drew1) | exact HB.out)))); (case aL => have := LMc8.out; omega); intro v104 w9 ho hb hg hat; rw [← Ny103.out] at ho; have n0_ := Aside0.mk (hb); have n1_ := Aside0.mk (ho); clear HB; clear HO_6; have HB := n0_; have HO105 := n1_; clear n0_ n1_; clear ho hb hg hat))
                go_roundg k1
                case measure => have := HK1.out; omega
                case rel => exact ⟨(y103), (wrap64 (x15_1 + 1)), (by first | rfl | (simp; done) | (simp [*]; done)), H', ⟨by have := HK1.out; omega⟩, ⟨by (with_reducible repeat (first | apply Kd.R_alloc | apply Kd.R_drewN | apply Kd.R_drew)); exact HO105.out⟩, ⟨by repeat (first | (with_reducible first | exact HB.out | apply below_alloc | apply pw_below_drewN | apply below_drew1) | exact HB.out)⟩⟩
              · rw [if_neg c8] at H
                exact absurd H (by simp)
            · rw [if_neg c7] at H
              exact absurd H (by simp)
          · rw [if_neg c6] at H
            exact absurd H (by simp)
        · rw [if_neg c5] at H
          have c5b0 : decide (x15_1 < (l0.length : Int)) = false := decide_eq_false c5
          clear c5
          replace H := Option.bind_eq_some_iff.mp H
          obtain ⟨t106, A100, H⟩ := H
          replace H : ((spec_beTimes.f k1 x6_1 t106).bind fun t107 => (some (t107, true))) = some (r1, r2) := H
          have A10 := Aside0.mk A100
          clear A100
          replace H := Option.bind_eq_some_iff.mp H
          obtain ⟨t107, A110, H⟩ := H
          replace H : (some (t107, true)) = some (r1, r2) := H
          have A11 := Aside0.mk A110
          clear A110
          simp only [Option.some.injEq, Prod.mk.injEq] at H
          obtain ⟨rfl, rfl⟩ := H
          go_wp2_with (first | ((with_reducible refine gate_callee (f := 63) rfl ?_); refine goesL_ (some 27) rfl rfl Try.func63 (by kernel_rfl) rfl #[.int .i64 a1] rfl (by (try simp only [List.map_toArray, List.map_cons, List.map_nil]); first | done | rfl | (simp only [List.length_drop, List.length_take]; rfl)) ?_; (with_reducible refine (spec_beBefore.calls a1 t106 _ A10.out).mono ?_); rintro e w' ⟨rfl, ⟨nd, rfl⟩⟩; refine ⟨_, rfl, ?_⟩; obtain ⟨Ao12, co12, eo12⟩ := Kd.R_slice HO_6.out; subst eo12) | ((with_reducible refine gate_callee (f := 62) rfl ?_); refine goesL_ (some 28) rfl rfl Try.func62 (by kernel_rfl) rfl #[.slice Ao12 x6_1.length co12, .int .i64 t106] rfl (by (try simp only [List.map_toArray, List.map_cons, List.map_nil]); first | done | rfl | (simp only [List.length_drop, List.length_take]; rfl)) ?_; (with_reducible refine (spec_beTimes.calls k1 _ _ x6_1 t106 t107 _ ?side1 ?side2 A11.out).mono ?_); (case side1 => repeat (first | exact (Kd.R_reads' HO_6.out).2.2 | (with_reducible refine Kd.C_alloc ?_ _) | (with_reducible refine Kd.C_drewN ?_ _) | (with_reducible refine Kd.C_drew ?_))); (case side2 => exact (Kd.R_reads' HO_6.out).2.1); rintro e w' ⟨rfl, ⟨nd, rfl⟩⟩; refine ⟨_, rfl, ?_⟩))
          go_ret2
          exact ⟨by first | rfl | (simp [errW_none, errW_some] <;> rfl) | (simp [*, errW_none, errW_some] <;> rfl), by repeat (first | (with_reducible first | exact HB.out | apply below_alloc | apply pw_below_drewN | apply below_drew1) | exact HB.out)⟩
  · replace c4 := Bool.eq_false_iff.mpr c4
    subst c4
    have H1 : (some (0, false)) = some (r1, r2) := by rw [if_neg (show ¬ (false = true) by decide)] at H; exact H
    clear H
    have H := H1
    clear H1
    simp only [Option.some.injEq, Prod.mk.injEq] at H
    obtain ⟨rfl, rfl⟩ := H
    go_enter Try.func38, Try.ntmps38
    go_wp2_with (first | ((with_reducible refine gate_callee (f := 59) rfl ?_); refine goesL_ (some 11) rfl rfl Try.func59 (by kernel_rfl) rfl #[.slice A0 l0.length c0, .int .i64 a1] rfl (by (try simp only [List.map_toArray, List.map_cons, List.map_nil]); first | done | rfl | (simp only [List.length_drop, List.length_take]; rfl)) ?_; (with_reducible refine (spec_beAsked.calls k _ _ l0 a1 false _ ?side1 ?side2 A3.out).mono ?_); (case side1 => repeat (first | exact HR0.out | (with_reducible refine Kd.C_alloc ?_ _) | (with_reducible refine Kd.C_drewN ?_ _) | (with_reducible refine Kd.C_drew ?_))); (case side2 => exact HC0.out); rintro e w' ⟨rfl, ⟨nd, rfl⟩⟩; refine ⟨_, rfl, ?_⟩))
    go_ret2
    exact ⟨by first | rfl | (simp [errW_none, errW_some] <;> rfl) | (simp [*, errW_none, errW_some] <;> rfl), by repeat (first | (with_reducible first | exact HB.out | apply below_alloc | apply pw_below_drewN | apply below_drew1) | exact HB.out)⟩

end Go.Proofs.Ytjnmecjbhfinmaa.P

/- Sums over the phrases that are played before a quarter. -/
namespace Go.Proofs.Ytjnmecjbhfinmaa.P
open Go.RowKit Go.Proofs.YtjnmecjbhfinmaaW.PrintWords Go.Proofs.YtjnmecjbhfinmaaW.PrintLast
set_option linter.unusedVariables false
set_option linter.unusedSimpArgs false

def timesOf (L n i : Int) : Int := if i < Int.tmod n L then wrap64 (wrap64 (Int.tdiv n L) + 1) else wrap64 (Int.tdiv n L)
def sumT (f : ByteArray → Int) (L n : Int) : List ByteArray → Int → Int → Int
  | [], _, s => s
  | x :: xs, i, s => sumT f L n xs (i + 1) (wrap64 (s + wrap64 (timesOf L n i * f x)))
def upTo (f : ByteArray → Int) (l : List ByteArray) (q : Int) : Int := sumT f l.length (before q) l 0 0
theorem sumO_eq (num : ByteArray → Option Int) (f : ByteArray → Int) (L n : Int) : ∀ (l : List ByteArray) (i s : Int), (∀ x ∈ l, num x = some (f x)) → sumO num L n l i s = some (sumT f L n l i s)
  | [], _, _, _ => rfl
  | x :: xs, i, s, h => by
    simp only [sumO, sumT, h x List.mem_cons_self, Option.bind_some]
    exact sumO_eq num f L n xs _ _ (fun y hy => h y (List.mem_cons_of_mem _ hy))
theorem sumUpTo_eq (num : ByteArray → Option Int) (f : ByteArray → Int) (l : List ByteArray) {q : Int} (h0 : 0 ≤ q) (h1 : q ≤ 1000000) (h : ∀ x ∈ l, num x = some (f x)) : impl_sumUpTo.f num l q = some (upTo f l q) := by
  unfold impl_sumUpTo.f upTo
  rw [played_eq h0 (by omega)]
  exact sumO_eq num f _ _ l _ _ h
theorem beTimes_l (f : ByteArray → Int) (l : List ByteArray) (h1 : 1 ≤ l.length) (hl : l.length ≤ 12) (n : Int) : ∀ (d i : Nat) (s : Int), i + d = l.length →
    Ev (fun k => spec_beTimes.l0 k (l.map f) n s (l.map f) (l.map f).length i) (sumT f l.length n (l.drop i) i s) := by
  have hm : (l.map f).length = l.length := List.length_map ..
  intro d
  induction d with
  | zero =>
    intro i s hi
    refine ev_succ ?_
    simp only [spec_beTimes.l0]
    refine ev_neg (by omega) ?_
    rw [List.drop_eq_nil_of_le (by omega)]
    exact Ev.now _
  | succ d ih =>
    intro i s hi
    have hlt : i < l.length := by omega
    refine ev_succ ?_
    simp only [spec_beTimes.l0]
    refine ev_pos (by omega) (ev_pos (by omega) (ev_pos (by omega) (ev_neg (by omega) ?_)))
    have hrd : rd (l.map f) i = f l[i] := by rw [rdI _ i (by omega)]; simp
    rw [hrd, wrap_succ (n := 12) (by omega) (by omega), List.drop_eq_getElem_cons hlt]
    have ih' := fun s => ih (i + 1) s (by omega)
    simp only [sumT, timesOf]
    rw [hm] at ih' ⊢
    by_cases c : (i : Int) < Int.tmod n l.length
    · refine ev_pos c ?_
      rw [if_pos c, Int.mul_comm]
      exact ih' _
    · refine ev_neg c ?_
      rw [if_neg c, Int.mul_comm]
      exact ih' _
theorem beTimes_ev (f : ByteArray → Int) (l : List ByteArray) (h1 : 1 ≤ l.length) (hl : l.length ≤ 12) {q : Int} : Ev (fun k => spec_beTimes.f k (l.map f) (before q)) (upTo f l q) := by
  have := beTimes_l f l h1 hl (before q) l.length 0 0 (by omega)
  rw [List.drop_zero] at this
  exact this
theorem map_take_snoc (f : ByteArray → Int) (l : List ByteArray) (i : Nat) (h : i < l.length) : (l.take i).map f ++ [f l[i]] = (l.take (i + 1)).map f := by
  rw [List.take_succ_eq_append_getElem h, List.map_append]; rfl
theorem specBell_l (l : List ByteArray) (ht : tuneOk l = true) {b : Int} (b1 : 1 ≤ b) (b2 : b ≤ 8) {q : Int} (h0 : 0 ≤ q) (hq : q ≤ 1000000) : ∀ (d i : Nat), i + d = l.length →
    Ev (fun k => spec_BellUpTo.l0 k b q ((l.take i).map fun x => (bellN x b : Int)) l l.length i) (upTo (fun x => (bellN x b : Int)) l q, true) := by
  obtain ⟨h1, h2, hs⟩ := tuneOk_facts ht
  intro d
  induction d with
  | zero =>
    intro i hi
    refine ev_succ ?_
    simp only [spec_BellUpTo.l0]
    refine ev_neg (by omega) ?_
    rw [beBefore_eq h0 (by omega), List.take_of_length_le (by omega)]
    simp only [Option.bind_some]
    exact Ev.bind (beTimes_ev _ l h1 h2) (Ev.now _)
  | succ d ih =>
    intro i hi
    have hlt : i < l.length := by omega
    refine ev_succ ?_
    simp only [spec_BellUpTo.l0]
    refine ev_pos (by omega) (ev_pos (by omega) (ev_pos (by omega) ?_))
    rw [rdS l i hlt, wrap_succ (n := 12) (by omega) (by omega)]
    refine Ev.bind (beBell_ev l[i] b1 b2 (by have := hs _ (List.getElem_mem hlt); omega)) ?_
    refine ev_pos (by rw [List.length_map, List.length_take]; omega) ?_
    rw [map_take_snoc (fun x => (bellN x b : Int)) l i hlt]
    exact ih (i + 1) (by omega)
theorem specNotes_l (l : List ByteArray) (ht : tuneOk l = true) {q : Int} (h0 : 0 ≤ q) (hq : q ≤ 1000000) : ∀ (d i : Nat), i + d = l.length →
    Ev (fun k => spec_NotesUpTo.l0 k q ((l.take i).map fun x => (x.size : Int)) l l.length i) (upTo (fun x => (x.size : Int)) l q, true) := by
  obtain ⟨h1, h2, hs⟩ := tuneOk_facts ht
  intro d
  induction d with
  | zero =>
    intro i hi
    refine ev_succ ?_
    simp only [spec_NotesUpTo.l0]
    refine ev_neg (by omega) ?_
    rw [beBefore_eq h0 (by omega), List.take_of_length_le (by omega)]
    simp only [Option.bind_some]
    exact Ev.bind (beTimes_ev _ l h1 h2) (Ev.now _)
  | succ d ih =>
    intro i hi
    have hlt : i < l.length := by omega
    refine ev_succ ?_
    simp only [spec_NotesUpTo.l0]
    refine ev_pos (by omega) (ev_pos (by omega) (ev_pos (by omega) ?_))
    rw [rdS l i hlt, wrap_succ (n := 12) (by omega) (by omega)]
    refine ev_pos (by rw [List.length_map, List.length_take]; omega) ?_
    rw [map_take_snoc (fun x => (x.size : Int)) l i hlt]
    exact ih (i + 1) (by omega)
def notesUp (l : List ByteArray) (q : Int) : Int × Bool := if (tuneOk l && wi q 0 1000000) = true then (upTo (fun x => (x.size : Int)) l q, true) else (0, false)
def bellUp (l : List ByteArray) (b q : Int) : Int × Bool := if ((tuneOk l && wi q 0 1000000) && wi b 1 8) = true then (upTo (fun x => (bellN x b : Int)) l q, true) else (0, false)
theorem impl_notesUp_ev (l : List ByteArray) (hs : ∀ s ∈ l, s.size ≤ 9223372036854775807) (q : Int) : Ev (fun k => impl_NotesUpTo.f k l q) (notesUp l q) := by
  unfold impl_NotesUpTo.f notesUp
  refine Ev.bind (isQuarter_ev l hs q) ?_
  by_cases c : (tuneOk l && wi q 0 1000000) = true
  · have c' := c
    simp only [Bool.and_eq_true, wi_true] at c'
    refine ev_pos c ?_
    rw [if_pos c]
    rw [sumUpTo_eq _ (fun x => (x.size : Int)) l c'.2.1 c'.2.2 (fun _ _ => rfl)]
    exact Ev.now _
  · refine ev_neg c ?_
    rw [if_neg c]
    exact Ev.now _
theorem spec_notesUp_ev (l : List ByteArray) (hs : ∀ s ∈ l, s.size ≤ 9223372036854775807) (q : Int) : Ev (fun k => spec_NotesUpTo.f k l q) (notesUp l q) := by
  unfold spec_NotesUpTo.f notesUp
  refine Ev.bind (beAsked_ev l hs q) ?_
  by_cases c : (tuneOk l && wi q 0 1000000) = true
  · have c' := c
    simp only [Bool.and_eq_true, wi_true] at c'
    rw [if_pos c]
    exact ev_pos c (specNotes_l l c'.1 c'.2.1 c'.2.2 l.length 0 (by omega))
  · rw [if_neg c]
    exact ev_neg c (Ev.now _)
theorem bellq_eq (x : ByteArray) {b : Int} (b1 : 1 ≤ b) (b2 : b ≤ 8) : impl_BellUpTo.q b x = some (bellN x b : Int) := by
  unfold impl_BellUpTo.q
  rw [show impl_bellText.f b = some (strOfNums [48 + b]) from if_pos (by omega)]
  simp only [Option.bind_some]
  unfold strings_Count.f
  rw [strOf_bell]
  rfl
theorem impl_bellUp_ev (l : List ByteArray) (hs : ∀ s ∈ l, s.size ≤ 9223372036854775807) (b q : Int) : Ev (fun k => impl_BellUpTo.f k l b q) (bellUp l b q) := by
  unfold impl_BellUpTo.f bellUp
  refine Ev.bind (isQuarter_ev l hs q) ?_
  by_cases c : (tuneOk l && wi q 0 1000000) = true
  · refine ev_pos c ?_
    have c' := c
    simp only [Bool.and_eq_true, wi_true] at c'
    rw [isBell_eq, c, Bool.true_and]
    simp only [Option.bind_some]
    by_cases d : wi b 1 8 = true
    · refine ev_pos d ?_
      rw [if_pos d]
      rw [wi_true] at d
      rw [sumUpTo_eq _ (fun x => (bellN x b : Int)) l c'.2.1 c'.2.2 (fun x _ => bellq_eq x d.1 d.2)]
      exact Ev.now _
    · refine ev_neg d ?_
      rw [if_neg d]
      exact Ev.now _
  · refine ev_neg c ?_
    rw [if_neg (by simp only [Bool.not_eq_true] at c; rw [c]; simp)]
    exact Ev.now _
theorem spec_bellUp_ev (l : List ByteArray) (hs : ∀ s ∈ l, s.size ≤ 9223372036854775807) (b q : Int) : Ev (fun k => spec_BellUpTo.f k l b q) (bellUp l b q) := by
  unfold spec_BellUpTo.f bellUp
  refine Ev.bind (beAsked_ev l hs q) ?_
  by_cases c : (tuneOk l && wi q 0 1000000) = true
  · refine ev_pos c ?_
    have c' := c
    simp only [Bool.and_eq_true, wi_true] at c'
    rw [beIs_eq, c, Bool.true_and]
    simp only [Option.bind_some]
    refine ev_succ ?_
    by_cases d : wi b 1 8 = true
    · simp only [spec_BellUpTo.j0, d, Bool.not_true, Bool.false_eq_true, if_false, if_true]
      rw [wi_true] at d
      exact specBell_l l c'.1 d.1 d.2 c'.2.1 c'.2.2 l.length 0 (by omega)
    · simp only [Bool.not_eq_true] at d
      simp only [spec_BellUpTo.j0, d, Bool.not_false, Bool.false_eq_true, if_false, if_true]
      exact Ev.now _
  · refine ev_neg c (ev_succ ?_)
    rw [if_neg (by simp only [Bool.not_eq_true] at c; rw [c]; simp)]
    simp only [spec_BellUpTo.j0, if_true]
    exact Ev.now _

end Go.Proofs.Ytjnmecjbhfinmaa.P

/- The pure law of BellUpTo. -/
namespace Go.Proofs.Ytjnmecjbhfinmaa.Pure
open Go.RowKit Go.Proofs.Ytjnmecjbhfinmaa.P Go.Proofs.YtjnmecjbhfinmaaW.PrintWords Go.Proofs.YtjnmecjbhfinmaaW.PrintLast
set_option linter.unusedVariables false
set_option linter.unusedSimpArgs false

theorem FnExactBellUpTo : FnExactBellUpTo.Pure := by
  intro l b q hy hb hq
  refine Ev.rounds ?_
  simp only [laws_FnExactBellUpTo.f]
  refine szS_law hy (by omega) (by omega) (fun r h0 h1 hn hs0 => ?_)
  have hs : ∀ s ∈ l, s.size ≤ 9223372036854775807 := fun s h => by have := hs0 s h; omega
  refine Ev.bind (toS_ev l hn) ?_
  refine Ev.bind (spec_bellUp_ev l hs b q) ?_
  refine Ev.bind (toS_ev l hn) ?_
  refine Ev.bind (impl_bellUp_ev l hs b q) ?_
  simp only [if_true, bne_self_eq_false]
  refine ev_succ ?_
  simp only [laws_FnExactBellUpTo.j0, Bool.false_eq_true, if_false]
  refine Ev.bind (toS_ev l hn) ?_
  refine Ev.bind (eqS_self l (by omega)) ?_
  simp only [if_true]
  exact Ev.now _

end Go.Proofs.Ytjnmecjbhfinmaa.Pure
