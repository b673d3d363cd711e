/- Plain lemmas about what the functions compute (part 1). No conditions but those stated. -/
import Derived.Test.YtpmipkbfohcjiaaDoorFnFnTunesHeard4
namespace Go.Proofs.YtpmipkbfohcjiaaDoor.M
open Go Go.PM Go.Proofs.YtpmipkbfohcjiaaDoor.P
set_option linter.unusedVariables false
set_option linter.unusedSimpArgs false
def inB (a lo hi : Int) : Bool := decide (lo ≤ a) && decide (a ≤ hi)
theorem inB_iff {a lo hi : Int} : inB a lo hi = true ↔ lo ≤ a ∧ a ≤ hi := by simp [inB]
theorem inB_not {a lo hi : Int} : inB a lo hi = false ↔ ¬ (lo ≤ a ∧ a ≤ hi) := by rw [← inB_iff]; simp
theorem within_eq (N : Nat) (a b c : Int) : impl_within.g N a b c = some (inB a b c) := by
  unfold impl_within.g impl_within.o0 inB
  by_cases h : b ≤ a
  · rw [dcT (show a ≥ b from h)]; rfl
  · rw [dcF (show ¬ a ≥ b from h)]; rfl
theorem l1In_eq (N : Nat) (a b c : Int) : spec_l1In.g N a b c = some (inB a b c) := by
  unfold spec_l1In.g spec_l1In.o0 inB
  by_cases h : b ≤ a
  · rw [dcT (show a ≥ b from h)]; rfl
  · rw [dcF (show ¬ a ≥ b from h)]; rfl
theorem tmodN (a b : Nat) : Int.tmod (a : Int) (b : Int) = ((a % b : Nat) : Int) := (Int.ofNat_tmod a b).symm
theorem tdivN (a b : Nat) : Int.tdiv (a : Int) (b : Int) = ((a / b : Nat) : Int) := (Int.ofNat_tdiv a b).symm
theorem w2add {a b : Nat} (h : a + b < 9000000000000000000) : w64 ((a : Int) + (b : Int)) = ((a + b : Nat) : Int) := by rw [w64s (by omega) (by omega)]; omega
theorem w1add {a : Nat} (h : a < 9000000000000000000) : w64 ((a : Int) + 1) = ((a + 1 : Nat) : Int) := by rw [w64s (by omega) (by omega)]; omega
theorem kSame_loop (N : Nat) (l m : List Int) (hl : l.length = m.length) (hs : l.length < 1000000000) : ∀ (k i n : Nat), l.length = i + k → k < n → laws_kSame.l1 N n l m (l.length : Int) i = some (decide (l.drop i = m.drop i))
  | 0, i, n + 1, hi, hn => by
    unfold laws_kSame.l1 laws_kSame.d1 laws_kSame.o1
    rw [dcF (by omega), cond_false, List.drop_eq_nil_of_le (by omega), List.drop_eq_nil_of_le (by omega)]; rfl
  | k + 1, i, n + 1, hi, hn => by
    unfold laws_kSame.l1 laws_kSame.d1 laws_kSame.o1
    rw [dcT (by omega), dcT (by omega), cond_true, cond_true, cond_true, Int.toNat_natCast, getAt (by omega), cond_true, dcT (by omega), cond_true, getAt (by omega)]
    rw [List.drop_eq_getElem_cons (show i < l.length by omega), List.drop_eq_getElem_cons (show i < m.length by omega)]
    by_cases e : l[i] = m[i]
    · rw [ineF e, cond_false, w1add (by omega)]
      refine (kSame_loop N l m hl hs k (i+1) n (by omega) (by omega)).trans ?_
      rw [Option.some.injEq, e, decide_eq_decide]
      exact ⟨fun h => by rw [h], fun h => (List.cons.inj h).2⟩
    · rw [ineT e, cond_true, dcF (fun h => e (List.cons.inj h).1)]
  | _, _, 0, _, hn => by omega
theorem kSame_eq {N : Nat} (l m : List Int) (hs : l.length < 1000000000) (hN : l.length < N) : laws_kSame.g N l m = some (decide (l = m)) := by
  unfold laws_kSame.g laws_kSame.o0
  by_cases e : l.length = m.length
  · rw [ineF (by omega), cond_false]
    exact kSame_loop N l m e hs l.length 0 N (by omega) hN
  · rw [ineT (by omega), cond_true, dcF (fun e' => e (by rw [e']))]
end Go.Proofs.YtpmipkbfohcjiaaDoor.M

namespace Go.Proofs.YtpmipkbfohcjiaaDoor.M
open Go Go.PM Go.Proofs.YtpmipkbfohcjiaaDoor.P
set_option linter.unusedVariables false
set_option linter.unusedSimpArgs false
def okFrom (s : ByteArray) : Nat → Nat → Bool
  | 0, _ => true
  | d + 1, i => (decide (49 ≤ bt s i) && decide (bt s i ≤ 56)) && okFrom s d (i + 1)
def phraseOk (s : ByteArray) : Bool := okFrom s s.size 0 && inB s.size 1 8
def tuneOk (l : List ByteArray) : Bool := inB l.length 1 12 && l.all phraseOk
theorem isPhrase_l (N : Nat) (s : ByteArray) (hs : s.size < 9000000000000000000) : ∀ (d i n : Nat), i + d = s.size → d < n → impl_isPhrase.l1 N n s s.size i = some (okFrom s d i && inB s.size 1 8)
  | 0, i, n+1, hi, hn => by
    unfold impl_isPhrase.l1 impl_isPhrase.d1 impl_isPhrase.o1
    rw [dcF (by omega), cond_false, within_eq]; rfl
  | d+1, i, n+1, hi, hn => by
    unfold impl_isPhrase.l1 impl_isPhrase.d1 impl_isPhrase.o1 impl_isPhrase.d2 impl_isPhrase.o2
    rw [okFrom]
    by_cases h1 : bt s i < 49
    · simp (disch := omega) only [dcT, dcF, ineT, ineF, ieqT, ieqF, cond_true, cond_false, Option.bind_some, Int.toNat_natCast, w1add, blT, getAt, Bool.not_true, Bool.not_false]; rfl
    · by_cases h2 : bt s i > 56
      · simp (disch := omega) only [dcT, dcF, ineT, ineF, ieqT, ieqF, cond_true, cond_false, Option.bind_some, Int.toNat_natCast, w1add, blT, getAt, Bool.not_true, Bool.not_false]; rfl
      · simp (disch := omega) only [dcT, dcF, ineT, ineF, ieqT, ieqF, cond_true, cond_false, Option.bind_some, Int.toNat_natCast, w1add, blT, getAt, Bool.not_true, Bool.not_false]
        rw [isPhrase_l N s hs d (i+1) n (by omega) (by omega)]; rfl
  | _, _, 0, _, hn => by omega
theorem isPhrase_eq {N : Nat} (s : ByteArray) (hs : s.size < 9000000000000000000) (hN : s.size < N) : impl_isPhrase.g N s = some (phraseOk s) :=
  isPhrase_l N s hs s.size 0 N (by omega) hN
theorem isTune1_eq {N : Nat} (s : ByteArray) (hs : s.size < 9000000000000000000) (hN : s.size < N) : impl_IsTune_1.g N s = some (!phraseOk s) := by
  unfold impl_IsTune_1.g impl_IsTune_1.o0
  rw [isPhrase_eq s hs hN]; rfl
/-- the texts are small against the rounds -/
def Sm (N : Nat) (l : List ByteArray) : Prop := 1000 ≤ N ∧ l.length < 1000000000000 ∧ l.length < N ∧ ∀ s ∈ l, s.size < 9000000000000000000 ∧ s.size < N
theorem idx_l (N : Nat) (l : List ByteArray) (hl : Sm N l) : ∀ (d i n : Nat), i + d = l.length → d < n → Tot (slices_IndexFunc_string_string.l1 N n l l.length i) (fun r => (decide (r ≥ 0)) = !((l.drop i).all phraseOk))
  | 0, i, n+1, hi, hn => by
    unfold slices_IndexFunc_string_string.l1 slices_IndexFunc_string_string.d1 slices_IndexFunc_string_string.o1
    rw [dcF (by omega), cond_false, List.drop_eq_nil_of_le (by omega)]
    exact Tot.now rfl
  | d+1, i, n+1, hi, hn => by
    unfold slices_IndexFunc_string_string.l1 slices_IndexFunc_string_string.d1 slices_IndexFunc_string_string.o1
    have hlt : i < l.length := by omega
    obtain ⟨h1, h2, h3, h4⟩ := hl
    have hs := h4 _ (List.getElem_mem hlt)
    rw [List.drop_eq_getElem_cons hlt, List.all_cons]
    simp (disch := omega) only [dcT, dcF, ineT, ineF, ieqT, ieqF, cond_true, cond_false, Option.bind_some, Int.toNat_natCast, w1add, blT, getAt, Bool.not_true, Bool.not_false]
    rw [isTune1_eq _ hs.1 hs.2, Option.bind_some]
    cases e : phraseOk l[i]
    · simp only [Bool.not_false, cond_true, Bool.false_and]
      exact Tot.now (by show decide ((i : Int) ≥ 0) = _; rw [dcT (show (i : Int) ≥ 0 by omega)])
    · simp only [Bool.not_true, cond_false, Bool.true_and]
      exact idx_l N l ⟨h1, h2, h3, h4⟩ d (i+1) n (by omega) (by omega)
  | _, _, 0, _, hn => by omega
theorem isTune_eq {N : Nat} (l : List ByteArray) (hl : Sm N l) : impl_IsTune.g N l = some (tuneOk l) := by
  unfold impl_IsTune.g impl_IsTune.o0 tuneOk
  rw [within_eq, Option.bind_some]
  cases e : inB l.length 1 12
  · rfl
  · rw [cond_true, Bool.true_and]
    refine Tot.get ?_
    unfold slices_ContainsFunc_string_string.g slices_ContainsFunc_string_string.o0 slices_IndexFunc_string_string.g slices_IndexFunc_string_string.o0
    refine Tot.bind (P := fun r => r = !(l.all phraseOk)) (Tot.bind (idx_l N l hl l.length 0 N (by omega) hl.2.2.1) fun r hr => Tot.now hr) fun r hr => ?_
    refine Tot.now ?_
    rw [hr, Bool.not_not]
theorem beTune_in (N n' : Nat) (l : List ByteArray) (L i : Int) (s : ByteArray) (hs : s.size ≤ 8) (b : Bool) : ∀ (d j n : Nat), j + d = s.size → d < n →
    (okFrom s d j = true → spec_beTune.l1 N n' l L (w64 (i + 1)) = some b) → spec_beTune.l2 N n s j l L i (fun w0 w1 w2 => spec_beTune.l1 N n' w0 w1 w2) = some (okFrom s d j && b)
  | 0, j, n+1, hj, hn, h => by
    unfold spec_beTune.l2 spec_beTune.d2 spec_beTune.o2
    rw [dcF (by omega), cond_false]
    exact h rfl
  | d+1, j, n+1, hj, hn, h => by
    unfold spec_beTune.l2 spec_beTune.d2 spec_beTune.o2 spec_beTune.d3 spec_beTune.o3
    rw [okFrom] at h ⊢
    by_cases h1 : bt s j < 49
    · simp (disch := omega) only [dcT, dcF, ineT, ineF, ieqT, ieqF, cond_true, cond_false, Option.bind_some, Int.toNat_natCast, w1add, blT, getAt, Bool.not_true, Bool.not_false]; rfl
    · by_cases h2 : bt s j > 56
      · simp (disch := omega) only [dcT, dcF, ineT, ineF, ieqT, ieqF, cond_true, cond_false, Option.bind_some, Int.toNat_natCast, w1add, blT, getAt, Bool.not_true, Bool.not_false]; rfl
      · rw [dcT (show 49 ≤ bt s j by omega), dcT (show bt s j ≤ 56 by omega)] at h
        simp (disch := omega) only [dcT, dcF, ineT, ineF, ieqT, ieqF, cond_true, cond_false, Option.bind_some, Int.toNat_natCast, w1add, blT, getAt, Bool.not_true, Bool.not_false]
        exact beTune_in N n' l L i s hs b d (j+1) n (by omega) (by omega) h
  | _, _, 0, _, hn, _ => by omega
theorem beTune_l (N : Nat) (hN : 1000 ≤ N) (l : List ByteArray) (hl : l.length ≤ 12) : ∀ (d i n : Nat), i + d = l.length → d < n → spec_beTune.l1 N n l l.length i = some ((l.drop i).all phraseOk)
  | 0, i, n+1, hi, hn => by
    unfold spec_beTune.l1 spec_beTune.d1 spec_beTune.o1
    rw [dcF (by omega), cond_false, List.drop_eq_nil_of_le (by omega)]; rfl
  | d+1, i, n+1, hi, hn => by
    unfold spec_beTune.l1 spec_beTune.d1 spec_beTune.o1
    have hlt : i < l.length := by omega
    rw [List.drop_eq_getElem_cons hlt, List.all_cons]
    simp (disch := omega) only [dcT, cond_true, Int.toNat_natCast, getAt, l1In_eq, Option.bind_some]
    rw [phraseOk]
    cases e : inB l[i].size 1 8
    · rw [Bool.and_false]; rfl
    · rw [Bool.and_true, Bool.not_true, cond_false]
      rw [inB_iff] at e
      refine beTune_in N n l l.length i l[i] (by omega) _ l[i].size 0 N (by omega) (by omega) fun _ => ?_
      rw [w1add (by omega)]
      exact beTune_l N hN l hl d (i+1) n (by omega) (by omega)
  | _, _, 0, _, hn => by omega
theorem beTune_eq {N : Nat} (l : List ByteArray) (hl : Sm N l) : spec_beTune.g N l = some (tuneOk l) := by
  unfold spec_beTune.g spec_beTune.o0 tuneOk
  rw [l1In_eq, Option.bind_some]
  cases e : inB l.length 1 12
  · rfl
  · rw [inB_iff] at e
    rw [Bool.true_and, Bool.not_true, cond_false]
    have := beTune_l N hl.1 l (by omega) l.length 0 N (by omega) hl.2.2.1
    simpa using this
theorem tuneOk_facts {l : List ByteArray} (h : tuneOk l = true) : 1 ≤ l.length ∧ l.length ≤ 12 ∧ ∀ s ∈ l, 1 ≤ s.size ∧ s.size ≤ 8 := by
  simp only [tuneOk, Bool.and_eq_true, inB_iff, List.all_eq_true] at h
  refine ⟨by omega, by omega, fun s hs => ?_⟩
  have := h.2 s hs
  simp only [phraseOk, Bool.and_eq_true, inB_iff] at this
  omega
def askOk (l : List ByteArray) (q : Int) : Bool := tuneOk l && inB q 0 1000000
theorem isQuarter_eq {N : Nat} (l : List ByteArray) (hl : Sm N l) (q : Int) : impl_isQuarter.g N l q = some (askOk l q) := by
  unfold impl_isQuarter.g impl_isQuarter.o0 askOk
  rw [isTune_eq l hl, Option.bind_some]
  cases tuneOk l
  · rfl
  · rw [cond_true, within_eq]; rfl
theorem askOk_facts {l : List ByteArray} {q : Int} (h : askOk l q = true) : tuneOk l = true ∧ 0 ≤ q ∧ q ≤ 1000000 := by
  simp only [askOk, Bool.and_eq_true, inB_iff] at h
  exact h
end Go.Proofs.YtpmipkbfohcjiaaDoor.M

namespace Go.Proofs.YtpmipkbfohcjiaaDoor.M
open Go Go.PM Go.Proofs.YtpmipkbfohcjiaaDoor.P
set_option linter.unusedVariables false
set_option linter.unusedSimpArgs false
/-- How many phrases are played before a quarter. -/
def before (q : Nat) : Nat := q / 4 * 10 + q % 4 * (q % 4 + 1) / 2
theorem before_step (q : Nat) : before (q + 1) = before q + (q % 4 + 1) := by
  unfold before
  have h0 : q % 4 = 0 ∨ q % 4 = 1 ∨ q % 4 = 2 ∨ q % 4 = 3 := by omega
  rcases h0 with h0 | h0 | h0 | h0
  · have e1 : (q + 1) % 4 = 1 := by omega
    have e2 : (q + 1) / 4 = q / 4 := by omega
    rw [h0, e1, e2]
  · have e1 : (q + 1) % 4 = 2 := by omega
    have e2 : (q + 1) / 4 = q / 4 := by omega
    rw [h0, e1, e2]
  · have e1 : (q + 1) % 4 = 3 := by omega
    have e2 : (q + 1) / 4 = q / 4 := by omega
    rw [h0, e1, e2]
  · have e1 : (q + 1) % 4 = 0 := by omega
    have e2 : (q + 1) / 4 = q / 4 + 1 := by omega
    rw [h0, e1, e2]; omega
theorem before_le (q : Nat) : before q ≤ 3 * q + 10 := by
  unfold before
  have h0 : q % 4 = 0 ∨ q % 4 = 1 ∨ q % 4 = 2 ∨ q % 4 = 3 := by omega
  rcases h0 with h0 | h0 | h0 | h0 <;> rw [h0] <;> omega
theorem before_hours (q h : Nat) : before (q + 4 * h) = before q + 10 * h := by
  unfold before
  rw [show (q + 4 * h) % 4 = q % 4 by omega, show (q + 4 * h) / 4 = q / 4 + h by omega]
  omega
theorem played_eq (N : Nat) {q : Nat} (h2 : q ≤ 1000000000000) : impl_played.g N q = some (before q : Int) := by
  unfold impl_played.g impl_played.o0 before
  have e1 : Int.tmod (q : Int) 4 = ((q % 4 : Nat) : Int) := tmodN q 4
  have e2 : Int.tdiv (q : Int) 4 = ((q / 4 : Nat) : Int) := tdivN q 4
  rw [e1, e2]
  have h0 : q % 4 = 0 ∨ q % 4 = 1 ∨ q % 4 = 2 ∨ q % 4 = 3 := by omega
  rw [w64s (n := ((q / 4 : Nat) : Int)) (by omega) (by omega), w64s (n := ((q / 4 : Nat) : Int) * 10) (by omega) (by omega)]
  rcases h0 with h0 | h0 | h0 | h0 <;> rw [h0] <;> congr 1
  · rw [show w64 (Int.tdiv (w64 (((0 : Nat) : Int) * w64 (((0 : Nat) : Int) + 1))) 2) = 0 by decide, w64s (by omega) (by omega)]; show _ = ((q / 4 * 10 + 0 : Nat) : Int); clear e1 e2; omega
  · rw [show w64 (Int.tdiv (w64 (((1 : Nat) : Int) * w64 (((1 : Nat) : Int) + 1))) 2) = 1 by decide, w64s (by omega) (by omega)]; show _ = ((q / 4 * 10 + 1 : Nat) : Int); clear e1 e2; omega
  · rw [show w64 (Int.tdiv (w64 (((2 : Nat) : Int) * w64 (((2 : Nat) : Int) + 1))) 2) = 3 by decide, w64s (by omega) (by omega)]; show _ = ((q / 4 * 10 + 3 : Nat) : Int); clear e1 e2; omega
  · rw [show w64 (Int.tdiv (w64 (((3 : Nat) : Int) * w64 (((3 : Nat) : Int) + 1))) 2) = 6 by decide, w64s (by omega) (by omega)]; show _ = ((q / 4 * 10 + 6 : Nat) : Int); clear e1 e2; omega
theorem beBefore_eq (N : Nat) {q : Nat} (h2 : q ≤ 1000000000000) : spec_beBefore.g N q = some (before q : Int) := played_eq N h2
def plays (n b d : Nat) : List Int := (List.range d).map fun (j : Nat) => (((b + j) % n : Nat) : Int)
theorem plays_length (n b d : Nat) : (plays n b d).length = d := by simp [plays]
theorem plays_succ (n b d : Nat) : plays n b d ++ [(((b + d) % n : Nat) : Int)] = plays n b (d + 1) := by simp [plays, List.range_succ]
theorem plays_get (n b d i : Nat) (h : i < (plays n b d).length) : (plays n b d)[i] = (((b + i) % n : Nat) : Int) := by simp [plays]
def cnt (q : Nat) : Nat := q % 4 + 1
theorem phrases_l (N : Nat) (l : List ByteArray) (h1 : 1 ≤ l.length) {q : Nat} (h2 : q ≤ 100000000000) : ∀ (d i n : Nat), i + d = cnt q → d < n → impl_phrases.l1 N n l q (plays l.length (before q) i) ((before q + i : Nat) : Int) = some (plays l.length (before q) (cnt q))
  | d, i, n+1, hi, hn => by
    have hst := before_step q
    have hb := before_le q
    have hc : cnt q = q % 4 + 1 := rfl
    unfold impl_phrases.l1 impl_phrases.d1 impl_phrases.o1
    rw [w1add (by omega), played_eq N (by omega), Option.bind_some]
    cases d with
    | zero =>
      rw [dcF (by omega), cond_false, show i = cnt q by omega]
    | succ d =>
      rw [dcT (by omega), cond_true, ieqF (by omega), cond_false, tmodN, blT (by rw [plays_length]; simp only [List.length_singleton]; omega), cond_true, plays_succ, w1add (by omega)]
      exact phrases_l N l h1 h2 d (i+1) n (by omega) (by omega)
  | _, _, 0, _, hn => by omega
theorem phrases_eq {N : Nat} (hN : 1000 ≤ N) (l : List ByteArray) (h1 : 1 ≤ l.length) {q : Nat} (h2 : q ≤ 100000000000) : impl_phrases.g N l q = some (plays l.length (before q) (cnt q)) := by
  unfold impl_phrases.g impl_phrases.o0
  rw [played_eq N (by omega), Option.bind_some]
  have hc : cnt q = q % 4 + 1 := rfl
  exact phrases_l N l h1 h2 (cnt q) 0 N (by omega) (by omega)
theorem bePlays_l (N : Nat) (l : List ByteArray) (h1 : 1 ≤ l.length) {q : Nat} (h2 : q ≤ 100000000000) : ∀ (d i n : Nat), i + d = cnt q → d < n → spec_bePlays.l2 N n l q (plays l.length (before q) i) (i : Int) = some (plays l.length (before q) (cnt q))
  | d, i, n+1, hi, hn => by
    have hb := before_le q
    have hc : cnt q = q % 4 + 1 := rfl
    unfold spec_bePlays.l2 spec_bePlays.d2 spec_bePlays.o2
    rw [show Int.tmod (q : Int) 4 = ((q % 4 : Nat) : Int) from tmodN q 4]
    cases d with
    | zero =>
      rw [dcF (by omega), cond_false, show i = cnt q by omega]
    | succ d =>
      rw [dcT (by omega), cond_true, beBefore_eq N (by omega), Option.bind_some, ieqF (by omega), cond_false, w2add (by omega), tmodN, blT (by rw [plays_length]; simp only [List.length_singleton]; omega), cond_true, plays_succ, w1add (by omega)]
      exact bePlays_l N l h1 h2 d (i+1) n (by omega) (by omega)
  | _, _, 0, _, hn => by omega
theorem bePlays_eq {N : Nat} (hN : 1000 ≤ N) (l : List ByteArray) (h1 : 1 ≤ l.length) {q : Nat} (h2 : q ≤ 100000000000) : spec_bePlays.g N l q = some (plays l.length (before q) (cnt q)) := by
  obtain ⟨n, rfl⟩ : ∃ n, N = n + 1 := ⟨N - 1, by omega⟩
  have hc : cnt q = q % 4 + 1 := rfl
  have := bePlays_l (n+1) l h1 h2 (cnt q) 0 (n+1) (by omega) (by omega)
  exact this
def addAll (l : List ByteArray) (acc : ByteArray) : List Int → ByteArray
  | [] => acc
  | x :: xs => addAll l (acc ++ (l[x.toNat]?).getD ⟨#[]⟩) xs
def notesOf (l : List ByteArray) (q : Nat) : ByteArray := addAll l (⟨#[]⟩ : ByteArray) (plays l.length (before q) (cnt q))
theorem notes_l (N : Nat) (l : List ByteArray) (hs : ∀ s ∈ l, s.size ≤ 8) (L : List Int) (hL : L.length ≤ 100) (hx : ∀ x ∈ L, 0 ≤ x ∧ x < l.length) : ∀ (d i n : Nat) (acc : ByteArray), i + d = L.length → acc.size ≤ 8 * i → d < n → impl_notes.l1 N n l acc L L.length i = some (addAll l acc (L.drop i))
  | 0, i, n+1, acc, hi, ha, hn => by
    unfold impl_notes.l1 impl_notes.d1 impl_notes.o1
    rw [dcF (by omega), cond_false, List.drop_eq_nil_of_le (by omega)]; rfl
  | d+1, i, n+1, acc, hi, ha, hn => by
    unfold impl_notes.l1 impl_notes.d1 impl_notes.o1
    have hlt : i < L.length := by omega
    have hb := hx _ (List.getElem_mem hlt)
    have hj : L[i].toNat < l.length := by omega
    have hsz := hs _ (List.getElem_mem hj)
    rw [List.drop_eq_getElem_cons hlt, addAll, List.getElem?_eq_getElem hj, Option.getD_some]
    simp (disch := omega) only [dcT, cond_true, Int.toNat_natCast, getAt, w1add]
    rw [show Nat.ble (acc.size + l[L[i].toNat].size) 9223372036854775807 = true from Nat.ble_eq_true_of_le (by omega), cond_true]
    exact notes_l N l hs L hL hx d (i+1) n _ (by omega) (by rw [ByteArray.size_append]; omega) (by omega)
  | _, _, 0, _, _, _, hn => by omega
theorem plays_in (n : Nat) (hn : 1 ≤ n) (b d : Nat) : ∀ x ∈ plays n b d, 0 ≤ x ∧ x < n := by
  intro x hx
  simp only [plays, List.mem_map] at hx
  obtain ⟨j, _, rfl⟩ := hx
  have := Nat.mod_lt (b + j) (show n > 0 by omega)
  omega
theorem notes_eq {N : Nat} (hN : 1000 ≤ N) (l : List ByteArray) (ht : tuneOk l = true) {q : Nat} (h2 : q ≤ 100000000000) : impl_notes.g N l q = some (notesOf l q) := by
  obtain ⟨h1, _, hs⟩ := tuneOk_facts ht
  unfold impl_notes.g impl_notes.o0 notesOf
  rw [phrases_eq hN l h1 h2, Option.bind_some]
  have hc : cnt q = q % 4 + 1 := rfl
  exact notes_l N l (fun s h => (hs s h).2) (plays l.length (before q) (cnt q)) (by rw [plays_length]; omega) (plays_in _ h1 _ _) _ 0 N _ (by rw [Nat.zero_add]) (Nat.le_refl _) (by rw [plays_length]; omega)
theorem beNotes_l1 (N : Nat) : ∀ n, spec_beNotes.l1 N n = impl_notes.l1 N n
  | 0 => rfl
  | n + 1 => by
    funext a b c d e
    unfold spec_beNotes.l1 impl_notes.l1 spec_beNotes.d1 impl_notes.d1 spec_beNotes.o1 impl_notes.o1
    rw [beNotes_l1 N n]
theorem beNotes_eq {N : Nat} (hN : 1000 ≤ N) (l : List ByteArray) (ht : tuneOk l = true) {q : Nat} (h2 : q ≤ 100000000000) : spec_beNotes.g N l q = some (notesOf l q) := by
  obtain ⟨h1, _, hs⟩ := tuneOk_facts ht
  have := notes_eq hN l ht h2
  unfold impl_notes.g impl_notes.o0 at this
  rw [phrases_eq hN l h1 h2, Option.bind_some] at this
  unfold spec_beNotes.g spec_beNotes.o0
  rw [bePlays_eq hN l h1 h2, Option.bind_some, beNotes_l1]
  exact this
def hoursN (n : Nat) : Nat := n / Nat.gcd n 10
theorem gcd_eq {N : Nat} (hN : 1000 ≤ N) {k : Nat} (h1 : 1 ≤ k) (h2 : k ≤ 12) : impl_gcd.g N k 10 = some ((Nat.gcd k 10 : Nat) : Int) := by
  obtain ⟨n, rfl⟩ : ∃ n, N = n + 20 := ⟨N - 20, by omega⟩
  have : k = 1 ∨ k = 2 ∨ k = 3 ∨ k = 4 ∨ k = 5 ∨ k = 6 ∨ k = 7 ∨ k = 8 ∨ k = 9 ∨ k = 10 ∨ k = 11 ∨ k = 12 := by omega
  rcases this with e | e | e | e | e | e | e | e | e | e | e | e <;> subst e <;> rfl
theorem common_eq {N : Nat} (hN : 1000 ≤ N) {k : Nat} (h1 : 1 ≤ k) (h2 : k ≤ 12) : spec_diCommon.g N k 10 = some ((Nat.gcd k 10 : Nat) : Int) := by
  obtain ⟨n, rfl⟩ : ∃ n, N = n + 20 := ⟨N - 20, by omega⟩
  have : k = 1 ∨ k = 2 ∨ k = 3 ∨ k = 4 ∨ k = 5 ∨ k = 6 ∨ k = 7 ∨ k = 8 ∨ k = 9 ∨ k = 10 ∨ k = 11 ∨ k = 12 := by omega
  rcases this with e | e | e | e | e | e | e | e | e | e | e | e <;> subst e <;> rfl
theorem hours_facts {k : Nat} (h1 : 1 ≤ k) (h2 : k ≤ 12) : 1 ≤ hoursN k ∧ hoursN k ≤ k ∧ 10 * hoursN k % k = 0 := by
  have : k = 1 ∨ k = 2 ∨ k = 3 ∨ k = 4 ∨ k = 5 ∨ k = 6 ∨ k = 7 ∨ k = 8 ∨ k = 9 ∨ k = 10 ∨ k = 11 ∨ k = 12 := by omega
  rcases this with e | e | e | e | e | e | e | e | e | e | e | e <;> subst e <;> decide
theorem hours_eq {N : Nat} (hN : 1000 ≤ N) (l : List ByteArray) (h1 : 1 ≤ l.length) (h2 : l.length ≤ 12) : impl_hours.g N l = some (hoursN l.length : Int) := by
  have hf := hours_facts h1 h2
  have hp : 0 < Nat.gcd l.length 10 := Nat.gcd_pos_of_pos_left _ h1
  unfold impl_hours.g impl_hours.o0
  rw [gcd_eq hN h1 h2, Option.bind_some, ieqF (by omega), cond_false, tdivN]
  unfold hoursN at hf ⊢
  rw [w64s (by omega) (by omega)]
theorem beHours_eq {N : Nat} (hN : 1000 ≤ N) (l : List ByteArray) (h1 : 1 ≤ l.length) (h2 : l.length ≤ 12) : spec_beHours.g N l = some (hoursN l.length : Int) := by
  have hf := hours_facts h1 h2
  have hp : 0 < Nat.gcd l.length 10 := Nat.gcd_pos_of_pos_left _ h1
  unfold spec_beHours.g spec_beHours.o0
  rw [common_eq hN h1 h2, Option.bind_some, ieqF (by omega), cond_false, tdivN]
  unfold hoursN at hf ⊢
  rw [w64s (by omega) (by omega)]
end Go.Proofs.YtpmipkbfohcjiaaDoor.M

namespace Go.Proofs.YtpmipkbfohcjiaaDoor.M
open Go Go.PM Go.Proofs.YtpmipkbfohcjiaaDoor.P
set_option linter.unusedVariables false
set_option linter.unusedSimpArgs false
theorem kHas_l (N : Nat) (l : List Int) (b : Int) (hs : l.length < 1000000000) : ∀ (d i n : Nat), i + d = l.length → d < n → laws_kHas.l1 N n b l l.length i = some (decide (b ∈ l.drop i))
  | 0, i, n+1, hi, hn => by
    unfold laws_kHas.l1 laws_kHas.d1 laws_kHas.o1
    rw [dcF (by omega), cond_false, List.drop_eq_nil_of_le (by omega)]
    simp
  | d+1, i, n+1, hi, hn => by
    unfold laws_kHas.l1 laws_kHas.d1 laws_kHas.o1
    have hlt : i < l.length := by omega
    rw [List.drop_eq_getElem_cons hlt]
    simp (disch := omega) only [dcT, cond_true, Int.toNat_natCast, getAt]
    by_cases e : l[i] = b
    · rw [ieqT e, cond_true, dcT (by rw [e]; exact List.mem_cons_self)]
    · rw [ieqF e, cond_false, w1add (by omega)]
      refine (kHas_l N l b hs d (i+1) n (by omega) (by omega)).trans ?_
      have e' : ¬ b = l[i] := fun z => e z.symm
      rw [Option.some.injEq, decide_eq_decide, List.mem_cons]; exact ⟨Or.inr, fun h => h.resolve_left e'⟩
  | _, _, 0, _, hn => by omega
theorem kHas_eq {N : Nat} (l : List Int) (b : Int) (hs : l.length < 1000000000) (hN : l.length < N) : laws_kHas.g N l b = some (decide (b ∈ l)) := by
  unfold laws_kHas.g laws_kHas.o0
  exact kHas_l N l b hs l.length 0 N (by omega) hN
def playedP (l : List ByteArray) (q : Int) : ByteArray × Bool := if askOk l q = true then (notesOf l q.toNat, true) else (⟨#[]⟩, false)
def hoursP (l : List ByteArray) : Int × Bool := if tuneOk l = true then ((hoursN l.length : Int), true) else (0, false)
theorem implPlayed_eq {N : Nat} (l : List ByteArray) (hl : Sm N l) (q : Int) : impl_PlayedAt.g N l q = some (playedP l q) := by
  unfold impl_PlayedAt.g impl_PlayedAt.o0 playedP
  rw [isQuarter_eq l hl q, Option.bind_some]
  cases c : askOk l q
  · rfl
  · obtain ⟨ht, q0, q1⟩ := askOk_facts c
    obtain ⟨k, rfl⟩ := Int.eq_ofNat_of_zero_le q0
    rw [Bool.not_true, cond_false, notes_eq hl.1 l ht (by omega)]; rfl
theorem implHours_eq {N : Nat} (l : List ByteArray) (hl : Sm N l) : impl_HoursUntilSame.g N l = some (hoursP l) := by
  unfold impl_HoursUntilSame.g impl_HoursUntilSame.o0 hoursP
  rw [isTune_eq l hl, Option.bind_some]
  cases ht : tuneOk l
  · rfl
  · rw [Bool.not_true, cond_false, hours_eq hl.1 l (tuneOk_facts ht).1 (tuneOk_facts ht).2.1]; rfl
theorem kTexts_l (N : Nat) (l : List ByteArray) (hs : l.length < 1000000000) : ∀ (d i n : Nat), i + d = l.length → d < n → laws_kTexts.l1 N n l l l.length i = some true
  | 0, i, n+1, hi, hn => by
    unfold laws_kTexts.l1 laws_kTexts.d1 laws_kTexts.o1
    rw [dcF (by omega), cond_false]
  | d+1, i, n+1, hi, hn => by
    unfold laws_kTexts.l1 laws_kTexts.d1 laws_kTexts.o1
    have hlt : i < l.length := by omega
    simp (disch := omega) only [dcT, cond_true, Int.toNat_natCast, getAt, beq_self_eq_true, Bool.not_true, cond_false, w1add]
    exact kTexts_l N l hs d (i+1) n (by omega) (by omega)
  | _, _, 0, _, hn => by omega
theorem kTexts_self {N : Nat} (l : List ByteArray) (hs : l.length < 1000000000) (hN : l.length < N) : laws_kTexts.g N l l = some true := by
  unfold laws_kTexts.g laws_kTexts.o0
  rw [ineF rfl, cond_false]
  exact kTexts_l N l hs l.length 0 N (by omega) hN
end Go.Proofs.YtpmipkbfohcjiaaDoor.M

namespace Go.Proofs.YtpmipkbfohcjiaaDoor.M
open Go Go.PM Go.Proofs.YtpmipkbfohcjiaaDoor.P
set_option linter.unusedVariables false
set_option linter.unusedSimpArgs false
set_option maxRecDepth 100000
abbrev LB : Type := List ByteArray
def mF (l : LB) (q : Nat) : LB → Bool
  | [] => true
  | x :: xs => ((notesOf l q).toList == x.toList) && mF l (q + 1) xs
def qL (l p : LB) : Nat → List Int
  | 0 => []
  | n + 1 => bif mF l n p then qL l p n ++ [(n : Int)] else qL l p n
theorem qL_le (l p : LB) : ∀ n, (qL l p n).length ≤ n
  | 0 => Nat.le_refl _
  | n + 1 => by
    have := qL_le l p n
    simp only [qL]
    cases mF l n p
    · show (qL l p n).length ≤ n + 1; omega
    · show (qL l p n ++ [_]).length ≤ n + 1; simp; omega
theorem qL_mem (l p : LB) (x : Int) : ∀ n, x ∈ qL l p n ↔ ∃ k, k < n ∧ mF l k p = true ∧ x = (k : Int)
  | 0 => by simp [qL]
  | n + 1 => by
    simp only [qL]
    cases hp : mF l n p with
    | true =>
      simp only [cond_true, List.mem_append, List.mem_singleton, qL_mem l p x n]
      constructor
      · rintro (⟨k, a, b, c⟩ | h)
        · exact ⟨k, by omega, b, c⟩
        · exact ⟨n, by omega, hp, h⟩
      · rintro ⟨k, a, b, c⟩
        by_cases e : k = n
        · subst e; exact .inr c
        · exact .inl ⟨k, by omega, b, c⟩
    | false =>
      simp only [cond_false, qL_mem l p x n]
      constructor
      · rintro ⟨k, a, b, c⟩; exact ⟨k, by omega, b, c⟩
      · rintro ⟨k, a, b, c⟩
        have e : k ≠ n := by rintro rfl; rw [hp] at b; cases b
        exact ⟨k, by omega, b, c⟩
abbrev M4 (l : LB) : Nat := 4 * hoursN l.length
theorem w4m {l : LB} (h1 : 1 ≤ l.length) (h2 : l.length ≤ 12) : w64 (4 * (hoursN l.length : Int)) = ((M4 l : Nat) : Int) := by
  have := hours_facts h1 h2
  rw [w64s (by omega) (by omega)]; unfold M4; omega
theorem implMatch {N : Nat} (hN : 1000 ≤ N) (l : LB) (ht : tuneOk l = true) (p : LB) (hp : p.length ≤ 1000) (acc : List Int) (ha : acc.length ≤ 1000) (q : Nat) (hq : q ≤ 1000000) (M : Int) (c1 : LB → LB → (List Int) → Int → Int → Option impl_quartersOf.R) : ∀ (d i n : Nat) (b : Bool), i + d = p.length → d < n →
    impl_quartersOf.l2 N n l p acc q b M q p p.length i c1 = c1 l p (bif b && mF l (q + i) (p.drop i) then acc ++ [(q : Int)] else acc) M ((q + 1 : Nat) : Int)
  | 0, i, n+1, b, hi, hn => by
    unfold impl_quartersOf.l2 impl_quartersOf.d2 impl_quartersOf.o2
    rw [dcF (show ¬ (i : Int) < (p.length : Int) by omega), cond_false, List.drop_eq_nil_of_le (by omega), w1add (by omega)]
    cases b with
    | false => rfl
    | true =>
      rw [cond_true, blT (by simp; omega), cond_true]; rfl
  | d+1, i, n+1, b, hi, hn => by
    have hlt : i < p.length := by omega
    unfold impl_quartersOf.l2 impl_quartersOf.d2 impl_quartersOf.o2
    rw [dcT (show (i : Int) < (p.length : Int) by omega), cond_true, dcT (show 0 ≤ (i : Int) by omega), cond_true, cond_true, Int.toNat_natCast, getAt hlt, w2add (by omega), w1add (by omega), List.drop_eq_getElem_cons hlt]
    cases b with
    | false =>
      rw [cond_false]
      exact implMatch hN l ht p hp acc ha q hq M c1 d (i+1) n false (by omega) (by omega)
    | true =>
      rw [cond_true, notes_eq hN l ht (by omega), Option.bind_some]
      refine (implMatch hN l ht p hp acc ha q hq M c1 d (i+1) n _ (by omega) (by omega)).trans ?_
      simp only [mF, Bool.true_and]; rfl
  | _, _, 0, _, _, hn => by omega
theorem implQ_l {N : Nat} (hN : 1000 ≤ N) (l : LB) (ht : tuneOk l = true) (p : LB) (hp : p.length ≤ 1000) (hpN : p.length < N) (M : Nat) (hM : M ≤ 1000) : ∀ (d i n : Nat), i + d = M → d < n → impl_quartersOf.l1 N n l p (qL l p i) M i = some (qL l p M)
  | 0, i, n+1, hi, hn => by
    unfold impl_quartersOf.l1 impl_quartersOf.d1 impl_quartersOf.o1
    rw [dcF (by omega), cond_false, show i = M by omega]
  | d+1, i, n+1, hi, hn => by
    have hle := qL_le l p i
    unfold impl_quartersOf.l1 impl_quartersOf.d1 impl_quartersOf.o1
    rw [dcT (by omega), cond_true]
    refine (implMatch hN l ht p hp (qL l p i) (by omega) i (by omega) M _ p.length 0 N true (by omega) (by omega)).trans ?_
    exact implQ_l hN l ht p hp hpN M hM d (i+1) n (by omega) (by omega)
  | _, _, 0, _, hn => by omega
theorem M4_le {l : LB} (ht : tuneOk l = true) : 4 ≤ M4 l ∧ M4 l ≤ 48 := by
  obtain ⟨h1, h2, _⟩ := tuneOk_facts ht
  have := hours_facts h1 h2
  unfold M4; omega
theorem implQ_eq {N : Nat} (hN : 10000 ≤ N) (l : LB) (ht : tuneOk l = true) (p : LB) (hp : p.length ≤ 1000) : impl_quartersOf.g N l p = some (qL l p (M4 l)) := by
  obtain ⟨h1, h2, _⟩ := tuneOk_facts ht
  have hm := M4_le ht
  unfold impl_quartersOf.g impl_quartersOf.o0
  rw [hours_eq (by omega) l h1 h2, Option.bind_some, w4m h1 h2]
  exact implQ_l (by omega) l ht p hp (by omega) (M4 l) (by omega) (M4 l) 0 N (by omega) (by omega)
theorem specMatch6 {N : Nat} (hN : 1000 ≤ N) (l : LB) (ht : tuneOk l = true) (p : LB) (hp : p.length ≤ 1000) (acc : List Int) (ha : acc.length ≤ 1000) (q : Nat) (hq : q ≤ 1000000) (c1 : LB → LB → Int → Option spec_beQuarters.R) (c5 : LB → LB → (List Int) → Int → Option spec_beQuarters.R) : ∀ (d i n : Nat) (b : Bool), i + d = p.length → d < n →
    spec_beQuarters.l6 N n l p acc q b p p.length i c1 c5 = c5 l p (bif b && mF l (q + i) (p.drop i) then acc ++ [(q : Int)] else acc) ((q + 1 : Nat) : Int)
  | 0, i, n+1, b, hi, hn => by
    unfold spec_beQuarters.l6 spec_beQuarters.d6 spec_beQuarters.o6 spec_beQuarters.d3 spec_beQuarters.o3
    dsimp only
    rw [dcF (show ¬ (i : Int) < (p.length : Int) by omega), cond_false, List.drop_eq_nil_of_le (by omega), w1add (by omega)]
    cases b with
    | false => rfl
    | true =>
      rw [cond_true, blT (by simp; omega), cond_true]; rfl
  | d+1, i, n+1, b, hi, hn => by
    have hlt : i < p.length := by omega
    unfold spec_beQuarters.l6 spec_beQuarters.d6 spec_beQuarters.o6
    rw [dcT (show (i : Int) < (p.length : Int) by omega), cond_true, dcT (show 0 ≤ (i : Int) by omega), cond_true, cond_true, Int.toNat_natCast, getAt hlt, w2add (by omega), w1add (by omega), List.drop_eq_getElem_cons hlt]
    cases b with
    | false =>
      rw [cond_false]
      exact specMatch6 hN l ht p hp acc ha q hq c1 c5 d (i+1) n false (by omega) (by omega)
    | true =>
      rw [cond_true, beNotes_eq hN l ht (by omega), Option.bind_some]
      refine (specMatch6 hN l ht p hp acc ha q hq c1 c5 d (i+1) n _ (by omega) (by omega)).trans ?_
      simp only [mF, Bool.true_and]; rfl
  | _, _, 0, _, _, hn => by omega
theorem specMatch2 {N : Nat} (hN : 1000 ≤ N) (l : LB) (ht : tuneOk l = true) (p : LB) (hp : p.length ≤ 1000) (q : Nat) (hq : q ≤ 1000000) (c1 : LB → LB → Int → Option spec_beQuarters.R) (c5 : LB → LB → (List Int) → Int → Option spec_beQuarters.R) : ∀ (d i n : Nat) (b : Bool), i + d = p.length → d < n →
    spec_beQuarters.l2 N n l p q b p p.length i c1 c5 = bif b && mF l (q + i) (p.drop i) then c5 l p [(q : Int)] ((q + 1 : Nat) : Int) else c1 l p ((q + 1 : Nat) : Int)
  | 0, i, n+1, b, hi, hn => by
    unfold spec_beQuarters.l2 spec_beQuarters.d2 spec_beQuarters.o2 spec_beQuarters.d3 spec_beQuarters.o3 spec_beQuarters.d4 spec_beQuarters.o4
    dsimp only
    rw [dcF (show ¬ (i : Int) < (p.length : Int) by omega), cond_false, List.drop_eq_nil_of_le (by omega), w1add (by omega)]
    cases b with
    | false => rfl
    | true =>
      rw [cond_true, blT (by simp), cond_true]; rfl
  | d+1, i, n+1, b, hi, hn => by
    have hlt : i < p.length := by omega
    unfold spec_beQuarters.l2 spec_beQuarters.d2 spec_beQuarters.o2
    rw [dcT (show (i : Int) < (p.length : Int) by omega), cond_true, dcT (show 0 ≤ (i : Int) by omega), cond_true, cond_true, Int.toNat_natCast, getAt hlt, w2add (by omega), w1add (by omega), List.drop_eq_getElem_cons hlt]
    cases b with
    | false =>
      rw [cond_false]
      exact specMatch2 hN l ht p hp q hq c1 c5 d (i+1) n false (by omega) (by omega)
    | true =>
      rw [cond_true, beNotes_eq hN l ht (by omega), Option.bind_some]
      refine (specMatch2 hN l ht p hp q hq c1 c5 d (i+1) n _ (by omega) (by omega)).trans ?_
      simp only [mF, Bool.true_and]; rfl
  | _, _, 0, _, _, hn => by omega
theorem specQ_l5 {N : Nat} (hN : 1000 ≤ N) (l : LB) (ht : tuneOk l = true) (p : LB) (hp : p.length ≤ 1000) (hpN : p.length < N) : ∀ (d i n : Nat), i + d = M4 l → d < n → spec_beQuarters.l5 N n l p (qL l p i) i = some (qL l p (M4 l))
  | 0, i, n+1, hi, hn => by
    obtain ⟨h1, h2, _⟩ := tuneOk_facts ht
    unfold spec_beQuarters.l5 spec_beQuarters.d5 spec_beQuarters.o5
    rw [beHours_eq hN l h1 h2, Option.bind_some, w4m h1 h2, dcF (by omega), cond_false, show i = M4 l by omega]
  | d+1, i, n+1, hi, hn => by
    obtain ⟨h1, h2, _⟩ := tuneOk_facts ht
    have hm := M4_le ht
    have hle := qL_le l p i
    unfold spec_beQuarters.l5 spec_beQuarters.d5 spec_beQuarters.o5
    rw [beHours_eq hN l h1 h2, Option.bind_some, w4m h1 h2, dcT (by omega), cond_true]
    refine (specMatch6 hN l ht p hp (qL l p i) (by omega) i (by omega) _ _ p.length 0 N true (by omega) (by omega)).trans ?_
    exact specQ_l5 hN l ht p hp hpN d (i+1) n (by omega) (by omega)
  | _, _, 0, _, hn => by omega
theorem specQ_l1 {N : Nat} (hN : 1000 ≤ N) (l : LB) (ht : tuneOk l = true) (p : LB) (hp : p.length ≤ 1000) (hpN : p.length < N) : ∀ (d i n : Nat), i + d = M4 l → d < n → qL l p i = [] → spec_beQuarters.l1 N n l p i = some (qL l p (M4 l))
  | 0, i, n+1, hi, hn, h0 => by
    obtain ⟨h1, h2, _⟩ := tuneOk_facts ht
    unfold spec_beQuarters.l1 spec_beQuarters.d1 spec_beQuarters.o1
    rw [beHours_eq hN l h1 h2, Option.bind_some, w4m h1 h2, dcF (by omega), cond_false, show M4 l = i by omega, h0]
  | d+1, i, n+1, hi, hn, h0 => by
    obtain ⟨h1, h2, _⟩ := tuneOk_facts ht
    have hm := M4_le ht
    unfold spec_beQuarters.l1 spec_beQuarters.d1 spec_beQuarters.o1
    rw [beHours_eq hN l h1 h2, Option.bind_some, w4m h1 h2, dcT (by omega), cond_true]
    refine (specMatch2 hN l ht p hp i (by omega) _ _ p.length 0 N true (by omega) (by omega)).trans ?_
    rw [Bool.true_and, List.drop_zero, Nat.add_zero]
    cases hp' : mF l i p with
    | true =>
      have ih := specQ_l5 hN l ht p hp hpN d (i+1) n (by omega) (by omega)
      simp only [qL] at ih
      rw [hp', h0] at ih
      exact ih
    | false =>
      exact specQ_l1 hN l ht p hp hpN d (i+1) n (by omega) (by omega) (by simp only [qL]; rw [hp', h0]; rfl)
  | _, _, 0, _, hn, _ => by omega
theorem specQ_eq {N : Nat} (hN : 10000 ≤ N) (l : LB) (ht : tuneOk l = true) (p : LB) (hp : p.length ≤ 1000) : spec_beQuarters.g N l p = some (qL l p (M4 l)) := by
  have hm := M4_le ht
  exact specQ_l1 (by omega) l ht p hp (by omega) (M4 l) 0 N (by omega) (by omega) rfl
def qP (l p : LB) : List Int × Bool := if tuneOk l && inB p.length 1 8 then (qL l p (M4 l), true) else ([], false)
theorem Quarters_eq {N : Nat} (hN : 10000 ≤ N) (l : LB) (hl : Sm N l) (p : LB) : impl_QuartersOfHeard.g N l p = some (qP l p) ∧ spec_QuartersOfHeard.g N l p = some (qP l p) := by
  unfold impl_QuartersOfHeard.g impl_QuartersOfHeard.o0 spec_QuartersOfHeard.g spec_QuartersOfHeard.o0 impl_QuartersOfHeard.d1 impl_QuartersOfHeard.o1 spec_QuartersOfHeard.d1 spec_QuartersOfHeard.o1 qP
  rw [isTune_eq l hl, beTune_eq l hl, Option.bind_some, Option.bind_some]
  cases ht : tuneOk l with
  | false => exact ⟨rfl, rfl⟩
  | true =>
    rw [Bool.not_true, cond_false, cond_false, within_eq, l1In_eq, Option.bind_some, Option.bind_some]
    cases hp : inB p.length 1 8 with
    | false => exact ⟨rfl, rfl⟩
    | true =>
      have := inB_iff.1 hp
      dsimp only
      rw [Bool.not_true, cond_false, cond_false, implQ_eq hN l ht p (by omega), specQ_eq hN l ht p (by omega)]
      exact ⟨rfl, rfl⟩
/-! ### the fewest -/
def hL (l : LB) (q : Nat) : Nat → LB
  | 0 => []
  | n + 1 => hL l q n ++ [notesOf l (q + n)]
theorem hL_len (l : LB) (q : Nat) : ∀ n, (hL l q n).length = n
  | 0 => rfl
  | n + 1 => by simp [hL, hL_len l q n]
def oneAt (l : LB) (q n : Nat) : Bool := ((qL l (hL l q n) (M4 l)).length : Int) == 1
def okTo (l : LB) (n : Nat) : Nat → Bool
  | 0 => true
  | q + 1 => okTo l n q && oneAt l q n
def fewF (l : LB) : Nat → Nat → Int × Bool
  | 0, _ => (0, false)
  | d + 1, n => bif okTo l n (M4 l) then ((n : Int), true) else fewF l d (n + 1)
def fewP (l : LB) : Int × Bool := if tuneOk l then fewF l 8 1 else (0, false)
theorem implHeard {N : Nat} (hN : 10000 ≤ N) (l : LB) (ht : tuneOk l = true) (m : Nat) (hm : m ≤ 8) (q : Nat) (hq : q ≤ 1000) (M : Int) (b : Bool) (c2 : LB → Int → Bool → Int → Int → Option impl_FewestHeard.R) : ∀ (d i n : Nat), i + d = m → d < n →
    impl_FewestHeard.l3 N n l m b q (hL l q i) M q m i c2 = c2 l m (b && oneAt l q m) M ((q + 1 : Nat) : Int)
  | 0, i, n+1, hi, hn => by
    unfold impl_FewestHeard.l3 impl_FewestHeard.d3 impl_FewestHeard.o3
    rw [dcF (show ¬ (i : Int) < (m : Int) by omega), cond_false, w1add (by omega), show i = m by omega]
    cases b with
    | false => rfl
    | true => rw [cond_true, implQ_eq hN l ht _ (by rw [hL_len]; omega)]; rfl
  | d+1, i, n+1, hi, hn => by
    unfold impl_FewestHeard.l3 impl_FewestHeard.d3 impl_FewestHeard.o3
    rw [dcT (show (i : Int) < (m : Int) by omega), cond_true, w2add (by omega), notes_eq (by omega) l ht (by omega), Option.bind_some, blT (by rw [hL_len]; simp; omega), cond_true, w1add (by omega)]
    exact implHeard hN l ht m hm q hq M b c2 d (i+1) n (by omega) (by omega)
  | _, _, 0, _, hn => by omega
theorem implFew_q {N : Nat} (hN : 10000 ≤ N) (l : LB) (ht : tuneOk l = true) (m : Nat) (hm : m ≤ 8) (c1 : LB → Int → Option impl_FewestHeard.R) : ∀ (d q n : Nat), q + d = M4 l → d < n →
    impl_FewestHeard.l2 N n l m (okTo l m q) ((M4 l : Nat) : Int) q c1 = bif okTo l m (M4 l) then some ((m : Int), true) else c1 l ((m + 1 : Nat) : Int)
  | 0, q, n+1, hi, hn => by
    unfold impl_FewestHeard.l2 impl_FewestHeard.d2 impl_FewestHeard.o2
    rw [dcF (by omega), cond_false, show q = M4 l by omega, w1add (by omega)]
  | d+1, q, n+1, hi, hn => by
    have hM := M4_le ht
    unfold impl_FewestHeard.l2 impl_FewestHeard.d2 impl_FewestHeard.o2
    rw [dcT (by omega), cond_true]
    refine (implHeard hN l ht m hm q (by omega) _ _ _ m 0 N (by omega) (by omega)).trans ?_
    exact implFew_q hN l ht m hm c1 d (q+1) n (by omega) (by omega)
  | _, _, 0, _, hn => by omega
theorem implFew_l {N : Nat} (hN : 10000 ≤ N) (l : LB) (ht : tuneOk l = true) : ∀ (d m n : Nat), m + d = 9 → d < n → impl_FewestHeard.l1 N n l m = some (fewF l d m)
  | 0, m, n+1, hi, hn => by
    unfold impl_FewestHeard.l1 impl_FewestHeard.d1 impl_FewestHeard.o1
    rw [dcF (by omega)]; rfl
  | d+1, m, n+1, hi, hn => by
    obtain ⟨h1, h2, _⟩ := tuneOk_facts ht
    have hM := M4_le ht
    unfold impl_FewestHeard.l1 impl_FewestHeard.d1 impl_FewestHeard.o1
    rw [dcT (by omega), cond_true, hours_eq (by omega) l h1 h2, Option.bind_some, w4m h1 h2]
    refine (implFew_q hN l ht m (by omega) _ (M4 l) 0 N (by omega) (by omega)).trans ?_
    simp only [fewF]
    cases okTo l m (M4 l) with
    | true => rfl
    | false => exact implFew_l hN l ht d (m+1) n (by omega) (by omega)
  | _, _, 0, _, hn => by omega
theorem specHeard4 {N : Nat} (hN : 10000 ≤ N) (l : LB) (ht : tuneOk l = true) (m : Nat) (hm : m ≤ 8) (q : Nat) (hq : q ≤ 1000) (b : Bool) (c2 : LB → Int → Bool → Int → Option spec_FewestHeard.R) : ∀ (d i n : Nat), i + d = m → d < n →
    spec_FewestHeard.l4 N n l m b q (hL l q i) i c2 = c2 l m (b && oneAt l q m) ((q + 1 : Nat) : Int)
  | 0, i, n+1, hi, hn => by
    unfold spec_FewestHeard.l4 spec_FewestHeard.d4 spec_FewestHeard.o4 spec_FewestHeard.d5 spec_FewestHeard.o5
    dsimp only
    rw [dcF (show ¬ (i : Int) < (m : Int) by omega), cond_false, w1add (by omega), show i = m by omega]
    cases b with
    | false => rfl
    | true => rw [cond_true, specQ_eq hN l ht _ (by rw [hL_len]; omega)]; rfl
  | d+1, i, n+1, hi, hn => by
    unfold spec_FewestHeard.l4 spec_FewestHeard.d4 spec_FewestHeard.o4
    rw [dcT (show (i : Int) < (m : Int) by omega), cond_true, w2add (by omega), beNotes_eq (by omega) l ht (by omega), Option.bind_some, blT (by rw [hL_len]; simp; omega), cond_true, w1add (by omega)]
    exact specHeard4 hN l ht m hm q hq b c2 d (i+1) n (by omega) (by omega)
  | _, _, 0, _, hn => by omega
theorem specHeard3 {N : Nat} (hN : 10000 ≤ N) (l : LB) (ht : tuneOk l = true) (m : Nat) (hm1 : 1 ≤ m) (hm : m ≤ 8) (q : Nat) (hq : q ≤ 1000) (b : Bool) (c2 : LB → Int → Bool → Int → Option spec_FewestHeard.R) :
    spec_FewestHeard.l3 N N l m b q 0 c2 = c2 l m (b && oneAt l q m) ((q + 1 : Nat) : Int) := by
  obtain ⟨n, rfl⟩ : ∃ n, N = n + 1 := ⟨N - 1, by omega⟩
  unfold spec_FewestHeard.l3 spec_FewestHeard.d3 spec_FewestHeard.o3
  dsimp only
  rw [dcT (show (0 : Int) < (m : Int) by omega), cond_true, show ((q : Int) + 0) = ((q + 0 : Nat) : Int) by omega, w64s (by omega) (by omega), beNotes_eq (by omega) l ht (by omega), Option.bind_some, blT (by simp), cond_true]
  exact specHeard4 hN l ht m hm q hq b c2 (m-1) 1 n (by omega) (by omega)
theorem specFew_q {N : Nat} (hN : 10000 ≤ N) (l : LB) (ht : tuneOk l = true) (m : Nat) (hm1 : 1 ≤ m) (hm : m ≤ 8) (c1 : LB → Int → Option spec_FewestHeard.R) : ∀ (d q n : Nat), q + d = M4 l → d < n →
    spec_FewestHeard.l2 N n l m (okTo l m q) q c1 = bif okTo l m (M4 l) then some ((m : Int), true) else c1 l ((m + 1 : Nat) : Int)
  | 0, q, n+1, hi, hn => by
    obtain ⟨h1, h2, _⟩ := tuneOk_facts ht
    unfold spec_FewestHeard.l2 spec_FewestHeard.d2 spec_FewestHeard.o2
    rw [beHours_eq (by omega) l h1 h2, Option.bind_some, w4m h1 h2, dcF (by omega), cond_false, show q = M4 l by omega, w1add (by omega)]
  | d+1, q, n+1, hi, hn => by
    obtain ⟨h1, h2, _⟩ := tuneOk_facts ht
    have hM := M4_le ht
    unfold spec_FewestHeard.l2 spec_FewestHeard.d2 spec_FewestHeard.o2
    rw [beHours_eq (by omega) l h1 h2, Option.bind_some, w4m h1 h2, dcT (by omega), cond_true]
    refine (specHeard3 hN l ht m hm1 hm q (by omega) _ _).trans ?_
    exact specFew_q hN l ht m hm1 hm c1 d (q+1) n (by omega) (by omega)
  | _, _, 0, _, hn => by omega
theorem specFew_l {N : Nat} (hN : 10000 ≤ N) (l : LB) (ht : tuneOk l = true) : ∀ (d m n : Nat), m + d = 9 → 1 ≤ m → d < n → spec_FewestHeard.l1 N n l m = some (fewF l d m)
  | 0, m, n+1, hi, h1, hn => by
    unfold spec_FewestHeard.l1 spec_FewestHeard.d1 spec_FewestHeard.o1
    rw [dcF (by omega)]; rfl
  | d+1, m, n+1, hi, hm1, hn => by
    have hM := M4_le ht
    unfold spec_FewestHeard.l1 spec_FewestHeard.d1 spec_FewestHeard.o1
    rw [dcT (by omega), cond_true]
    refine (specFew_q hN l ht m hm1 (by omega) _ (M4 l) 0 N (by omega) (by omega)).trans ?_
    simp only [fewF]
    cases okTo l m (M4 l) with
    | true => rfl
    | false => exact specFew_l hN l ht d (m+1) n (by omega) (by omega) (by omega)
  | _, _, 0, _, _, hn => by omega
theorem implFew_eq {N : Nat} (hN : 10000 ≤ N) (l : LB) (hl : Sm N l) : impl_FewestHeard.g N l = some (fewP l) := by
  unfold impl_FewestHeard.g impl_FewestHeard.o0 fewP
  rw [isTune_eq l hl, Option.bind_some]
  cases ht : tuneOk l with
  | false => rfl
  | true => exact implFew_l hN l ht 8 1 N (by omega) (by omega)
theorem specFew_eq {N : Nat} (hN : 10000 ≤ N) (l : LB) (hl : Sm N l) : spec_FewestHeard.g N l = some (fewP l) := by
  unfold spec_FewestHeard.g spec_FewestHeard.o0 fewP
  rw [beTune_eq l hl, Option.bind_some]
  cases ht : tuneOk l with
  | false => rfl
  | true => exact specFew_l hN l ht 8 1 N (by omega) (by omega) (by omega)
end Go.Proofs.YtpmipkbfohcjiaaDoor.M

namespace Go.Proofs.YtpmipkbfohcjiaaDoor.M
open Go Go.PM Go.Proofs.YtpmipkbfohcjiaaDoor.P
set_option linter.unusedVariables false
set_option linter.unusedSimpArgs false
def bsOf (l : List UInt8) : ByteArray := ⟨l.toArray⟩
theorem bsOf_list (l : List UInt8) : (bsOf l).data.toList = l := by simp [bsOf]
theorem bs_ext {a b : ByteArray} (h : a.data.toList = b.data.toList) : a = b := by
  cases a; cases b
  congr
  exact Array.toList_inj.1 h
theorem bsOf_eq (a : ByteArray) : bsOf a.data.toList = a := bs_ext (bsOf_list _)
theorem bsOf_size (l : List UInt8) : (bsOf l).size = l.length := by simp [bsOf, ByteArray.size]
theorem extract_list (s : ByteArray) (a b : Nat) : (s.extract a b).data.toList = (s.data.toList.take b).drop a := by
  simp [ByteArray.data_extract, List.drop_take]
theorem map_data_inj : ∀ {a b : List ByteArray}, a.map (·.data.toList) = b.map (·.data.toList) → a = b
  | [], [], _ => rfl
  | [], _ :: _, h => by simp at h
  | _ :: _, [], h => by simp at h
  | x :: a, y :: b, h => by
    simp only [List.map_cons, List.cons.injEq] at h
    rw [bs_ext h.1, map_data_inj h.2]
theorem bt_at (s : ByteArray) (i : Nat) (h : i < s.data.toList.length) : bt s i = (s.data.toList[i].toNat : Int) := by
  have hs : i < s.size := by rw [Array.length_toList] at h; exact h
  unfold bt
  rw [dif_pos (by simpa using hs)]
  simp only [Int.toNat_natCast]
  rfl
theorem sum_mem {α : Type} (f : α → Nat) : ∀ {l : List α} {x : α}, x ∈ l → f x ≤ (l.map f).sum
  | y :: l, x, h => by
    simp only [List.map_cons, List.sum_cons]
    rcases List.mem_cons.1 h with rfl | h
    · omega
    · have := sum_mem f h; omega
theorem sum_le_mul {α : Type} (f : α → Nat) (m : Nat) : ∀ {l : List α}, (∀ x ∈ l, f x ≤ m) → (l.map f).sum ≤ m * l.length
  | [], _ => by simp
  | y :: l, h => by
    have ih := sum_le_mul f m (l := l) (fun x hx => h x (List.mem_cons_of_mem _ hx))
    have := h y List.mem_cons_self
    simp only [List.map_cons, List.sum_cons, List.length_cons, Nat.mul_add, Nat.mul_one]
    omega
theorem bsOf_append (a b : List UInt8) : bsOf a ++ bsOf b = bsOf (a ++ b) := by
  apply bs_ext
  rw [bsOf_list, ByteArray.data_append, Array.toList_append]
  rfl
theorem bsOf_lit (a : ByteArray) : a = bsOf a.data.toList := (bsOf_eq a).symm

def onHead (pre : List UInt8) : List (List UInt8) → List (List UInt8)
  | [] => []
  | h :: t => (pre ++ h) :: t
def splitL (c : UInt8) : List UInt8 → List (List UInt8)
  | [] => [[]]
  | b :: l => if b = c then [] :: splitL c l else onHead [b] (splitL c l)
theorem splitL_ne (c : UInt8) : ∀ l, splitL c l ≠ []
  | [] => by simp [splitL]
  | b :: l => by
    have ih := splitL_ne c l
    unfold splitL
    split
    · simp
    · cases h : splitL c l with
      | nil => exact absurd h ih
      | cons x t => simp [onHead]
theorem onHead_nil (L : List (List UInt8)) : onHead [] L = L := by cases L <;> rfl
theorem onHead_onHead (p q : List UInt8) (L : List (List UInt8)) : onHead p (onHead q L) = onHead (p ++ q) L := by
  cases L <;> simp [onHead]
theorem onHead_sum (p : List UInt8) {L : List (List UInt8)} (h : L ≠ []) : ((onHead p L).map List.length).sum = p.length + (L.map List.length).sum ∧ (onHead p L).length = L.length := by
  cases L with
  | nil => exact absurd rfl h
  | cons x t => simp [onHead]; omega
theorem splitL_sum (c : UInt8) : ∀ l, ((splitL c l).map List.length).sum + (splitL c l).length = l.length + 1
  | [] => by simp [splitL]
  | b :: l => by
    have ih := splitL_sum c l
    have h := onHead_sum [b] (splitL_ne c l)
    unfold splitL
    split
    · simp; omega
    · rw [h.1, h.2]; simp; omega
def pieces (c : UInt8) (s : ByteArray) : List ByteArray := (splitL c s.data.toList).map bsOf
theorem splitK_cons_ne (c b : UInt8) (h : b ≠ c) : ∀ (k : Nat) (l : List UInt8), Lib.splitK [c] 0 k (b :: l) = onHead [b] (Lib.splitK [c] 0 k l)
  | 0, l => rfl
  | k + 1, l => by
    have hp : ([c] : List UInt8).isPrefixOf (b :: l) = false := by simp [List.isPrefixOf, Ne.symm h]
    have hix : Lib.index (b :: l) [c] = if Lib.index l [c] == -1 then -1 else Lib.index l [c] + 1 := by rw [Lib.index, hp]; simp
    unfold Lib.splitK
    rw [hix]
    have hge := Lib.index_ge l [c]
    by_cases hm : Lib.index l [c] = -1
    · simp [hm, onHead]
    · have hm' : (Lib.index l [c] == -1) = false := by simpa using hm
      have h2 : (Lib.index l [c] + 1 == -1) = false := by
        rw [beq_eq_false_iff_ne]; omega
      simp only [hm', Bool.false_eq_true, if_false, h2, onHead]
      rw [show (Lib.index l [c] + 1).toNat = (Lib.index l [c]).toNat + 1 by omega]
      simp only [Nat.add_zero, List.length_singleton, List.take_succ_cons, List.drop_succ_cons, List.singleton_append]
theorem splitK_all (c : UInt8) : ∀ l : List UInt8, Lib.splitK [c] 0 (l.count c) l = splitL c l
  | [] => rfl
  | b :: l => by
    have ih := splitK_all c l
    unfold splitL
    by_cases h : b = c
    · subst h
      rw [if_pos rfl, List.count_cons_self, ← ih]
      have hix : Lib.index (b :: l) [b] = 0 := by rw [Lib.index]; simp [List.isPrefixOf]
      rw [Lib.splitK, hix]
      simp
    · rw [if_neg h, List.count_cons_of_ne (by simpa using h), splitK_cons_ne c b h, ih]
theorem split_eq {N : Nat} (s : ByteArray) (c : UInt8) (hs : s.size < 4294967281) : strings_Split.g N s (⟨#[c]⟩ : ByteArray) = some (pieces c s) := by
  have h2 : strings_Split.g N s (⟨#[c]⟩ : ByteArray) = (bif decide (s.size < 4294967281) then some (Lib.splitB ⟨#[c]⟩ 0 (Lib.countB s ⟨#[c]⟩) s) else none) := rfl
  rw [h2, decide_eq_true hs, cond_true]
  congr 1
  apply map_data_inj
  rw [Lib.splitB_data]
  have h3 : Lib.countB s ⟨#[c]⟩ = s.data.toList.count c := by rw [show Lib.countB s ⟨#[c]⟩ = Lib.count s.data.toList [c] from rfl, Lib.count_one]
  rw [h3, show (⟨#[c]⟩ : ByteArray).data.toList = [c] from rfl, splitK_all]
  unfold pieces
  rw [List.map_map]
  conv => lhs; rw [← List.map_id (splitL c s.data.toList)]
  exact List.map_congr_left (fun x _ => (bsOf_list x).symm)
theorem pieces_sum (c : UInt8) (s : ByteArray) : ((pieces c s).map (·.size)).sum + (pieces c s).length = s.size + 1 := by
  have h := splitL_sum c s.data.toList
  have hl : s.data.toList.length = s.size := Array.length_toList
  unfold pieces
  rw [List.map_map, List.length_map, show ((fun x : ByteArray => x.size) ∘ bsOf) = List.length from funext bsOf_size]
  omega
theorem pieces_size (c : UInt8) (s : ByteArray) : ∀ x ∈ pieces c s, x.size ≤ s.size := by
  intro x hx
  have := sum_mem (fun x : ByteArray => x.size) hx
  have h := pieces_sum c s
  have hne : (pieces c s).length ≠ 0 := by
    have := splitL_ne c s.data.toList
    unfold pieces
    rw [List.length_map]
    exact fun e => this (List.eq_nil_of_length_eq_zero e)
  omega
theorem l1Split_l (N : Nat) (s : ByteArray) (c : UInt8) (hs : s.size ≤ 1000000000) : ∀ (d i f n : Nat) (acc : List ByteArray), i + d = s.size → f ≤ i → acc.length ≤ i → d < n →
    spec_l1Split.l4 N n s (c.toNat : Int) acc f i = some (acc ++ (onHead ((s.data.toList.take i).drop f) (splitL c (s.data.toList.drop i))).map bsOf)
  | 0, i, f, n+1, acc, hi, hf, ha, hn => by
    have hl : s.data.toList.length = s.size := Array.length_toList
    unfold spec_l1Split.l4 spec_l1Split.d4 spec_l1Split.o4
    rw [dcF (show ¬ (i : Int) < (s.size : Int) by omega), cond_false, dcT (show 0 ≤ (s.size : Int) by omega), cond_true, dcT (show (s.size : Int) ≤ (s.size : Int) by omega), cond_true, dcT (show 0 ≤ (f : Int) by omega), cond_true, dcT (show (f : Int) ≤ (s.size : Int) by omega), cond_true, blT (by simp; omega), cond_true]
    rw [List.drop_eq_nil_of_le (by omega : s.data.toList.length ≤ i)]
    simp only [splitL, onHead, List.append_nil, List.map_cons, List.map_nil]
    congr 3
    apply bs_ext
    rw [extract_list, bsOf_list, Int.toNat_natCast, Int.toNat_natCast, show i = s.size by omega]
  | d+1, i, f, n+1, acc, hi, hf, ha, hn => by
    have hl : s.data.toList.length = s.size := Array.length_toList
    have hlt : i < s.data.toList.length := by omega
    unfold spec_l1Split.l4 spec_l1Split.d4 spec_l1Split.o4
    rw [dcT (show (i : Int) < (s.size : Int) by omega), cond_true, dcT (show 0 ≤ (i : Int) by omega), cond_true, cond_true, bt_at s i hlt, List.drop_eq_getElem_cons hlt]
    unfold splitL
    by_cases e : s.data.toList[i] = c
    · rw [if_pos e, ieqT (by rw [e]), cond_true, cond_true, dcT (show (i : Int) ≤ (s.size : Int) by omega), cond_true, dcT (show 0 ≤ (f : Int) by omega), cond_true, dcT (show (f : Int) ≤ (i : Int) by omega), cond_true, blT (by simp; omega), cond_true]
      unfold spec_l1Split.d2 spec_l1Split.o2
      dsimp only
      rw [w1add (by omega)]
      have := l1Split_l N s c hs d (i + 1) (i + 1) n (acc ++ [s.extract (f : Int).toNat (i : Int).toNat]) (by omega) (by omega) (by simp; omega) (by omega)
      rw [List.drop_eq_nil_of_le (by simp; omega : (s.data.toList.take (i + 1)).length ≤ i + 1), onHead_nil] at this
      simp only [onHead, List.append_nil, List.map_cons]
      rw [List.append_assoc] at this
      have e2 : bsOf ((s.data.toList.take i).drop f) = s.extract (f : Int).toNat (i : Int).toNat := by
        apply bs_ext
        rw [extract_list, bsOf_list, Int.toNat_natCast, Int.toNat_natCast]
      rw [e2]
      exact this
    · rw [if_neg e, ieqF (fun z => e (UInt8.toNat_inj.1 (by omega))), cond_false]
      unfold spec_l1Split.d2 spec_l1Split.o2
      dsimp only
      rw [w1add (by omega)]
      have := l1Split_l N s c hs d (i + 1) f n acc (by omega) (by omega) (by omega) (by omega)
      rw [onHead_onHead]
      have e2 : (s.data.toList.take i).drop f ++ [s.data.toList[i]] = (s.data.toList.take (i + 1)).drop f := by
        rw [List.take_succ_eq_append_getElem hlt, List.drop_append_of_le_length (by simp; omega)]
      rw [e2]
      exact this
  | _, _, _, 0, _, _, _, _, hn => by omega
theorem l1Split_l1 (N : Nat) (s : ByteArray) (c : UInt8) (hs : s.size ≤ 1000000000) : ∀ (d i n : Nat), i + d = s.size → d < n →
    spec_l1Split.l1 N n s (c.toNat : Int) 0 i = some ((onHead (s.data.toList.take i) (splitL c (s.data.toList.drop i))).map bsOf)
  | 0, i, n+1, hi, hn => by
    have hl : s.data.toList.length = s.size := Array.length_toList
    unfold spec_l1Split.l1 spec_l1Split.d1 spec_l1Split.o1
    rw [dcF (show ¬ (i : Int) < (s.size : Int) by omega), cond_false, dcT (show 0 ≤ (s.size : Int) by omega), cond_true, dcT (show (s.size : Int) ≤ (s.size : Int) by omega), cond_true, dcT (show (0 : Int) ≤ 0 by omega), cond_true, cond_true, blT (by simp), cond_true]
    rw [List.drop_eq_nil_of_le (by omega : s.data.toList.length ≤ i)]
    simp only [splitL, onHead, List.append_nil, List.map_cons, List.map_nil, List.nil_append]
    congr 2
    apply bs_ext
    rw [extract_list, bsOf_list, Int.toNat_natCast, show i = s.size by omega]; rfl
  | d+1, i, n+1, hi, hn => by
    have hl : s.data.toList.length = s.size := Array.length_toList
    have hlt : i < s.data.toList.length := by omega
    unfold spec_l1Split.l1 spec_l1Split.d1 spec_l1Split.o1
    rw [dcT (show (i : Int) < (s.size : Int) by omega), cond_true, dcT (show 0 ≤ (i : Int) by omega), cond_true, cond_true, bt_at s i hlt, List.drop_eq_getElem_cons hlt]
    unfold splitL
    by_cases e : s.data.toList[i] = c
    · rw [if_pos e, ieqT (by rw [e]), cond_true, cond_true, dcT (show (i : Int) ≤ (s.size : Int) by omega), cond_true, dcT (show (0 : Int) ≤ 0 by omega), cond_true, cond_true, blT (by simp), cond_true]
      unfold spec_l1Split.d2 spec_l1Split.o2
      dsimp only
      rw [w1add (by omega)]
      have := l1Split_l N s c hs d (i + 1) (i + 1) n [s.extract (0 : Int).toNat (i : Int).toNat] (by omega) (by omega) (by simp) (by omega)
      rw [List.drop_eq_nil_of_le (by simp; omega : (s.data.toList.take (i + 1)).length ≤ i + 1), onHead_nil] at this
      simp only [onHead, List.append_nil, List.map_cons, List.nil_append]
      have e2 : bsOf (s.data.toList.take i) = s.extract (0 : Int).toNat (i : Int).toNat := by
        apply bs_ext
        rw [extract_list, bsOf_list, Int.toNat_natCast]; rfl
      rw [e2]
      exact this
    · rw [if_neg e, ieqF (fun z => e (UInt8.toNat_inj.1 (by omega))), cond_false]
      unfold spec_l1Split.d3 spec_l1Split.o3
      dsimp only
      rw [w1add (by omega)]
      have := l1Split_l1 N s c hs d (i + 1) n (by omega) (by omega)
      rw [onHead_onHead]
      have e2 : s.data.toList.take i ++ [s.data.toList[i]] = s.data.toList.take (i + 1) := by
        rw [List.take_succ_eq_append_getElem hlt]
      rw [e2]
      exact this
  | _, _, 0, _, hn => by omega
theorem l1Split_eq {N : Nat} (s : ByteArray) (c : UInt8) (hs : s.size ≤ 1000000000) (hN : s.size < N) : spec_l1Split.g N s (c.toNat : Int) = some (pieces c s) := by
  have := l1Split_l1 N s c hs s.size 0 N (by omega) (by omega)
  simp only [List.take_zero, List.drop_zero, onHead_nil] at this
  exact this
/-! ### joined -/
theorem join_split (c : UInt8) : ∀ l, Lib.join (splitL c l) [c] = l
  | [] => by simp [splitL, Lib.join_one]
  | b :: l => by
    have ih := join_split c l
    have ne := splitL_ne c l
    unfold splitL
    cases h : splitL c l with
    | nil => exact absurd h ne
    | cons x t =>
      rw [h, Lib.join_cons] at ih
      split
      · rename_i e
        subst e
        rw [Lib.join_cons, List.nil_append]
        exact congrArg (List.cons b) ih
      · rw [onHead, Lib.join_cons, List.append_assoc, ih]; rfl
theorem splitL_pre (c : UInt8) : ∀ (x l : List UInt8), c ∉ x → splitL c (x ++ l) = onHead x (splitL c l)
  | [], l, _ => (onHead_nil _).symm
  | b :: x, l, h => by
    rw [List.mem_cons, not_or] at h
    have e1 : splitL c (b :: x ++ l) = onHead [b] (splitL c (x ++ l)) := by
      show (if b = c then _ else _) = _
      rw [if_neg fun e => h.1 e.symm]; rfl
    rw [e1, splitL_pre c x l h.2, onHead_onHead]; rfl
theorem split_tail (c : UInt8) : ∀ (r : List (List UInt8)), (∀ y ∈ r, c ∉ y) → splitL c (Lib.joinTail [c] r) = [] :: r
  | [], _ => rfl
  | y :: r, h => by
    have ih := split_tail c r fun z hz => h z (List.mem_cons_of_mem _ hz)
    have e : Lib.joinTail [c] (y :: r) = c :: (y ++ Lib.joinTail [c] r) := rfl
    rw [e]
    unfold splitL
    rw [if_pos rfl, splitL_pre c y _ (h y (List.mem_cons_self ..)), ih, onHead, List.append_nil]
theorem split_join (c : UInt8) (x : List UInt8) (r : List (List UInt8)) (h : ∀ y ∈ x :: r, c ∉ y) : splitL c (Lib.join (x :: r) [c]) = x :: r := by
  rw [Lib.join_cons, splitL_pre c x _ (h x (List.mem_cons_self ..)), split_tail c r fun y hy => h y (List.mem_cons_of_mem _ hy), onHead, List.append_nil]
end Go.Proofs.YtpmipkbfohcjiaaDoor.M

namespace Go.Proofs.YtpmipkbfohcjiaaDoor.M
open Go Go.PM Go.Proofs.YtpmipkbfohcjiaaDoor.P
set_option linter.unusedVariables false
set_option linter.unusedSimpArgs false
set_option maxRecDepth 100000
theorem okFrom_at (s : ByteArray) : ∀ (d i : Nat), okFrom s d i = true → ∀ j, i ≤ j → j < i + d → 49 ≤ bt s j ∧ bt s j ≤ 56
  | 0, i, _, j, h1, h2 => by omega
  | d + 1, i, h, j, h1, h2 => by
    simp only [okFrom, Bool.and_eq_true, decide_eq_true_eq] at h
    by_cases e : j = i
    · subst e; exact h.1
    · exact okFrom_at s d (i + 1) h.2 j (by omega) (by omega)
theorem okFrom_of (s : ByteArray) (h : ∀ c ∈ s.data.toList, 49 ≤ c.toNat ∧ c.toNat ≤ 56) : ∀ (d i : Nat), i + d ≤ s.size → okFrom s d i = true
  | 0, i, _ => rfl
  | d + 1, i, hi => by
    have hl : s.data.toList.length = s.size := Array.length_toList
    have hlt : i < s.data.toList.length := by omega
    have := h _ (List.getElem_mem hlt)
    simp only [okFrom, Bool.and_eq_true, decide_eq_true_eq]
    rw [bt_at s i hlt]
    exact ⟨by omega, okFrom_of s h d (i + 1) (by omega)⟩
theorem phrase_iff {s : ByteArray} : phraseOk s = true ↔ (1 ≤ s.size ∧ s.size ≤ 8) ∧ ∀ c ∈ s.data.toList, 49 ≤ c.toNat ∧ c.toNat ≤ 56 := by
  have hl : s.data.toList.length = s.size := Array.length_toList
  unfold phraseOk
  rw [Bool.and_eq_true, inB_iff]
  constructor
  · rintro ⟨h1, h2⟩
    refine ⟨by omega, fun c hc => ?_⟩
    obtain ⟨i, hi, rfl⟩ := List.mem_iff_getElem.1 hc
    have := okFrom_at s s.size 0 h1 i (by omega) (by omega)
    rw [bt_at s i hi] at this
    omega
  · rintro ⟨h1, h2⟩
    exact ⟨okFrom_of s h2 s.size 0 (by omega), by omega⟩
theorem tune_iff {l : LB} : tuneOk l = true ↔ (1 ≤ l.length ∧ l.length ≤ 12) ∧ ∀ s ∈ l, (1 ≤ s.size ∧ s.size ≤ 8) ∧ ∀ c ∈ s.data.toList, 49 ≤ c.toNat ∧ c.toNat ≤ 56 := by
  unfold tuneOk
  rw [Bool.and_eq_true, inB_iff, List.all_eq_true]
  constructor
  · rintro ⟨h1, h2⟩
    exact ⟨by omega, fun s hs => phrase_iff.1 (h2 s hs)⟩
  · rintro ⟨h1, h2⟩
    exact ⟨by omega, fun s hs => phrase_iff.2 (h2 s hs)⟩
def mirC (c : UInt8) : UInt8 := 105 - c
theorem mirC_mirC (c : UInt8) : mirC (mirC c) = c := by
  unfold mirC
  apply UInt8.toNat_inj.1
  have := c.toNat_lt
  simp only [UInt8.toNat_sub]
  have e : (105 : UInt8).toNat = 105 := rfl
  rw [e]
  omega
def mir (s : ByteArray) : ByteArray := bsOf (s.data.toList.map mirC)
theorem mir_list (s : ByteArray) : (mir s).data.toList = s.data.toList.map mirC := bsOf_list _
theorem mir_size (s : ByteArray) : (mir s).size = s.size := by
  unfold mir; rw [bsOf_size, List.length_map]; exact Array.length_toList
theorem mir_mir (s : ByteArray) : mir (mir s) = s := by
  apply bs_ext
  rw [mir_list, mir_list, List.map_map]
  conv => rhs; rw [← List.map_id s.data.toList]
  exact List.map_congr_left fun c _ => mirC_mirC c
theorem mir_app (a b : ByteArray) : mir (a ++ b) = mir a ++ mir b := by
  apply bs_ext
  rw [mir_list, ByteArray.data_append, Array.toList_append, List.map_append, ByteArray.data_append, Array.toList_append, mir_list, mir_list]
theorem mir_inj {a b : ByteArray} (h : mir a = mir b) : a = b := by rw [← mir_mir a, h, mir_mir]
theorem mirC_ok {c : UInt8} (h : 49 ≤ c.toNat ∧ c.toNat ≤ 56) : (mirC c).toNat = 105 - c.toNat := by
  unfold mirC
  simp only [UInt8.toNat_sub]
  have e : (105 : UInt8).toNat = 105 := rfl
  rw [e]
  omega
theorem mir_ok {l : LB} (ht : tuneOk l = true) : tuneOk (l.map mir) = true := by
  have h := tune_iff.1 ht
  refine tune_iff.2 ⟨by rw [List.length_map]; exact h.1, fun s hs => ?_⟩
  obtain ⟨x, hx, rfl⟩ := List.mem_map.1 hs
  have hx' := h.2 x hx
  refine ⟨by rw [mir_size]; exact hx'.1, fun c hc => ?_⟩
  rw [mir_list] at hc
  obtain ⟨y, hy, rfl⟩ := List.mem_map.1 hc
  have := hx'.2 y hy
  rw [mirC_ok this]; omega
theorem numsO_all : ∀ xs : List Int, numsO T0 5 xs = some xs
  | [] => rfl
  | x :: xs => by
    have ih := numsO_all xs
    unfold numsO at ih ⊢
    show (seqO _ (x :: xs)) = _
    unfold seqO
    show Option.bind (some x) _ = _
    rw [Option.bind_some, ih]; rfl
theorem wrap8 {x : Int} (h1 : 0 ≤ x) (h2 : x < 256) : (IntKind.wrap .u8) x = x := by
  have e : (IntKind.wrap .u8) x = x % 256 := by simp [IntKind.wrap, IntKind.signed, IntKind.bits]
  rw [e]; omega
theorem strN (l : List UInt8) (h : ∀ c ∈ l, 49 ≤ c.toNat ∧ c.toNat ≤ 56) : strOfNums (l.map fun c => (105 : Int) - (c.toNat : Int)) = bsOf (l.map mirC) := by
  unfold strOfNums bsOf
  rw [List.map_map]
  congr 2
  refine List.map_congr_left fun c hc => ?_
  have := h c hc
  apply UInt8.toNat_inj.1
  rw [mirC_ok this]
  simp only [Function.comp, UInt8.toNat_ofNat']
  omega
theorem implMir2 {N : Nat} (s : ByteArray) (hs : s.size ≤ 8) (hc : ∀ c ∈ s.data.toList, 49 ≤ c.toNat ∧ c.toNat ≤ 56) (out L : LB) (ho : out.length ≤ 100) (Ln : Int) (j : Nat) (hj : j ≤ 100) (c1 : LB → LB → Int → Int → Option impl_MirrorTune.R) : ∀ (d i n : Nat), i + d = s.size → d < n →
    impl_MirrorTune.l2 N n out s ((s.data.toList.take i).map fun c => (105 : Int) - (c.toNat : Int)) L Ln j (s.size : Int) i c1 = c1 (out ++ [mir s]) L Ln ((j + 1 : Nat) : Int)
  | 0, i, n+1, hi, hn => by
    have hl : s.data.toList.length = s.size := Array.length_toList
    unfold impl_MirrorTune.l2 impl_MirrorTune.d2 impl_MirrorTune.o2
    rw [dcF (by omega), cond_false, numsO_all, Option.bind_some, List.take_of_length_le (by omega), strN _ hc, blT (by simp; omega), cond_true, w1add (by omega)]; rfl
  | d+1, i, n+1, hi, hn => by
    have hl : s.data.toList.length = s.size := Array.length_toList
    have hlt : i < s.data.toList.length := by omega
    have hb := hc _ (List.getElem_mem hlt)
    unfold impl_MirrorTune.l2 impl_MirrorTune.d2 impl_MirrorTune.o2
    rw [dcT (by omega), cond_true, dcT (by omega), cond_true, cond_true, bt_at s i hlt, wrap8 (by omega) (by omega), blT (by simp; omega), cond_true, w1add (by omega)]
    have ih := implMir2 (N := N) s hs hc out L ho Ln j hj c1 d (i+1) n (by omega) (by omega)
    rw [List.take_succ_eq_append_getElem hlt, List.map_append] at ih
    exact ih
  | _, _, 0, _, hn => by omega
theorem implMir1 {N : Nat} (hN : 1000 ≤ N) (l : LB) (ht : tuneOk l = true) : ∀ (d i n : Nat), i + d = l.length → d < n → impl_MirrorTune.l1 N n ((l.take i).map mir) l (l.length : Int) i = some (l.map mir, true)
  | 0, i, n+1, hi, hn => by
    unfold impl_MirrorTune.l1 impl_MirrorTune.d1 impl_MirrorTune.o1
    rw [dcF (by omega), cond_false, List.take_of_length_le (by omega)]
  | d+1, i, n+1, hi, hn => by
    have h := tune_iff.1 ht
    have hx := h.2 _ (List.getElem_mem (show i < l.length by omega))
    unfold impl_MirrorTune.l1 impl_MirrorTune.d1 impl_MirrorTune.o1
    rw [dcT (by omega), cond_true, dcT (by omega), cond_true, cond_true, Int.toNat_natCast, getAt (by omega)]
    refine (implMir2 (N := N) l[i] hx.1.2 hx.2 ((l.take i).map mir) l (by simp; omega) (l.length : Int) i (by omega) _ l[i].size 0 N (by omega) (by omega)).trans ?_
    have ih := implMir1 hN l ht d (i+1) n (by omega) (by omega)
    rw [List.take_succ_eq_append_getElem (show i < l.length by omega), List.map_append] at ih
    exact ih
  | _, _, 0, _, hn => by omega
theorem num1 {N : Nat} (hN : 1 ≤ N) {c : UInt8} (h : 49 ≤ c.toNat ∧ c.toNat ≤ 56) : spec_l1Num.g N (w64 (9 - (w64 ((IntKind.wrap .u8) ((c.toNat : Int) - 48))))) = some (bsOf [mirC c]) := by
  obtain ⟨n, rfl⟩ : ∃ n, N = n + 1 := ⟨N - 1, by omega⟩
  rw [wrap8 (by omega) (by omega), w64s (n := (c.toNat : Int) - 48) (by omega) (by omega), w64s (by omega) (by omega)]
  unfold spec_l1Num.g spec_l1Num.gk spec_l1Num.s spec_l1Num.o0
  rw [dcT (by omega), cond_true, numsO_all, Option.bind_some, w64s (by omega) (by omega), wrap8 (by omega) (by omega)]
  have := strN [c] (fun x hx => by rw [List.mem_singleton.1 hx]; exact h)
  rw [show (48 + (9 - ((c.toNat : Int) - 48))) = 105 - (c.toNat : Int) by omega]
  exact congrArg some this
theorem specMir4 {N : Nat} (hN : 1000 ≤ N) (s : ByteArray) (hs : s.size ≤ 8) (hc : ∀ c ∈ s.data.toList, 49 ≤ c.toNat ∧ c.toNat ≤ 56) (out L : LB) (ho : out.length ≤ 100) (Ln : Int) (j : Nat) (hj : j ≤ 100) (c3 : LB → LB → Int → Int → Option spec_MirrorTune.R) : ∀ (d i n : Nat), i + d = s.size → d < n →
    spec_MirrorTune.l4 N n out s (bsOf ((s.data.toList.take i).map mirC)) i L Ln j c3 = c3 (out ++ [mir s]) L Ln ((j + 1 : Nat) : Int)
  | 0, i, n+1, hi, hn => by
    have hl : s.data.toList.length = s.size := Array.length_toList
    unfold spec_MirrorTune.l4 spec_MirrorTune.d4 spec_MirrorTune.o4
    rw [dcF (by omega), cond_false, List.take_of_length_le (by omega), blT (by simp; omega), cond_true, w1add (by omega)]; rfl
  | d+1, i, n+1, hi, hn => by
    have hl : s.data.toList.length = s.size := Array.length_toList
    have hlt : i < s.data.toList.length := by omega
    have hb := hc _ (List.getElem_mem hlt)
    unfold spec_MirrorTune.l4 spec_MirrorTune.d4 spec_MirrorTune.o4
    rw [dcT (by omega), cond_true, dcT (by omega), cond_true, cond_true, bt_at s i hlt, num1 (by omega) hb, Option.bind_some, show Nat.ble _ _ = true from Nat.ble_eq_true_of_le (by rw [bsOf_size, bsOf_size, List.length_map, List.length_take]; simp; omega), cond_true, w1add (by omega), bsOf_append]
    have ih := specMir4 hN s hs hc out L ho Ln j hj c3 d (i+1) n (by omega) (by omega)
    rw [List.take_succ_eq_append_getElem hlt, List.map_append] at ih
    exact ih
  | _, _, 0, _, hn => by omega
theorem specMir2 {N : Nat} (hN : 1000 ≤ N) (s : ByteArray) (hs : s.size ≤ 8) (hc : ∀ c ∈ s.data.toList, 49 ≤ c.toNat ∧ c.toNat ≤ 56) (L : LB) (Ln : Int) (j : Nat) (hj : j ≤ 100) (c3 : LB → LB → Int → Int → Option spec_MirrorTune.R) : ∀ (d i n : Nat), i + d = s.size → d < n →
    spec_MirrorTune.l2 N n s (bsOf ((s.data.toList.take i).map mirC)) i L Ln j c3 = c3 [mir s] L Ln ((j + 1 : Nat) : Int)
  | 0, i, n+1, hi, hn => by
    have hl : s.data.toList.length = s.size := Array.length_toList
    unfold spec_MirrorTune.l2 spec_MirrorTune.d2 spec_MirrorTune.o2
    rw [dcF (by omega), cond_false, List.take_of_length_le (by omega), blT (by simp), cond_true, w1add (by omega)]; rfl
  | d+1, i, n+1, hi, hn => by
    have hl : s.data.toList.length = s.size := Array.length_toList
    have hlt : i < s.data.toList.length := by omega
    have hb := hc _ (List.getElem_mem hlt)
    unfold spec_MirrorTune.l2 spec_MirrorTune.d2 spec_MirrorTune.o2
    rw [dcT (by omega), cond_true, dcT (by omega), cond_true, cond_true, bt_at s i hlt, num1 (by omega) hb, Option.bind_some, show Nat.ble _ _ = true from Nat.ble_eq_true_of_le (by rw [bsOf_size, bsOf_size, List.length_map, List.length_take]; simp; omega), cond_true, w1add (by omega), bsOf_append]
    have ih := specMir2 hN s hs hc L Ln j hj c3 d (i+1) n (by omega) (by omega)
    rw [List.take_succ_eq_append_getElem hlt, List.map_append] at ih
    exact ih
  | _, _, 0, _, hn => by omega
theorem specMir3 {N : Nat} (hN : 1000 ≤ N) (l : LB) (ht : tuneOk l = true) : ∀ (d i n : Nat), i + d = l.length → d < n → spec_MirrorTune.l3 N n ((l.take i).map mir) l (l.length : Int) i = some (l.map mir, true)
  | 0, i, n+1, hi, hn => by
    unfold spec_MirrorTune.l3 spec_MirrorTune.d3 spec_MirrorTune.o3
    rw [dcF (by omega), cond_false, List.take_of_length_le (by omega)]
  | d+1, i, n+1, hi, hn => by
    have h := tune_iff.1 ht
    have hx := h.2 _ (List.getElem_mem (show i < l.length by omega))
    unfold spec_MirrorTune.l3 spec_MirrorTune.d3 spec_MirrorTune.o3
    rw [dcT (by omega), cond_true, dcT (by omega), cond_true, cond_true, Int.toNat_natCast, getAt (by omega)]
    refine (specMir4 hN l[i] hx.1.2 hx.2 ((l.take i).map mir) l (by simp; omega) (l.length : Int) i (by omega) _ l[i].size 0 N (by omega) (by omega)).trans ?_
    have ih := specMir3 hN l ht d (i+1) n (by omega) (by omega)
    rw [List.take_succ_eq_append_getElem (show i < l.length by omega), List.map_append] at ih
    exact ih
  | _, _, 0, _, hn => by omega
def mirP (l : LB) : LB × Bool := if tuneOk l then (l.map mir, true) else ([], false)
theorem implMir_eq {N : Nat} (l : LB) (hl : Sm N l) : impl_MirrorTune.g N l = some (mirP l) := by
  unfold impl_MirrorTune.g impl_MirrorTune.o0 mirP
  rw [isTune_eq l hl, Option.bind_some]
  cases ht : tuneOk l with
  | false => rfl
  | true => exact implMir1 hl.1 l ht l.length 0 N (by omega) hl.2.2.1
theorem specMir_eq {N : Nat} (l : LB) (hl : Sm N l) : spec_MirrorTune.g N l = some (mirP l) := by
  have hN := hl.1
  unfold spec_MirrorTune.g spec_MirrorTune.o0 mirP
  rw [beTune_eq l hl, Option.bind_some]
  cases ht : tuneOk l with
  | false => rfl
  | true =>
    have h := tune_iff.1 ht
    have hx := h.2 _ (List.getElem_mem (show 0 < l.length by omega))
    rw [Bool.not_true, cond_false]
    obtain ⟨n, rfl⟩ : ∃ n, N = n + 1 := ⟨N - 1, by omega⟩
    unfold spec_MirrorTune.l1 spec_MirrorTune.d1 spec_MirrorTune.o1
    dsimp only
    rw [dcT (show (0 : Int) < (l.length : Int) by omega), cond_true, dcT (show (0 : Int) ≤ 0 by omega), cond_true, cond_true, Int.toNat_zero, getAt (by omega)]
    refine (specMir2 hN l[0] hx.1.2 hx.2 l (l.length : Int) 0 (by omega) _ l[0].size 0 (n+1) (by omega) (by omega)).trans ?_
    have ih := specMir3 hN l ht (l.length - 1) 1 n (by omega) (by have := hl.2.2.1; omega)
    rw [show l.take 1 = [l[0]] by
      cases l with
      | nil => simp at h
      | cons a t => rfl] at ih
    exact ih
/-! ### mirrored tunes sound mirrored -/
theorem addAll_mir (l : LB) : ∀ (xs : List Int) (acc : ByteArray), addAll (l.map mir) (mir acc) xs = mir (addAll l acc xs)
  | [], acc => rfl
  | x :: xs, acc => by
    simp only [addAll]
    rw [← addAll_mir l xs, mir_app, List.getElem?_map]
    cases l[x.toNat]? <;> rfl
theorem notes_mir (l : LB) (q : Nat) : notesOf (l.map mir) q = mir (notesOf l q) := by
  unfold notesOf
  rw [List.length_map]
  exact addAll_mir l _ (⟨#[]⟩ : ByteArray)
theorem beqB (a b : ByteArray) : (a.toList == b.toList) = decide (a = b) := by
  rw [Bool.eq_iff_iff, beq_iff_eq, decide_eq_true_eq, Lib.toList_data, Lib.toList_data]
  exact ⟨bs_ext, fun h => by rw [h]⟩
theorem mF_mir (l : LB) : ∀ (p : LB) (q : Nat), mF (l.map mir) q (p.map mir) = mF l q p
  | [], q => rfl
  | x :: p, q => by
    simp only [List.map_cons, mF]
    rw [mF_mir l p (q+1), beqB, beqB, notes_mir]
    congr 1
    rw [decide_eq_decide]
    exact ⟨mir_inj, fun h => by rw [h]⟩
theorem qL_mir (l p : LB) : ∀ n, qL (l.map mir) (p.map mir) n = qL l p n
  | 0 => rfl
  | n + 1 => by simp only [qL]; rw [mF_mir, qL_mir l p n]
theorem hL_mir (l : LB) (q : Nat) : ∀ n, hL (l.map mir) q n = (hL l q n).map mir
  | 0 => rfl
  | n + 1 => by simp only [hL]; rw [hL_mir l q n, notes_mir, List.map_append]; rfl
theorem M4_mir (l : LB) : M4 (l.map mir) = M4 l := by unfold M4; rw [List.length_map]
theorem okTo_mir (l : LB) (n : Nat) : ∀ q, okTo (l.map mir) n q = okTo l n q
  | 0 => rfl
  | q + 1 => by simp only [okTo, oneAt]; rw [okTo_mir l n q, hL_mir, M4_mir, qL_mir]
theorem fewF_mir (l : LB) : ∀ d n, fewF (l.map mir) d n = fewF l d n
  | 0, n => rfl
  | d + 1, n => by simp only [fewF]; rw [M4_mir, okTo_mir, fewF_mir l d (n+1)]
theorem fewP_mir {l : LB} (ht : tuneOk l = true) : fewP (l.map mir) = fewP l := by
  unfold fewP; rw [mir_ok ht, ht, fewF_mir]
end Go.Proofs.YtpmipkbfohcjiaaDoor.M

namespace Go.Proofs.YtpmipkbfohcjiaaDoor.M
open Go Go.PM Go.Proofs.YtpmipkbfohcjiaaDoor.P
set_option linter.unusedVariables false
set_option linter.unusedSimpArgs false
set_option maxRecDepth 100000
/-! ### the fewest tell -/
theorem hL_cons (l : LB) : ∀ (n q : Nat), hL l q (n + 1) = notesOf l q :: hL l (q + 1) n
  | 0, q => by simp [hL]
  | n + 1, q => by
    have ih := hL_cons l n q
    show hL l q (n + 1) ++ [notesOf l (q + (n + 1))] = _
    rw [ih]
    show _ = notesOf l q :: (hL l (q + 1) n ++ [notesOf l (q + 1 + n)])
    rw [show q + 1 + n = q + (n + 1) by omega]; rfl
theorem mF_iff (l : LB) : ∀ (p : LB) (q : Nat), mF l q p = true ↔ p = hL l q p.length
  | [], q => by simp [mF, hL]
  | x :: p, q => by
    simp only [mF, Bool.and_eq_true]
    rw [beqB, decide_eq_true_eq, mF_iff l p (q+1), List.length_cons, hL_cons, List.cons.injEq]
    constructor
    · rintro ⟨a, b⟩; exact ⟨a.symm, b⟩
    · rintro ⟨a, b⟩; exact ⟨a.symm, b⟩
theorem hL_take (l : LB) (q : Nat) : ∀ {m n : Nat}, n ≤ m → (hL l q m).take n = hL l q n
  | 0, n, h => by
    have : n = 0 := by omega
    subst this; rfl
  | m+1, n, h => by
    by_cases e : n = m + 1
    · subst e; exact List.take_of_length_le (by rw [hL_len]; exact Nat.le_refl _)
    · simp only [hL]
      rw [List.take_append_of_le_length (by rw [hL_len]; omega)]
      exact hL_take l q (by omega)
theorem qL_mono (l p p' : LB) (h : ∀ k, mF l k p = true → mF l k p' = true) : ∀ n, (qL l p n).length ≤ (qL l p' n).length
  | 0 => Nat.le_refl _
  | n + 1 => by
    have ih := qL_mono l p p' h n
    simp only [qL]
    cases hp : mF l n p with
    | false =>
      rw [cond_false]
      cases mF l n p' <;> simp <;> omega
    | true =>
      rw [h n hp, cond_true, cond_true]; simp; omega
theorem okTo_at (l : LB) (n : Nat) : ∀ M, okTo l n M = true → ∀ q, q < M → oneAt l q n = true
  | M + 1, h, q, hq => by
    simp only [okTo, Bool.and_eq_true] at h
    by_cases e : q = M
    · subst e; exact h.2
    · exact okTo_at l n M h.1 q (by omega)
theorem fewF_true (l : LB) : ∀ (d n : Nat), (fewF l d n).2 = true → ∃ m, n ≤ m ∧ m < n + d ∧ fewF l d n = ((m : Int), true) ∧ okTo l m (M4 l) = true
  | 0, n, h => by cases h
  | d + 1, n, h => by
    simp only [fewF] at h ⊢
    cases ho : okTo l n (M4 l) with
    | true => exact ⟨n, Nat.le_refl _, by omega, rfl, ho⟩
    | false =>
      rw [ho] at h
      obtain ⟨m, h1, h2, h3, h4⟩ := fewF_true l d (n+1) h
      exact ⟨m, by omega, by omega, h3, h4⟩
theorem few_tells {l p : LB} (ht : tuneOk l = true) (h1 : (fewP l).2 = true) (h2 : (p.length : Int) ≥ (fewP l).1) : (qL l p (M4 l)).length ≤ 1 := by
  unfold fewP at h1 h2
  rw [ht, if_pos rfl] at h1 h2
  obtain ⟨m, m1, m2, m3, m4⟩ := fewF_true l 8 1 h1
  rw [m3] at h2
  have hm : m ≤ p.length := by have : (p.length : Int) ≥ (m : Int) := h2; omega
  cases hq : qL l p (M4 l) with
  | nil => simp
  | cons x t =>
    rw [← hq]
    have hx : x ∈ qL l p (M4 l) := by rw [hq]; simp
    obtain ⟨k, k1, k2, k3⟩ := (qL_mem l p x (M4 l)).1 hx
    have ek := (mF_iff l p k).1 k2
    have et : p.take m = hL l k m := by rw [ek, hL_take l k hm]
    have := okTo_at l m (M4 l) m4 k k1
    unfold oneAt at this
    rw [beq_iff_eq] at this
    refine Nat.le_trans (qL_mono l p (p.take m) (fun j hj => ?_) (M4 l)) ?_
    · have ej := (mF_iff l p j).1 hj
      refine (mF_iff l _ j).2 ?_
      rw [List.length_take, Nat.min_eq_left hm]
      conv => lhs; rw [ej]
      exact hL_take l j hm
    · rw [et]; omega
/-! ### texts -/
def jn (l : LB) : ByteArray := bsOf (Lib.join (l.map (·.data.toList)) [47])
def textP (l : LB) : ByteArray × Bool := if tuneOk l then (jn l, true) else (⟨#[]⟩, false)
theorem tail_len : ∀ (r : LB), (∀ s ∈ r, s.size ≤ 8) → (Lib.joinTail [47] (r.map (·.data.toList))).length ≤ 9 * r.length
  | [], _ => by simp [Lib.joinTail]
  | x :: r, h => by
    have ih := tail_len r fun s hs => h s (List.mem_cons_of_mem _ hs)
    have hx := h x (List.mem_cons_self ..)
    have hl : x.data.toList.length = x.size := Array.length_toList
    have e : Lib.joinTail [47] ((x :: r).map (·.data.toList)) = 47 :: (x.data.toList ++ Lib.joinTail [47] (r.map (·.data.toList))) := rfl
    rw [e, List.length_cons, List.length_append, List.length_cons]; omega
theorem join_len {l : LB} (ht : tuneOk l = true) : (Lib.join (l.map (·.data.toList)) [47]).length ≤ 200 := by
  obtain ⟨h1, h2, hs⟩ := tuneOk_facts ht
  cases l with
  | nil => simp at h1
  | cons x r =>
    have := tail_len r fun s h => (hs s (List.mem_cons_of_mem _ h)).2
    have hx := (hs x (List.mem_cons_self ..)).2
    have hl : x.data.toList.length = x.size := Array.length_toList
    rw [List.map_cons, Lib.join_cons, List.length_append]
    simp at h2
    omega
theorem implText_eq {N : Nat} (l : LB) (hl : Sm N l) : impl_TuneText.g N l = some (textP l) := by
  unfold impl_TuneText.g impl_TuneText.o0 textP
  rw [isTune_eq l hl, Option.bind_some]
  cases ht : tuneOk l with
  | false => rfl
  | true =>
    obtain ⟨h1, h2, hs⟩ := tuneOk_facts ht
    have := join_len ht
    rw [Bool.not_true, cond_false]
    unfold strings_Join.g
    rw [dcT (show (Lib.join (l.map (·.data.toList)) (⟨#[47]⟩ : ByteArray).data.toList).length ≤ 140737488355328 ∧ l.length ≤ 140737488355328 from ⟨Nat.le_trans this (by decide), by omega⟩), cond_true, Option.bind_some]
    rfl
theorem tail_snoc (y : List UInt8) : ∀ r : List (List UInt8), Lib.joinTail [47] (r ++ [y]) = Lib.joinTail [47] r ++ (47 :: y)
  | [] => by simp [Lib.joinTail]
  | x :: r => by
    have ih := tail_snoc y r
    have e : ∀ r', Lib.joinTail [47] (x :: r') = 47 :: (x ++ Lib.joinTail [47] r') := fun _ => rfl
    rw [List.cons_append, e, e, ih]; simp
theorem specText_l {N : Nat} (x : ByteArray) (r : LB) (hx : x.size ≤ 8) (hs : ∀ s ∈ r, s.size ≤ 8) (hr : r.length ≤ 20) : ∀ (d i n : Nat), i + d = r.length → d < n →
    spec_beText.l1 N n (bsOf (x.data.toList ++ Lib.joinTail [47] ((r.take i).map (·.data.toList)))) (x :: r) ((x :: r).length : Int) ((i + 1 : Nat) : Int) = some (bsOf (x.data.toList ++ Lib.joinTail [47] (r.map (·.data.toList))))
  | 0, i, n+1, hi, hn => by
    unfold spec_beText.l1 spec_beText.d1 spec_beText.o1
    rw [dcF (by rw [List.length_cons]; omega), cond_false, List.take_of_length_le (by omega)]
  | d+1, i, n+1, hi, hn => by
    have hlx : x.data.toList.length = x.size := Array.length_toList
    have hy := hs _ (List.getElem_mem (show i < r.length by omega))
    have htl := tail_len (r.take i) fun s h => hs s (List.mem_of_mem_take h)
    rw [List.length_take] at htl
    unfold spec_beText.l1 spec_beText.d1 spec_beText.o1 spec_beText.d2 spec_beText.o2
    rw [dcT (show ((i + 1 : Nat) : Int) < ((x :: r).length : Int) by rw [List.length_cons]; omega), cond_true, dcT (show (0 : Int) ≤ ((i + 1 : Nat) : Int) by omega), cond_true, cond_true, Int.toNat_natCast, getAt (show i + 1 < (x :: r).length by rw [List.length_cons]; omega), dcT (show ((i + 1 : Nat) : Int) > 0 by omega), cond_true, List.getElem_cons_succ]
    have e47 : (⟨#[47]⟩ : ByteArray) = bsOf [47] := rfl
    rw [e47, show Nat.ble _ _ = true from Nat.ble_eq_true_of_le (by rw [bsOf_size, bsOf_size, List.length_append]; simp only [List.length_singleton]; omega), cond_true, bsOf_append]
    dsimp only
    rw [show Nat.ble _ _ = true from Nat.ble_eq_true_of_le (by rw [bsOf_size, List.length_append, List.length_append]; simp only [List.length_singleton]; omega), cond_true, w1add (by omega), bsOf_lit r[i], bsOf_append]
    have ih := specText_l (N := N) x r hx hs hr d (i+1) n (by omega) (by omega)
    rw [List.take_succ_eq_append_getElem (show i < r.length by omega), List.map_append, show List.map (fun s : ByteArray => s.data.toList) [r[i]] = [r[i].data.toList] from rfl, tail_snoc] at ih
    simp only [bsOf_list, List.append_assoc, List.cons_append, List.nil_append] at ih ⊢
    exact ih
  | _, _, 0, _, hn => by omega
theorem beText_eq {N : Nat} (hN : 1000 ≤ N) (l : LB) (h1 : 1 ≤ l.length) (h2 : l.length ≤ 20) (hs : ∀ s ∈ l, s.size ≤ 8) : spec_beText.g N l = some (jn l) := by
  cases l with
  | nil => simp at h1
  | cons x r =>
    simp only [List.length_cons] at h2
    obtain ⟨n, rfl⟩ : ∃ n, N = n + 1 := ⟨N - 1, by omega⟩
    have hx := hs x (List.mem_cons_self ..)
    have ih := specText_l (N := n+1) x r hx (fun s h => hs s (List.mem_cons_of_mem _ h)) (by omega) r.length 0 n (by omega) (by omega)
    unfold spec_beText.g spec_beText.o0
    dsimp only
    unfold spec_beText.l1 spec_beText.d1 spec_beText.o1 spec_beText.d2 spec_beText.o2
    dsimp only
    rw [dcT (show (0 : Int) < ((x :: r).length : Int) by rw [List.length_cons]; omega), cond_true, dcT (show (0 : Int) ≤ 0 by omega), cond_true, cond_true, Int.toNat_zero, getAt (show 0 < (x :: r).length by simp), dcF (show ¬ (0 : Int) > 0 by omega), cond_false, List.getElem_cons_zero, show Nat.ble _ _ = true from Nat.ble_eq_true_of_le (by show 0 + x.size ≤ _; omega), cond_true]
    have e : (⟨#[]⟩ : ByteArray) ++ x = bsOf (x.data.toList ++ Lib.joinTail [47] (([] : LB).map (·.data.toList))) := by
      apply bs_ext
      rw [ByteArray.data_append, Array.toList_append, bsOf_list]; simp [Lib.joinTail]
    have ej : jn (x :: r) = bsOf (x.data.toList ++ Lib.joinTail [47] (r.map (·.data.toList))) := by
      unfold jn; rw [List.map_cons, Lib.join_cons]
    rw [e, ej, show w64 (0 + 1) = ((0 + 1 : Nat) : Int) by decide]
    exact ih
theorem specText_eq {N : Nat} (l : LB) (hl : Sm N l) : spec_TuneText.g N l = some (textP l) := by
  unfold spec_TuneText.g spec_TuneText.o0 textP
  rw [beTune_eq l hl, Option.bind_some]
  cases ht : tuneOk l with
  | false => rfl
  | true =>
    obtain ⟨h1, h2, hs⟩ := tuneOk_facts ht
    rw [Bool.not_true, cond_false, beText_eq hl.1 l h1 (by omega) fun s h => (hs s h).2]; rfl
theorem parse_text {l : LB} (ht : tuneOk l = true) : pieces 47 (jn l) = l := by
  have h := tune_iff.1 ht
  unfold pieces jn
  rw [bsOf_list]
  cases l with
  | nil => simp at h
  | cons x r =>
    rw [List.map_cons, split_join 47 x.data.toList (r.map (·.data.toList)) ?_]
    · rw [← List.map_cons (f := fun s : ByteArray => s.data.toList), List.map_map]
      conv => rhs; rw [← List.map_id (x :: r)]
      exact List.map_congr_left fun s _ => bsOf_eq s
    · intro y hy hm
      rw [← List.map_cons (f := fun s : ByteArray => s.data.toList)] at hy
      obtain ⟨s, hs, rfl⟩ := List.mem_map.1 hy
      have := (h.2 s hs).2 _ hm
      have e : (47 : UInt8).toNat = 47 := rfl
      omega
theorem text_parse (s : ByteArray) : jn (pieces 47 s) = s := by
  unfold jn pieces
  rw [List.map_map]
  have e : (splitL 47 s.data.toList).map ((fun s : ByteArray => s.data.toList) ∘ bsOf) = splitL 47 s.data.toList := by
    conv => rhs; rw [← List.map_id (splitL 47 s.data.toList)]
    exact List.map_congr_left fun x _ => bsOf_list x
  rw [e, join_split, bsOf_eq]
theorem tune_short (s : ByteArray) (h : tuneOk (pieces 47 s) = true) : s.size ≤ 120 := by
  obtain ⟨h1, h2, hs⟩ := tuneOk_facts h
  have := pieces_sum 47 s
  have := sum_le_mul (fun x : ByteArray => x.size) 8 (fun x hx => (hs x hx).2)
  omega
def parseP (s : ByteArray) : LB × Bool := if tuneOk (pieces 47 s) then (pieces 47 s, true) else ([], false)
theorem pieces_sm {N : Nat} (s : ByteArray) (hs : s.size ≤ 2000000) (hN : 10000000 ≤ N) : Sm N (pieces 47 s) := by
  have := pieces_sum 47 s
  refine ⟨by omega, by omega, by omega, fun x hx => ?_⟩
  have := pieces_size 47 s x hx
  omega
theorem implParse_eq {N : Nat} (hN : 10000000 ≤ N) (s : ByteArray) (hs : s.size ≤ 2000000) : impl_ParseTune.g N s = some (parseP s) := by
  unfold impl_ParseTune.g impl_ParseTune.o0 parseP
  rw [split_eq s 47 (by omega), Option.bind_some, isTune_eq _ (pieces_sm s hs hN), Option.bind_some]
  cases tuneOk (pieces 47 s) <;> rfl
theorem specParse_eq {N : Nat} (hN : 10000000 ≤ N) (s : ByteArray) (hs : s.size ≤ 2000000) : spec_ParseTune.g N s = some (parseP s) := by
  unfold spec_ParseTune.g spec_ParseTune.o0 spec_ParseTune.d1 spec_ParseTune.o1 parseP
  by_cases hl : (s.size : Int) > 120
  · rw [dcT hl, cond_true, if_neg (fun h => by have := tune_short s h; omega)]; rfl
  · have e : spec_l1Split.g N s 47 = some (pieces 47 s) := l1Split_eq s 47 (by omega) (by omega)
    rw [dcF hl, cond_false, e, Option.bind_some, beTune_eq _ (pieces_sm s hs hN), Option.bind_some]
    cases ht : tuneOk (pieces 47 s) with
    | false => rfl
    | true => dsimp only; rw [Bool.not_true, cond_false, e]; rfl
/-! ### turned -/
def turnP (t : LB) (k : Int) : LB × Bool := if tuneOk t && inB k 0 ((t.length : Int) - 1) then (t.drop k.toNat ++ t.take k.toNat, true) else ([], false)
theorem concat2 {N : Nat} (hN : 1000 ≤ N) (x y : LB) (h : x.length + y.length ≤ 1000) : slices_Concat_string_string.g N [x, y] = some (x ++ y) := by
  obtain ⟨n, rfl⟩ : ∃ n, N = n + 3 := ⟨N - 3, by omega⟩
  unfold slices_Concat_string_string.g slices_Concat_string_string.o0
  dsimp only
  unfold slices_Concat_string_string.l1 slices_Concat_string_string.d1 slices_Concat_string_string.o1
  dsimp only
  rw [dcT (by simp), cond_true, dcT (by simp), cond_true, cond_true]
  show (bif decide (w64 (0 + (x.length : Int)) < 0) then none else _) = _
  rw [w64s (n := 0 + (x.length : Int)) (by omega) (by omega), dcF (by omega), cond_false]
  unfold slices_Concat_string_string.l1 slices_Concat_string_string.d1 slices_Concat_string_string.o1
  dsimp only
  rw [show w64 (0 + 1) = 1 by decide, dcT (by simp), cond_true, dcT (by simp), cond_true, cond_true]
  show (bif decide (w64 (0 + (x.length : Int) + (y.length : Int)) < 0) then none else _) = _
  rw [w64s (n := 0 + (x.length : Int) + (y.length : Int)) (by omega) (by omega), dcF (by omega), cond_false]
  unfold slices_Concat_string_string.l1 slices_Concat_string_string.d1 slices_Concat_string_string.o1
  dsimp only
  rw [show w64 (1 + 1) = 2 by decide, dcF (by simp), cond_false]
  unfold slices_Grow_string_string.g
  rw [dcT (by omega), dcT (by omega), Bool.and_self, cond_true, Option.bind_some]
  unfold slices_Concat_string_string.l2 slices_Concat_string_string.d2 slices_Concat_string_string.o2
  dsimp only
  rw [dcT (by simp), cond_true, dcT (by simp), cond_true, cond_true]
  show (bif Nat.blt (([] : LB).length + x.length) 8796093022208 then _ else none) = _
  rw [blT (by simp; omega), cond_true]
  unfold slices_Concat_string_string.l2 slices_Concat_string_string.d2 slices_Concat_string_string.o2
  dsimp only
  rw [show w64 (0 + 1) = 1 by decide, dcT (by simp), cond_true, dcT (by simp), cond_true, cond_true]
  show (bif Nat.blt (([] ++ x : LB).length + y.length) 8796093022208 then _ else none) = _
  rw [blT (by simp; omega), cond_true]
  unfold slices_Concat_string_string.l2 slices_Concat_string_string.d2 slices_Concat_string_string.o2
  dsimp only
  rw [show w64 (1 + 1) = 2 by decide, dcF (by simp), cond_false, List.nil_append]
theorem implTurn_eq {N : Nat} (t : LB) (hl : Sm N t) (k : Int) : impl_TurnTune.g N t k = some (turnP t k) := by
  unfold impl_TurnTune.g impl_TurnTune.o0 impl_TurnTune.d1 impl_TurnTune.o1 turnP
  rw [isTune_eq t hl, Option.bind_some]
  cases ht : tuneOk t with
  | false => rfl
  | true =>
    obtain ⟨h1, h2, hs⟩ := tuneOk_facts ht
    rw [Bool.not_true, cond_false, w64s (by omega) (by omega), within_eq, Option.bind_some]
    cases hk : inB k 0 ((t.length : Int) - 1) with
    | false => rfl
    | true =>
      have hk := inB_iff.1 hk
      obtain ⟨k, rfl⟩ := Int.eq_ofNat_of_zero_le hk.1
      dsimp only
      rw [Bool.not_true, cond_false]
      simp (disch := omega) only [dcT, cond_true, Int.toNat_natCast, Int.toNat_zero, List.drop_zero, List.take_length]
      rw [concat2 hl.1 _ _ (by rw [List.length_drop, List.length_take]; omega)]; rfl
theorem specTurn_eq {N : Nat} (t : LB) (hl : Sm N t) (k : Int) : spec_TurnTune.g N t k = some (turnP t k) := by
  unfold spec_TurnTune.g spec_TurnTune.o0 spec_TurnTune.d1 spec_TurnTune.o1 turnP
  rw [beTune_eq t hl, Option.bind_some]
  cases ht : tuneOk t with
  | false => rfl
  | true =>
    obtain ⟨h1, h2, hs⟩ := tuneOk_facts ht
    rw [Bool.not_true, cond_false, w64s (by omega) (by omega), l1In_eq, Option.bind_some]
    cases hk : inB k 0 ((t.length : Int) - 1) with
    | false => rfl
    | true =>
      have hk := inB_iff.1 hk
      obtain ⟨k, rfl⟩ := Int.eq_ofNat_of_zero_le hk.1
      dsimp only
      rw [Bool.not_true, cond_false]
      simp (disch := omega) only [dcT, cond_true, Int.toNat_natCast, Int.toNat_zero, List.drop_zero, List.take_length]
      unfold spec_l1OwnS.g spec_l1OwnS.o0
      rw [blT (by rw [List.length_drop]; simp; omega), cond_true, Option.bind_some, List.nil_append, blT (by rw [List.length_drop, List.length_take]; omega), cond_true]; rfl
end Go.Proofs.YtpmipkbfohcjiaaDoor.M

namespace Go.Proofs.YtpmipkbfohcjiaaDoor.M
open Go Go.PM Go.Proofs.YtpmipkbfohcjiaaDoor.P
set_option linter.unusedVariables false
set_option linter.unusedSimpArgs false
set_option maxRecDepth 100000
theorem gcd_l (N : Nat) : ∀ (n a b : Nat), b < n → a ≤ 1000 → b ≤ 1000 → impl_gcd.l1 N n a b = some ((Nat.gcd a b : Nat) : Int)
  | n+1, a, b, hb, h1, h2 => by
    unfold impl_gcd.l1 impl_gcd.d1 impl_gcd.o1
    by_cases e : b = 0
    · subst e
      rw [ineF (show ((0 : Nat) : Int) = 0 from rfl), cond_false, w64s (by omega) (by omega), if_neg (by omega), Nat.gcd_zero_right]
    · rw [ineT (by omega), cond_true, ieqF (by omega), cond_false, tmodN]
      have hm : a % b < b := Nat.mod_lt _ (by omega)
      refine (gcd_l N n b (a % b) (by omega) h2 (by omega)).trans ?_
      rw [Nat.gcd_comm b (a % b), ← Nat.gcd_rec, Nat.gcd_comm]
  | 0, _, _, hb, _, _ => by omega
theorem lcm_eq {N : Nat} (hN : 10000 ≤ N) {a b : Nat} (h1 : 1 ≤ a) (h2 : a ≤ 100) (h3 : 1 ≤ b) (h4 : b ≤ 100) : impl_lcm.g N a b = some ((a / Nat.gcd a b * b : Nat) : Int) := by
  have hp : 0 < Nat.gcd a b := Nat.gcd_pos_of_pos_left _ h1
  have hd : a / Nat.gcd a b ≤ 100 := Nat.le_trans (Nat.div_le_self _ _) h2
  have hm : a / Nat.gcd a b * b ≤ 100 * 100 := Nat.mul_le_mul hd h4
  unfold impl_lcm.g impl_lcm.o0 impl_gcd.g impl_gcd.o0
  dsimp only
  rw [gcd_l N N a b (by omega) (by omega) (by omega), Option.bind_some, ieqF (by omega), cond_false, tdivN]
  generalize a / Nat.gcd a b = t at *
  rw [w64s (n := (t : Int)) (by omega) (by omega), ← Int.natCast_mul, w64s (by omega) (by omega)]
theorem plays_mod (n m b d : Nat) : plays n (b + n * m) d = plays n b d := by
  unfold plays
  refine List.map_congr_left fun j _ => ?_
  rw [show b + n * m + j = (b + j) + n * m by omega, Nat.add_mul_mod_self_left]
theorem notes_hours (l : LB) (q L : Nat) (h : l.length ∣ 10 * L) : notesOf l (q + 4 * L) = notesOf l q := by
  obtain ⟨m, hm⟩ := h
  unfold notesOf
  rw [before_hours, hm, plays_mod, show cnt (q + 4 * L) = cnt q by unfold cnt; omega]
theorem hours_dvd {k : Nat} (h1 : 1 ≤ k) (h2 : k ≤ 12) {L : Nat} (h : hoursN k ∣ L) : k ∣ 10 * L := by
  obtain ⟨m, rfl⟩ := h
  have := (hours_facts h1 h2).2.2
  exact Nat.dvd_trans (Nat.dvd_of_mod_eq_zero this) ⟨m, by rw [Nat.mul_assoc]⟩
theorem notes_mod (l : LB) (L : Nat) (h : l.length ∣ 10 * L) (q : Nat) : notesOf l q = notesOf l (q % (4 * L)) := by
  have e : q = q % (4 * L) + 4 * (L * (q / (4 * L))) := by
    have := Nat.mod_add_div q (4 * L)
    rw [Nat.mul_assoc] at this
    omega
  conv => lhs; rw [e]
  refine notes_hours l _ _ ?_
  obtain ⟨m, hm⟩ := h
  exact ⟨m * (q / (4 * L)), by rw [← Nat.mul_assoc, hm, Nat.mul_assoc]⟩
/-- alike for so many quarters -/
def sF (a b : LB) : Nat → Nat → Bool
  | 0, _ => true
  | d + 1, q => decide (notesOf a q = notesOf b q) && sF a b d (q + 1)
theorem sF_iff (a b : LB) : ∀ (d q : Nat), sF a b d q = true ↔ ∀ i, i < d → notesOf a (q + i) = notesOf b (q + i)
  | 0, q => by simp [sF]
  | d + 1, q => by
    simp only [sF, Bool.and_eq_true, decide_eq_true_eq]
    rw [sF_iff a b d (q+1)]
    constructor
    · rintro ⟨h1, h2⟩ i hi
      cases i with
      | zero => exact h1
      | succ i =>
        have := h2 i (by omega)
        rw [show q + 1 + i = q + (i + 1) by omega] at this
        exact this
    · intro h
      refine ⟨h 0 (by omega), fun i hi => ?_⟩
      have := h (i + 1) (by omega)
      rw [show q + (i + 1) = q + 1 + i by omega] at this
      exact this
theorem sF_all {a b : LB} {L : Nat} (hL : 1 ≤ L) (ha : a.length ∣ 10 * L) (hb : b.length ∣ 10 * L) : sF a b (4 * L) 0 = true ↔ ∀ q, notesOf a q = notesOf b q := by
  rw [sF_iff]
  constructor
  · intro h q
    have := h (q % (4 * L)) (Nat.mod_lt _ (by omega))
    rw [Nat.zero_add] at this
    rw [notes_mod a L ha, notes_mod b L hb, this]
  · intro h i _; exact h _
theorem implSame_l {N : Nat} (hN : 1000 ≤ N) (a b : LB) (ha : tuneOk a = true) (hb : tuneOk b = true) (M : Nat) (hM : M ≤ 100000) : ∀ (d i n : Nat), i + d = M → d < n → impl_IsSameTune.l2 N n a b M i = some (sF a b d i, true)
  | 0, i, n+1, hi, hn => by
    unfold impl_IsSameTune.l2 impl_IsSameTune.d2 impl_IsSameTune.o2
    rw [dcF (by omega)]; rfl
  | d+1, i, n+1, hi, hn => by
    unfold impl_IsSameTune.l2 impl_IsSameTune.d2 impl_IsSameTune.o2
    rw [dcT (by omega), cond_true, notes_eq hN a ha (by omega), Option.bind_some, notes_eq hN b hb (by omega), Option.bind_some, beqB, w1add (by omega)]
    simp only [sF]
    by_cases e : notesOf a i = notesOf b i
    · rw [dcT e, Bool.not_true, cond_false, Bool.true_and]
      exact implSame_l hN a b ha hb M hM d (i+1) n (by omega) (by omega)
    · rw [dcF e]; rfl
  | _, _, 0, _, hn => by omega
theorem specSame_l {N : Nat} (hN : 1000 ≤ N) (a b : LB) (ha : tuneOk a = true) (hb : tuneOk b = true) (M : Nat) (hM : M ≤ 100000) (eM : M = 4 * (hoursN a.length * hoursN b.length)) : ∀ (d i n : Nat), i + d = M → d < n → spec_IsSameTune.l2 N n a b i = some (sF a b d i, true)
  | d, i, n+1, hi, hn => by
    obtain ⟨a1, a2, _⟩ := tuneOk_facts ha
    obtain ⟨b1, b2, _⟩ := tuneOk_facts hb
    have fa := hours_facts a1 a2
    have fb := hours_facts b1 b2
    have ew : w64 ((w64 (4 * (hoursN a.length : Int))) * (hoursN b.length : Int)) = (M : Int) := by
      rw [w64s (n := 4 * (hoursN a.length : Int)) (by omega) (by omega), show 4 * (hoursN a.length : Int) * (hoursN b.length : Int) = (M : Int) by rw [eM, Int.natCast_mul, Int.natCast_mul, Int.mul_assoc]; rfl, w64s (by omega) (by omega)]
    unfold spec_IsSameTune.l2 spec_IsSameTune.d2 spec_IsSameTune.o2
    rw [beHours_eq hN a a1 a2, Option.bind_some, beHours_eq hN b b1 b2, Option.bind_some, ew]
    cases d with
    | zero => rw [dcF (by omega)]; rfl
    | succ d =>
      rw [dcT (by omega), cond_true, beNotes_eq hN a ha (by omega), Option.bind_some, beNotes_eq hN b hb (by omega), Option.bind_some, beqB, w1add (by omega)]
      simp only [sF]
      by_cases e : notesOf a i = notesOf b i
      · rw [dcT e, Bool.not_true, cond_false, Bool.true_and]
        exact specSame_l hN a b ha hb M hM eM d (i+1) n (by omega) (by omega)
      · rw [dcF e]; rfl
  | _, _, 0, _, hn => by omega
theorem same_facts {a b : LB} (ha : tuneOk a = true) (hb : tuneOk b = true) : (1 ≤ hoursN a.length * hoursN b.length ∧ hoursN a.length * hoursN b.length ≤ 144) ∧ (a.length ∣ 10 * (hoursN a.length * hoursN b.length)) ∧ (b.length ∣ 10 * (hoursN a.length * hoursN b.length)) := by
  obtain ⟨a1, a2, _⟩ := tuneOk_facts ha
  obtain ⟨b1, b2, _⟩ := tuneOk_facts hb
  have fa := hours_facts a1 a2
  have fb := hours_facts b1 b2
  refine ⟨⟨Nat.mul_le_mul fa.1 fb.1, Nat.mul_le_mul (Nat.le_trans fa.2.1 a2) (Nat.le_trans fb.2.1 b2)⟩, hours_dvd a1 a2 ⟨_, rfl⟩, hours_dvd b1 b2 ⟨hoursN a.length, Nat.mul_comm _ _⟩⟩
def sameP (a b : LB) : Bool × Bool := if tuneOk a && tuneOk b then (sF a b (4 * (hoursN a.length * hoursN b.length)) 0, true) else (false, false)
theorem same_all {a b : LB} (ha : tuneOk a = true) (hb : tuneOk b = true) : sF a b (4 * (hoursN a.length * hoursN b.length)) 0 = true ↔ ∀ q, notesOf a q = notesOf b q := by
  obtain ⟨h1, h2, h3⟩ := same_facts ha hb
  exact sF_all h1.1 h2 h3
theorem implSame_eq {N : Nat} (hN : 10000 ≤ N) (a b : LB) (ha : Sm N a) (hb : Sm N b) : impl_IsSameTune.g N a b = some (sameP a b) := by
  unfold impl_IsSameTune.g impl_IsSameTune.o0 impl_IsSameTune.d1 impl_IsSameTune.o1 sameP
  rw [isTune_eq a ha, Option.bind_some]
  cases ta : tuneOk a with
  | false => rfl
  | true =>
    rw [Bool.not_true, cond_false, isTune_eq b hb, Option.bind_some]
    cases tb : tuneOk b with
    | false => rfl
    | true =>
      obtain ⟨a1, a2, _⟩ := tuneOk_facts ta
      obtain ⟨b1, b2, _⟩ := tuneOk_facts tb
      have fa := hours_facts a1 a2
      have fb := hours_facts b1 b2
      dsimp only
      rw [Bool.not_true, cond_false, hours_eq (by omega) a a1 a2, Option.bind_some, hours_eq (by omega) b b1 b2, Option.bind_some, lcm_eq hN (by omega) (by omega) (by omega) (by omega), Option.bind_some]
      have hg : Nat.gcd (hoursN a.length) (hoursN b.length) ∣ hoursN a.length := Nat.gcd_dvd_left _ _
      obtain ⟨L, eL⟩ : ∃ L, L = hoursN a.length / Nat.gcd (hoursN a.length) (hoursN b.length) * hoursN b.length := ⟨_, rfl⟩
      have hp : 0 < Nat.gcd (hoursN a.length) (hoursN b.length) := Nat.gcd_pos_of_pos_left _ (by omega)
      have hd : 0 < hoursN a.length / Nat.gcd (hoursN a.length) (hoursN b.length) := Nat.div_pos (Nat.le_of_dvd (by omega) hg) hp
      have hL1 : 1 ≤ L := by rw [eL]; exact Nat.mul_pos hd (by omega)
      have hL2 : L ≤ 144 := by
        rw [eL]; exact Nat.mul_le_mul (Nat.le_trans (Nat.div_le_self _ _) (show hoursN a.length ≤ 12 by omega)) (show hoursN b.length ≤ 12 by omega)
      have hb' : hoursN b.length ∣ L := ⟨_, by rw [eL, Nat.mul_comm]⟩
      have ha' : hoursN a.length ∣ L := by
        obtain ⟨y, hy⟩ : Nat.gcd (hoursN a.length) (hoursN b.length) ∣ hoursN b.length := Nat.gcd_dvd_right _ _
        refine ⟨y, ?_⟩
        have e1 := Nat.div_mul_cancel hg
        rw [eL]
        conv => lhs; rw [hy]
        rw [← Nat.mul_assoc]
        conv => lhs; lhs; rw [← hy, e1]
      rw [← eL, w64s (by omega) (by omega), show 4 * (L : Int) = ((4 * L : Nat) : Int) by omega]
      refine (implSame_l (by omega) a b ta tb (4 * L) (by omega) (4 * L) 0 N (by omega) (by omega)).trans ?_
      rw [Bool.and_self, if_pos rfl, Option.some.injEq, Prod.mk.injEq]
      refine ⟨?_, rfl⟩
      rw [Bool.eq_iff_iff, same_all ta tb, sF_all hL1 (hours_dvd a1 a2 ha') (hours_dvd b1 b2 hb')]
theorem specSame_eq {N : Nat} (hN : 10000 ≤ N) (a b : LB) (ha : Sm N a) (hb : Sm N b) : spec_IsSameTune.g N a b = some (sameP a b) := by
  unfold spec_IsSameTune.g spec_IsSameTune.o0 spec_IsSameTune.d1 spec_IsSameTune.o1 sameP
  rw [beTune_eq a ha, Option.bind_some]
  cases ta : tuneOk a with
  | false => rfl
  | true =>
    rw [Bool.not_true, cond_false, beTune_eq b hb, Option.bind_some]
    cases tb : tuneOk b with
    | false => rfl
    | true =>
      have f := (same_facts ta tb).1
      dsimp only
      rw [Bool.not_true, cond_false]
      exact specSame_l (by omega) a b ta tb _ (by omega) rfl _ 0 N (Nat.zero_add _) (by omega)
theorem same_sym (a b : LB) : sameP b a = sameP a b := by
  unfold sameP
  cases ta : tuneOk a with
  | false => cases tuneOk b <;> rfl
  | true =>
    cases tb : tuneOk b with
    | false => rfl
    | true =>
      rw [Bool.and_self, if_pos rfl, if_pos rfl, Prod.mk.injEq]
      refine ⟨?_, rfl⟩
      rw [Bool.eq_iff_iff, same_all ta tb, same_all tb ta]
      exact ⟨fun h q => (h q).symm, fun h q => (h q).symm⟩
theorem same_self {a : LB} (ta : tuneOk a = true) : sameP a a = (true, true) := by
  unfold sameP
  rw [ta, Bool.and_self, if_pos rfl, Prod.mk.injEq]
  exact ⟨(same_all ta ta).2 fun q => rfl, rfl⟩
theorem same_notes {a b : LB} (h2 : (sameP a b).2 = true) : tuneOk a = true ∧ tuneOk b = true ∧ ((sameP a b).1 = true → ∀ q, notesOf a q = notesOf b q) := by
  unfold sameP at *
  cases ta : tuneOk a with
  | false => rw [ta] at h2; cases h2
  | true =>
    cases tb : tuneOk b with
    | false => rw [ta, tb] at h2; cases h2
    | true => exact ⟨rfl, rfl, fun h => (same_all ta tb).1 h⟩
end Go.Proofs.YtpmipkbfohcjiaaDoor.M

namespace Go.Proofs.YtpmipkbfohcjiaaDoor.M
open Go Go.PM Go.Proofs.YtpmipkbfohcjiaaDoor.P
set_option linter.unusedVariables false
set_option linter.unusedSimpArgs false
theorem and255 (x : Int) : 0 ≤ w64 (andK .u64 x 255) ∧ w64 (andK .u64 x 255) ≤ 255 := by
  have e : (BitVec.ofInt IntKind.u64.bits x &&& BitVec.ofInt IntKind.u64.bits 255).toNat ≤ 255 := by
    rw [BitVec.toNat_and]
    exact Nat.le_trans Nat.and_le_right (by decide)
  unfold andK
  generalize (BitVec.ofInt IntKind.u64.bits x &&& BitVec.ofInt IntKind.u64.bits 255).toNat = n at e
  have e1 : IntKind.wrap .u64 (n : Int) = n := by
    unfold IntKind.wrap
    have : (n : Int) % (2 ^ IntKind.u64.bits : Int) = n := by
      show (n : Int) % (18446744073709551616 : Int) = n
      omega
    rw [this]
    rfl
  rw [e1, w64s (by omega) (by omega)]
  omega
/-- bytes -/
def Bs (code : List Int) : Prop := code.length ≤ 1048576 ∧ ∀ x ∈ code, 0 ≤ x ∧ x ≤ 255
theorem next_tot (N : Nat) {code : List Int} (hc : Bs code) {pos : Int} (h1 : 0 ≤ pos) (h2 : pos ≤ 1000000000) (seed : Int) :
    Tot (spec_l1Cur_next.g N code pos seed) fun r => (0 ≤ r.1 ∧ r.1 ≤ 255) ∧ r.2.1 = code ∧ 0 ≤ r.2.2.1 ∧ r.2.2.1 ≤ pos + 1 := by
  have key : ∀ b, 0 ≤ b → b ≤ 255 → Tot (spec_l1Cur_next.d1 N b code pos seed) fun r => (0 ≤ r.1 ∧ r.1 ≤ 255) ∧ r.2.1 = code ∧ 0 ≤ r.2.2.1 ∧ r.2.2.1 ≤ pos + 1 := by
    intro b hb1 hb2
    unfold spec_l1Cur_next.d1 spec_l1Cur_next.o1
    rw [w64s (n := pos + 1) (by omega) (by omega)]
    refine Tot.bif (fun _ => Tot.now ⟨⟨hb1, hb2⟩, rfl, ?_, ?_⟩) (fun _ => Tot.now ⟨and255 _, rfl, ?_, ?_⟩)
    all_goals (dsimp only; omega)
  unfold spec_l1Cur_next.g spec_l1Cur_next.o0
  dsimp only
  refine Tot.dif (fun hlt => ?_) (fun hlt => key 0 (by omega) (by omega))
  have hl : pos.toNat < code.length := by omega
  rw [dcT h1, cond_true, dcT hlt, cond_true, getAt hl]
  have := hc.2 code[pos.toNat] (List.getElem_mem hl)
  rw [w64s (by omega) (by omega)]
  exact key _ this.1 this.2
theorem pick_tot (N : Nat) {code : List Int} (hc : Bs code) (n : Int) {pos : Int} (h1 : 0 ≤ pos) (h2 : pos ≤ 1000000) (seed : Int) :
    Tot (spec_l1Cur_pick.g N n code pos seed) fun r => (0 ≤ r.1 ∧ (r.1 < n ∨ r.1 = 0)) ∧ r.2.1 = code ∧ 0 ≤ r.2.2.1 ∧ r.2.2.1 ≤ pos + 2 := by
  have key : ∀ x p s, 1 < n → 0 ≤ x → 0 ≤ p → p ≤ pos + 2 → Tot (spec_l1Cur_pick.d1 N n x code p s) fun r => (0 ≤ r.1 ∧ (r.1 < n ∨ r.1 = 0)) ∧ r.2.1 = code ∧ 0 ≤ r.2.2.1 ∧ r.2.2.1 ≤ pos + 2 := by
    intro x p s hn hx hp1 hp2
    unfold spec_l1Cur_pick.d1 spec_l1Cur_pick.o1
    rw [ieqF (by omega), cond_false]
    refine Tot.now ⟨⟨Int.tmod_nonneg _ hx, .inl ?_⟩, rfl, hp1, hp2⟩
    exact Int.tmod_lt_of_pos _ (by omega)
  unfold spec_l1Cur_pick.g spec_l1Cur_pick.o0
  dsimp only
  refine Tot.dif (fun hlt => Tot.now ⟨⟨by dsimp only; omega, .inr rfl⟩, rfl, h1, by dsimp only; omega⟩) (fun hlt => ?_)
  refine Tot.bind (next_tot N hc h1 (by omega) seed) ?_
  rintro ⟨x, c, p, s⟩ ⟨⟨x1, x2⟩, rfl, p1, p2⟩
  dsimp only at x1 x2 p1 p2 ⊢
  refine Tot.dif (fun hgt => ?_) (fun hgt => ?_)
  · refine Tot.bind (next_tot N hc p1 (by omega) s) ?_
    rintro ⟨y, c, q, t⟩ ⟨⟨y1, y2⟩, rfl, q1, q2⟩
    dsimp only at y1 y2 q1 q2 ⊢
    rw [w64s (n := x * 256) (by omega) (by omega), w64s (by omega) (by omega)]
    exact key _ _ _ (by omega) (by omega) q1 (by omega)
  · exact key _ _ _ (by omega) x1 p1 (by omega)
theorem one_tot (N : Nat) {code : List Int} (hc : Bs code) (n : Int) {pos : Int} (h1 : 0 ≤ pos) (h2 : pos ≤ 1000000) (seed : Int) :
    Tot (spec_l1Cur_one.g N n code pos seed) fun r => r.2.1 = code ∧ 0 ≤ r.2.2.1 ∧ r.2.2.1 ≤ pos + 2 := by
  unfold spec_l1Cur_one.g spec_l1Cur_one.o0
  refine Tot.bind (pick_tot N hc n h1 h2 seed) ?_
  rintro ⟨x, c, p, s⟩ ⟨⟨x1, x2⟩, rfl, p1, p2⟩
  exact Tot.now ⟨rfl, p1, p2⟩
theorem of_tot (N : Nat) {code : List Int} (hc : Bs code) (l : List ByteArray) (hl : 0 < l.length) {pos : Int} (h1 : 0 ≤ pos) (h2 : pos ≤ 1000000) (seed : Int) :
    Tot (spec_l1Cur_of.g N l code pos seed) fun r => r.1 ∈ l ∧ r.2.1 = code ∧ 0 ≤ r.2.2.1 ∧ r.2.2.1 ≤ pos + 2 := by
  unfold spec_l1Cur_of.g spec_l1Cur_of.o0
  refine Tot.bind (pick_tot N hc _ h1 h2 seed) ?_
  rintro ⟨x, c, p, s⟩ ⟨⟨x1, x2⟩, rfl, p1, p2⟩
  dsimp only at x1 x2 p1 p2 ⊢
  have hx : x.toNat < l.length := by omega
  rw [dcT x1, cond_true, dcT (by omega), cond_true, getAt hx]
  exact Tot.now ⟨List.getElem_mem hx, rfl, p1, p2⟩
theorem digit_tot {N : Nat} (hN : 0 < N) {n : Int} (h1 : 0 ≤ n) (h2 : n < 10) : Tot (spec_l1Num.g N n) fun r => r.size = 1 := by
  obtain ⟨k, rfl⟩ : ∃ k, N = k + 1 := ⟨N - 1, by omega⟩
  unfold spec_l1Num.g spec_l1Num.gk spec_l1Num.s spec_l1Num.o0
  rw [dcT (by omega), cond_true]
  exact ⟨_, rfl, rfl⟩
end Go.Proofs.YtpmipkbfohcjiaaDoor.M

namespace Go.Proofs.YtpmipkbfohcjiaaDoor.M
open Go Go.PM Go.Proofs.YtpmipkbfohcjiaaDoor.P
set_option linter.unusedVariables false
set_option linter.unusedSimpArgs false
set_option maxRecDepth 100000
/-- few and short texts -/
def Few (n : Nat) (l : List ByteArray) : Prop := l.length ≤ n ∧ ∀ s ∈ l, s.size ≤ 16
theorem Few.add {n : Nat} {l : List ByteArray} {s : ByteArray} (h : Few n l) (hs : s.size ≤ 16) : Few (n + 1) (l ++ [s]) := by
  refine ⟨by rw [List.length_append]; have := h.1; simp; omega, fun x hx => ?_⟩
  rcases List.mem_append.1 hx with hx | hx
  · exact h.2 x hx
  · simp only [List.mem_singleton] at hx; rw [hx]; exact hs
theorem Few.mono {n m : Nat} {l : List ByteArray} (h : Few n l) (hm : n ≤ m) : Few m l := ⟨Nat.le_trans h.1 hm, h.2⟩
theorem blt_of {a b : Nat} (h : a < b) : Nat.blt a b = true := blT h
/-- behind a phrase -/
theorem d3_tot {N : Nat} {Q : spec_l1Cur_sureTune.R → Prop} {code : List Int} {v0 : List ByteArray} {v1 v2 : Int} {v3 : ByteArray} (v4 : Bool) (pos seed : Int) (n : Nat) (hf : Few n v0) (hn : n ≤ 100) (hs : v3.size ≤ 16)
    {c5 : (List ByteArray) → Int → Int → (List Int) → Int → Int → Option spec_l1Cur_sureTune.R} (hv : 1 ≤ v2) (hv2 : v2 ≤ 6) (hk : ∀ out, Few (n + 1) out → v0.length ≤ out.length → Tot (c5 out v1 (v2 - 1) code pos seed) Q) : Tot (spec_l1Cur_sureTune.d3 N v0 v1 v2 v3 v4 code pos seed c5) Q := by
  unfold spec_l1Cur_sureTune.d3 spec_l1Cur_sureTune.o3 spec_l1Cur_sureTune.d4 spec_l1Cur_sureTune.o4
  dsimp only
  rw [w64s (n := v2 - 1) (by omega) (by omega)]
  refine Tot.bif (fun _ => ?_) (fun _ => hk _ (hf.mono (by omega)) (Nat.le_refl _))
  have := hf.1
  rw [blT (by simp; omega), cond_true]
  exact hk _ (hf.add hs) (by simp)
theorem l6_tot {N : Nat} (hN : 0 < N) {Q : spec_l1Cur_sureTune.R → Prop} {code : List Int} (hc : Bs code) {v0 : List ByteArray} {v1 v2 : Int} (n : Nat) (hf : Few n v0) (hn : n ≤ 50) (h4 : 1 ≤ v1 ∧ v1 ≤ 4) (hv : 1 ≤ v2) (hv2 : v2 ≤ 6)
    {c5 : (List ByteArray) → Int → Int → (List Int) → Int → Int → Option spec_l1Cur_sureTune.R} (P : Int) (hP : P ≤ 10000) (hk : ∀ out pos seed, Few (n + 2) out → 0 < out.length → 0 ≤ pos → pos ≤ P → Tot (c5 out v1 (v2 - 1) code pos seed) Q) :
    ∀ (k fuel : Nat) (s : ByteArray) (pos seed : Int), k < fuel → s.size + k ≤ 8 → 0 ≤ pos → pos + 2 * k + 2 ≤ P → Tot (spec_l1Cur_sureTune.l6 N fuel v0 v1 v2 s (k : Int) code pos seed c5) Q
  | 0, fuel+1, s, pos, seed, hfu, hs, h1, h2 => by
    unfold spec_l1Cur_sureTune.l6 spec_l1Cur_sureTune.d6 spec_l1Cur_sureTune.o6
    have := hf.1
    rw [dcF (by omega), cond_false, blT (by simp; omega), cond_true]
    refine Tot.bind (one_tot N hc 4 h1 (by omega) seed) ?_
    rintro ⟨b, c, p, s'⟩ ⟨rfl, p1, p2⟩
    dsimp only at p1 p2 ⊢
    refine Tot.bif (fun _ => ?_) (fun _ => ?_)
    all_goals exact d3_tot _ _ _ (n + 1) (hf.add (by omega)) (by omega) (by omega) hv hv2 (fun out ho hl => hk out _ _ ho (by simp at hl; omega) p1 (by omega))
  | k+1, fuel+1, s, pos, seed, hfu, hs, h1, h2 => by
    unfold spec_l1Cur_sureTune.l6 spec_l1Cur_sureTune.d6 spec_l1Cur_sureTune.o6
    rw [dcT (by omega), cond_true]
    refine Tot.bind (pick_tot N hc v1 h1 (by omega) seed) ?_
    rintro ⟨x, c, p, s'⟩ ⟨⟨x1, x2⟩, rfl, p1, p2⟩
    dsimp only at x1 x2 p1 p2 ⊢
    rw [w64s (n := 1 + x) (by omega) (by omega)]
    refine Tot.bind (digit_tot hN (by omega) (by omega)) ?_
    intro r hr
    rw [show Nat.ble (s.size + r.size) 9223372036854775807 = true from Nat.ble_eq_true_of_le (by omega), cond_true, w64s (by omega) (by omega), show ((k + 1 : Nat) : Int) - 1 = (k : Int) by omega]
    exact l6_tot hN hc n hf hn h4 hv hv2 P hP hk k fuel _ _ _ (by omega) (by rw [ByteArray.size_append]; omega) p1 (by omega)
  | _, 0, _, _, _, hfu, _, _, _ => by omega
theorem l2_tot {N : Nat} (hN : 0 < N) {Q : spec_l1Cur_sureTune.R → Prop} {code : List Int} (hc : Bs code) {v1 v2 : Int} (h4 : 1 ≤ v1 ∧ v1 ≤ 4) (hv : 1 ≤ v2) (hv2 : v2 ≤ 6)
    {c5 : (List ByteArray) → Int → Int → (List Int) → Int → Int → Option spec_l1Cur_sureTune.R} (P : Int) (hP : P ≤ 10000) (hk : ∀ out pos seed, Few 2 out → 0 < out.length → 0 ≤ pos → pos ≤ P → Tot (c5 out v1 (v2 - 1) code pos seed) Q) :
    ∀ (k fuel : Nat) (s : ByteArray) (pos seed : Int), k < fuel → s.size + k ≤ 8 → 0 ≤ pos → pos + 2 * k + 2 ≤ P → Tot (spec_l1Cur_sureTune.l2 N fuel v1 v2 s (k : Int) code pos seed c5) Q
  | 0, fuel+1, s, pos, seed, hfu, hs, h1, h2 => by
    unfold spec_l1Cur_sureTune.l2 spec_l1Cur_sureTune.d2 spec_l1Cur_sureTune.o2
    rw [dcF (by omega), cond_false, blT (by simp), cond_true]
    refine Tot.bind (one_tot N hc 4 h1 (by omega) seed) ?_
    rintro ⟨b, c, p, s'⟩ ⟨rfl, p1, p2⟩
    dsimp only at p1 p2 ⊢
    have f0 : Few 0 [] := ⟨Nat.le_refl _, by simp⟩
    have key : ∀ v4, Tot (spec_l1Cur_sureTune.d3 N ([] ++ [s]) v1 v2 s v4 c p s' c5) Q := by
      intro v4
      unfold spec_l1Cur_sureTune.d3 spec_l1Cur_sureTune.o3 spec_l1Cur_sureTune.d4 spec_l1Cur_sureTune.o4
      dsimp only
      rw [w64s (n := v2 - 1) (by omega) (by omega)]
      refine Tot.bif (fun _ => ?_) (fun _ => hk _ _ _ ((f0.add (s := s) (by omega)).mono (by omega)) (by simp) p1 (by omega))
      rw [blT (by simp), cond_true]
      exact hk _ _ _ ((f0.add (s := s) (by omega)).add (by omega)) (by simp) p1 (by omega)
    refine Tot.bif (fun _ => key _) (fun _ => key _)
  | k+1, fuel+1, s, pos, seed, hfu, hs, h1, h2 => by
    unfold spec_l1Cur_sureTune.l2 spec_l1Cur_sureTune.d2 spec_l1Cur_sureTune.o2
    rw [dcT (by omega), cond_true]
    refine Tot.bind (pick_tot N hc v1 h1 (by omega) seed) ?_
    rintro ⟨x, c, p, s'⟩ ⟨⟨x1, x2⟩, rfl, p1, p2⟩
    dsimp only at x1 x2 p1 p2 ⊢
    rw [w64s (n := 1 + x) (by omega) (by omega)]
    refine Tot.bind (digit_tot hN (by omega) (by omega)) ?_
    intro r hr
    rw [show Nat.ble (s.size + r.size) 9223372036854775807 = true from Nat.ble_eq_true_of_le (by omega), cond_true, w64s (by omega) (by omega), show ((k + 1 : Nat) : Int) - 1 = (k : Int) by omega]
    exact l2_tot hN hc h4 hv hv2 P hP hk k fuel _ _ _ (by omega) (by rw [ByteArray.size_append]; omega) p1 (by omega)
  | _, 0, _, _, _, hfu, _, _, _ => by omega
theorem w5 {x : Int} (h0 : 0 ≤ x) (h1 : x < 4 ∨ x = 0) : ∃ k : Nat, w64 (1 + x) = (k : Int) ∧ 1 ≤ k ∧ k ≤ 4 := by
  refine ⟨(1 + x).toNat, ?_, by omega, by omega⟩
  rw [w64s (by omega) (by omega)]; omega
def SureR (code : List Int) (P : Int) (r : spec_l1Cur_sureTune.R) : Prop := Few 12 r.1 ∧ 0 < r.1.length ∧ r.2.1 = code ∧ 0 ≤ r.2.2.1 ∧ r.2.2.1 ≤ P
theorem l5_tot {N : Nat} (hN : 10 < N) {code : List Int} (hc : Bs code) {v1 : Int} (h4 : 1 ≤ v1 ∧ v1 ≤ 4) (P : Int) (hP : P ≤ 10000) :
    ∀ (j fuel : Nat) (out : List ByteArray) (pos seed : Int), j < fuel → j ≤ 5 → Few (12 - 2 * j) out → 0 < out.length → 0 ≤ pos → pos + 12 * j ≤ P → Tot (spec_l1Cur_sureTune.l5 N fuel out v1 (j : Int) code pos seed) (SureR code P)
  | 0, fuel+1, out, pos, seed, hfu, hj, hf, ho, h1, h2 => by
    unfold spec_l1Cur_sureTune.l5 spec_l1Cur_sureTune.d5 spec_l1Cur_sureTune.o5
    rw [dcF (by omega), cond_false]
    exact Tot.now ⟨hf, ho, rfl, h1, by dsimp only; omega⟩
  | j+1, fuel+1, out, pos, seed, hfu, hj, hf, ho, h1, h2 => by
    unfold spec_l1Cur_sureTune.l5 spec_l1Cur_sureTune.d5 spec_l1Cur_sureTune.o5
    rw [dcT (by omega), cond_true]
    refine Tot.bind (pick_tot N hc 4 h1 (by omega) seed) ?_
    rintro ⟨x, c, p, s'⟩ ⟨⟨x1, x2⟩, rfl, p1, p2⟩
    dsimp only at x1 x2 p1 p2 ⊢
    obtain ⟨k, e, k1, k2⟩ := w5 x1 x2
    rw [e]
    have hol := hf.1
    refine l6_tot (by omega) hc out.length ⟨Nat.le_refl _, hf.2⟩ (by omega) h4 (by omega) (by omega) (pos + 12) (by omega) ?_ k N ⟨#[]⟩ _ _ (by omega) (by show 0 + k ≤ 8; omega) p1 (by omega)
    intro out' pos' seed' hf' ho' q1 q2
    rw [show ((j + 1 : Nat) : Int) - 1 = (j : Int) by omega]
    exact l5_tot hN hc h4 P hP j fuel out' pos' seed' (by omega) (by omega) (hf'.mono (by omega)) ho' q1 (by omega)
  | _, 0, _, _, _, hfu, _, _, _, _, _ => by omega
theorem sure_tot {N : Nat} (hN : 10 < N) {code : List Int} (hc : Bs code) {pos : Int} (h1 : 0 ≤ pos) (h2 : pos ≤ 1000) (seed : Int) : Tot (spec_l1Cur_sureTune.g N code pos seed) (SureR code (pos + 100)) := by
  obtain ⟨M, rfl⟩ : ∃ M, N = M + 1 := ⟨N - 1, by omega⟩
  unfold spec_l1Cur_sureTune.g spec_l1Cur_sureTune.o0
  refine Tot.bind (pick_tot _ hc 4 h1 (by omega) seed) ?_
  rintro ⟨x, c, p, s⟩ ⟨⟨x1, x2⟩, rfl, p1, p2⟩
  dsimp only at x1 x2 p1 p2 ⊢
  refine Tot.bind (pick_tot _ hc 6 p1 (by omega) s) ?_
  rintro ⟨y, c', q, t⟩ ⟨⟨y1, y2⟩, hcc, q1, q2⟩
  dsimp only at y1 y2 q1 q2 hcc ⊢
  subst hcc
  rw [w64s (n := 1 + x) (by omega) (by omega), w64s (n := 1 + y) (by omega) (by omega)]
  unfold spec_l1Cur_sureTune.l1 spec_l1Cur_sureTune.d1 spec_l1Cur_sureTune.o1
  dsimp only
  rw [dcT (by omega), cond_true]
  refine Tot.bind (pick_tot _ hc 4 q1 (by omega) t) ?_
  rintro ⟨z, c', r, u⟩ ⟨⟨z1, z2⟩, hcc, r1, r2⟩
  dsimp only at z1 z2 r1 r2 hcc ⊢
  subst hcc
  obtain ⟨k, e, k1, k2⟩ := w5 z1 z2
  rw [e]
  refine l2_tot (by omega) hc (by omega) (by omega) (by omega) (pos + 20) (by omega) ?_ k _ ⟨#[]⟩ _ _ (by omega) (by show 0 + k ≤ 8; omega) r1 (by omega)
  intro out pos' seed' hf ho a1 a2
  obtain ⟨j, hj⟩ : ∃ j : Nat, 1 + y - 1 = (j : Int) := ⟨y.toNat, by omega⟩
  rw [hj]
  exact l5_tot (by omega) hc (by omega) (pos + 100) (by omega) j M out pos' seed' (by omega) (by omega) (hf.mono (by omega)) ho a1 (by omega)
def TuneR (code : List Int) (P : Int) (r : spec_l1Cur_tune.R) : Prop := Few 14 r.1 ∧ r.2.1 = code ∧ 0 ≤ r.2.2.1 ∧ r.2.2.1 ≤ P
theorem tl2_tot {N : Nat} {code : List Int} (hc : Bs code) (P : Int) (hP : P ≤ 10000) : ∀ (d fuel : Nat) (out : List ByteArray) (pos seed : Int), d < fuel → out.length + d = 13 → 0 < out.length → (∀ s ∈ out, s.size ≤ 16) → 0 ≤ pos → pos + 2 * d + 2 ≤ P → Tot (spec_l1Cur_tune.l2 N fuel out code pos seed) (TuneR code P)
  | d, fuel+1, out, pos, seed, hfu, hl, ho, hs, h1, h2 => by
    unfold spec_l1Cur_tune.l2 spec_l1Cur_tune.d2 spec_l1Cur_tune.o2
    refine Tot.bind (pick_tot _ hc 2 h1 (by omega) seed) ?_
    rintro ⟨x, c, p, s⟩ ⟨⟨x1, x2⟩, rfl, p1, p2⟩
    dsimp only at x1 x2 p1 p2 ⊢
    rw [w64s (n := 12 + x) (by omega) (by omega)]
    refine Tot.dif (fun hlt => ?_) (fun hlt => Tot.now ⟨⟨by show out.length ≤ 14; omega, hs⟩, rfl, p1, by dsimp only; omega⟩)
    rw [dcT (by omega), cond_true, Int.toNat_zero, getAt ho, blT (by simp; omega), cond_true]
    obtain ⟨d', rfl⟩ : ∃ d', d = d' + 1 := ⟨d - 1, by omega⟩
    refine tl2_tot hc P hP d' fuel _ p s (by omega) (by simp; omega) (by simp) (fun y hy => ?_) p1 (by omega)
    rcases List.mem_append.1 hy with hy | hy
    · exact hs y hy
    · simp only [List.mem_singleton] at hy; rw [hy]; exact hs _ (List.getElem_mem ho)
  | _, 0, _, _, _, hfu, _, _, _, _, _ => by omega
theorem tune_tot {N : Nat} (hN : 100 < N) {code : List Int} (hc : Bs code) {pos : Int} (h1 : 0 ≤ pos) (h2 : pos ≤ 1000) (seed : Int) : Tot (spec_l1Cur_tune.g N code pos seed) (TuneR code (pos + 200)) := by
  unfold spec_l1Cur_tune.g spec_l1Cur_tune.o0
  refine Tot.bind (sure_tot (by omega) hc h1 h2 seed) ?_
  rintro ⟨out, c, p, s⟩ ⟨hf, ho, rfl, p1, p2⟩
  dsimp only at hf ho p1 p2 ⊢
  refine Tot.bind (pick_tot _ hc 14 p1 (by omega) s) ?_
  rintro ⟨x, c', q, t⟩ ⟨⟨x1, x2⟩, hcc, q1, q2⟩
  dsimp only at x1 x2 q1 q2 hcc ⊢
  subst hcc
  have hd : ∀ q t, 0 ≤ q → q ≤ pos + 200 → Tot (spec_l1Cur_tune.d1 N out c' q t) (TuneR c' (pos + 200)) := fun q t h1 h2 => Tot.now ⟨hf.mono (by omega), rfl, h1, h2⟩
  refine Tot.bif (fun _ => ?_) (fun _ => Tot.bif (fun _ => Tot.now ⟨⟨Nat.zero_le _, by simp⟩, rfl, q1, by dsimp only; omega⟩) (fun _ => Tot.bif (fun _ => ?_) (fun _ => hd _ _ q1 (by omega))))
  · rw [blT ho, cond_true]
    refine Tot.bind (of_tot _ hc _ (by decide) q1 (by omega) t) ?_
    rintro ⟨y, c2, r, u⟩ ⟨hy, hcc, r1, r2⟩
    dsimp only at hy r1 r2 hcc ⊢
    subst hcc
    have hys : y.size ≤ 16 := by
      have : ∀ s ∈ ([(⟨#[]⟩ : ByteArray), (⟨#[57]⟩ : ByteArray), (⟨#[48]⟩ : ByteArray), (⟨#[49, 50, 51, 52, 53, 54, 55, 56]⟩ : ByteArray), (⟨#[49, 50, 51, 52, 53, 54, 55, 56, 49]⟩ : ByteArray)] : List ByteArray), s.size ≤ 16 := by decide
      exact this y hy
    rw [dcT (by omega), cond_true, Int.toNat_zero, getAt ho, show Nat.ble out.length (out.set 0 y).length = true by rw [List.length_set]; exact Nat.ble_eq_true_of_le (Nat.le_refl _), cond_true]
    refine Tot.now ⟨⟨?_, fun s hs => ?_⟩, rfl, r1, by dsimp only; omega⟩
    · have := hf.1; simp; omega
    · rcases List.mem_or_eq_of_mem_set (List.mem_of_mem_take hs) with h | h
      · exact hf.2 s h
      · rw [h]; exact hys
  · have := hf.1
    exact tl2_tot hc (pos + 200) (by omega) (13 - out.length) N out q t (by omega) (by omega) ho hf.2 q1 (by omega)
theorem big_eq (N : Nat) (a b : List Int) (ha : a.length < 4000000000000000000) : ∃ r, laws_big.g N a b = some r ∧ (r = false → a.length ≤ 1048576 ∧ b.length ≤ 1048576) := by
  unfold laws_big.g laws_big.o0
  by_cases h : a.length > 1048576
  · rw [dcT (show (a.length : Int) > 1048576 by omega)]
    exact ⟨true, rfl, fun h => by cases h⟩
  · rw [dcF (show ¬ (a.length : Int) > 1048576 by omega), w64s (n := 1048576 - (a.length : Int)) (by omega) (by omega)]
    exact ⟨_, rfl, fun h => by have := of_decide_eq_false h; omega⟩
end Go.Proofs.YtpmipkbfohcjiaaDoor.M

namespace Go.Proofs.YtpmipkbfohcjiaaDoor.M
open Go Go.PM Go.Proofs.YtpmipkbfohcjiaaDoor.P
set_option linter.unusedVariables false
set_option linter.unusedSimpArgs false
set_option maxRecDepth 100000
theorem sm_few {N : Nat} (hN : 10000000 ≤ N) {n : Nat} (hn : n ≤ 1000) {l : LB} (h : Few n l) : Sm N l := by
  have := h.1
  exact ⟨by omega, by omega, by omega, fun s hs => by have := h.2 s hs; omega⟩
theorem drawSame {N : Nat} (hN : 10000000 ≤ N) {code : List Int} (hc : Bs code) : ∃ a b, spec_DrawIsSameTune.g N code = some (a, b) ∧ Few 28 a ∧ Few 28 b := by
  have key : Tot (spec_DrawIsSameTune.g N code) fun r => Few 28 r.1 ∧ Few 28 r.2 := by
    have own : ∀ x : LB, Few 14 x → spec_l1OwnS.g N x = some x := by
      intro x hx
      have := hx.1
      unfold spec_l1OwnS.g spec_l1OwnS.o0
      rw [blT (by simp; omega), cond_true, List.nil_append]
    unfold spec_DrawIsSameTune.g spec_DrawIsSameTune.o0
    refine Tot.bind (tune_tot (by omega) hc (by omega) (by omega) 0) ?_
    rintro ⟨a, c, p, s⟩ ⟨f1, hcc, p1, p2⟩
    dsimp only at f1 hcc p1 p2 ⊢
    subst hcc
    have other : ∀ (p s : Int), 0 ≤ p → p ≤ 1000 → Tot (spec_DrawIsSameTune.d1 N a c p s) fun r => Few 28 r.1 ∧ Few 28 r.2 := by
      intro p s h1 h2
      unfold spec_DrawIsSameTune.d1 spec_DrawIsSameTune.o1
      refine Tot.bind (tune_tot (by omega) hc h1 h2 s) ?_
      rintro ⟨b, c', q, t⟩ ⟨g1, -, -, -⟩
      exact Tot.now ⟨f1.mono (by omega), g1.mono (by omega)⟩
    refine Tot.bind (pick_tot N hc 4 p1 (by omega) s) ?_
    rintro ⟨x, c', q, t⟩ ⟨-, hcc, q1, q2⟩
    dsimp only at hcc q1 q2 ⊢
    subst hcc
    refine Tot.bif (fun _ => Tot.dif (fun h6 => ?_) (fun _ => other _ _ q1 (by omega))) (fun _ => Tot.bif (fun _ => ?_) (fun _ => other _ _ q1 (by omega)))
    · have := f1.1
      rw [own a f1, Option.bind_some, blT (by omega), cond_true]
      refine Tot.now ⟨f1.mono (by omega), ?_, fun y hy => ?_⟩
      · show (a ++ a).length ≤ 28
        rw [List.length_append]; omega
      · rcases List.mem_append.1 hy with hy | hy <;> exact f1.2 y hy
    · rw [own a f1, Option.bind_some]
      exact Tot.now ⟨f1.mono (by omega), f1.mono (by omega)⟩
  obtain ⟨⟨a, b⟩, e, h⟩ := key
  exact ⟨a, b, e, h.1, h.2⟩
theorem drawTurn {N : Nat} (hN : 10000000 ≤ N) {code : List Int} (hc : Bs code) : ∃ t k, spec_DrawTurnTune.g N code = some (t, k) ∧ Few 14 t := by
  have key : Tot (spec_DrawTurnTune.g N code) fun r => Few 14 r.1 := by
    unfold spec_DrawTurnTune.g spec_DrawTurnTune.o0
    refine Tot.bind (tune_tot (by omega) hc (by omega) (by omega) 0) ?_
    rintro ⟨a, c, p, s⟩ ⟨f1, hcc, p1, p2⟩
    dsimp only at f1 hcc p1 p2 ⊢
    subst hcc
    refine Tot.bind (pick_tot N hc 7 p1 (by omega) s) ?_
    rintro ⟨x, c', q, t⟩ ⟨-, hcc, q1, q2⟩
    dsimp only at hcc q1 q2 ⊢
    subst hcc
    refine Tot.bind (pick_tot N hc 9 q1 (by omega) t) ?_
    rintro ⟨y, c', r, u⟩ -
    exact Tot.now f1
  obtain ⟨⟨t, k⟩, e, h⟩ := key
  exact ⟨t, k, e, h⟩
/-- short texts are joined -/
theorem text_tot {N : Nat} (l : LB) (hs : ∀ s ∈ l, s.size ≤ 16) (hl : l.length ≤ 100) : ∀ (d i n : Nat) (acc : ByteArray), i + d = l.length → acc.size ≤ 17 * i → d < n → Tot (spec_beText.l1 N n acc l (l.length : Int) i) fun r => r.size ≤ 17 * l.length
  | 0, i, n+1, acc, hi, ha, hn => by
    unfold spec_beText.l1 spec_beText.d1 spec_beText.o1
    rw [dcF (by omega), cond_false]
    exact Tot.now (by omega)
  | d+1, i, n+1, acc, hi, ha, hn => by
    have hy := hs _ (List.getElem_mem (show i < l.length by omega))
    have key : ∀ acc' : ByteArray, acc'.size ≤ 17 * i + 1 → Tot (spec_beText.d2 N acc' l[i] l (l.length : Int) i (fun w0 w1 w2 w3 => spec_beText.l1 N n w0 w1 w2 w3)) fun r => r.size ≤ 17 * l.length := by
      intro acc' h
      unfold spec_beText.d2 spec_beText.o2
      rw [show Nat.ble _ _ = true from Nat.ble_eq_true_of_le (by omega), cond_true, w1add (by omega)]
      exact text_tot l hs hl d (i+1) n _ (by omega) (by rw [ByteArray.size_append]; omega) (by omega)
    unfold spec_beText.l1 spec_beText.d1 spec_beText.o1
    dsimp only
    rw [dcT (show (i : Int) < (l.length : Int) by omega), cond_true, dcT (show 0 ≤ (i : Int) by omega), cond_true, cond_true, Int.toNat_natCast, getAt (by omega)]
    refine Tot.dif (fun _ => ?_) (fun _ => key _ (by omega))
    have e1 : (⟨#[47]⟩ : ByteArray).size = 1 := rfl
    rw [show Nat.ble _ _ = true from Nat.ble_eq_true_of_le (by rw [e1]; omega), cond_true]
    exact key _ (by rw [ByteArray.size_append, e1]; omega)
  | _, _, 0, _, _, _, hn => by omega
theorem nums1 (x : Int) : (strOfNums [x]).size = 1 := rfl
theorem ext_size (s : ByteArray) (a b : Nat) (h : b ≤ s.size) : (s.extract a b).size = b - a := by
  rw [ByteArray.size_extract, Nat.min_eq_left h]
theorem spoilt_tot {N : Nat} (hN : 100 ≤ N) {code : List Int} (hc : Bs code) (u : ByteArray) (hu : u.size = 7) : ∀ (k n : Nat) (s : ByteArray) (pos seed : Int), k < n → s.size ≤ 1000 + 2 * (5 - k) → k ≤ 5 → 0 ≤ pos → pos + 6 * k ≤ 100000 → Tot (spec_l1Cur_spoilt.l1 N n s u (k : Int) code pos seed) fun r => r.1.size ≤ 1100
  | 0, n+1, s, pos, seed, hn, hs, hk, h1, h2 => by
    unfold spec_l1Cur_spoilt.l1 spec_l1Cur_spoilt.d1 spec_l1Cur_spoilt.o1
    rw [dcF (by omega), cond_false]
    exact Tot.now (by dsimp only; omega)
  | k+1, n+1, s, pos, seed, hn, hs, hk, h1, h2 => by
    have next : ∀ (s' : ByteArray) (p q : Int), s'.size ≤ 1000 + 2 * (5 - k) → 0 ≤ p → p + 6 * k ≤ 100000 → Tot (spec_l1Cur_spoilt.d3 N s' u ((k + 1 : Nat) : Int) code p q (fun w0 w1 w2 w3 w4 w5 => spec_l1Cur_spoilt.l1 N n w0 w1 w2 w3 w4 w5)) fun r => r.1.size ≤ 1100 := by
      intro s' p q a1 a2 a3
      unfold spec_l1Cur_spoilt.d3 spec_l1Cur_spoilt.o3
      dsimp only
      rw [w64s (by omega) (by omega), show ((k + 1 : Nat) : Int) - 1 = (k : Int) by omega]
      exact spoilt_tot hN hc u hu k n s' p q (by omega) a1 (by omega) a2 a3
    unfold spec_l1Cur_spoilt.l1 spec_l1Cur_spoilt.d1 spec_l1Cur_spoilt.o1
    rw [dcT (by omega), cond_true]
    refine Tot.dif (fun hp => ?_) (fun _ => Tot.now (by dsimp only; omega))
    unfold spec_l1Cur_spoilt.d2 spec_l1Cur_spoilt.o2
    dsimp only
    refine Tot.bind (pick_tot N hc _ h1 (by omega) seed) ?_
    rintro ⟨x, c, p, q⟩ ⟨⟨x1, x2⟩, hcc, p1, p2⟩
    dsimp only at x1 x2 hcc p1 p2 ⊢
    subst hcc
    refine Tot.bind (pick_tot N hc _ p1 (by omega) q) ?_
    rintro ⟨y, c', p', q'⟩ ⟨⟨y1, y2⟩, hcc, p1', p2'⟩
    dsimp only at y1 y2 hcc p1' p2' ⊢
    subst hcc
    rw [dcT y1, cond_true, dcT (show y < (u.size : Int) by omega), cond_true, numsO_all, Option.bind_some]
    refine Tot.bind (pick_tot N hc 3 p1' (by omega) q') ?_
    rintro ⟨z, c', p'', q''⟩ ⟨-, hcc, p1'', p2''⟩
    dsimp only at hcc p1'' p2'' ⊢
    subst hcc
    obtain ⟨x, rfl⟩ := Int.eq_ofNat_of_zero_le x1
    have hx : x < s.size := by omega
    have e1 : (s.extract (0 : Int).toNat ((x : Int)).toNat).size = x := by rw [Int.toNat_natCast, ext_size _ _ _ (by omega)]; rfl
    have e2 : (s.extract ((x : Int)).toNat ((s.size : Int)).toNat).size = s.size - x := by rw [Int.toNat_natCast, Int.toNat_natCast, ext_size _ _ _ (by omega)]
    have e3 : (s.extract (((x + 1 : Nat) : Int)).toNat ((s.size : Int)).toNat).size = s.size - (x + 1) := by rw [Int.toNat_natCast, Int.toNat_natCast, ext_size _ _ _ (by omega)]
    rw [w1add (by omega), dcT (show 0 ≤ (x : Int) by omega), dcT (show (x : Int) ≤ (s.size : Int) by omega), dcT (show 0 ≤ (s.size : Int) by omega), dcT (show (s.size : Int) ≤ (s.size : Int) by omega), dcT (show 0 ≤ ((x + 1 : Nat) : Int) by omega), dcT (show ((x + 1 : Nat) : Int) ≤ (s.size : Int) by omega)]
    simp only [cond_true]
    refine Tot.bif (fun _ => ?_) (fun _ => Tot.bif (fun _ => ?_) (fun _ => ?_))
    · rw [show Nat.ble _ _ = true from Nat.ble_eq_true_of_le (by rw [e1, nums1]; omega), cond_true, show Nat.ble _ _ = true from Nat.ble_eq_true_of_le (by rw [ByteArray.size_append, e1, e2, nums1]; omega), cond_true]
      exact next _ _ _ (by rw [ByteArray.size_append, ByteArray.size_append, e1, e2, nums1]; omega) p1'' (by omega)
    · rw [show Nat.ble _ _ = true from Nat.ble_eq_true_of_le (by rw [e1, nums1]; omega), cond_true, show Nat.ble _ _ = true from Nat.ble_eq_true_of_le (by rw [ByteArray.size_append, e1, e3, nums1]; omega), cond_true]
      exact next _ _ _ (by rw [ByteArray.size_append, ByteArray.size_append, e1, e3, nums1]; omega) p1'' (by omega)
    · rw [show Nat.ble _ _ = true from Nat.ble_eq_true_of_le (by rw [e1, e3]; omega), cond_true]
      exact next _ _ _ (by rw [ByteArray.size_append, e1, e3]; omega) p1'' (by omega)
  | _, 0, _, _, _, hn, _, _, _, _ => by omega
theorem drawParse {N : Nat} (hN : 10000000 ≤ N) {code : List Int} (hc : Bs code) : ∃ s, spec_DrawParseTune.g N code = some s ∧ s.size ≤ 2000000 := by
  have key : Tot (spec_DrawParseTune.g N code) fun r => r.size ≤ 1100 := by
    unfold spec_DrawParseTune.g spec_DrawParseTune.o0 spec_DrawParseTune.d1 spec_DrawParseTune.o1
    refine Tot.bind (sure_tot (by omega) hc (by omega) (by omega) 0) ?_
    rintro ⟨a, c, p, s⟩ ⟨f1, f2, hcc, p1, p2⟩
    dsimp only at f1 f2 hcc p1 p2 ⊢
    subst hcc
    have hal := f1.1
    refine Tot.bind (text_tot (N := N) a f1.2 (by omega) a.length 0 N _ (by omega) (Nat.le_refl _) (by omega)) ?_
    intro tx htx
    refine Tot.bind (one_tot N hc 3 p1 (by omega) s) ?_
    rintro ⟨b, c', q, t⟩ ⟨hcc, q1, q2⟩
    dsimp only at hcc q1 q2 ⊢
    subst hcc
    refine Tot.bif (fun _ => ?_) (fun _ => Tot.now (by omega))
    unfold spec_l1Cur_spoilt.g spec_l1Cur_spoilt.o0
    have sp : Tot ((spec_l1Cur_pick.g N 2 c' q t).bind fun r1 => (fun w0 w1 w2 w3 w4 w5 => spec_l1Cur_spoilt.l1 N N w0 w1 w2 w3 w4 w5) tx (⟨#[49, 50, 51, 56, 57, 47, 48]⟩ : ByteArray) (w64 (1 + r1.1)) r1.2.1 r1.2.2.1 r1.2.2.2) fun r => r.1.size ≤ 1100 := by
      refine Tot.bind (pick_tot N hc 2 q1 (by omega) t) ?_
      rintro ⟨x, c'', r, u⟩ ⟨⟨x1, x2⟩, hcc, r1, r2⟩
      dsimp only at x1 x2 hcc r1 r2 ⊢
      subst hcc
      obtain ⟨k, hk⟩ : ∃ k : Nat, w64 (1 + x) = (k : Int) := ⟨(1 + x).toNat, by rw [w64s (by omega) (by omega)]; omega⟩
      have hk2 : k ≤ 2 := by rw [w64s (by omega) (by omega)] at hk; omega
      rw [hk]
      exact spoilt_tot (by omega) hc _ rfl k N tx r u (by omega) (by omega) (by omega) r1 (by omega)
    refine Tot.bind sp ?_
    intro r hr
    exact Tot.now hr
  obtain ⟨s, e, h⟩ := key
  exact ⟨s, e, by omega⟩
/-! ### what is heard -/
theorem heard7 {N : Nat} (hN : 1000 ≤ N) {code : List Int} (hc : Bs code) (l : LB) (ht : tuneOk l = true) : ∀ (d n : Nat) (v : LB) (q : Nat) (pos seed : Int), d < n → v.length + d = 20 → q ≤ 1000 - d → d ≤ 20 → 0 ≤ pos → pos + 2 * d + 2 ≤ 100000 → Tot (spec_DrawQuartersOfHeard.l7 N n l v (q : Int) code pos seed) fun r => r.1 = l
  | d, n+1, v, q, pos, seed, hn, hv, hq, hd, h1, h2 => by
    unfold spec_DrawQuartersOfHeard.l7 spec_DrawQuartersOfHeard.d7 spec_DrawQuartersOfHeard.o7
    refine Tot.bind (pick_tot N hc 2 h1 (by omega) seed) ?_
    rintro ⟨x, c', p, s⟩ ⟨⟨x1, x2⟩, hcc, p1, p2⟩
    dsimp only at x1 x2 hcc p1 p2 ⊢
    subst hcc
    rw [w64s (n := 8 + x) (by omega) (by omega)]
    refine Tot.dif (fun hlt => ?_) (fun _ => Tot.now rfl)
    rw [beNotes_eq hN l ht (by omega), Option.bind_some, blT (by simp; omega), cond_true, w1add (by omega)]
    obtain ⟨d, rfl⟩ : ∃ d', d = d' + 1 := ⟨d - 1, by omega⟩
    exact heard7 hN hc l ht d n _ (q+1) p s (by omega) (by simp; omega) (by omega) (by omega) p1 (by omega)
  | _, 0, _, _, _, _, hn, _, _, _, _, _ => by omega
theorem heard3 {N : Nat} (hN : 1000 ≤ N) {code : List Int} (hc : Bs code) (l : LB) (ht : tuneOk l = true) : ∀ (k n : Nat) (v : LB) (q : Nat) (pos seed : Int), k < n → v.length + k ≤ 5 → q + k ≤ 100 → 0 ≤ pos → pos ≤ 10000 → Tot (spec_DrawQuartersOfHeard.l3 N n l v (q : Int) (k : Int) code pos seed) fun r => r.1 = l
  | 0, n+1, v, q, pos, seed, hn, hv, hq, h1, h2 => by
    unfold spec_DrawQuartersOfHeard.l3 spec_DrawQuartersOfHeard.d3 spec_DrawQuartersOfHeard.o3
    dsimp only
    rw [dcF (by omega), cond_false]
    refine Tot.bind (pick_tot N hc 10 h1 (by omega) seed) ?_
    rintro ⟨x, c', p, s⟩ ⟨⟨x1, x2⟩, hcc, p1, p2⟩
    dsimp only at x1 x2 hcc p1 p2 ⊢
    subst hcc
    refine Tot.bif (fun _ => ?_) (fun _ => Tot.bif (fun _ => Tot.now rfl) (fun _ => Tot.bif (fun _ => ?_) (fun _ => Tot.now rfl)))
    · refine Tot.bind (of_tot N hc _ (by decide) p1 (by omega) s) ?_
      rintro ⟨y, c'', r, u⟩ -
      dsimp only
      rw [blT (by simp; omega), cond_true]
      exact Tot.now rfl
    · exact heard7 hN hc l ht (20 - v.length) N v q p s (by omega) (by omega) (by omega) (by omega) p1 (by omega)
  | k+1, n+1, v, q, pos, seed, hn, hv, hq, h1, h2 => by
    unfold spec_DrawQuartersOfHeard.l3 spec_DrawQuartersOfHeard.d3 spec_DrawQuartersOfHeard.o3
    dsimp only
    rw [dcT (by omega), cond_true, beNotes_eq hN l ht (by omega), Option.bind_some, blT (by simp; omega), cond_true, w1add (by omega), w64s (n := ((k + 1 : Nat) : Int) - 1) (by omega) (by omega), show ((k + 1 : Nat) : Int) - 1 = (k : Int) by omega]
    exact heard3 hN hc l ht k n _ (q+1) pos seed (by omega) (by simp; omega) (by omega) h1 h2
  | _, 0, _, _, _, _, hn, _, _, _, _ => by omega
theorem drawHeard {N : Nat} (hN : 10000000 ≤ N) {code : List Int} (hc : Bs code) : ∃ l p, spec_DrawQuartersOfHeard.g N code = some (l, p) ∧ Few 14 l := by
  have key : Tot (spec_DrawQuartersOfHeard.g N code) fun r => Few 14 r.1 := by
    unfold spec_DrawQuartersOfHeard.g spec_DrawQuartersOfHeard.o0
    refine Tot.bind (tune_tot (by omega) hc (by omega) (by omega) 0) ?_
    rintro ⟨l, c, p, s⟩ ⟨f1, hcc, p1, p2⟩
    dsimp only at f1 hcc p1 p2 ⊢
    subst hcc
    rw [beTune_eq l (sm_few hN (by omega) f1), Option.bind_some]
    cases ht : tuneOk l with
    | false => exact Tot.now f1
    | true =>
      rw [Bool.not_true, cond_false]
      refine Tot.bind (one_tot N hc 8 p1 (by omega) s) ?_
      rintro ⟨b, c', q, t⟩ ⟨hcc, q1, q2⟩
      dsimp only at hcc q1 q2 ⊢
      subst hcc
      unfold spec_DrawQuartersOfHeard.d1 spec_DrawQuartersOfHeard.o1
      refine Tot.bif (fun _ => Tot.now f1) (fun _ => ?_)
      refine Tot.bind (pick_tot N hc 24 q1 (by omega) t) ?_
      rintro ⟨x, c'', r, u⟩ ⟨⟨x1, x2⟩, hcc, r1, r2⟩
      dsimp only at x1 x2 hcc r1 r2 ⊢
      subst hcc
      refine Tot.bind (pick_tot N hc 3 r1 (by omega) u) ?_
      rintro ⟨y, c'', r', u'⟩ ⟨⟨y1, y2⟩, hcc, r1', r2'⟩
      dsimp only at y1 y2 hcc r1' r2' ⊢
      subst hcc
      obtain ⟨x, rfl⟩ := Int.eq_ofNat_of_zero_le x1
      obtain ⟨k, hk⟩ : ∃ k : Nat, w64 (1 + y) = (k : Int) := ⟨(1 + y).toNat, by rw [w64s (by omega) (by omega)]; omega⟩
      have hk2 : 1 ≤ k ∧ k ≤ 3 := by rw [w64s (by omega) (by omega)] at hk; omega
      rw [hk]
      obtain ⟨n, rfl⟩ : ∃ n, N = n + 1 := ⟨N - 1, by omega⟩
      unfold spec_DrawQuartersOfHeard.l2 spec_DrawQuartersOfHeard.d2 spec_DrawQuartersOfHeard.o2
      dsimp only
      rw [dcT (by omega), cond_true, beNotes_eq (by omega) l ht (by omega), Option.bind_some, blT (by simp), cond_true, w1add (by omega), w64s (n := (k : Int) - 1) (by omega) (by omega), show (k : Int) - 1 = ((k - 1 : Nat) : Int) by omega]
      refine (heard3 (N := n+1) (by omega) hc l ht (k-1) n _ (x+1) r' u' (by omega) (by simp; omega) (by omega) r1' (by omega)).mono ?_
      rintro ⟨a, b⟩ h
      dsimp only at h ⊢
      rw [h]; exact f1
  obtain ⟨⟨l, p⟩, e, h⟩ := key
  exact ⟨l, p, e, h⟩
end Go.Proofs.YtpmipkbfohcjiaaDoor.M

namespace Go.Proofs.YtpmipkbfohcjiaaDoor.M
open Go Go.PM Go.Proofs.YtpmipkbfohcjiaaDoor.P
set_option linter.unusedVariables false
set_option linter.unusedSimpArgs false
set_option maxRecDepth 100000
theorem nbeqs (b : Bool) : (!(b == b)) = false := by cases b <;> rfl
theorem bself (a : ByteArray) : (a.toList == a.toList) = true := by rw [beqB]; exact dcT rfl
theorem kT {N : Nat} (hN : 10000000 ≤ N) {l : LB} (h : l.length ≤ 1000000) : laws_kTexts.g N l l = some true := kTexts_self l (by omega) (by omega)
theorem kS {N : Nat} (hN : 10000000 ≤ N) {l : List Int} (h : l.length ≤ 1000000) : laws_kSame.g N l l = some true := by
  rw [kSame_eq l l (by omega) (by omega), dcT rfl]
theorem sm_small {N : Nat} (hN : 10000000 ≤ N) {l : LB} (ht : tuneOk l = true) : Sm N l := by
  obtain ⟨h1, h2, hs⟩ := tuneOk_facts ht
  exact ⟨by omega, by omega, by omega, fun s h => by have := hs s h; omega⟩
theorem askOk_of {l : LB} (ht : tuneOk l = true) {k : Nat} (h : k ≤ 1000000) : askOk l (k : Int) = true := by
  unfold askOk; rw [ht, Bool.true_and]; exact inB_iff.2 (by omega)
theorem playedP_ok {l : LB} (ht : tuneOk l = true) {k : Nat} (h : k ≤ 1000000) : playedP l (k : Int) = (notesOf l k, true) := by
  unfold playedP; rw [askOk_of ht h, if_pos rfl, Int.toNat_natCast]
/-! ### behind a parsed text -/
theorem d14_true {N : Nat} (hN : 10000000 ≤ N) (s : ByteArray) (hs : s.size ≤ 2000000) : laws_FnTunesHeard.d13 N s (parseP s).1 (parseP s).2 = some true := by
  unfold laws_FnTunesHeard.d13 laws_FnTunesHeard.o13 parseP
  cases ht : tuneOk (pieces 47 s) with
  | false => rfl
  | true =>
    rw [if_pos rfl]
    dsimp only
    rw [cond_true, implText_eq _ (pieces_sm s hs hN), Option.bind_some]
    unfold textP
    rw [ht, if_pos rfl]
    dsimp only
    rw [cond_true, text_parse, bself]
/-! ### turned home -/
theorem turn_ok {t : LB} {k : Nat} (ht : tuneOk t = true) : tuneOk (t.drop k ++ t.take k) = true := by
  have h := tune_iff.1 ht
  refine tune_iff.2 ⟨?_, fun s hs => ?_⟩
  · rw [List.length_append, List.length_drop, List.length_take]; omega
  · rcases List.mem_append.1 hs with hs | hs
    · exact h.2 s (List.mem_of_mem_drop hs)
    · exact h.2 s (List.mem_of_mem_take hs)
theorem turn_home {t : LB} {k : Nat} (ht : tuneOk t = true) (hk : k < t.length) : turnP (t.drop k ++ t.take k) (((t.length - k) % t.length : Nat) : Int) = (t, true) := by
  have hl : (t.drop k ++ t.take k).length = t.length := by rw [List.length_append, List.length_drop, List.length_take]; omega
  have hm : (t.length - k) % t.length < t.length := Nat.mod_lt _ (by omega)
  unfold turnP
  rw [turn_ok ht, hl, Bool.true_and, inB_iff.2 (by omega), if_pos rfl, Int.toNat_natCast, Prod.mk.injEq]
  refine ⟨?_, rfl⟩
  by_cases e : k = 0
  · subst e
    rw [Nat.sub_zero, Nat.mod_self]; simp
  · rw [Nat.mod_eq_of_lt (by omega)]
    have h1 : (t.drop k).length = t.length - k := List.length_drop ..
    rw [List.drop_append_of_le_length (by omega), List.drop_eq_nil_of_le (by omega : (t.drop k).length ≤ t.length - k), List.nil_append, List.take_append_of_le_length (by omega), List.take_of_length_le (by omega : (t.drop k).length ≤ t.length - k), List.take_append_drop]
theorem d11_true {N : Nat} (hN : 10000000 ≤ N) (t : LB) (k : Int) (s : ByteArray) (hs : s.size ≤ 2000000) : laws_FnTunesHeard.d10 N t k (turnP t k).1 (turnP t k).2 s (parseP s).1 (parseP s).2 = some true := by
  cases hc : (tuneOk t && inB k 0 ((t.length : Int) - 1)) with
  | false =>
    have e : turnP t k = ([], false) := by unfold turnP; rw [hc]; rfl
    rw [e]
    exact d14_true hN s hs
  | true =>
    have e : turnP t k = (t.drop k.toNat ++ t.take k.toNat, true) := by unfold turnP; rw [hc]; rfl
    rw [e]
    rw [Bool.and_eq_true, inB_iff] at hc
    obtain ⟨ht, hk⟩ := hc
    obtain ⟨h1, h2, hs'⟩ := tuneOk_facts ht
    obtain ⟨k, rfl⟩ := Int.eq_ofNat_of_zero_le hk.1
    have hkl : k < t.length := by omega
    unfold laws_FnTunesHeard.d10 laws_FnTunesHeard.o10
    dsimp only
    have hlen : (t.drop k ++ t.take k).length = t.length := by rw [List.length_append, List.length_drop, List.length_take]; omega
    rw [cond_true, ieqF (by omega), cond_false, Int.toNat_natCast, w64s (by omega) (by omega), show ((t.length : Int) - (k : Int)) = ((t.length - k : Nat) : Int) by omega, tmodN, implTurn_eq _ (sm_small hN (turn_ok ht)), Option.bind_some, turn_home ht hkl]
    dsimp only
    rw [Bool.not_true, cond_false, kT hN (by omega), Option.bind_some, Bool.not_true, cond_false, dcT (by omega), cond_true, Int.toNat_zero, getAt (by omega), dcT (by omega), cond_true, dcT (by omega), cond_true, getAt hkl]
    have e0 : (t.drop k ++ t.take k)[0]'(by omega) = t[k] := by
      rw [List.getElem_append_left (by rw [List.length_drop]; omega), List.getElem_drop]
      simp
    rw [e0, bself, Bool.not_true]
    unfold laws_FnTunesHeard.d12 laws_FnTunesHeard.o12
    dsimp only
    rw [cond_false]
    exact d14_true hN s hs
theorem l12_true {N : Nat} (hN : 10000000 ≤ N) (a b t : LB) (k : Int) (s : ByteArray) (hs : s.size ≤ 2000000) (ta : tuneOk a = true) (tb : tuneOk b = true) (same : Bool) (h : same = true → ∀ q, notesOf a q = notesOf b q) : ∀ (d i n : Nat), i + d = 12 → d < n →
    laws_FnTunesHeard.l11 N n a b same t k (turnP t k).1 (turnP t k).2 s (parseP s).1 (parseP s).2 i = some true
  | d, i, n+1, hi, hn => by
    unfold laws_FnTunesHeard.l11 laws_FnTunesHeard.d11 laws_FnTunesHeard.o11
    cases same with
    | false => exact d11_true hN t k s hs
    | true =>
      rw [cond_true]
      cases d with
      | zero =>
        rw [dcF (by omega), cond_false]
        exact d11_true hN t k s hs
      | succ d =>
        rw [dcT (by omega), cond_true]
        unfold laws_FnTunesHeard.d14 laws_FnTunesHeard.o14
        dsimp only
        rw [implPlayed_eq a (sm_small hN ta), Option.bind_some, implPlayed_eq b (sm_small hN tb), Option.bind_some, playedP_ok ta (by omega), playedP_ok tb (by omega)]
        dsimp only
        rw [Bool.not_true, cond_false, cond_false, h rfl i, bself, Bool.not_true]
        unfold laws_FnTunesHeard.d15 laws_FnTunesHeard.o15
        dsimp only
        rw [cond_false, w1add (by omega)]
        exact l12_true hN a b t k s hs ta tb true h d (i+1) n (by omega) (by omega)
  | _, _, 0, _, hn => by omega
theorem turnP_len {N : Nat} {t : LB} (hl : t.length ≤ 10000) (k : Int) : (turnP t k).1.length ≤ 20000 := by
  unfold turnP
  split
  · rw [List.length_append, List.length_drop, List.length_take]; omega
  · simp
theorem parseP_len (s : ByteArray) : (parseP s).1.length ≤ 12 := by
  unfold parseP
  split
  · next h => exact (tuneOk_facts h).2.1
  · simp
theorem d8_true {N : Nat} (hN : 10000000 ≤ N) {M : List Int} (hM : Bs M) : laws_FnTunesHeard.d7 N M = some true := by
  obtain ⟨a, b, ea, fa, fb⟩ := drawSame hN hM
  obtain ⟨t, k, et, ft⟩ := drawTurn hN hM
  obtain ⟨s, es, hs⟩ := drawParse hN hM
  have ha := sm_few hN (by omega) fa
  have hb := sm_few hN (by omega) fb
  have hT := sm_few hN (by omega) ft
  have htl : t.length ≤ 10000 := by have := ft.1; omega
  unfold laws_FnTunesHeard.d7 laws_FnTunesHeard.o7
  have h1 := turnP_len (N := N) htl k
  have h2 := parseP_len s
  rw [ea, Option.bind_some]
  dsimp only
  rw [implSame_eq (by omega) a b ha hb, Option.bind_some, specSame_eq (by omega) a b ha hb, Option.bind_some, et, Option.bind_some]
  dsimp only
  rw [implTurn_eq t hT, Option.bind_some, specTurn_eq t hT, Option.bind_some, es, Option.bind_some, implParse_eq hN s hs, Option.bind_some, specParse_eq hN s hs, Option.bind_some, nbeqs, cond_false, nbeqs, cond_false, nbeqs, cond_false, kT hN (by omega), Option.bind_some, Bool.not_true, cond_false, nbeqs, cond_false, kT hN (by omega), Option.bind_some, Bool.not_true]
  unfold laws_FnTunesHeard.d8 laws_FnTunesHeard.o8
  dsimp only
  rw [cond_false]
  cases h7 : (sameP a b).2 with
  | false => exact d11_true hN t k s hs
  | true =>
    obtain ⟨ta, tb, hn⟩ := same_notes h7
    rw [cond_true, implSame_eq (by omega) b a hb ha, Option.bind_some, same_sym, h7, Bool.not_true, cond_false, nbeqs]
    unfold laws_FnTunesHeard.d9 laws_FnTunesHeard.o9
    dsimp only
    rw [cond_false]
    exact l12_true hN a b t k s hs ta tb _ hn 12 0 N (by omega) (by omega)
theorem d4_true {N : Nat} (hN : 10000000 ≤ N) (l : LB) (hl : Sm N l) {M : List Int} (hM : Bs M) : laws_FnTunesHeard.d3 N M l (fewP l).1 (fewP l).2 (mirP l).1 (mirP l).2 (textP l).1 = some true := by
  have h8 := d8_true hN hM
  unfold laws_FnTunesHeard.d3 laws_FnTunesHeard.o3
  cases ht : tuneOk l with
  | false =>
    have e : mirP l = ([], false) := by unfold mirP; rw [ht]; rfl
    rw [e]; exact h8
  | true =>
    obtain ⟨h1, h2, _⟩ := tuneOk_facts ht
    have e : mirP l = (l.map mir, true) := by unfold mirP; rw [ht]; rfl
    have e2 : mirP (l.map mir) = (l, true) := by
      unfold mirP; rw [mir_ok ht, if_pos rfl, List.map_map, Prod.mk.injEq]
      refine ⟨?_, rfl⟩
      conv => rhs; rw [← List.map_id l]
      exact List.map_congr_left fun x _ => mir_mir x
    have e3 : textP l = (jn l, true) := by unfold textP; rw [ht]; rfl
    have e4 : parseP (jn l) = (l, true) := by unfold parseP; rw [parse_text ht, ht]; rfl
    have hj : (jn l).size ≤ 2000000 := by unfold jn; rw [bsOf_size]; have := join_len ht; omega
    rw [e, e3]
    dsimp only
    rw [cond_true, implMir_eq _ (sm_small hN (mir_ok ht)), Option.bind_some, implFew_eq (by omega) _ (sm_small hN (mir_ok ht)), Option.bind_some, implParse_eq hN _ hj, Option.bind_some, implSame_eq (by omega) l l hl hl, Option.bind_some, e2, e4, fewP_mir ht, same_self ht]
    dsimp only
    rw [Bool.not_true, cond_false, kT hN (by omega), Option.bind_some, Bool.not_true, cond_false, nbeqs, cond_false, ineF rfl, cond_false, cond_false, Option.bind_some, Bool.not_true, cond_false, cond_false]
    unfold laws_FnTunesHeard.d6 laws_FnTunesHeard.o6
    dsimp only
    rw [cond_false]
    exact h8
theorem l5_eq {N : Nat} (hN : 10000000 ≤ N) (l p : LB) (M : List Int) (ht : tuneOk l = true) (hp : p.length ≤ 1000) (fw : Int) (one : Bool) (mr : LB) (th : Bool) (tx : ByteArray) (H : Int) (q : Nat) (hq : q < M4 l) (c3 : (List Int) → LB → LB → (List Int) → Int → Bool → LB → Bool → ByteArray → Int → Int → Option laws_FnTunesHeard.R) : ∀ (d i n : Nat) (bb : Bool), i + d = p.length → d < n → (bb && mF l (q + i) (p.drop i)) = mF l q p →
    laws_FnTunesHeard.l4 N n M l p (qL l p (M4 l)) fw one mr th tx H q bb p (p.length : Int) i c3 = c3 M l p (qL l p (M4 l)) fw one mr th tx H ((q + 1 : Nat) : Int)
  | 0, i, n+1, bb, hi, hn, hb => by
    have hM := M4_le ht
    have hle := qL_le l p (M4 l)
    unfold laws_FnTunesHeard.l4 laws_FnTunesHeard.d4 laws_FnTunesHeard.o4
    rw [dcF (by omega), cond_false, kHas_eq _ _ (by omega) (by omega), Option.bind_some, w1add (by omega)]
    rw [List.drop_eq_nil_of_le (by omega)] at hb
    have e : decide (((q : Nat) : Int) ∈ qL l p (M4 l)) = bb := by
      rw [show bb = mF l q p by rw [← hb]; simp [mF], Bool.eq_iff_iff, decide_eq_true_eq, qL_mem]
      constructor
      · rintro ⟨j, j1, j2, j3⟩
        have : j = q := by omega
        subst this; exact j2
      · intro h; exact ⟨q, hq, h, rfl⟩
    rw [e, nbeqs, cond_false]
  | d+1, i, n+1, bb, hi, hn, hb => by
    have hM := M4_le ht
    have hlt : i < p.length := by omega
    unfold laws_FnTunesHeard.l4 laws_FnTunesHeard.d4 laws_FnTunesHeard.o4
    rw [dcT (show (i : Int) < (p.length : Int) by omega), cond_true, dcT (show 0 ≤ (i : Int) by omega), cond_true, cond_true, Int.toNat_natCast, getAt hlt, w2add (by omega), implPlayed_eq l (sm_small hN ht), Option.bind_some, playedP_ok ht (by omega)]
    dsimp only
    rw [Bool.not_true, cond_false, w1add (by omega)]
    rw [List.drop_eq_getElem_cons hlt] at hb
    simp only [mF] at hb
    cases bb with
    | false =>
      rw [cond_false]
      exact l5_eq hN l p M ht hp fw one mr th tx H q hq c3 d (i+1) n false (by omega) (by omega) (by rw [← hb]; rfl)
    | true =>
      rw [cond_true]
      refine l5_eq hN l p M ht hp fw one mr th tx H q hq c3 d (i+1) n _ (by omega) (by omega) ?_
      rw [← hb, Bool.true_and]; rfl
  | _, _, 0, _, _, hn, _ => by omega
theorem l3_true {N : Nat} (hN : 10000000 ≤ N) (l p : LB) (ht : tuneOk l = true) (hp : p.length ≤ 1000) {M : List Int} (hM : Bs M) : ∀ (d i n : Nat), i + d = M4 l → d < n →
    laws_FnTunesHeard.l2 N n M l p (qL l p (M4 l)) (fewP l).1 (fewP l).2 (mirP l).1 (mirP l).2 (textP l).1 (hoursN l.length : Int) i = some true
  | 0, i, n+1, hi, hn => by
    obtain ⟨h1, h2, _⟩ := tuneOk_facts ht
    have h4 := d4_true hN l (sm_small hN ht) hM
    unfold laws_FnTunesHeard.l2 laws_FnTunesHeard.d2 laws_FnTunesHeard.o2
    rw [w4m h1 h2, dcF (by omega), cond_false]
    have h6 : laws_FnTunesHeard.d5 N M l (fewP l).1 (fewP l).2 (mirP l).1 (mirP l).2 (textP l).1 false = some true := h4
    cases hf : (fewP l).2 with
    | false => rw [hf] at h6; exact h6
    | true =>
      rw [cond_true]
      by_cases c : (p.length : Int) ≥ (fewP l).1
      · have := few_tells ht hf c
        rw [dcT c, cond_true, dcF (by omega)]
        rw [hf] at h6; exact h6
      · rw [dcF c, cond_false]
        rw [hf] at h6; exact h6
  | d+1, i, n+1, hi, hn => by
    obtain ⟨h1, h2, _⟩ := tuneOk_facts ht
    unfold laws_FnTunesHeard.l2 laws_FnTunesHeard.d2 laws_FnTunesHeard.o2
    rw [w4m h1 h2, dcT (by omega), cond_true]
    refine (l5_eq hN l p M ht hp _ _ _ _ _ _ i (by omega) _ p.length 0 N true (by omega) (by omega) (by rw [List.drop_zero]; rfl)).trans ?_
    exact l3_true hN l p ht hp hM d (i+1) n (by omega) (by omega)
  | _, _, 0, _, hn => by omega
theorem d2_true {N : Nat} (hN : 10000000 ≤ N) (l p : LB) (hl : Sm N l) {M : List Int} (hM : Bs M) :
    laws_FnTunesHeard.d1 N M l p (qP l p).1 (qP l p).2 (fewP l).1 (fewP l).2 (mirP l).1 (mirP l).2 (textP l).1 false = some true := by
  unfold laws_FnTunesHeard.d1 laws_FnTunesHeard.o1
  rw [cond_false]
  cases hc : (tuneOk l && inB p.length 1 8) with
  | false =>
    have e : qP l p = ([], false) := by unfold qP; rw [hc]; rfl
    rw [e]
    exact d4_true hN l hl hM
  | true =>
    have e : qP l p = (qL l p (M4 l), true) := by unfold qP; rw [hc]; rfl
    rw [Bool.and_eq_true, inB_iff] at hc
    obtain ⟨ht, hp⟩ := hc
    have hM4 := M4_le ht
    rw [e]
    dsimp only
    have eh : hoursP l = ((hoursN l.length : Int), true) := by unfold hoursP; rw [ht]; rfl
    rw [cond_true, implHours_eq l hl, Option.bind_some, eh]
    dsimp only
    rw [Bool.not_true, cond_false]
    exact l3_true hN l p ht (by omega) hM (M4 l) 0 N (by omega) (by omega)
theorem qP_len (l p : LB) : (qP l p).1.length ≤ 1000 := by
  unfold qP
  split
  · next h =>
    rw [Bool.and_eq_true] at h
    have := M4_le h.1
    have := qL_le l p (M4 l)
    show (qL l p (M4 l)).length ≤ 1000
    omega
  · simp
theorem mirP_len {l : LB} (h : l.length ≤ 10000) : (mirP l).1.length ≤ 10000 := by
  unfold mirP
  split
  · rw [List.length_map]; exact h
  · simp
theorem big_ok {y : List Int} (h : ∀ x ∈ y, (Lit.int .u8 x).wf = true) (hl : y.length ≤ 1048576) : Bs y := by
  refine ⟨hl, fun x hx => ?_⟩
  have := h x hx
  simp [Lit.wf, IntKind.min, IntKind.max, IntKind.signed, IntKind.bits] at this
  omega
theorem FnTunesHeard.pure : FnTunesHeard.Pure := by
  intro A M wA wM
  refine ⟨200000000000000, ?_⟩
  have hN : 10000000 ≤ 200000000000000 := by omega
  generalize 200000000000000 = N at *
  unfold laws_FnTunesHeard.g laws_FnTunesHeard.o0
  obtain ⟨rb, eb, hb⟩ := big_eq N A M (by have := wA.2.1; omega)
  rw [eb, Option.bind_some]
  cases rb with
  | true => rfl
  | false =>
  have hA := big_ok wA.2.2 (hb rfl).1
  have hM := big_ok wM.2.2 (hb rfl).2
  obtain ⟨l, p, e0, hf⟩ := drawHeard hN hA
  have hl := sm_few hN (by omega) hf
  have hll : l.length ≤ 10000 := by have := hf.1; omega
  have h2 := d2_true hN l p hl hM
  rw [cond_false, e0, Option.bind_some]
  dsimp only
  obtain ⟨q1, q2⟩ := Quarters_eq (N := N) (by omega) l hl p
  have l1 := qP_len l p
  have l2 := mirP_len hll
  have em : (mirP l).2 = tuneOk l := by unfold mirP; cases tuneOk l <;> rfl
  have et : (textP l).2 = tuneOk l := by unfold textP; cases tuneOk l <;> rfl
  rw [q1, Option.bind_some, q2, Option.bind_some, implFew_eq (by omega) l hl, Option.bind_some, specFew_eq (by omega) l hl, Option.bind_some, implMir_eq l hl, Option.bind_some, specMir_eq l hl, Option.bind_some, implText_eq l hl, Option.bind_some, specText_eq l hl, Option.bind_some, nbeqs, cond_false, kS hN (by omega), Option.bind_some, Bool.not_true, cond_false, nbeqs, cond_false, ineF rfl, cond_false, nbeqs, cond_false, kT hN (by omega), Option.bind_some, Bool.not_true, cond_false, nbeqs, cond_false, bself, Bool.not_true, cond_false, isTune_eq l hl, Option.bind_some, em, nbeqs, cond_false, et, nbeqs, cond_false]
  rw [em] at h2
  cases hf : (fewP l).2 with
  | true =>
    have ht : tuneOk l = true := by
      unfold fewP at hf
      cases ht : tuneOk l with
      | true => rfl
      | false => rw [ht] at hf; cases hf
    rw [hf] at h2
    rw [ht] at h2 ⊢
    rw [cond_true, Bool.not_true, cond_false]
    cases hq : (qP l p).2 with
    | true => rw [hq] at h2; exact h2
    | false => rw [hq] at h2; exact h2
  | false =>
    rw [hf] at h2
    rw [cond_false]
    cases hq : (qP l p).2 with
    | true =>
      have ht : tuneOk l = true := by
        unfold qP at hq
        cases ht : tuneOk l with
        | true => rfl
        | false => rw [ht] at hq; cases hq
      rw [hq] at h2
      rw [ht] at h2 ⊢
      exact h2
    | false => rw [hq] at h2; exact h2
end Go.Proofs.YtpmipkbfohcjiaaDoor.M
