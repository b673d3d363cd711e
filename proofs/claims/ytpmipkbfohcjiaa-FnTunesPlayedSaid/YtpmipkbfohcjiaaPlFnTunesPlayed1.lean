/- Plain lemmas about what the functions compute (part 1). No conditions but those stated. -/
import Derived.Test.YtpmipkbfohcjiaaFnFnTunesPlayed3
namespace Go.Proofs.Ytpmipkbfohcjiaa.M
open Go Go.PM Go.Proofs.Ytpmipkbfohcjiaa.P
set_option linter.unusedVariables false
set_option linter.unusedSimpArgs false
def inB (a lo hi : Int) : Bool := decide (lo ≤ a) && decide (a ≤ hi)
theorem inB_iff {a lo hi : Int} : inB a lo hi = true ↔ lo ≤ a ∧ a ≤ hi := by simp [inB]
theorem inB_not {a lo hi : Int} : inB a lo hi = false ↔ ¬ (lo ≤ a ∧ a ≤ hi) := by rw [← inB_iff]; simp
theorem within_eq (N : Nat) (a b c : Int) : impl_within.g N a b c = some (inB a b c) := by
  unfold impl_within.g impl_within.o0 inB
  by_cases h : b ≤ a
  · rw [dcT (show a ≥ b from h)]; rfl
  · rw [dcF (show ¬ a ≥ b from h)]; rfl
theorem l1In_eq (N : Nat) (a b c : Int) : spec_l1In.g N a b c = some (inB a b c) := by
  unfold spec_l1In.g spec_l1In.o0 inB
  by_cases h : b ≤ a
  · rw [dcT (show a ≥ b from h)]; rfl
  · rw [dcF (show ¬ a ≥ b from h)]; rfl
theorem tmodN (a b : Nat) : Int.tmod (a : Int) (b : Int) = ((a % b : Nat) : Int) := (Int.ofNat_tmod a b).symm
theorem tdivN (a b : Nat) : Int.tdiv (a : Int) (b : Int) = ((a / b : Nat) : Int) := (Int.ofNat_tdiv a b).symm
theorem w2add {a b : Nat} (h : a + b < 9000000000000000000) : w64 ((a : Int) + (b : Int)) = ((a + b : Nat) : Int) := by rw [w64s (by omega) (by omega)]; omega
theorem w1add {a : Nat} (h : a < 9000000000000000000) : w64 ((a : Int) + 1) = ((a + 1 : Nat) : Int) := by rw [w64s (by omega) (by omega)]; omega
theorem kSame_loop (N : Nat) (l m : List Int) (hl : l.length = m.length) (hs : l.length < 1000000000) : ∀ (k i n : Nat), l.length = i + k → k < n → laws_kSame.l1 N n l m (l.length : Int) i = some (decide (l.drop i = m.drop i))
  | 0, i, n + 1, hi, hn => by
    unfold laws_kSame.l1 laws_kSame.d1 laws_kSame.o1
    rw [dcF (by omega), cond_false, List.drop_eq_nil_of_le (by omega), List.drop_eq_nil_of_le (by omega)]; rfl
  | k + 1, i, n + 1, hi, hn => by
    unfold laws_kSame.l1 laws_kSame.d1 laws_kSame.o1
    rw [dcT (by omega), dcT (by omega), cond_true, cond_true, cond_true, Int.toNat_natCast, getAt (by omega), cond_true, dcT (by omega), cond_true, getAt (by omega)]
    rw [List.drop_eq_getElem_cons (show i < l.length by omega), List.drop_eq_getElem_cons (show i < m.length by omega)]
    by_cases e : l[i] = m[i]
    · rw [ineF e, cond_false, w1add (by omega)]
      refine (kSame_loop N l m hl hs k (i+1) n (by omega) (by omega)).trans ?_
      rw [Option.some.injEq, e, decide_eq_decide]
      exact ⟨fun h => by rw [h], fun h => (List.cons.inj h).2⟩
    · rw [ineT e, cond_true, dcF (fun h => e (List.cons.inj h).1)]
  | _, _, 0, _, hn => by omega
theorem kSame_eq {N : Nat} (l m : List Int) (hs : l.length < 1000000000) (hN : l.length < N) : laws_kSame.g N l m = some (decide (l = m)) := by
  unfold laws_kSame.g laws_kSame.o0
  by_cases e : l.length = m.length
  · rw [ineF (by omega), cond_false]
    exact kSame_loop N l m e hs l.length 0 N (by omega) hN
  · rw [ineT (by omega), cond_true, dcF (fun e' => e (by rw [e']))]
end Go.Proofs.Ytpmipkbfohcjiaa.M

namespace Go.Proofs.Ytpmipkbfohcjiaa.M
open Go Go.PM Go.Proofs.Ytpmipkbfohcjiaa.P
set_option linter.unusedVariables false
set_option linter.unusedSimpArgs false
def okFrom (s : ByteArray) : Nat → Nat → Bool
  | 0, _ => true
  | d + 1, i => (decide (49 ≤ bt s i) && decide (bt s i ≤ 56)) && okFrom s d (i + 1)
def phraseOk (s : ByteArray) : Bool := okFrom s s.size 0 && inB s.size 1 8
def tuneOk (l : List ByteArray) : Bool := inB l.length 1 12 && l.all phraseOk
theorem isPhrase_l (N : Nat) (s : ByteArray) (hs : s.size < 9000000000000000000) : ∀ (d i n : Nat), i + d = s.size → d < n → impl_isPhrase.l1 N n s s.size i = some (okFrom s d i && inB s.size 1 8)
  | 0, i, n+1, hi, hn => by
    unfold impl_isPhrase.l1 impl_isPhrase.d1 impl_isPhrase.o1
    rw [dcF (by omega), cond_false, within_eq]; rfl
  | d+1, i, n+1, hi, hn => by
    unfold impl_isPhrase.l1 impl_isPhrase.d1 impl_isPhrase.o1 impl_isPhrase.d2 impl_isPhrase.o2
    rw [okFrom]
    by_cases h1 : bt s i < 49
    · simp (disch := omega) only [dcT, dcF, ineT, ineF, ieqT, ieqF, cond_true, cond_false, Option.bind_some, Int.toNat_natCast, w1add, blT, getAt, Bool.not_true, Bool.not_false]; rfl
    · by_cases h2 : bt s i > 56
      · simp (disch := omega) only [dcT, dcF, ineT, ineF, ieqT, ieqF, cond_true, cond_false, Option.bind_some, Int.toNat_natCast, w1add, blT, getAt, Bool.not_true, Bool.not_false]; rfl
      · simp (disch := omega) only [dcT, dcF, ineT, ineF, ieqT, ieqF, cond_true, cond_false, Option.bind_some, Int.toNat_natCast, w1add, blT, getAt, Bool.not_true, Bool.not_false]
        rw [isPhrase_l N s hs d (i+1) n (by omega) (by omega)]; rfl
  | _, _, 0, _, hn => by omega
theorem isPhrase_eq {N : Nat} (s : ByteArray) (hs : s.size < 9000000000000000000) (hN : s.size < N) : impl_isPhrase.g N s = some (phraseOk s) :=
  isPhrase_l N s hs s.size 0 N (by omega) hN
theorem isTune1_eq {N : Nat} (s : ByteArray) (hs : s.size < 9000000000000000000) (hN : s.size < N) : impl_IsTune_1.g N s = some (!phraseOk s) := by
  unfold impl_IsTune_1.g impl_IsTune_1.o0
  rw [isPhrase_eq s hs hN]; rfl
/-- the texts are small against the rounds -/
def Sm (N : Nat) (l : List ByteArray) : Prop := 1000 ≤ N ∧ l.length < 1000000000000 ∧ l.length < N ∧ ∀ s ∈ l, s.size < 9000000000000000000 ∧ s.size < N
theorem idx_l (N : Nat) (l : List ByteArray) (hl : Sm N l) : ∀ (d i n : Nat), i + d = l.length → d < n → Tot (slices_IndexFunc_string_string.l1 N n l l.length i) (fun r => (decide (r ≥ 0)) = !((l.drop i).all phraseOk))
  | 0, i, n+1, hi, hn => by
    unfold slices_IndexFunc_string_string.l1 slices_IndexFunc_string_string.d1 slices_IndexFunc_string_string.o1
    rw [dcF (by omega), cond_false, List.drop_eq_nil_of_le (by omega)]
    exact Tot.now rfl
  | d+1, i, n+1, hi, hn => by
    unfold slices_IndexFunc_string_string.l1 slices_IndexFunc_string_string.d1 slices_IndexFunc_string_string.o1
    have hlt : i < l.length := by omega
    obtain ⟨h1, h2, h3, h4⟩ := hl
    have hs := h4 _ (List.getElem_mem hlt)
    rw [List.drop_eq_getElem_cons hlt, List.all_cons]
    simp (disch := omega) only [dcT, dcF, ineT, ineF, ieqT, ieqF, cond_true, cond_false, Option.bind_some, Int.toNat_natCast, w1add, blT, getAt, Bool.not_true, Bool.not_false]
    rw [isTune1_eq _ hs.1 hs.2, Option.bind_some]
    cases e : phraseOk l[i]
    · simp only [Bool.not_false, cond_true, Bool.false_and]
      exact Tot.now (by show decide ((i : Int) ≥ 0) = _; rw [dcT (show (i : Int) ≥ 0 by omega)])
    · simp only [Bool.not_true, cond_false, Bool.true_and]
      exact idx_l N l ⟨h1, h2, h3, h4⟩ d (i+1) n (by omega) (by omega)
  | _, _, 0, _, hn => by omega
theorem isTune_eq {N : Nat} (l : List ByteArray) (hl : Sm N l) : impl_IsTune.g N l = some (tuneOk l) := by
  unfold impl_IsTune.g impl_IsTune.o0 tuneOk
  rw [within_eq, Option.bind_some]
  cases e : inB l.length 1 12
  · rfl
  · rw [cond_true, Bool.true_and]
    refine Tot.get ?_
    unfold slices_ContainsFunc_string_string.g slices_ContainsFunc_string_string.o0 slices_IndexFunc_string_string.g slices_IndexFunc_string_string.o0
    refine Tot.bind (P := fun r => r = !(l.all phraseOk)) (Tot.bind (idx_l N l hl l.length 0 N (by omega) hl.2.2.1) fun r hr => Tot.now hr) fun r hr => ?_
    refine Tot.now ?_
    rw [hr, Bool.not_not]
theorem beTune_in (N n' : Nat) (l : List ByteArray) (L i : Int) (s : ByteArray) (hs : s.size ≤ 8) (b : Bool) : ∀ (d j n : Nat), j + d = s.size → d < n →
    (okFrom s d j = true → spec_beTune.l1 N n' l L (w64 (i + 1)) = some b) → spec_beTune.l2 N n s j l L i (fun w0 w1 w2 => spec_beTune.l1 N n' w0 w1 w2) = some (okFrom s d j && b)
  | 0, j, n+1, hj, hn, h => by
    unfold spec_beTune.l2 spec_beTune.d2 spec_beTune.o2
    rw [dcF (by omega), cond_false]
    exact h rfl
  | d+1, j, n+1, hj, hn, h => by
    unfold spec_beTune.l2 spec_beTune.d2 spec_beTune.o2 spec_beTune.d3 spec_beTune.o3
    rw [okFrom] at h ⊢
    by_cases h1 : bt s j < 49
    · simp (disch := omega) only [dcT, dcF, ineT, ineF, ieqT, ieqF, cond_true, cond_false, Option.bind_some, Int.toNat_natCast, w1add, blT, getAt, Bool.not_true, Bool.not_false]; rfl
    · by_cases h2 : bt s j > 56
      · simp (disch := omega) only [dcT, dcF, ineT, ineF, ieqT, ieqF, cond_true, cond_false, Option.bind_some, Int.toNat_natCast, w1add, blT, getAt, Bool.not_true, Bool.not_false]; rfl
      · rw [dcT (show 49 ≤ bt s j by omega), dcT (show bt s j ≤ 56 by omega)] at h
        simp (disch := omega) only [dcT, dcF, ineT, ineF, ieqT, ieqF, cond_true, cond_false, Option.bind_some, Int.toNat_natCast, w1add, blT, getAt, Bool.not_true, Bool.not_false]
        exact beTune_in N n' l L i s hs b d (j+1) n (by omega) (by omega) h
  | _, _, 0, _, hn, _ => by omega
theorem beTune_l (N : Nat) (hN : 1000 ≤ N) (l : List ByteArray) (hl : l.length ≤ 12) : ∀ (d i n : Nat), i + d = l.length → d < n → spec_beTune.l1 N n l l.length i = some ((l.drop i).all phraseOk)
  | 0, i, n+1, hi, hn => by
    unfold spec_beTune.l1 spec_beTune.d1 spec_beTune.o1
    rw [dcF (by omega), cond_false, List.drop_eq_nil_of_le (by omega)]; rfl
  | d+1, i, n+1, hi, hn => by
    unfold spec_beTune.l1 spec_beTune.d1 spec_beTune.o1
    have hlt : i < l.length := by omega
    rw [List.drop_eq_getElem_cons hlt, List.all_cons]
    simp (disch := omega) only [dcT, cond_true, Int.toNat_natCast, getAt, l1In_eq, Option.bind_some]
    rw [phraseOk]
    cases e : inB l[i].size 1 8
    · rw [Bool.and_false]; rfl
    · rw [Bool.and_true, Bool.not_true, cond_false]
      rw [inB_iff] at e
      refine beTune_in N n l l.length i l[i] (by omega) _ l[i].size 0 N (by omega) (by omega) fun _ => ?_
      rw [w1add (by omega)]
      exact beTune_l N hN l hl d (i+1) n (by omega) (by omega)
  | _, _, 0, _, hn => by omega
theorem beTune_eq {N : Nat} (l : List ByteArray) (hl : Sm N l) : spec_beTune.g N l = some (tuneOk l) := by
  unfold spec_beTune.g spec_beTune.o0 tuneOk
  rw [l1In_eq, Option.bind_some]
  cases e : inB l.length 1 12
  · rfl
  · rw [inB_iff] at e
    rw [Bool.true_and, Bool.not_true, cond_false]
    have := beTune_l N hl.1 l (by omega) l.length 0 N (by omega) hl.2.2.1
    simpa using this
theorem specIsTune_eq {N : Nat} (l : List ByteArray) (hl : Sm N l) : spec_IsTune.g N l = some (tuneOk l) := by
  unfold spec_IsTune.g spec_IsTune.o0
  rw [beTune_eq l hl]; rfl
theorem tuneOk_facts {l : List ByteArray} (h : tuneOk l = true) : 1 ≤ l.length ∧ l.length ≤ 12 ∧ ∀ s ∈ l, 1 ≤ s.size ∧ s.size ≤ 8 := by
  simp only [tuneOk, Bool.and_eq_true, inB_iff, List.all_eq_true] at h
  refine ⟨by omega, by omega, fun s hs => ?_⟩
  have := h.2 s hs
  simp only [phraseOk, Bool.and_eq_true, inB_iff] at this
  omega
def askOk (l : List ByteArray) (q : Int) : Bool := tuneOk l && inB q 0 1000000
theorem isQuarter_eq {N : Nat} (l : List ByteArray) (hl : Sm N l) (q : Int) : impl_isQuarter.g N l q = some (askOk l q) := by
  unfold impl_isQuarter.g impl_isQuarter.o0 askOk
  rw [isTune_eq l hl, Option.bind_some]
  cases tuneOk l
  · rfl
  · rw [cond_true, within_eq]; rfl
theorem beAsked_eq {N : Nat} (l : List ByteArray) (hl : Sm N l) (q : Int) : spec_beAsked.g N l q = some (askOk l q) := by
  unfold spec_beAsked.g spec_beAsked.o0 askOk
  rw [beTune_eq l hl, Option.bind_some]
  cases tuneOk l
  · rfl
  · rw [cond_true, l1In_eq]; rfl
theorem askOk_facts {l : List ByteArray} {q : Int} (h : askOk l q = true) : tuneOk l = true ∧ 0 ≤ q ∧ q ≤ 1000000 := by
  simp only [askOk, Bool.and_eq_true, inB_iff] at h
  exact h
theorem isBell_eq (N : Nat) (b : Int) : impl_isBell.g N b = some (inB b 1 8) := by
  unfold impl_isBell.g impl_isBell.o0; rw [within_eq]; rfl
theorem beIs_eq (N : Nat) (b : Int) : spec_beIs.g N b = some (inB b 1 8) := by
  unfold spec_beIs.g spec_beIs.o0; rw [l1In_eq]; rfl
end Go.Proofs.Ytpmipkbfohcjiaa.M

namespace Go.Proofs.Ytpmipkbfohcjiaa.M
open Go Go.PM Go.Proofs.Ytpmipkbfohcjiaa.P
set_option linter.unusedVariables false
set_option linter.unusedSimpArgs false
/-- How many phrases are played before a quarter. -/
def before (q : Nat) : Nat := q / 4 * 10 + q % 4 * (q % 4 + 1) / 2
theorem before_step (q : Nat) : before (q + 1) = before q + (q % 4 + 1) := by
  unfold before
  have h0 : q % 4 = 0 ∨ q % 4 = 1 ∨ q % 4 = 2 ∨ q % 4 = 3 := by omega
  rcases h0 with h0 | h0 | h0 | h0
  · have e1 : (q + 1) % 4 = 1 := by omega
    have e2 : (q + 1) / 4 = q / 4 := by omega
    rw [h0, e1, e2]
  · have e1 : (q + 1) % 4 = 2 := by omega
    have e2 : (q + 1) / 4 = q / 4 := by omega
    rw [h0, e1, e2]
  · have e1 : (q + 1) % 4 = 3 := by omega
    have e2 : (q + 1) / 4 = q / 4 := by omega
    rw [h0, e1, e2]
  · have e1 : (q + 1) % 4 = 0 := by omega
    have e2 : (q + 1) / 4 = q / 4 + 1 := by omega
    rw [h0, e1, e2]; omega
theorem before_le (q : Nat) : before q ≤ 3 * q + 10 := by
  unfold before
  have h0 : q % 4 = 0 ∨ q % 4 = 1 ∨ q % 4 = 2 ∨ q % 4 = 3 := by omega
  rcases h0 with h0 | h0 | h0 | h0 <;> rw [h0] <;> omega
theorem before_hours (q h : Nat) : before (q + 4 * h) = before q + 10 * h := by
  unfold before
  rw [show (q + 4 * h) % 4 = q % 4 by omega, show (q + 4 * h) / 4 = q / 4 + h by omega]
  omega
theorem played_eq (N : Nat) {q : Nat} (h2 : q ≤ 1000000000000) : impl_played.g N q = some (before q : Int) := by
  unfold impl_played.g impl_played.o0 before
  have e1 : Int.tmod (q : Int) 4 = ((q % 4 : Nat) : Int) := tmodN q 4
  have e2 : Int.tdiv (q : Int) 4 = ((q / 4 : Nat) : Int) := tdivN q 4
  rw [e1, e2]
  have h0 : q % 4 = 0 ∨ q % 4 = 1 ∨ q % 4 = 2 ∨ q % 4 = 3 := by omega
  rw [w64s (n := ((q / 4 : Nat) : Int)) (by omega) (by omega), w64s (n := ((q / 4 : Nat) : Int) * 10) (by omega) (by omega)]
  rcases h0 with h0 | h0 | h0 | h0 <;> rw [h0] <;> congr 1
  · rw [show w64 (Int.tdiv (w64 (((0 : Nat) : Int) * w64 (((0 : Nat) : Int) + 1))) 2) = 0 by decide, w64s (by omega) (by omega)]; show _ = ((q / 4 * 10 + 0 : Nat) : Int); clear e1 e2; omega
  · rw [show w64 (Int.tdiv (w64 (((1 : Nat) : Int) * w64 (((1 : Nat) : Int) + 1))) 2) = 1 by decide, w64s (by omega) (by omega)]; show _ = ((q / 4 * 10 + 1 : Nat) : Int); clear e1 e2; omega
  · rw [show w64 (Int.tdiv (w64 (((2 : Nat) : Int) * w64 (((2 : Nat) : Int) + 1))) 2) = 3 by decide, w64s (by omega) (by omega)]; show _ = ((q / 4 * 10 + 3 : Nat) : Int); clear e1 e2; omega
  · rw [show w64 (Int.tdiv (w64 (((3 : Nat) : Int) * w64 (((3 : Nat) : Int) + 1))) 2) = 6 by decide, w64s (by omega) (by omega)]; show _ = ((q / 4 * 10 + 6 : Nat) : Int); clear e1 e2; omega
theorem beBefore_eq (N : Nat) {q : Nat} (h2 : q ≤ 1000000000000) : spec_beBefore.g N q = some (before q : Int) := played_eq N h2
def plays (n b d : Nat) : List Int := (List.range d).map fun (j : Nat) => (((b + j) % n : Nat) : Int)
theorem plays_length (n b d : Nat) : (plays n b d).length = d := by simp [plays]
theorem plays_succ (n b d : Nat) : plays n b d ++ [(((b + d) % n : Nat) : Int)] = plays n b (d + 1) := by simp [plays, List.range_succ]
theorem plays_get (n b d i : Nat) (h : i < (plays n b d).length) : (plays n b d)[i] = (((b + i) % n : Nat) : Int) := by simp [plays]
def cnt (q : Nat) : Nat := q % 4 + 1
theorem phrases_l (N : Nat) (l : List ByteArray) (h1 : 1 ≤ l.length) {q : Nat} (h2 : q ≤ 100000000000) : ∀ (d i n : Nat), i + d = cnt q → d < n → impl_phrases.l1 N n l q (plays l.length (before q) i) ((before q + i : Nat) : Int) = some (plays l.length (before q) (cnt q))
  | d, i, n+1, hi, hn => by
    have hst := before_step q
    have hb := before_le q
    have hc : cnt q = q % 4 + 1 := rfl
    unfold impl_phrases.l1 impl_phrases.d1 impl_phrases.o1
    rw [w1add (by omega), played_eq N (by omega), Option.bind_some]
    cases d with
    | zero =>
      rw [dcF (by omega), cond_false, show i = cnt q by omega]
    | succ d =>
      rw [dcT (by omega), cond_true, ieqF (by omega), cond_false, tmodN, blT (by rw [plays_length]; simp only [List.length_singleton]; omega), cond_true, plays_succ, w1add (by omega)]
      exact phrases_l N l h1 h2 d (i+1) n (by omega) (by omega)
  | _, _, 0, _, hn => by omega
theorem phrases_eq {N : Nat} (hN : 1000 ≤ N) (l : List ByteArray) (h1 : 1 ≤ l.length) {q : Nat} (h2 : q ≤ 100000000000) : impl_phrases.g N l q = some (plays l.length (before q) (cnt q)) := by
  unfold impl_phrases.g impl_phrases.o0
  rw [played_eq N (by omega), Option.bind_some]
  have hc : cnt q = q % 4 + 1 := rfl
  exact phrases_l N l h1 h2 (cnt q) 0 N (by omega) (by omega)
theorem bePlays_l (N : Nat) (l : List ByteArray) (h1 : 1 ≤ l.length) {q : Nat} (h2 : q ≤ 100000000000) : ∀ (d i n : Nat), i + d = cnt q → d < n → spec_bePlays.l2 N n l q (plays l.length (before q) i) (i : Int) = some (plays l.length (before q) (cnt q))
  | d, i, n+1, hi, hn => by
    have hb := before_le q
    have hc : cnt q = q % 4 + 1 := rfl
    unfold spec_bePlays.l2 spec_bePlays.d2 spec_bePlays.o2
    rw [show Int.tmod (q : Int) 4 = ((q % 4 : Nat) : Int) from tmodN q 4]
    cases d with
    | zero =>
      rw [dcF (by omega), cond_false, show i = cnt q by omega]
    | succ d =>
      rw [dcT (by omega), cond_true, beBefore_eq N (by omega), Option.bind_some, ieqF (by omega), cond_false, w2add (by omega), tmodN, blT (by rw [plays_length]; simp only [List.length_singleton]; omega), cond_true, plays_succ, w1add (by omega)]
      exact bePlays_l N l h1 h2 d (i+1) n (by omega) (by omega)
  | _, _, 0, _, hn => by omega
theorem bePlays_eq {N : Nat} (hN : 1000 ≤ N) (l : List ByteArray) (h1 : 1 ≤ l.length) {q : Nat} (h2 : q ≤ 100000000000) : spec_bePlays.g N l q = some (plays l.length (before q) (cnt q)) := by
  obtain ⟨n, rfl⟩ : ∃ n, N = n + 1 := ⟨N - 1, by omega⟩
  have hc : cnt q = q % 4 + 1 := rfl
  have := bePlays_l (n+1) l h1 h2 (cnt q) 0 (n+1) (by omega) (by omega)
  exact this
def addAll (l : List ByteArray) (acc : ByteArray) : List Int → ByteArray
  | [] => acc
  | x :: xs => addAll l (acc ++ (l[x.toNat]?).getD ⟨#[]⟩) xs
def notesOf (l : List ByteArray) (q : Nat) : ByteArray := addAll l (⟨#[]⟩ : ByteArray) (plays l.length (before q) (cnt q))
theorem notes_l (N : Nat) (l : List ByteArray) (hs : ∀ s ∈ l, s.size ≤ 8) (L : List Int) (hL : L.length ≤ 100) (hx : ∀ x ∈ L, 0 ≤ x ∧ x < l.length) : ∀ (d i n : Nat) (acc : ByteArray), i + d = L.length → acc.size ≤ 8 * i → d < n → impl_notes.l1 N n l acc L L.length i = some (addAll l acc (L.drop i))
  | 0, i, n+1, acc, hi, ha, hn => by
    unfold impl_notes.l1 impl_notes.d1 impl_notes.o1
    rw [dcF (by omega), cond_false, List.drop_eq_nil_of_le (by omega)]; rfl
  | d+1, i, n+1, acc, hi, ha, hn => by
    unfold impl_notes.l1 impl_notes.d1 impl_notes.o1
    have hlt : i < L.length := by omega
    have hb := hx _ (List.getElem_mem hlt)
    have hj : L[i].toNat < l.length := by omega
    have hsz := hs _ (List.getElem_mem hj)
    rw [List.drop_eq_getElem_cons hlt, addAll, List.getElem?_eq_getElem hj, Option.getD_some]
    simp (disch := omega) only [dcT, cond_true, Int.toNat_natCast, getAt, w1add]
    rw [show Nat.ble (acc.size + l[L[i].toNat].size) 9223372036854775807 = true from Nat.ble_eq_true_of_le (by omega), cond_true]
    exact notes_l N l hs L hL hx d (i+1) n _ (by omega) (by rw [ByteArray.size_append]; omega) (by omega)
  | _, _, 0, _, _, _, hn => by omega
theorem plays_in (n : Nat) (hn : 1 ≤ n) (b d : Nat) : ∀ x ∈ plays n b d, 0 ≤ x ∧ x < n := by
  intro x hx
  simp only [plays, List.mem_map] at hx
  obtain ⟨j, _, rfl⟩ := hx
  have := Nat.mod_lt (b + j) (show n > 0 by omega)
  omega
theorem notes_eq {N : Nat} (hN : 1000 ≤ N) (l : List ByteArray) (ht : tuneOk l = true) {q : Nat} (h2 : q ≤ 100000000000) : impl_notes.g N l q = some (notesOf l q) := by
  obtain ⟨h1, _, hs⟩ := tuneOk_facts ht
  unfold impl_notes.g impl_notes.o0 notesOf
  rw [phrases_eq hN l h1 h2, Option.bind_some]
  have hc : cnt q = q % 4 + 1 := rfl
  exact notes_l N l (fun s h => (hs s h).2) (plays l.length (before q) (cnt q)) (by rw [plays_length]; omega) (plays_in _ h1 _ _) _ 0 N _ (by rw [Nat.zero_add]) (Nat.le_refl _) (by rw [plays_length]; omega)
theorem beNotes_l1 (N : Nat) : ∀ n, spec_beNotes.l1 N n = impl_notes.l1 N n
  | 0 => rfl
  | n + 1 => by
    funext a b c d e
    unfold spec_beNotes.l1 impl_notes.l1 spec_beNotes.d1 impl_notes.d1 spec_beNotes.o1 impl_notes.o1
    rw [beNotes_l1 N n]
theorem beNotes_eq {N : Nat} (hN : 1000 ≤ N) (l : List ByteArray) (ht : tuneOk l = true) {q : Nat} (h2 : q ≤ 100000000000) : spec_beNotes.g N l q = some (notesOf l q) := by
  obtain ⟨h1, _, hs⟩ := tuneOk_facts ht
  have := notes_eq hN l ht h2
  unfold impl_notes.g impl_notes.o0 at this
  rw [phrases_eq hN l h1 h2, Option.bind_some] at this
  unfold spec_beNotes.g spec_beNotes.o0
  rw [bePlays_eq hN l h1 h2, Option.bind_some, beNotes_l1]
  exact this
def hoursN (n : Nat) : Nat := n / Nat.gcd n 10
theorem gcd_eq {N : Nat} (hN : 1000 ≤ N) {k : Nat} (h1 : 1 ≤ k) (h2 : k ≤ 12) : impl_gcd.g N k 10 = some ((Nat.gcd k 10 : Nat) : Int) := by
  obtain ⟨n, rfl⟩ : ∃ n, N = n + 20 := ⟨N - 20, by omega⟩
  have : k = 1 ∨ k = 2 ∨ k = 3 ∨ k = 4 ∨ k = 5 ∨ k = 6 ∨ k = 7 ∨ k = 8 ∨ k = 9 ∨ k = 10 ∨ k = 11 ∨ k = 12 := by omega
  rcases this with e | e | e | e | e | e | e | e | e | e | e | e <;> subst e <;> rfl
theorem common_eq {N : Nat} (hN : 1000 ≤ N) {k : Nat} (h1 : 1 ≤ k) (h2 : k ≤ 12) : spec_diCommon.g N k 10 = some ((Nat.gcd k 10 : Nat) : Int) := by
  obtain ⟨n, rfl⟩ : ∃ n, N = n + 20 := ⟨N - 20, by omega⟩
  have : k = 1 ∨ k = 2 ∨ k = 3 ∨ k = 4 ∨ k = 5 ∨ k = 6 ∨ k = 7 ∨ k = 8 ∨ k = 9 ∨ k = 10 ∨ k = 11 ∨ k = 12 := by omega
  rcases this with e | e | e | e | e | e | e | e | e | e | e | e <;> subst e <;> rfl
theorem hours_facts {k : Nat} (h1 : 1 ≤ k) (h2 : k ≤ 12) : 1 ≤ hoursN k ∧ hoursN k ≤ k ∧ 10 * hoursN k % k = 0 := by
  have : k = 1 ∨ k = 2 ∨ k = 3 ∨ k = 4 ∨ k = 5 ∨ k = 6 ∨ k = 7 ∨ k = 8 ∨ k = 9 ∨ k = 10 ∨ k = 11 ∨ k = 12 := by omega
  rcases this with e | e | e | e | e | e | e | e | e | e | e | e <;> subst e <;> decide
theorem hours_eq {N : Nat} (hN : 1000 ≤ N) (l : List ByteArray) (h1 : 1 ≤ l.length) (h2 : l.length ≤ 12) : impl_hours.g N l = some (hoursN l.length : Int) := by
  have hf := hours_facts h1 h2
  have hp : 0 < Nat.gcd l.length 10 := Nat.gcd_pos_of_pos_left _ h1
  unfold impl_hours.g impl_hours.o0
  rw [gcd_eq hN h1 h2, Option.bind_some, ieqF (by omega), cond_false, tdivN]
  unfold hoursN at hf ⊢
  rw [w64s (by omega) (by omega)]
theorem beHours_eq {N : Nat} (hN : 1000 ≤ N) (l : List ByteArray) (h1 : 1 ≤ l.length) (h2 : l.length ≤ 12) : spec_beHours.g N l = some (hoursN l.length : Int) := by
  have hf := hours_facts h1 h2
  have hp : 0 < Nat.gcd l.length 10 := Nat.gcd_pos_of_pos_left _ h1
  unfold spec_beHours.g spec_beHours.o0
  rw [common_eq hN h1 h2, Option.bind_some, ieqF (by omega), cond_false, tdivN]
  unfold hoursN at hf ⊢
  rw [w64s (by omega) (by omega)]
end Go.Proofs.Ytpmipkbfohcjiaa.M

namespace Go.Proofs.Ytpmipkbfohcjiaa.M
open Go Go.PM Go.Proofs.Ytpmipkbfohcjiaa.P
set_option linter.unusedVariables false
set_option linter.unusedSimpArgs false
/-- The byte of a bell. -/
def bc (b : Nat) : UInt8 := UInt8.ofNat (48 + b)
theorem bell_8 {b : Nat} (h1 : 1 ≤ b) (h2 : b ≤ 8) : b = 1 ∨ b = 2 ∨ b = 3 ∨ b = 4 ∨ b = 5 ∨ b = 6 ∨ b = 7 ∨ b = 8 := by omega
def bellT (b : Nat) : ByteArray := Utf8.encode ((IntKind.wrap .i32) (w64 (48 + (b : Int))))
theorem bellText_eq (N : Nat) (b : Nat) : impl_bellText.g N b = some (bellT b) := rfl
theorem bellT_list {b : Nat} (h1 : 1 ≤ b) (h2 : b ≤ 8) : (bellT b).data.toList = [bc b] := by
  rcases bell_8 h1 h2 with e | e | e | e | e | e | e | e <;> subst e <;> rfl
theorem indexByte_iff (c : UInt8) : ∀ l : List UInt8, 0 ≤ Lib.indexByte l c ↔ c ∈ l
  | [] => by simp [Lib.indexByte]
  | x :: l => by
    have hg := Lib.indexByte_ge l c
    have ih := indexByte_iff c l
    unfold Lib.indexByte
    by_cases h : x = c
    · subst h; simp
    · have h' : (x == c) = false := by simpa using h
      have h2 : c ≠ x := fun z => h z.symm
      simp only [h', Bool.false_eq_true, if_false, List.mem_cons, h2, false_or]
      rw [← ih]
      by_cases e : Lib.indexByte l c = -1
      · simp [e]
      · have e' : (Lib.indexByte l c == -1) = false := by simpa using e
        simp only [e', Bool.false_eq_true, if_false]
        omega
theorem bell_test {b : Nat} (h1 : 1 ≤ b) (h2 : b ≤ 8) (x : UInt8) : (w64 ((IntKind.wrap .u8) ((x.toNat : Int) - 48)) = b) ↔ x = bc b := by
  have hx := x.toNat_lt
  have e : (IntKind.wrap .u8) ((x.toNat : Int) - 48) = ((x.toNat : Int) - 48) % 256 := by simp [IntKind.wrap, IntKind.signed, IntKind.bits]
  rw [e, w64s (by omega) (by omega)]
  unfold bc
  constructor
  · intro h
    apply UInt8.toNat_inj.1
    rw [UInt8.toNat_ofNat']
    omega
  · intro h
    have := congrArg UInt8.toNat h
    rw [UInt8.toNat_ofNat'] at this
    omega
theorem bt_list (s : ByteArray) (i : Nat) (h : i < s.data.toList.length) : bt s i = (s.data.toList[i].toNat : Int) := by
  have hs : i < s.size := by rw [Array.length_toList] at h; exact h
  unfold bt
  rw [dif_pos (by simpa using hs)]
  simp only [Int.toNat_natCast]
  rfl
/-- How often a bell is in a text. -/
def bellN (s : ByteArray) (b : Nat) : Nat := s.data.toList.count (bc b)
theorem beBell_l (N : Nat) (s : ByteArray) {b : Nat} (h1 : 1 ≤ b) (h2 : b ≤ 8) (hs : s.size ≤ 1000000) : ∀ (d i m n : Nat), i + d = s.size → m ≤ i → d < n → spec_beBell.l1 N n s b m i = some ((m + (s.data.toList.drop i).count (bc b) : Nat) : Int)
  | 0, i, m, n+1, hi, hm, hn => by
    have hl : s.data.toList.length = s.size := Array.length_toList
    unfold spec_beBell.l1 spec_beBell.d1 spec_beBell.o1
    rw [dcF (by omega), cond_false, List.drop_eq_nil_of_le (by omega)]; rfl
  | d+1, i, m, n+1, hi, hm, hn => by
    have hl : s.data.toList.length = s.size := Array.length_toList
    have hlt : i < s.data.toList.length := by omega
    unfold spec_beBell.l1 spec_beBell.d1 spec_beBell.o1 spec_beBell.d2 spec_beBell.o2
    rw [List.drop_eq_getElem_cons hlt, List.count_cons, bt_list s i hlt]
    by_cases e : s.data.toList[i] = bc b
    · rw [ieqT ((bell_test h1 h2 _).2 e), e]
      simp (disch := omega) only [dcT, cond_true, w1add, beq_self_eq_true, if_true]
      rw [beBell_l N s h1 h2 hs d (i+1) (m+1) n (by omega) (by omega) (by omega)]
      rw [show m + ((s.data.toList.drop (i + 1)).count (bc b) + 1) = m + 1 + (s.data.toList.drop (i + 1)).count (bc b) by omega]
    · have e' : (s.data.toList[i] == bc b) = false := by simpa using e
      rw [ieqF (fun z => e ((bell_test h1 h2 _).1 z)), e']
      simp (disch := omega) only [dcT, cond_true, cond_false, w1add, Bool.false_eq_true, if_false, Nat.add_zero]
      rw [beBell_l N s h1 h2 hs d (i+1) m n (by omega) (by omega) (by omega)]
  | _, _, _, 0, _, _, hn => by omega
theorem beBell_eq {N : Nat} (hN : 1000 ≤ N) (s : ByteArray) {b : Nat} (h1 : 1 ≤ b) (h2 : b ≤ 8) (hs : s.size ≤ 900) : spec_beBell.g N s b = some (bellN s b : Int) := by
  have := beBell_l N s h1 h2 (by omega) s.size 0 0 N (by omega) (by omega) (by omega)
  rw [List.drop_zero, Nat.zero_add] at this
  exact this
theorem contains_bell (N : Nat) (s : ByteArray) {b : Nat} (h1 : 1 ≤ b) (h2 : b ≤ 8) : strings_Contains.g N s (bellT b) = some (decide (0 < bellN s b)) := by
  unfold strings_Contains.g
  rw [bellT_list h1 h2]
  simp only [indexByte_iff, bellN, List.count_pos_iff]
theorem count_bell (N : Nat) (s : ByteArray) {b : Nat} (h1 : 1 ≤ b) (h2 : b ≤ 8) : strings_Count.g N s (bellT b) = some (bellN s b : Int) := by
  unfold strings_Count.g
  rw [bellT_list h1 h2]
  rfl
def flat (l : List ByteArray) : List UInt8 := (l.map (·.data.toList)).flatten
theorem join_flat : ∀ l : List (List UInt8), Lib.join l [] = l.flatten
  | [] => rfl
  | x :: l => by rw [Lib.join_cons]; simp [Lib.joinTail]
theorem flat_length : ∀ l : List ByteArray, (∀ s ∈ l, s.size ≤ 8) → (flat l).length ≤ 8 * l.length
  | [], _ => by simp [flat]
  | x :: l, h => by
    have ih := flat_length l (fun s hs => h s (List.mem_cons_of_mem _ hs))
    have hx := h x List.mem_cons_self
    have hl : x.data.toList.length = x.size := Array.length_toList
    unfold flat at ih ⊢
    rw [List.map_cons, List.flatten_cons, List.length_append, List.length_cons]
    omega
theorem join_eq (N : Nat) (l : List ByteArray) (ht : tuneOk l = true) : strings_Join.g N l (⟨#[]⟩ : ByteArray) = some (⟨(flat l).toArray⟩ : ByteArray) := by
  obtain ⟨h1, h2, hs⟩ := tuneOk_facts ht
  have hl := flat_length l (fun s h => (hs s h).2)
  unfold strings_Join.g
  have e : Lib.join (l.map (·.data.toList)) (⟨#[]⟩ : ByteArray).data.toList = flat l := join_flat _
  rw [e, dcT (by omega), cond_true]
def hasBell (l : List ByteArray) (b : Nat) : Bool := l.any fun s => decide (0 < bellN s b)
theorem hasBell_cons (x : ByteArray) (l : List ByteArray) (b : Nat) : hasBell (x :: l) b = (decide (0 < bellN x b) || hasBell l b) := rfl
theorem hasBell_flat (l : List ByteArray) (b : Nat) : decide (0 < bellN (⟨(flat l).toArray⟩ : ByteArray) b) = hasBell l b := by
  unfold hasBell bellN flat
  rw [Bool.eq_iff_iff]
  simp only [decide_eq_true_eq, List.any_eq_true, List.count_pos_iff, List.mem_flatten, List.mem_map]
  constructor
  · rintro ⟨x, ⟨s, hs, rfl⟩, hb⟩
    exact ⟨s, hs, hb⟩
  · rintro ⟨s, hs, hb⟩
    exact ⟨_, ⟨s, hs, rfl⟩, hb⟩
/-- the bells below n -/
def bellsL (l : List ByteArray) : Nat → List Int
  | 0 => []
  | n + 1 => if hasBell l (n + 1) = true then bellsL l n ++ [((n + 1 : Nat) : Int)] else bellsL l n
theorem bellsL_le (l : List ByteArray) : ∀ n, (bellsL l n).length ≤ n
  | 0 => Nat.le_refl _
  | n + 1 => by
    have := bellsL_le l n
    unfold bellsL
    split
    · rw [List.length_append, List.length_singleton]; omega
    · omega
theorem bellsL_mem (l : List ByteArray) (b : Nat) : ∀ n, (b : Int) ∈ bellsL l n ↔ (1 ≤ b ∧ b ≤ n ∧ hasBell l b = true)
  | 0 => by simp only [bellsL, List.not_mem_nil, false_iff]; omega
  | n + 1 => by
    have ih := bellsL_mem l b n
    unfold bellsL
    by_cases e : hasBell l (n + 1) = true
    · rw [if_pos e, List.mem_append, List.mem_singleton, ih]
      constructor
      · rintro (h | h)
        · exact ⟨h.1, by omega, h.2.2⟩
        · have : b = n + 1 := by omega
          subst this; exact ⟨by omega, by omega, e⟩
      · rintro ⟨h1, h2, h3⟩
        by_cases hb : b = n + 1
        · right; omega
        · left; exact ⟨h1, by omega, h3⟩
    · rw [if_neg e, ih]
      constructor
      · rintro ⟨h1, h2, h3⟩; exact ⟨h1, by omega, h3⟩
      · rintro ⟨h1, h2, h3⟩
        have : b ≠ n + 1 := fun z => e (by rw [← z]; exact h3)
        exact ⟨h1, by omega, h3⟩
theorem implBells_l (N : Nat) (l : List ByteArray) (ht : tuneOk l = true) : ∀ (d i n : Nat), i + d = 8 → d < n → impl_bells.l1 N n l (bellsL l i) ((i + 1 : Nat) : Int) = some (bellsL l 8)
  | 0, i, n+1, hi, hn => by
    unfold impl_bells.l1 impl_bells.d1 impl_bells.o1
    rw [dcF (by omega), cond_false, show i = 8 by omega]
  | d+1, i, n+1, hi, hn => by
    have hle := bellsL_le l i
    unfold impl_bells.l1 impl_bells.d1 impl_bells.o1 impl_bells.d2 impl_bells.o2
    rw [dcT (by omega), cond_true, join_eq N l ht, Option.bind_some, bellText_eq, Option.bind_some, contains_bell N _ (by omega) (by omega), Option.bind_some, hasBell_flat]
    dsimp only
    rw [w1add (by omega)]
    have ih := implBells_l N l ht d (i+1) n (by omega) (by omega)
    rw [bellsL] at ih
    cases e : hasBell l (i + 1)
    · rw [e] at ih
      exact ih
    · rw [e] at ih
      rw [cond_true, blT (by simp only [List.length_singleton]; omega), cond_true]
      exact ih
  | _, _, 0, _, hn => by omega
theorem implBells_eq {N : Nat} (hN : 1000 ≤ N) (l : List ByteArray) (ht : tuneOk l = true) : impl_bells.g N l = some (bellsL l 8) := by
  unfold impl_bells.g impl_bells.o0
  exact implBells_l N l ht 8 0 N (by omega) (by omega)
theorem specBells_in (N : Nat) (l : List ByteArray) (hN : 1000 ≤ N) (hs : ∀ s ∈ l, s.size ≤ 8) (hn : l.length ≤ 12) (acc : List Int) (ha : acc.length ≤ 8) (b : Nat) (h1 : 1 ≤ b) (h2 : b ≤ 8) (c1 : (List ByteArray) → Int → Option spec_BellsOf.R) (c5 : (List ByteArray) → (List Int) → Int → Option spec_BellsOf.R) : ∀ (d i n : Nat), i + d = l.length → d < n →
    spec_BellsOf.l6 N n l acc b l l.length i c1 c5 = c5 l (if hasBell (l.drop i) b = true then acc ++ [(b : Int)] else acc) ((b + 1 : Nat) : Int)
  | 0, i, n+1, hi, hn' => by
    unfold spec_BellsOf.l6 spec_BellsOf.d6 spec_BellsOf.o6 spec_BellsOf.d3 spec_BellsOf.o3
    dsimp only
    rw [dcF (by omega), cond_false, List.drop_eq_nil_of_le (by omega), w1add (by omega)]; rfl
  | d+1, i, n+1, hi, hn' => by
    have hlt : i < l.length := by omega
    unfold spec_BellsOf.l6 spec_BellsOf.d6 spec_BellsOf.o6 spec_BellsOf.d3 spec_BellsOf.o3
    have hz := hs _ (List.getElem_mem hlt)
    rw [List.drop_eq_getElem_cons hlt, hasBell_cons]
    simp (disch := omega) only [dcT, cond_true, Int.toNat_natCast, getAt]
    rw [beBell_eq hN l[i] h1 h2 (by omega), Option.bind_some]
    by_cases e : 0 < bellN l[i] b
    · rw [dcT (show (bellN l[i] b : Int) > 0 by omega), dcT e, cond_true, blT (by simp only [List.length_singleton]; omega), cond_true, w1add (by omega)]; rfl
    · rw [dcF (show ¬ (bellN l[i] b : Int) > 0 by omega), dcF e, cond_false, Bool.false_or, w1add (by omega)]
      exact specBells_in N l hN hs hn acc ha b h1 h2 c1 c5 d (i+1) n (by omega) (by omega)
  | _, _, 0, _, hn' => by omega
theorem specBells_in1 (N : Nat) (l : List ByteArray) (hN : 1000 ≤ N) (hs : ∀ s ∈ l, s.size ≤ 8) (hn : l.length ≤ 12) (b : Nat) (h1 : 1 ≤ b) (h2 : b ≤ 8) (c1 : (List ByteArray) → Int → Option spec_BellsOf.R) (c5 : (List ByteArray) → (List Int) → Int → Option spec_BellsOf.R) : ∀ (d i n : Nat), i + d = l.length → d < n →
    spec_BellsOf.l2 N n l b l l.length i c1 c5 = if hasBell (l.drop i) b = true then c5 l [(b : Int)] ((b + 1 : Nat) : Int) else c1 l ((b + 1 : Nat) : Int)
  | 0, i, n+1, hi, hn' => by
    unfold spec_BellsOf.l2 spec_BellsOf.d2 spec_BellsOf.o2 spec_BellsOf.d4 spec_BellsOf.o4
    dsimp only
    rw [dcF (by omega), cond_false, List.drop_eq_nil_of_le (by omega), w1add (by omega)]; rfl
  | d+1, i, n+1, hi, hn' => by
    have hlt : i < l.length := by omega
    unfold spec_BellsOf.l2 spec_BellsOf.d2 spec_BellsOf.o2 spec_BellsOf.d3 spec_BellsOf.o3
    have hz := hs _ (List.getElem_mem hlt)
    rw [List.drop_eq_getElem_cons hlt, hasBell_cons]
    simp (disch := omega) only [dcT, cond_true, Int.toNat_natCast, getAt]
    rw [beBell_eq hN l[i] h1 h2 (by omega), Option.bind_some]
    by_cases e : 0 < bellN l[i] b
    · rw [dcT (show (bellN l[i] b : Int) > 0 by omega), dcT e, cond_true, blT (by simp), cond_true, w1add (by omega)]; rfl
    · rw [dcF (show ¬ (bellN l[i] b : Int) > 0 by omega), dcF e, cond_false, Bool.false_or, w1add (by omega)]
      exact specBells_in1 N l hN hs hn b h1 h2 c1 c5 d (i+1) n (by omega) (by omega)
  | _, _, 0, _, hn' => by omega
theorem specBells_l5 (N : Nat) (hN : 1000 ≤ N) (l : List ByteArray) (ht : tuneOk l = true) : ∀ (d i n : Nat), i + d = 8 → d < n → spec_BellsOf.l5 N n l (bellsL l i) ((i + 1 : Nat) : Int) = some (bellsL l 8, true)
  | 0, i, n+1, hi, hn => by
    unfold spec_BellsOf.l5 spec_BellsOf.d5 spec_BellsOf.o5
    rw [dcF (by omega), cond_false, show i = 8 by omega]
  | d+1, i, n+1, hi, hn => by
    obtain ⟨h1, h2, hs⟩ := tuneOk_facts ht
    have hle := bellsL_le l i
    unfold spec_BellsOf.l5 spec_BellsOf.d5 spec_BellsOf.o5
    rw [dcT (by omega), cond_true]
    refine (specBells_in N l hN (fun s h => (hs s h).2) h2 (bellsL l i) (by omega) (i+1) (by omega) (by omega) _ _ l.length 0 N (by omega) (by omega)).trans ?_
    exact specBells_l5 N hN l ht d (i+1) n (by omega) (by omega)
  | _, _, 0, _, hn => by omega
theorem specBells_l1 (N : Nat) (hN : 1000 ≤ N) (l : List ByteArray) (ht : tuneOk l = true) : ∀ (d i n : Nat), i + d = 8 → d < n → bellsL l i = [] → spec_BellsOf.l1 N n l ((i + 1 : Nat) : Int) = some (bellsL l 8, true)
  | 0, i, n+1, hi, hn, hb => by
    unfold spec_BellsOf.l1 spec_BellsOf.d1 spec_BellsOf.o1
    rw [dcF (by omega), cond_false, show 8 = i by omega, hb]
  | d+1, i, n+1, hi, hn, hb => by
    obtain ⟨h1, h2, hs⟩ := tuneOk_facts ht
    unfold spec_BellsOf.l1 spec_BellsOf.d1 spec_BellsOf.o1
    rw [dcT (by omega), cond_true]
    refine (specBells_in1 N l hN (fun s h => (hs s h).2) h2 (i+1) (by omega) (by omega) _ _ l.length 0 N (by omega) (by omega)).trans ?_
    rw [List.drop_zero]
    by_cases e : hasBell l (i + 1) = true
    · rw [if_pos e]
      have := specBells_l5 N hN l ht d (i+1) n (by omega) (by omega)
      rw [bellsL, if_pos e, hb] at this
      exact this
    · rw [if_neg e]
      exact specBells_l1 N hN l ht d (i+1) n (by omega) (by omega) (by rw [bellsL, if_neg e, hb])
  | _, _, 0, _, hn, _ => by omega
def bellsP (l : List ByteArray) : List Int × Bool := if tuneOk l = true then (bellsL l 8, true) else ([], false)
theorem implBellsOf_eq {N : Nat} (l : List ByteArray) (hl : Sm N l) : impl_BellsOf.g N l = some (bellsP l) := by
  unfold impl_BellsOf.g impl_BellsOf.o0 bellsP
  rw [isTune_eq l hl, Option.bind_some]
  cases ht : tuneOk l
  · rfl
  · rw [Bool.not_true, cond_false, implBells_eq hl.1 l ht]; rfl
theorem specBellsOf_eq {N : Nat} (l : List ByteArray) (hl : Sm N l) : spec_BellsOf.g N l = some (bellsP l) := by
  unfold spec_BellsOf.g spec_BellsOf.o0 bellsP
  rw [beTune_eq l hl, Option.bind_some]
  cases ht : tuneOk l
  · rfl
  · rw [Bool.not_true, cond_false]
    have := hl.1
    exact specBells_l1 N hl.1 l ht 8 0 N (by omega) (by omega) rfl
theorem idxI_l (N : Nat) (l : List Int) (b : Int) (hs : l.length < 1000000000) : ∀ (d i n : Nat), i + d = l.length → d < n → Tot (slices_Index_int_int.l1 N n l b l.length i) (fun r => (decide (r ≥ 0)) = decide (b ∈ l.drop i))
  | 0, i, n+1, hi, hn => by
    unfold slices_Index_int_int.l1 slices_Index_int_int.d1 slices_Index_int_int.o1
    rw [dcF (by omega), cond_false, List.drop_eq_nil_of_le (by omega)]
    exact Tot.now (by simp)
  | d+1, i, n+1, hi, hn => by
    unfold slices_Index_int_int.l1 slices_Index_int_int.d1 slices_Index_int_int.o1
    have hlt : i < l.length := by omega
    rw [List.drop_eq_getElem_cons hlt]
    simp (disch := omega) only [dcT, cond_true, Int.toNat_natCast, getAt]
    by_cases e : b = l[i]
    · rw [ieqT e, cond_true]
      exact Tot.now (by show decide ((i : Int) ≥ 0) = _; rw [dcT (show (i : Int) ≥ 0 by omega), dcT (by rw [e]; exact List.mem_cons_self)])
    · rw [ieqF e, cond_false, w1add (by omega)]
      refine Tot.mono (idxI_l N l b hs d (i+1) n (by omega) (by omega)) fun r hr => ?_
      rw [hr, decide_eq_decide, List.mem_cons]; exact ⟨Or.inr, fun h => h.resolve_left e⟩
  | _, _, 0, _, hn => by omega
theorem containsI_eq {N : Nat} (l : List Int) (b : Int) (hs : l.length < 1000000000) (hN : l.length < N) : slices_Contains_int_int.g N l b = some (decide (b ∈ l)) := by
  refine Tot.get ?_
  unfold slices_Contains_int_int.g slices_Contains_int_int.o0 slices_Index_int_int.g slices_Index_int_int.o0
  exact Tot.bind (idxI_l N l b hs l.length 0 N (by omega) hN) fun r hr => Tot.now hr
theorem kHas_l (N : Nat) (l : List Int) (b : Int) (hs : l.length < 1000000000) : ∀ (d i n : Nat), i + d = l.length → d < n → laws_kHas.l1 N n b l l.length i = some (decide (b ∈ l.drop i))
  | 0, i, n+1, hi, hn => by
    unfold laws_kHas.l1 laws_kHas.d1 laws_kHas.o1
    rw [dcF (by omega), cond_false, List.drop_eq_nil_of_le (by omega)]
    simp
  | d+1, i, n+1, hi, hn => by
    unfold laws_kHas.l1 laws_kHas.d1 laws_kHas.o1
    have hlt : i < l.length := by omega
    rw [List.drop_eq_getElem_cons hlt]
    simp (disch := omega) only [dcT, cond_true, Int.toNat_natCast, getAt]
    by_cases e : l[i] = b
    · rw [ieqT e, cond_true, dcT (by rw [e]; exact List.mem_cons_self)]
    · rw [ieqF e, cond_false, w1add (by omega)]
      refine (kHas_l N l b hs d (i+1) n (by omega) (by omega)).trans ?_
      have e' : ¬ b = l[i] := fun z => e z.symm
      rw [Option.some.injEq, decide_eq_decide, List.mem_cons]; exact ⟨Or.inr, fun h => h.resolve_left e'⟩
  | _, _, 0, _, hn => by omega
theorem kHas_eq {N : Nat} (l : List Int) (b : Int) (hs : l.length < 1000000000) (hN : l.length < N) : laws_kHas.g N l b = some (decide (b ∈ l)) := by
  unfold laws_kHas.g laws_kHas.o0
  exact kHas_l N l b hs l.length 0 N (by omega) hN
end Go.Proofs.Ytpmipkbfohcjiaa.M

namespace Go.Proofs.Ytpmipkbfohcjiaa.M
open Go Go.PM Go.Proofs.Ytpmipkbfohcjiaa.P
set_option linter.unusedVariables false
set_option linter.unusedSimpArgs false
def tms (n Q i : Nat) : Nat := if i < Q % n then Q / n + 1 else Q / n
def sumN (f : ByteArray → Nat) (n Q : Nat) : List ByteArray → Nat → Nat
  | [], _ => 0
  | x :: xs, i => tms n Q i * f x + sumN f n Q xs (i + 1)
def upTo (f : ByteArray → Nat) (l : List ByteArray) (q : Nat) : Nat := sumN f l.length (before q) l 0
theorem w2mul {a b : Nat} (h : a * b < 9000000000000000000) : w64 ((a : Int) * (b : Int)) = ((a * b : Nat) : Int) := by rw [← Int.natCast_mul, w64s (by omega) (by omega)]
theorem tms_le (n Q i : Nat) : tms n Q i ≤ Q + 1 := by
  unfold tms
  have e3 : Q / n ≤ Q := Nat.div_le_self _ _
  split <;> omega
theorem tms_mul {n Q i c : Nat} (hQ : Q ≤ 4000000) (hc : c ≤ 8) : tms n Q i * c ≤ 32000008 := by
  have := Nat.mul_le_mul (tms_le n Q i) hc
  omega
theorem times_w {n Q i : Nat} {α : Type} (hQ : Q ≤ 4000000) (k : Int → Option α) : (bif decide ((i : Int) < Int.tmod (Q : Int) (n : Int)) then k (w64 ((w64 (Int.tdiv (Q : Int) (n : Int))) + 1)) else k (w64 (Int.tdiv (Q : Int) (n : Int)))) = k ((tms n Q i : Nat) : Int) := by
  have e3 : Q / n ≤ Q := Nat.div_le_self _ _
  rw [tmodN, tdivN]
  unfold tms
  generalize Q / n = r at *
  generalize Q % n = m at *
  rw [w64s (n := (r : Int)) (by omega) (by omega), w1add (by omega)]
  by_cases c : i < m
  · rw [dcT (by omega), if_pos c, cond_true]
  · rw [dcF (by omega), if_neg c, cond_false]
theorem sumUp_l (N : Nat) (l : List ByteArray) (h1 : 1 ≤ l.length) (h2 : l.length ≤ 12) (hs : ∀ s ∈ l, s.size ≤ 8) {Q : Nat} (hQ : Q ≤ 4000000) : ∀ (d i n s : Nat), i + d = l.length → s ≤ i * 100000000 → d < n → impl_sumUpTo.l1 N n l Q s l l.length i = some ((s + sumN (·.size) l.length Q (l.drop i) i : Nat) : Int)
  | 0, i, n+1, s, hi, ha, hn => by
    unfold impl_sumUpTo.l1 impl_sumUpTo.d1 impl_sumUpTo.o1
    rw [dcF (by omega), cond_false, List.drop_eq_nil_of_le (by omega)]; rfl
  | d+1, i, n+1, s, hi, ha, hn => by
    unfold impl_sumUpTo.l1 impl_sumUpTo.d1 impl_sumUpTo.o1
    have hlt : i < l.length := by omega
    have hz := tms_mul (n := l.length) (i := i) hQ (hs _ (List.getElem_mem hlt))
    rw [dcT (show (i : Int) < (l.length : Int) by omega), dcT (show (0 : Int) ≤ (i : Int) by omega), cond_true, cond_true, cond_true, Int.toNat_natCast, getAt hlt, ieqF (by omega), cond_false, cond_false]
    refine (times_w hQ (fun t => (fun w0 w1 w2 w3 w4 w5 w6 w7 => impl_sumUpTo.d2 N w0 w1 w2 w3 w4 w5 w6 w7 (fun w0 w1 w2 w3 w4 w5 => impl_sumUpTo.l1 N n w0 w1 w2 w3 w4 w5)) l Q s l[i] t l l.length i)).trans ?_
    unfold impl_sumUpTo.d2 impl_sumUpTo.o2 impl_NotesUpTo_1.g impl_NotesUpTo_1.o0
    dsimp only [Option.bind_some]
    rw [w2mul (by omega), w2add (by omega), w1add (by omega)]
    rw [sumUp_l N l h1 h2 hs hQ d (i+1) n _ (by omega) (by omega) (by omega), List.drop_eq_getElem_cons hlt, sumN, Nat.add_assoc]
  | _, _, 0, _, _, _, hn => by omega
theorem bellUp1_eq (N : Nat) (x : ByteArray) {b : Nat} (b1 : 1 ≤ b) (b2 : b ≤ 8) : impl_BellUpTo_1.g N x b = some ((bellN x b : Int), (b : Int)) := by
  unfold impl_BellUpTo_1.g impl_BellUpTo_1.o0
  rw [bellText_eq, Option.bind_some, count_bell N x b1 b2]; rfl
theorem bellN_le (s : ByteArray) (b : Nat) : bellN s b ≤ s.size := by
  have hl : s.data.toList.length = s.size := Array.length_toList
  unfold bellN
  rw [← hl]
  exact List.count_le_length
theorem sumUp1_l (N : Nat) (l : List ByteArray) (h1 : 1 ≤ l.length) (h2 : l.length ≤ 12) (hs : ∀ s ∈ l, s.size ≤ 8) {Q : Nat} (hQ : Q ≤ 4000000) {b : Nat} (b1 : 1 ≤ b) (b2 : b ≤ 8) : ∀ (d i n s : Nat), i + d = l.length → s ≤ i * 100000000 → d < n → impl_sumUpTo_1.l1 N n l Q s l l.length i b = some (((s + sumN (fun x => bellN x b) l.length Q (l.drop i) i : Nat) : Int), (b : Int))
  | 0, i, n+1, s, hi, ha, hn => by
    unfold impl_sumUpTo_1.l1 impl_sumUpTo_1.d1 impl_sumUpTo_1.o1
    rw [dcF (by omega), cond_false, List.drop_eq_nil_of_le (by omega)]; rfl
  | d+1, i, n+1, s, hi, ha, hn => by
    unfold impl_sumUpTo_1.l1 impl_sumUpTo_1.d1 impl_sumUpTo_1.o1
    have hlt : i < l.length := by omega
    have hb8 : bellN l[i] b ≤ 8 := Nat.le_trans (bellN_le _ _) (hs _ (List.getElem_mem hlt))
    have hz := tms_mul (n := l.length) (i := i) hQ hb8
    rw [dcT (show (i : Int) < (l.length : Int) by omega), dcT (show (0 : Int) ≤ (i : Int) by omega), cond_true, cond_true, cond_true, Int.toNat_natCast, getAt hlt, ieqF (by omega), cond_false, cond_false]
    refine (times_w hQ (fun t => (fun w0 w1 w2 w3 w4 w5 w6 w7 w8 => impl_sumUpTo_1.d2 N w0 w1 w2 w3 w4 w5 w6 w7 w8 (fun w0 w1 w2 w3 w4 w5 w6 => impl_sumUpTo_1.l1 N n w0 w1 w2 w3 w4 w5 w6)) l Q s l[i] t l l.length i b)).trans ?_
    dsimp only
    unfold impl_sumUpTo_1.d2 impl_sumUpTo_1.o2
    rw [bellUp1_eq N _ b1 b2]
    dsimp only [Option.bind_some]
    rw [w2mul (by omega), w2add (by omega), w1add (by omega)]
    rw [sumUp1_l N l h1 h2 hs hQ b1 b2 d (i+1) n _ (by omega) (by omega) (by omega), List.drop_eq_getElem_cons hlt, sumN, Nat.add_assoc]
  | _, _, 0, _, _, _, hn => by omega
def mapI (f : ByteArray → Nat) (l : List ByteArray) : List Int := l.map fun x => (f x : Int)
theorem mapI_length (f : ByteArray → Nat) (l : List ByteArray) : (mapI f l).length = l.length := List.length_map _
theorem mapI_get (f : ByteArray → Nat) (l : List ByteArray) (i : Nat) (h : i < (mapI f l).length) (h' : i < l.length) : (mapI f l)[i] = (f l[i] : Int) := by simp [mapI]
theorem mapI_snoc (f : ByteArray → Nat) (l : List ByteArray) (i : Nat) (h : i < l.length) : mapI f (l.take i) ++ [(f l[i] : Int)] = mapI f (l.take (i + 1)) := by
  unfold mapI
  rw [List.take_succ_eq_append_getElem h, List.map_append]; rfl
theorem beTimes_l (N : Nat) (f : ByteArray → Nat) (l : List ByteArray) (h1 : 1 ≤ l.length) (h2 : l.length ≤ 12) (hf : ∀ s ∈ l, f s ≤ 8) {Q : Nat} (hQ : Q ≤ 4000000) : ∀ (d i n s : Nat), i + d = l.length → s ≤ i * 100000000 → d < n → spec_beTimes.l1 N n (mapI f l) Q s (mapI f l) l.length i = some ((s + sumN f l.length Q (l.drop i) i : Nat) : Int)
  | 0, i, n+1, s, hi, ha, hn => by
    unfold spec_beTimes.l1 spec_beTimes.d1 spec_beTimes.o1
    rw [dcF (by omega), cond_false, List.drop_eq_nil_of_le (by omega)]; rfl
  | d+1, i, n+1, s, hi, ha, hn => by
    unfold spec_beTimes.l1 spec_beTimes.d1 spec_beTimes.o1
    have hlt : i < l.length := by omega
    have hz := tms_mul (n := l.length) (i := i) hQ (hf _ (List.getElem_mem hlt))
    rw [mapI_length, dcT (show (i : Int) < (l.length : Int) by omega), dcT (show (0 : Int) ≤ (i : Int) by omega), cond_true, cond_true, cond_true, Int.toNat_natCast, getAt (by rw [mapI_length]; exact hlt), mapI_get f l i _ hlt, ieqF (by omega), cond_false, cond_false]
    refine (times_w hQ (fun t => (fun w0 w1 w2 w3 w4 w5 w6 w7 => spec_beTimes.d2 N w0 w1 w2 w3 w4 w5 w6 w7 (fun w0 w1 w2 w3 w4 w5 => spec_beTimes.l1 N n w0 w1 w2 w3 w4 w5)) (mapI f l) Q s (f l[i]) t (mapI f l) l.length i)).trans ?_
    unfold spec_beTimes.d2 spec_beTimes.o2
    dsimp only
    rw [Int.mul_comm, w2mul (by omega), w2add (by omega), w1add (by omega)]
    rw [beTimes_l N f l h1 h2 hf hQ d (i+1) n _ (by omega) (by omega) (by omega), List.drop_eq_getElem_cons hlt, sumN, Nat.add_assoc]
  | _, _, 0, _, _, _, hn => by omega
theorem beTimes_eq {N : Nat} (hN : 1000 ≤ N) (f : ByteArray → Nat) (l : List ByteArray) (h1 : 1 ≤ l.length) (h2 : l.length ≤ 12) (hf : ∀ s ∈ l, f s ≤ 8) {q : Nat} (hq : q ≤ 1000100) : spec_beTimes.g N (mapI f l) (before q) = some (upTo f l q : Int) := by
  have hb := before_le q
  have := beTimes_l N f l h1 h2 hf (show before q ≤ 4000000 by omega) l.length 0 N 0 (by omega) (by omega) (by omega)
  unfold spec_beTimes.g spec_beTimes.o0
  rw [mapI_length]
  refine this.trans ?_
  rw [Nat.zero_add, List.drop_zero]; rfl
theorem specBell_l3 (N : Nat) (hN : 1000 ≤ N) (l : List ByteArray) (h1 : 1 ≤ l.length) (h2 : l.length ≤ 12) (hs : ∀ s ∈ l, s.size ≤ 8) {b : Nat} (b1 : 1 ≤ b) (b2 : b ≤ 8) {q : Nat} (hq : q ≤ 1000100) : ∀ (d i n : Nat), i + d = l.length → d < n → spec_BellUpTo.l3 N n b q (mapI (fun x => bellN x b) (l.take i)) l l.length i = some ((upTo (fun x => bellN x b) l q : Int), true)
  | 0, i, n+1, hi, hn => by
    unfold spec_BellUpTo.l3 spec_BellUpTo.d3 spec_BellUpTo.o3
    rw [dcF (by omega), cond_false, List.take_of_length_le (by omega), beBefore_eq N (by omega), Option.bind_some, beTimes_eq hN _ l h1 h2 (fun s h => Nat.le_trans (bellN_le s b) (hs s h)) hq]; rfl
  | d+1, i, n+1, hi, hn => by
    unfold spec_BellUpTo.l3 spec_BellUpTo.d3 spec_BellUpTo.o3
    have hlt : i < l.length := by omega
    have hz := hs _ (List.getElem_mem hlt)
    rw [dcT (show (i : Int) < (l.length : Int) by omega), dcT (show (0 : Int) ≤ (i : Int) by omega), cond_true, cond_true, cond_true, Int.toNat_natCast, getAt hlt, beBell_eq hN _ b1 b2 (by omega), Option.bind_some, blT (by rw [mapI_length, List.length_take]; simp only [List.length_singleton]; omega), cond_true, mapI_snoc (fun x => bellN x b) l i hlt, w1add (by omega)]
    exact specBell_l3 N hN l h1 h2 hs b1 b2 hq d (i+1) n (by omega) (by omega)
  | _, _, 0, _, hn => by omega
theorem specNotes_l2 (N : Nat) (hN : 1000 ≤ N) (l : List ByteArray) (h1 : 1 ≤ l.length) (h2 : l.length ≤ 12) (hs : ∀ s ∈ l, s.size ≤ 8) {q : Nat} (hq : q ≤ 1000100) : ∀ (d i n : Nat), i + d = l.length → d < n → spec_NotesUpTo.l2 N n q (mapI (·.size) (l.take i)) l l.length i = some ((upTo (·.size) l q : Int), true)
  | 0, i, n+1, hi, hn => by
    unfold spec_NotesUpTo.l2 spec_NotesUpTo.d2 spec_NotesUpTo.o2
    rw [dcF (by omega), cond_false, List.take_of_length_le (by omega), beBefore_eq N (by omega), Option.bind_some, beTimes_eq hN _ l h1 h2 hs hq]; rfl
  | d+1, i, n+1, hi, hn => by
    unfold spec_NotesUpTo.l2 spec_NotesUpTo.d2 spec_NotesUpTo.o2
    have hlt : i < l.length := by omega
    rw [dcT (show (i : Int) < (l.length : Int) by omega), dcT (show (0 : Int) ≤ (i : Int) by omega), cond_true, cond_true, cond_true, Int.toNat_natCast, getAt hlt, blT (by rw [mapI_length, List.length_take]; simp only [List.length_singleton]; omega), cond_true, mapI_snoc (·.size) l i hlt, w1add (by omega)]
    exact specNotes_l2 N hN l h1 h2 hs hq d (i+1) n (by omega) (by omega)
  | _, _, 0, _, hn => by omega
def notesP (l : List ByteArray) (q : Int) : Int × Bool := if askOk l q = true then ((upTo (·.size) l q.toNat : Int), true) else (0, false)
def bellP (l : List ByteArray) (b q : Int) : Int × Bool := if (askOk l q && inB b 1 8) = true then ((upTo (fun x => bellN x b.toNat) l q.toNat : Int), true) else (0, false)
theorem implNotesUp_eq {N : Nat} (l : List ByteArray) (hl : Sm N l) (q : Int) : impl_NotesUpTo.g N l q = some (notesP l q) := by
  unfold impl_NotesUpTo.g impl_NotesUpTo.o0 notesP
  rw [isQuarter_eq l hl q, Option.bind_some]
  cases c : askOk l q
  · rfl
  · obtain ⟨ht, q0, q1⟩ := askOk_facts c
    obtain ⟨h1, h2, hs⟩ := tuneOk_facts ht
    obtain ⟨k, rfl⟩ := Int.eq_ofNat_of_zero_le q0
    have hb := before_le k
    rw [Bool.not_true, cond_false, if_pos rfl]
    unfold impl_sumUpTo.g impl_sumUpTo.o0
    have hN := hl.1
    have := sumUp_l N l h1 h2 (fun s h => (hs s h).2) (show before k ≤ 4000000 by omega) l.length 0 N 0 (by omega) (by omega) (by omega)
    rw [played_eq N (by omega), Option.bind_some]
    refine (congrArg (fun z => Option.bind z _) this).trans ?_
    rw [Nat.zero_add, List.drop_zero, Int.toNat_natCast]; rfl
theorem specNotesUp_eq {N : Nat} (l : List ByteArray) (hl : Sm N l) (q : Int) : spec_NotesUpTo.g N l q = some (notesP l q) := by
  unfold spec_NotesUpTo.g spec_NotesUpTo.o0 notesP
  rw [beAsked_eq l hl q, Option.bind_some]
  cases c : askOk l q
  · rfl
  · obtain ⟨ht, q0, q1⟩ := askOk_facts c
    obtain ⟨h1, h2, hs⟩ := tuneOk_facts ht
    obtain ⟨k, rfl⟩ := Int.eq_ofNat_of_zero_le q0
    have hb := before_le k
    rw [Bool.not_true, cond_false, if_pos rfl]
    have hN := hl.1
    obtain ⟨n, rfl⟩ : ∃ n, N = n + 1 := ⟨N - 1, by omega⟩
    exact specNotes_l2 (n+1) hN l h1 h2 (fun s h => (hs s h).2) (show k ≤ 1000100 by omega) l.length 0 (n+1) (by omega) (by omega)
theorem implBellUp_eq {N : Nat} (l : List ByteArray) (hl : Sm N l) (b q : Int) : impl_BellUpTo.g N l b q = some (bellP l b q) := by
  unfold impl_BellUpTo.g impl_BellUpTo.o0 impl_BellUpTo.d1 impl_BellUpTo.o1 bellP
  rw [isQuarter_eq l hl q, Option.bind_some]
  cases c : askOk l q
  · rfl
  · rw [Bool.not_true, cond_false, isBell_eq, Option.bind_some, Bool.true_and]
    cases e : inB b 1 8
    · rfl
    · obtain ⟨ht, q0, q1⟩ := askOk_facts c
      obtain ⟨h1, h2, hs⟩ := tuneOk_facts ht
      obtain ⟨k, rfl⟩ := Int.eq_ofNat_of_zero_le q0
      rw [inB_iff] at e
      obtain ⟨b, rfl⟩ := Int.eq_ofNat_of_zero_le (show 0 ≤ b by omega)
      have hb := before_le k
      rw [if_pos rfl, Bool.not_true]
      dsimp only [cond_false]
      unfold impl_sumUpTo_1.g impl_sumUpTo_1.o0
      have hN := hl.1
      have := sumUp1_l N l h1 h2 (fun s h => (hs s h).2) (show before k ≤ 4000000 by omega) (b := b) (by omega) (by omega) l.length 0 N 0 (by omega) (by omega) (by omega)
      rw [played_eq N (by omega), Option.bind_some]
      refine (congrArg (fun z => Option.bind z _) this).trans ?_
      rw [Nat.zero_add, List.drop_zero, Int.toNat_natCast, Int.toNat_natCast]; rfl
theorem specBellUp_eq {N : Nat} (l : List ByteArray) (hl : Sm N l) (b q : Int) : spec_BellUpTo.g N l b q = some (bellP l b q) := by
  unfold spec_BellUpTo.g spec_BellUpTo.o0 spec_BellUpTo.d1 spec_BellUpTo.o1 bellP
  rw [beAsked_eq l hl q, Option.bind_some]
  cases c : askOk l q
  · rfl
  · rw [Bool.not_true, cond_false, beIs_eq, Option.bind_some, Bool.true_and]
    cases e : inB b 1 8
    · rfl
    · obtain ⟨ht, q0, q1⟩ := askOk_facts c
      obtain ⟨h1, h2, hs⟩ := tuneOk_facts ht
      obtain ⟨k, rfl⟩ := Int.eq_ofNat_of_zero_le q0
      rw [inB_iff] at e
      obtain ⟨b, rfl⟩ := Int.eq_ofNat_of_zero_le (show 0 ≤ b by omega)
      rw [if_pos rfl, Bool.not_true]
      dsimp only [cond_false]
      have hN := hl.1
      obtain ⟨n, rfl⟩ : ∃ n, N = n + 1 := ⟨N - 1, by omega⟩
      exact specBell_l3 (n+1) hN l h1 h2 (fun s h => (hs s h).2) (b := b) (by omega) (by omega) (show k ≤ 1000100 by omega) l.length 0 (n+1) (by omega) (by omega)
end Go.Proofs.Ytpmipkbfohcjiaa.M

namespace Go.Proofs.Ytpmipkbfohcjiaa.M
open Go Go.PM Go.Proofs.Ytpmipkbfohcjiaa.P
set_option linter.unusedVariables false
set_option linter.unusedSimpArgs false
def el (l : List ByteArray) (j : Nat) : ByteArray := (l[j]?).getD ⟨#[]⟩
theorem el_mem (l : List ByteArray) {j : Nat} (h : j < l.length) : el l j ∈ l := by
  unfold el; rw [List.getElem?_eq_getElem h, Option.getD_some]; exact List.getElem_mem h
def runS (f : ByteArray → Nat) (l : List ByteArray) : Nat → Nat
  | 0 => 0
  | N + 1 => runS f l N + f (el l (N % l.length))
theorem tms_step (n N i : Nat) (hn : 1 ≤ n) (hi : i < n) : tms n (N + 1) i = tms n N i + if i = N % n then 1 else 0 := by
  unfold tms
  have hr : N % n < n := Nat.mod_lt _ hn
  have hd := Nat.div_add_mod N n
  by_cases c : N % n + 1 < n
  · have e1 : (N + 1) % n = N % n + 1 := by
      rw [Nat.add_mod, Nat.mod_eq_of_lt (show 1 < n by omega), Nat.mod_eq_of_lt c]
    have e2 : (N + 1) / n = N / n := by
      have : N + 1 = n * (N / n) + (N % n + 1) := by omega
      rw [this, Nat.mul_add_div (by omega), Nat.div_eq_of_lt c]; omega
    rw [e1, e2]
    split <;> split <;> split <;> omega
  · have e0 : N + 1 = n * (N / n + 1) := by rw [Nat.mul_add]; omega
    have e1 : (N + 1) % n = 0 := by rw [e0]; exact Nat.mul_mod_right _ _
    have e2 : (N + 1) / n = N / n + 1 := by rw [e0]; exact Nat.mul_div_cancel_left _ (by omega)
    rw [e1, e2]
    split <;> split <;> split <;> omega
theorem sumN_step (f : ByteArray → Nat) (n N : Nat) (hn : 1 ≤ n) : ∀ (l : List ByteArray) (i : Nat), i + l.length ≤ n → sumN f n (N + 1) l i = sumN f n N l i + if i ≤ N % n ∧ N % n < i + l.length then f (el l (N % n - i)) else 0
  | [], i, h => by
    rw [if_neg (by simp)]
    simp [sumN]
  | x :: xs, i, h => by
    rw [List.length_cons] at h ⊢
    have ih := sumN_step f n N hn xs (i + 1) (by omega)
    simp only [sumN]
    rw [ih, tms_step n N i hn (by omega), Nat.add_mul]
    by_cases c : i = N % n
    · rw [if_pos c, if_neg (by omega), if_pos (by omega), show N % n - i = 0 by omega]
      have : el (x :: xs) 0 = x := rfl
      rw [this, Nat.one_mul]; omega
    · rw [if_neg c, Nat.zero_mul]
      by_cases c2 : i + 1 ≤ N % n ∧ N % n < i + 1 + xs.length
      · rw [if_pos c2, if_pos (by omega), show N % n - i = (N % n - (i + 1)) + 1 by omega]
        have : ∀ k, el (x :: xs) (k + 1) = el xs k := fun k => by unfold el; rw [List.getElem?_cons_succ]
        rw [this]; omega
      · rw [if_neg c2, if_neg (by omega)]; omega
theorem sumN_run (f : ByteArray → Nat) (l : List ByteArray) (hl : 1 ≤ l.length) : ∀ N : Nat, sumN f l.length N l 0 = runS f l N
  | 0 => by
    have h : ∀ (xs : List ByteArray) (i : Nat), sumN f l.length 0 xs i = 0 := by
      intro xs
      induction xs with
      | nil => intro i; rfl
      | cons x xs ih => intro i; simp [sumN, ih, tms]
    rw [h]; rfl
  | N + 1 => by
    have hr : N % l.length < l.length := Nat.mod_lt _ hl
    rw [sumN_step f l.length N hl l 0 (by omega), sumN_run f l hl N, if_pos (by omega), runS]
    rfl
theorem upTo_run (f : ByteArray → Nat) (l : List ByteArray) (hl : 1 ≤ l.length) (q : Nat) : upTo f l q = runS f l (before q) := sumN_run f l hl _
theorem runS_mono (f : ByteArray → Nat) (l : List ByteArray) (a : Nat) : ∀ d : Nat, runS f l a ≤ runS f l (a + d)
  | 0 => Nat.le_refl _
  | d + 1 => by
    have ih := runS_mono f l a d
    rw [← Nat.add_assoc, runS]
    omega
theorem addAll_append (l : List ByteArray) : ∀ (A B : List Int) (acc : ByteArray), addAll l acc (A ++ B) = addAll l (addAll l acc A) B
  | [], _, _ => rfl
  | x :: A, B, acc => by simp only [List.cons_append, addAll]; exact addAll_append l A B _
theorem addAll_run (f : ByteArray → Nat) (hadd : ∀ a b, f (a ++ b) = f a + f b) (l : List ByteArray) (N : Nat) (acc : ByteArray) : ∀ d : Nat, f (addAll l acc (plays l.length N d)) + runS f l N = f acc + runS f l (N + d)
  | 0 => by simp [plays, addAll]
  | d + 1 => by
    have ih := addAll_run f hadd l N acc d
    rw [← plays_succ, addAll_append]
    simp only [addAll]
    rw [hadd, ← Nat.add_assoc, runS, Int.toNat_natCast]
    show f (addAll l acc (plays l.length N d)) + f (el l ((N + d) % l.length)) + runS f l N = _
    omega
theorem notes_run (f : ByteArray → Nat) (hadd : ∀ a b, f (a ++ b) = f a + f b) (hz : f ⟨#[]⟩ = 0) (l : List ByteArray) (q : Nat) : runS f l (before (q + 1)) = runS f l (before q) + f (notesOf l q) := by
  have := addAll_run f hadd l (before q) ⟨#[]⟩ (cnt q)
  rw [hz] at this
  unfold notesOf
  rw [before_step]
  unfold cnt at this ⊢
  omega
theorem bellN_add (c : Nat) (a b : ByteArray) : bellN (a ++ b) c = bellN a c + bellN b c := by
  unfold bellN
  rw [ByteArray.data_append, Array.toList_append, List.count_append]
theorem bellN_nil (c : Nat) : bellN ⟨#[]⟩ c = 0 := by simp [bellN]
theorem notes_next (l : List ByteArray) (hl : 1 ≤ l.length) (q : Nat) : upTo (·.size) l (q + 1) = upTo (·.size) l q + (notesOf l q).size := by
  rw [upTo_run _ l hl, upTo_run _ l hl]
  exact notes_run (·.size) (fun a b => ByteArray.size_append) rfl l q
theorem bell_next (l : List ByteArray) (hl : 1 ≤ l.length) (b q : Nat) : upTo (fun x => bellN x b) l (q + 1) = upTo (fun x => bellN x b) l q + bellN (notesOf l q) b := by
  rw [upTo_run _ l hl, upTo_run _ l hl]
  exact notes_run (fun x => bellN x b) (bellN_add b) (bellN_nil b) l q
theorem runS_congr (f g : ByteArray → Nat) (l : List ByteArray) (h1 : 1 ≤ l.length) (h : ∀ x ∈ l, f x = g x) : ∀ N, runS f l N = runS g l N
  | 0 => rfl
  | N + 1 => by
    have hr : N % l.length < l.length := Nat.mod_lt _ h1
    rw [runS, runS, runS_congr f g l h1 h N, h _ (el_mem l hr)]
theorem runS_add (f g : ByteArray → Nat) (l : List ByteArray) : ∀ N, runS (fun x => f x + g x) l N = runS f l N + runS g l N
  | 0 => rfl
  | N + 1 => by
    rw [runS, runS, runS, runS_add f g l N]; omega
theorem runS_zero (l : List ByteArray) : ∀ N, runS (fun _ => 0) l N = 0
  | 0 => rfl
  | N + 1 => by rw [runS, runS_zero l N]
theorem nobell_run (l : List ByteArray) (h1 : 1 ≤ l.length) {b : Nat} (hb : hasBell l b = false) (N : Nat) : runS (fun x => bellN x b) l N = 0 := by
  have hz : ∀ x ∈ l, bellN x b = 0 := by
    intro x hx
    unfold hasBell at hb
    have := List.any_eq_false.1 hb x hx
    rw [decide_eq_true_eq] at this
    omega
  rw [runS_congr _ (fun _ => 0) l h1 hz, runS_zero]
theorem bell_has (l : List ByteArray) (h1 : 1 ≤ l.length) {b q : Nat} (hp : 0 < upTo (fun x => bellN x b) l q) : hasBell l b = true := by
  cases e : hasBell l b
  · rw [upTo_run _ l h1, nobell_run l h1 e] at hp; omega
  · rfl
theorem notes_nobell (l : List ByteArray) (h1 : 1 ≤ l.length) {b : Nat} (hb : hasBell l b = false) (q : Nat) : bellN (notesOf l q) b = 0 := by
  have := notes_run (fun x => bellN x b) (bellN_add b) (bellN_nil b) l q
  rw [nobell_run l h1 hb, nobell_run l h1 hb] at this
  omega
theorem run_grows (l : List ByteArray) (h1 : 1 ≤ l.length) {b : Nat} (hb : hasBell l b = true) (B : Nat) : runS (fun x => bellN x b) l B < runS (fun x => bellN x b) l (B + l.length) := by
  unfold hasBell at hb
  rw [List.any_eq_true] at hb
  obtain ⟨s, hs', hp⟩ := hb
  obtain ⟨p, hp1, rfl⟩ := List.getElem_of_mem hs'
  rw [decide_eq_true_eq] at hp
  have hd := Nat.div_add_mod B l.length
  have hm := Nat.mod_lt B (show l.length > 0 by omega)
  obtain ⟨t, ht1, ht2, ht3⟩ : ∃ t, B ≤ t ∧ t < B + l.length ∧ t % l.length = p := by
    by_cases c : B % l.length ≤ p
    · exact ⟨l.length * (B / l.length) + p, by omega, by omega, by rw [Nat.mul_add_mod, Nat.mod_eq_of_lt hp1]⟩
    · refine ⟨l.length * (B / l.length + 1) + p, by rw [Nat.mul_add]; omega, by rw [Nat.mul_add]; omega, by rw [Nat.mul_add_mod, Nat.mod_eq_of_lt hp1]⟩
  have e1 := runS_mono (fun x => bellN x b) l B (t - B)
  have e2 := runS_mono (fun x => bellN x b) l (t + 1) (B + l.length - (t + 1))
  rw [show B + (t - B) = t by omega] at e1
  rw [show t + 1 + (B + l.length - (t + 1)) = B + l.length by omega, runS, ht3] at e2
  have e3 : el l p = l[p] := by unfold el; rw [List.getElem?_eq_getElem hp1, Option.getD_some]
  rw [e3] at e2
  omega
theorem grow_step (g : Nat → Nat) (q : Nat) : ∀ d, g q < g (q + d) → ∃ j, j < d ∧ g (q + j) < g (q + j + 1)
  | 0, h => by rw [Nat.add_zero] at h; omega
  | d + 1, h => by
    by_cases e : g q < g (q + d)
    · obtain ⟨j, hj, h2⟩ := grow_step g q d e
      exact ⟨j, by omega, h2⟩
    · exact ⟨d, by omega, by rw [← Nat.add_assoc] at h; omega⟩
theorem least (P : Nat → Prop) [DecidablePred P] : ∀ d, (∃ j, j < d ∧ P j) → ∃ j, j < d ∧ P j ∧ ∀ i, i < j → ¬ P i
  | 0, h => by obtain ⟨j, hj, _⟩ := h; omega
  | d + 1, h => by
    by_cases c : ∃ j, j < d ∧ P j
    · obtain ⟨j, hj, h1, h2⟩ := least P d c
      exact ⟨j, by omega, h1, h2⟩
    · obtain ⟨j, hj, h1⟩ := h
      have : j = d := by
        by_cases e : j = d
        · exact e
        · exact absurd ⟨j, by omega, h1⟩ c
      subst this
      exact ⟨j, hj, h1, fun i hi hp => c ⟨i, hi, hp⟩⟩
theorem ten_hours {k : Nat} (h1 : 1 ≤ k) (h2 : k ≤ 12) : k ≤ 10 * hoursN k := by
  have := hours_facts h1 h2
  exact Nat.le_of_dvd (by omega) (Nat.dvd_of_mod_eq_zero this.2.2)
theorem next_exists (l : List ByteArray) (h1 : 1 ≤ l.length) (h2 : l.length ≤ 12) {b : Nat} (hb : hasBell l b = true) (q : Nat) : ∃ j, j < 4 * hoursN l.length ∧ 0 < bellN (notesOf l (q + j)) b ∧ ∀ i, i < j → ¬ 0 < bellN (notesOf l (q + i)) b := by
  refine least (fun j => 0 < bellN (notesOf l (q + j)) b) _ ?_
  have hg := run_grows l h1 hb (before q)
  have hm := runS_mono (fun x => bellN x b) l (before q + l.length) (10 * hoursN l.length - l.length)
  have ht := ten_hours h1 h2
  rw [show before q + l.length + (10 * hoursN l.length - l.length) = before (q + 4 * hoursN l.length) by rw [before_hours]; omega] at hm
  obtain ⟨j, hj, h3⟩ := grow_step (fun q => runS (fun x => bellN x b) l (before q)) q (4 * hoursN l.length) (by show runS _ l _ < runS _ l _; omega)
  refine ⟨j, hj, ?_⟩
  have := notes_run (fun x => bellN x b) (bellN_add b) (bellN_nil b) l (q + j)
  omega
/-- where no bell comes between, as many come before -/
theorem bell_same (l : List ByteArray) (h1 : 1 ≤ l.length) (b q : Nat) : ∀ j, (∀ i, i < j → ¬ 0 < bellN (notesOf l (q + i)) b) → upTo (fun x => bellN x b) l (q + j) = upTo (fun x => bellN x b) l q
  | 0, _ => rfl
  | j + 1, h => by
    have ih := bell_same l h1 b q j fun i hi => h i (by omega)
    have := h j (by omega)
    rw [← Nat.add_assoc, bell_next l h1, ih]
    omega
theorem okFrom_at (s : ByteArray) : ∀ (d i : Nat), okFrom s d i = true → ∀ j, i ≤ j → j < i + d → 49 ≤ bt s j ∧ bt s j ≤ 56
  | 0, i, _, j, h1, h2 => by omega
  | d + 1, i, h, j, h1, h2 => by
    simp only [okFrom, Bool.and_eq_true, decide_eq_true_eq] at h
    by_cases e : j = i
    · subst e; exact h.1
    · exact okFrom_at s d (i + 1) h.2 j (by omega) (by omega)
theorem phrase_bytes {s : ByteArray} (h : phraseOk s = true) : ∀ c ∈ s.data.toList, 49 ≤ c.toNat ∧ c.toNat ≤ 56 := by
  intro c hc
  have hl : s.data.toList.length = s.size := Array.length_toList
  obtain ⟨j, hj, rfl⟩ := List.getElem_of_mem hc
  unfold phraseOk at h
  rw [Bool.and_eq_true] at h
  have := okFrom_at s s.size 0 h.1 j (by omega) (by omega)
  rw [bt_list s j hj] at this
  omega
def sumC (c : UInt8) : Nat := (if c = bc 1 then 1 else 0) + (if c = bc 2 then 1 else 0) + (if c = bc 3 then 1 else 0) + (if c = bc 4 then 1 else 0) + (if c = bc 5 then 1 else 0) + (if c = bc 6 then 1 else 0) + (if c = bc 7 then 1 else 0) + (if c = bc 8 then 1 else 0)
theorem sumC_one {c : UInt8} (h1 : 49 ≤ c.toNat) (h2 : c.toNat ≤ 56) : sumC c = 1 := by
  have : c.toNat = 49 ∨ c.toNat = 50 ∨ c.toNat = 51 ∨ c.toNat = 52 ∨ c.toNat = 53 ∨ c.toNat = 54 ∨ c.toNat = 55 ∨ c.toNat = 56 := by omega
  have e : c = UInt8.ofNat c.toNat := by simp
  rcases this with h | h | h | h | h | h | h | h <;> rw [h] at e <;> subst e <;> decide
theorem count_if (c b : UInt8) (l : List UInt8) : (c :: l).count b = l.count b + if c = b then 1 else 0 := by
  rw [List.count_cons]
  by_cases e : c = b <;> simp [e]
theorem counts_sum : ∀ l : List UInt8, (∀ c ∈ l, 49 ≤ c.toNat ∧ c.toNat ≤ 56) → l.count (bc 1) + l.count (bc 2) + l.count (bc 3) + l.count (bc 4) + l.count (bc 5) + l.count (bc 6) + l.count (bc 7) + l.count (bc 8) = l.length
  | [], _ => by simp
  | c :: l, h => by
    have ih := counts_sum l (fun x hx => h x (List.mem_cons_of_mem _ hx))
    have hc := h c List.mem_cons_self
    have h1 := sumC_one hc.1 hc.2
    unfold sumC at h1
    simp only [count_if, List.length_cons]
    omega
def bellsTo (s : ByteArray) : Nat → Nat
  | 0 => 0
  | b + 1 => bellsTo s b + bellN s (b + 1)
theorem bellsTo_all {s : ByteArray} (h : phraseOk s = true) : bellsTo s 8 = s.size := by
  have := counts_sum _ (phrase_bytes h)
  have hl : s.data.toList.length = s.size := Array.length_toList
  simp only [bellsTo, bellN, Nat.reduceAdd]
  omega
def bellsUp (l : List ByteArray) (q : Nat) : Nat → Nat
  | 0 => 0
  | b + 1 => bellsUp l q b + upTo (fun x => bellN x (b + 1)) l q
theorem bellsUp_run (l : List ByteArray) (h1 : 1 ≤ l.length) (q : Nat) : ∀ b : Nat, bellsUp l q b = runS (fun x => bellsTo x b) l (before q)
  | 0 => by simp only [bellsUp, bellsTo]; exact (runS_zero l _).symm
  | b + 1 => by
    rw [bellsUp, bellsUp_run l h1 q b, upTo_run _ l h1, ← runS_add]
    rfl
theorem bellsUp_all (l : List ByteArray) (ht : tuneOk l = true) (q : Nat) : bellsUp l q 8 = upTo (·.size) l q := by
  obtain ⟨h1, h2, _⟩ := tuneOk_facts ht
  rw [bellsUp_run l h1 q, upTo_run _ l h1]
  refine runS_congr _ _ l h1 (fun x hx => bellsTo_all ?_) _
  have := ht
  simp only [tuneOk, Bool.and_eq_true, List.all_eq_true] at this
  exact this.2 x hx
theorem runS_le (f : ByteArray → Nat) (l : List ByteArray) (h1 : 1 ≤ l.length) (hf : ∀ x ∈ l, f x ≤ 8) : ∀ N, runS f l N ≤ 8 * N
  | 0 => Nat.le_refl _
  | N + 1 => by
    have ih := runS_le f l h1 hf N
    have := hf _ (el_mem l (Nat.mod_lt N h1))
    rw [runS]; omega
theorem upTo_le (f : ByteArray → Nat) (l : List ByteArray) (h1 : 1 ≤ l.length) (hf : ∀ x ∈ l, f x ≤ 8) (q : Nat) : upTo f l q ≤ 24 * q + 80 := by
  have := runS_le f l h1 hf (before q)
  have := before_le q
  rw [upTo_run f l h1]; omega
theorem notesOf_size (l : List ByteArray) (ht : tuneOk l = true) (q : Nat) : (notesOf l q).size ≤ 32 := by
  obtain ⟨h1, h2, hs⟩ := tuneOk_facts ht
  have := addAll_run (·.size) (fun a b => ByteArray.size_append) l (before q) ⟨#[]⟩ (cnt q)
  have hle : ∀ d, runS (·.size) l (before q + d) ≤ runS (·.size) l (before q) + 8 * d := by
    intro d
    induction d with
    | zero => exact Nat.le_refl _
    | succ d ih =>
      have := (hs _ (el_mem l (Nat.mod_lt (before q + d) h1))).2
      rw [← Nat.add_assoc, runS]; omega
  have := hle (cnt q)
  have hc : cnt q = q % 4 + 1 := rfl
  have e : (⟨#[]⟩ : ByteArray).size = 0 := rfl
  unfold notesOf
  omega
end Go.Proofs.Ytpmipkbfohcjiaa.M

namespace Go.Proofs.Ytpmipkbfohcjiaa.M
open Go Go.PM Go.Proofs.Ytpmipkbfohcjiaa.P
set_option linter.unusedVariables false
set_option linter.unusedSimpArgs false
theorem implNext_l (N : Nat) (hN : 1000 ≤ N) (l : List ByteArray) (ht : tuneOk l = true) {b : Nat} (b1 : 1 ≤ b) (b2 : b ≤ 8) {q : Nat} (hq : q ≤ 1000000) {j : Nat} (hj : j ≤ 100) (hp : 0 < bellN (notesOf l (q + j)) b) (hf : ∀ i, i < j → ¬ 0 < bellN (notesOf l (q + i)) b) : ∀ (d i n : Nat), i + d = j → d < n → impl_NextQuarterWith.l2 N n l b ((q + i : Nat) : Int) = some (((q + j : Nat) : Int), true)
  | d, i, n+1, hi, hn => by
    unfold impl_NextQuarterWith.l2 impl_NextQuarterWith.d2 impl_NextQuarterWith.o2
    rw [notes_eq hN l ht (by omega), Option.bind_some, bellText_eq, Option.bind_some, contains_bell N _ b1 b2, Option.bind_some]
    cases d with
    | zero =>
      have : i = j := by omega
      subst this
      rw [dcT hp]; rfl
    | succ d =>
      rw [dcF (hf i (by omega)), Bool.not_false, cond_true, w1add (by omega)]
      exact implNext_l N hN l ht b1 b2 hq hj hp hf d (i+1) n (by omega) (by omega)
  | _, _, 0, _, hn => by omega
theorem specNext_l (N : Nat) (hN : 1000 ≤ N) (l : List ByteArray) (ht : tuneOk l = true) {b : Nat} (b1 : 1 ≤ b) (b2 : b ≤ 8) {q : Nat} (hq : q ≤ 1000000) {j : Nat} (hj : j < 4 * hoursN l.length) (hp : 0 < bellN (notesOf l (q + j)) b) (hf : ∀ i, i < j → ¬ 0 < bellN (notesOf l (q + i)) b) : ∀ (d i n : Nat), i + d = j → d < n → spec_NextQuarterWith.l2 N n l b q (i : Int) = some (((q + j : Nat) : Int), true)
  | d, i, n+1, hi, hn => by
    obtain ⟨h1, h2, hs⟩ := tuneOk_facts ht
    have hh := hours_facts h1 h2
    have hz := notesOf_size l ht (q + i)
    unfold spec_NextQuarterWith.l2 spec_NextQuarterWith.d2 spec_NextQuarterWith.o2
    rw [beHours_eq hN l h1 h2, Option.bind_some, w64s (n := 4 * (hoursN l.length : Int)) (by omega) (by omega), dcT (by omega), cond_true, w2add (by omega), beNotes_eq hN l ht (by omega), Option.bind_some, beBell_eq hN _ b1 b2 (by omega), Option.bind_some]
    cases d with
    | zero =>
      have : i = j := by omega
      subst this
      rw [dcT (show (bellN (notesOf l (q + i)) b : Int) > 0 by omega), cond_true]
    | succ d =>
      have := hf i (by omega)
      rw [dcF (show ¬ (bellN (notesOf l (q + i)) b : Int) > 0 by omega), cond_false, w1add (by omega)]
      exact specNext_l N hN l ht b1 b2 hq hj hp hf d (i+1) n (by omega) (by omega)
  | _, _, 0, _, hn => by omega
theorem specNext_none (N : Nat) (hN : 1000 ≤ N) (l : List ByteArray) (ht : tuneOk l = true) {b : Nat} (b1 : 1 ≤ b) (b2 : b ≤ 8) {q : Nat} (hq : q ≤ 1000000) (hb : hasBell l b = false) : ∀ (d i n : Nat), i + d = 4 * hoursN l.length → d < n → spec_NextQuarterWith.l2 N n l b q (i : Int) = some (0, false)
  | d, i, n+1, hi, hn => by
    obtain ⟨h1, h2, hs⟩ := tuneOk_facts ht
    have hh := hours_facts h1 h2
    have hz := notesOf_size l ht (q + i)
    have h0 := notes_nobell l h1 hb (q + i)
    unfold spec_NextQuarterWith.l2 spec_NextQuarterWith.d2 spec_NextQuarterWith.o2
    rw [beHours_eq hN l h1 h2, Option.bind_some, w64s (n := 4 * (hoursN l.length : Int)) (by omega) (by omega)]
    cases d with
    | zero => rw [dcF (by omega), cond_false]
    | succ d =>
      rw [dcT (by omega), cond_true, w2add (by omega), beNotes_eq hN l ht (by omega), Option.bind_some, beBell_eq hN _ b1 b2 (by omega), Option.bind_some, dcF (show ¬ (bellN (notesOf l (q + i)) b : Int) > 0 by omega), cond_false, w1add (by omega)]
      exact specNext_none N hN l ht b1 b2 hq hb d (i+1) n (by omega) (by omega)
  | _, _, 0, _, hn => by omega
/-- what is asked for next: found, or not -/
def NextIs (l : List ByteArray) (b q : Int) (r : Int × Bool) : Prop := r = (0, false) ∨ ∃ (k c j : Nat), askOk l q = true ∧ inB b 1 8 = true ∧ q = k ∧ b = c ∧ r = (((k + j : Nat) : Int), true) ∧ 0 < bellN (notesOf l (k + j)) c ∧ ∀ i, i < j → ¬ 0 < bellN (notesOf l (k + i)) c
theorem next_eq {N : Nat} (l : List ByteArray) (hl : Sm N l) (b q : Int) : ∃ r, impl_NextQuarterWith.g N l b q = some r ∧ spec_NextQuarterWith.g N l b q = some r ∧ NextIs l b q r := by
  have hN := hl.1
  unfold impl_NextQuarterWith.g impl_NextQuarterWith.o0 impl_NextQuarterWith.d1 impl_NextQuarterWith.o1 spec_NextQuarterWith.g spec_NextQuarterWith.o0 spec_NextQuarterWith.d1 spec_NextQuarterWith.o1
  rw [isQuarter_eq l hl q, beAsked_eq l hl q, Option.bind_some, Option.bind_some]
  cases c : askOk l q
  · exact ⟨(0, false), rfl, rfl, Or.inl rfl⟩
  · rw [isBell_eq, beIs_eq, Option.bind_some, Option.bind_some]
    cases e : inB b 1 8
    · exact ⟨(0, false), rfl, rfl, Or.inl rfl⟩
    · obtain ⟨ht, q0, q1⟩ := askOk_facts c
      obtain ⟨h1, h2, hs⟩ := tuneOk_facts ht
      have hh := hours_facts h1 h2
      obtain ⟨k, rfl⟩ := Int.eq_ofNat_of_zero_le q0
      have e' := e
      rw [inB_iff] at e'
      obtain ⟨b, rfl⟩ := Int.eq_ofNat_of_zero_le (show 0 ≤ b by omega)
      have hbl := bellsL_le l 8
      simp only [Bool.not_true, cond_false]
      rw [implBells_eq hN l ht, Option.bind_some, containsI_eq _ _ (by omega) (by omega), Option.bind_some]
      have hm := bellsL_mem l b 8
      cases hB : hasBell l b
      · rw [dcF (by rw [hm, hB]; simp)]
        refine ⟨(0, false), rfl, ?_, Or.inl rfl⟩
        exact specNext_none N hN l ht (by omega) (by omega) (by omega) hB (4 * hoursN l.length) 0 N (by omega) (by omega)
      · rw [dcT (by rw [hm, hB]; exact ⟨by omega, by omega, rfl⟩)]
        obtain ⟨j, hj, hp, hf⟩ := next_exists l h1 h2 hB k
        refine ⟨(((k + j : Nat) : Int), true), ?_, ?_, Or.inr ⟨k, b, j, c, e, rfl, rfl, rfl, hp, hf⟩⟩
        · exact implNext_l N hN l ht (by omega) (by omega) (by omega) (by omega) hp hf j 0 N (by omega) (by omega)
        · exact specNext_l N hN l ht (by omega) (by omega) (by omega) hj hp hf j 0 N (by omega) (by omega)
def playedP (l : List ByteArray) (q : Int) : ByteArray × Bool := if askOk l q = true then (notesOf l q.toNat, true) else (⟨#[]⟩, false)
def phrasesP (l : List ByteArray) (q : Int) : List Int × Bool := if askOk l q = true then (plays l.length (before q.toNat) (cnt q.toNat), true) else ([], false)
def standsP (l : List ByteArray) (q : Int) : Int × Bool := if askOk l q = true then (((before q.toNat % l.length : Nat) : Int), true) else (0, false)
def hoursP (l : List ByteArray) : Int × Bool := if tuneOk l = true then ((hoursN l.length : Int), true) else (0, false)
def fullL (l : List ByteArray) (n : Nat) : List ByteArray := (List.range n).map fun h => notesOf l (4 * h + 3)
def fullP (l : List ByteArray) : List ByteArray × Bool := if tuneOk l = true then (fullL l (hoursN l.length), true) else ([], false)
section
variable {N : Nat} (l : List ByteArray) (hl : Sm N l) (q : Int)
include hl
theorem implPlayed_eq : impl_PlayedAt.g N l q = some (playedP l q) := by
  unfold impl_PlayedAt.g impl_PlayedAt.o0 playedP
  rw [isQuarter_eq l hl q, Option.bind_some]
  cases c : askOk l q
  · rfl
  · obtain ⟨ht, q0, q1⟩ := askOk_facts c
    obtain ⟨k, rfl⟩ := Int.eq_ofNat_of_zero_le q0
    rw [Bool.not_true, cond_false, notes_eq hl.1 l ht (by omega)]; rfl
theorem specPlayed_eq : spec_PlayedAt.g N l q = some (playedP l q) := by
  unfold spec_PlayedAt.g spec_PlayedAt.o0 playedP
  rw [beAsked_eq l hl q, Option.bind_some]
  cases c : askOk l q
  · rfl
  · obtain ⟨ht, q0, q1⟩ := askOk_facts c
    obtain ⟨k, rfl⟩ := Int.eq_ofNat_of_zero_le q0
    rw [Bool.not_true, cond_false, beNotes_eq hl.1 l ht (by omega)]; rfl
theorem implPhrases_eq : impl_PhrasesOf.g N l q = some (phrasesP l q) := by
  unfold impl_PhrasesOf.g impl_PhrasesOf.o0 phrasesP
  rw [isQuarter_eq l hl q, Option.bind_some]
  cases c : askOk l q
  · rfl
  · obtain ⟨ht, q0, q1⟩ := askOk_facts c
    obtain ⟨k, rfl⟩ := Int.eq_ofNat_of_zero_le q0
    rw [Bool.not_true, cond_false, phrases_eq hl.1 l (tuneOk_facts ht).1 (by omega)]; rfl
theorem specPhrases_eq : spec_PhrasesOf.g N l q = some (phrasesP l q) := by
  unfold spec_PhrasesOf.g spec_PhrasesOf.o0 phrasesP
  rw [beAsked_eq l hl q, Option.bind_some]
  cases c : askOk l q
  · rfl
  · obtain ⟨ht, q0, q1⟩ := askOk_facts c
    obtain ⟨k, rfl⟩ := Int.eq_ofNat_of_zero_le q0
    rw [Bool.not_true, cond_false, bePlays_eq hl.1 l (tuneOk_facts ht).1 (by omega)]; rfl
theorem implStands_eq : impl_StandsAt.g N l q = some (standsP l q) := by
  unfold impl_StandsAt.g impl_StandsAt.o0 standsP
  rw [isQuarter_eq l hl q, Option.bind_some]
  cases c : askOk l q
  · rfl
  · obtain ⟨ht, q0, q1⟩ := askOk_facts c
    obtain ⟨k, rfl⟩ := Int.eq_ofNat_of_zero_le q0
    have := (tuneOk_facts ht).1
    rw [Bool.not_true, cond_false, played_eq N (by omega), Option.bind_some, ieqF (by omega), cond_false, tmodN]; rfl
theorem specStands_eq : spec_StandsAt.g N l q = some (standsP l q) := by
  unfold spec_StandsAt.g spec_StandsAt.o0 standsP
  rw [beAsked_eq l hl q, Option.bind_some]
  cases c : askOk l q
  · rfl
  · obtain ⟨ht, q0, q1⟩ := askOk_facts c
    obtain ⟨k, rfl⟩ := Int.eq_ofNat_of_zero_le q0
    have := (tuneOk_facts ht).1
    rw [Bool.not_true, cond_false, beBefore_eq N (by omega), Option.bind_some, ieqF (by omega), cond_false, tmodN]; rfl
theorem implHours_eq : impl_HoursUntilSame.g N l = some (hoursP l) := by
  unfold impl_HoursUntilSame.g impl_HoursUntilSame.o0 hoursP
  rw [isTune_eq l hl, Option.bind_some]
  cases ht : tuneOk l
  · rfl
  · rw [Bool.not_true, cond_false, hours_eq hl.1 l (tuneOk_facts ht).1 (tuneOk_facts ht).2.1]; rfl
theorem specHours_eq : spec_HoursUntilSame.g N l = some (hoursP l) := by
  unfold spec_HoursUntilSame.g spec_HoursUntilSame.o0 hoursP
  rw [beTune_eq l hl, Option.bind_some]
  cases ht : tuneOk l
  · rfl
  · rw [Bool.not_true, cond_false, beHours_eq hl.1 l (tuneOk_facts ht).1 (tuneOk_facts ht).2.1]; rfl
end
theorem fullL_length (l : List ByteArray) (n : Nat) : (fullL l n).length = n := by simp [fullL]
theorem fullL_snoc (l : List ByteArray) (n : Nat) : fullL l n ++ [notesOf l (4 * n + 3)] = fullL l (n + 1) := by simp [fullL, List.range_succ]
theorem w43 {h : Nat} (hh : h ≤ 1000) : w64 (w64 (4 * (h : Int)) + 3) = ((4 * h + 3 : Nat) : Int) := by
  rw [w64s (n := 4 * (h : Int)) (by omega) (by omega), w64s (by omega) (by omega)]; omega
theorem implFull_l (N : Nat) (hN : 1000 ≤ N) (l : List ByteArray) (ht : tuneOk l = true) {H : Nat} (hH : H ≤ 12) : ∀ (d i n : Nat), i + d = H → d < n → impl_FullHours.l1 N n l (fullL l i) H (i : Int) = some (fullL l H, true)
  | 0, i, n+1, hi, hn => by
    unfold impl_FullHours.l1 impl_FullHours.d1 impl_FullHours.o1
    rw [dcF (by omega), cond_false, show i = H by omega]
  | d+1, i, n+1, hi, hn => by
    unfold impl_FullHours.l1 impl_FullHours.d1 impl_FullHours.o1
    rw [dcT (by omega), cond_true, w43 (by omega), notes_eq hN l ht (by omega), Option.bind_some, blT (by rw [fullL_length]; simp only [List.length_singleton]; omega), cond_true, fullL_snoc, w1add (by omega)]
    exact implFull_l N hN l ht hH d (i+1) n (by omega) (by omega)
  | _, _, 0, _, hn => by omega
theorem specFull_l (N : Nat) (hN : 1000 ≤ N) (l : List ByteArray) (ht : tuneOk l = true) : ∀ (d i n : Nat), i + d = hoursN l.length → d < n → spec_FullHours.l2 N n l (fullL l i) (i : Int) = some (fullL l (hoursN l.length), true)
  | 0, i, n+1, hi, hn => by
    obtain ⟨h1, h2, hs⟩ := tuneOk_facts ht
    unfold spec_FullHours.l2 spec_FullHours.d2 spec_FullHours.o2
    rw [beHours_eq hN l h1 h2, Option.bind_some, dcF (by omega), cond_false, show i = hoursN l.length by omega]
  | d+1, i, n+1, hi, hn => by
    obtain ⟨h1, h2, hs⟩ := tuneOk_facts ht
    have hh := hours_facts h1 h2
    unfold spec_FullHours.l2 spec_FullHours.d2 spec_FullHours.o2
    rw [beHours_eq hN l h1 h2, Option.bind_some, dcT (by omega), cond_true, w43 (by omega), beNotes_eq hN l ht (by omega), Option.bind_some, blT (by rw [fullL_length]; simp only [List.length_singleton]; omega), cond_true, fullL_snoc, w1add (by omega)]
    exact specFull_l N hN l ht d (i+1) n (by omega) (by omega)
  | _, _, 0, _, hn => by omega
theorem implFull_eq {N : Nat} (l : List ByteArray) (hl : Sm N l) : impl_FullHours.g N l = some (fullP l) := by
  unfold impl_FullHours.g impl_FullHours.o0 fullP
  rw [isTune_eq l hl, Option.bind_some]
  cases ht : tuneOk l
  · rfl
  · obtain ⟨h1, h2, hs⟩ := tuneOk_facts ht
    have hh := hours_facts h1 h2
    have hN := hl.1
    rw [Bool.not_true, cond_false, hours_eq hl.1 l h1 h2, Option.bind_some, if_pos rfl]
    exact implFull_l N hl.1 l ht (by omega) (hoursN l.length) 0 N (by omega) (by omega)
theorem specFull_eq {N : Nat} (l : List ByteArray) (hl : Sm N l) : spec_FullHours.g N l = some (fullP l) := by
  unfold spec_FullHours.g spec_FullHours.o0 fullP
  rw [beTune_eq l hl, Option.bind_some]
  cases ht : tuneOk l
  · rfl
  · obtain ⟨h1, h2, hs⟩ := tuneOk_facts ht
    have hh := hours_facts h1 h2
    have hN := hl.1
    rw [Bool.not_true, cond_false, if_pos rfl]
    obtain ⟨n, rfl⟩ : ∃ n, N = n + 1 := ⟨N - 1, by omega⟩
    exact specFull_l (n+1) hN l ht (hoursN l.length) 0 (n+1) (by omega) (by omega)
theorem kTexts_l (N : Nat) (l : List ByteArray) (hs : l.length < 1000000000) : ∀ (d i n : Nat), i + d = l.length → d < n → laws_kTexts.l1 N n l l l.length i = some true
  | 0, i, n+1, hi, hn => by
    unfold laws_kTexts.l1 laws_kTexts.d1 laws_kTexts.o1
    rw [dcF (by omega), cond_false]
  | d+1, i, n+1, hi, hn => by
    unfold laws_kTexts.l1 laws_kTexts.d1 laws_kTexts.o1
    have hlt : i < l.length := by omega
    simp (disch := omega) only [dcT, cond_true, Int.toNat_natCast, getAt, beq_self_eq_true, Bool.not_true, cond_false, w1add]
    exact kTexts_l N l hs d (i+1) n (by omega) (by omega)
  | _, _, 0, _, hn => by omega
theorem kTexts_self {N : Nat} (l : List ByteArray) (hs : l.length < 1000000000) (hN : l.length < N) : laws_kTexts.g N l l = some true := by
  unfold laws_kTexts.g laws_kTexts.o0
  rw [ineF rfl, cond_false]
  exact kTexts_l N l hs l.length 0 N (by omega) hN
end Go.Proofs.Ytpmipkbfohcjiaa.M

namespace Go.Proofs.Ytpmipkbfohcjiaa.M
open Go Go.PM Go.Proofs.Ytpmipkbfohcjiaa.P
set_option linter.unusedVariables false
set_option linter.unusedSimpArgs false
theorem and255 (x : Int) : 0 ≤ w64 (andK .u64 x 255) ∧ w64 (andK .u64 x 255) ≤ 255 := by
  have e : (BitVec.ofInt IntKind.u64.bits x &&& BitVec.ofInt IntKind.u64.bits 255).toNat ≤ 255 := by
    rw [BitVec.toNat_and]
    exact Nat.le_trans Nat.and_le_right (by decide)
  unfold andK
  generalize (BitVec.ofInt IntKind.u64.bits x &&& BitVec.ofInt IntKind.u64.bits 255).toNat = n at e
  have e1 : IntKind.wrap .u64 (n : Int) = n := by
    unfold IntKind.wrap
    have : (n : Int) % (2 ^ IntKind.u64.bits : Int) = n := by
      show (n : Int) % (18446744073709551616 : Int) = n
      omega
    rw [this]
    rfl
  rw [e1, w64s (by omega) (by omega)]
  omega
/-- bytes -/
def Bs (code : List Int) : Prop := code.length ≤ 1048576 ∧ ∀ x ∈ code, 0 ≤ x ∧ x ≤ 255
theorem next_tot (N : Nat) {code : List Int} (hc : Bs code) {pos : Int} (h1 : 0 ≤ pos) (h2 : pos ≤ 1000000000) (seed : Int) :
    Tot (spec_l1Cur_next.g N code pos seed) fun r => (0 ≤ r.1 ∧ r.1 ≤ 255) ∧ r.2.1 = code ∧ 0 ≤ r.2.2.1 ∧ r.2.2.1 ≤ pos + 1 := by
  have key : ∀ b, 0 ≤ b → b ≤ 255 → Tot (spec_l1Cur_next.d1 N b code pos seed) fun r => (0 ≤ r.1 ∧ r.1 ≤ 255) ∧ r.2.1 = code ∧ 0 ≤ r.2.2.1 ∧ r.2.2.1 ≤ pos + 1 := by
    intro b hb1 hb2
    unfold spec_l1Cur_next.d1 spec_l1Cur_next.o1
    rw [w64s (n := pos + 1) (by omega) (by omega)]
    refine Tot.bif (fun _ => Tot.now ⟨⟨hb1, hb2⟩, rfl, ?_, ?_⟩) (fun _ => Tot.now ⟨and255 _, rfl, ?_, ?_⟩)
    all_goals (dsimp only; omega)
  unfold spec_l1Cur_next.g spec_l1Cur_next.o0
  dsimp only
  refine Tot.dif (fun hlt => ?_) (fun hlt => key 0 (by omega) (by omega))
  have hl : pos.toNat < code.length := by omega
  rw [dcT h1, cond_true, dcT hlt, cond_true, getAt hl]
  have := hc.2 code[pos.toNat] (List.getElem_mem hl)
  rw [w64s (by omega) (by omega)]
  exact key _ this.1 this.2
theorem pick_tot (N : Nat) {code : List Int} (hc : Bs code) (n : Int) {pos : Int} (h1 : 0 ≤ pos) (h2 : pos ≤ 1000000) (seed : Int) :
    Tot (spec_l1Cur_pick.g N n code pos seed) fun r => (0 ≤ r.1 ∧ (r.1 < n ∨ r.1 = 0)) ∧ r.2.1 = code ∧ 0 ≤ r.2.2.1 ∧ r.2.2.1 ≤ pos + 2 := by
  have key : ∀ x p s, 1 < n → 0 ≤ x → 0 ≤ p → p ≤ pos + 2 → Tot (spec_l1Cur_pick.d1 N n x code p s) fun r => (0 ≤ r.1 ∧ (r.1 < n ∨ r.1 = 0)) ∧ r.2.1 = code ∧ 0 ≤ r.2.2.1 ∧ r.2.2.1 ≤ pos + 2 := by
    intro x p s hn hx hp1 hp2
    unfold spec_l1Cur_pick.d1 spec_l1Cur_pick.o1
    rw [ieqF (by omega), cond_false]
    refine Tot.now ⟨⟨Int.tmod_nonneg _ hx, .inl ?_⟩, rfl, hp1, hp2⟩
    exact Int.tmod_lt_of_pos _ (by omega)
  unfold spec_l1Cur_pick.g spec_l1Cur_pick.o0
  dsimp only
  refine Tot.dif (fun hlt => Tot.now ⟨⟨by dsimp only; omega, .inr rfl⟩, rfl, h1, by dsimp only; omega⟩) (fun hlt => ?_)
  refine Tot.bind (next_tot N hc h1 (by omega) seed) ?_
  rintro ⟨x, c, p, s⟩ ⟨⟨x1, x2⟩, rfl, p1, p2⟩
  dsimp only at x1 x2 p1 p2 ⊢
  refine Tot.dif (fun hgt => ?_) (fun hgt => ?_)
  · refine Tot.bind (next_tot N hc p1 (by omega) s) ?_
    rintro ⟨y, c, q, t⟩ ⟨⟨y1, y2⟩, rfl, q1, q2⟩
    dsimp only at y1 y2 q1 q2 ⊢
    rw [w64s (n := x * 256) (by omega) (by omega), w64s (by omega) (by omega)]
    exact key _ _ _ (by omega) (by omega) q1 (by omega)
  · exact key _ _ _ (by omega) x1 p1 (by omega)
theorem one_tot (N : Nat) {code : List Int} (hc : Bs code) (n : Int) {pos : Int} (h1 : 0 ≤ pos) (h2 : pos ≤ 1000000) (seed : Int) :
    Tot (spec_l1Cur_one.g N n code pos seed) fun r => r.2.1 = code ∧ 0 ≤ r.2.2.1 ∧ r.2.2.1 ≤ pos + 2 := by
  unfold spec_l1Cur_one.g spec_l1Cur_one.o0
  refine Tot.bind (pick_tot N hc n h1 h2 seed) ?_
  rintro ⟨x, c, p, s⟩ ⟨⟨x1, x2⟩, rfl, p1, p2⟩
  exact Tot.now ⟨rfl, p1, p2⟩
theorem among_tot (N : Nat) {code : List Int} (hc : Bs code) (l : List Int) (hl : 0 < l.length) {pos : Int} (h1 : 0 ≤ pos) (h2 : pos ≤ 1000000) (seed : Int) :
    Tot (spec_l1Cur_among.g N l code pos seed) fun r => r.1 ∈ l ∧ r.2.1 = code ∧ 0 ≤ r.2.2.1 ∧ r.2.2.1 ≤ pos + 2 := by
  unfold spec_l1Cur_among.g spec_l1Cur_among.o0
  refine Tot.bind (pick_tot N hc _ h1 h2 seed) ?_
  rintro ⟨x, c, p, s⟩ ⟨⟨x1, x2⟩, rfl, p1, p2⟩
  dsimp only at x1 x2 p1 p2 ⊢
  have hx : x.toNat < l.length := by omega
  rw [dcT x1, cond_true, dcT (by omega), cond_true, getAt hx]
  exact Tot.now ⟨List.getElem_mem hx, rfl, p1, p2⟩
theorem of_tot (N : Nat) {code : List Int} (hc : Bs code) (l : List ByteArray) (hl : 0 < l.length) {pos : Int} (h1 : 0 ≤ pos) (h2 : pos ≤ 1000000) (seed : Int) :
    Tot (spec_l1Cur_of.g N l code pos seed) fun r => r.1 ∈ l ∧ r.2.1 = code ∧ 0 ≤ r.2.2.1 ∧ r.2.2.1 ≤ pos + 2 := by
  unfold spec_l1Cur_of.g spec_l1Cur_of.o0
  refine Tot.bind (pick_tot N hc _ h1 h2 seed) ?_
  rintro ⟨x, c, p, s⟩ ⟨⟨x1, x2⟩, rfl, p1, p2⟩
  dsimp only at x1 x2 p1 p2 ⊢
  have hx : x.toNat < l.length := by omega
  rw [dcT x1, cond_true, dcT (by omega), cond_true, getAt hx]
  exact Tot.now ⟨List.getElem_mem hx, rfl, p1, p2⟩
theorem digit_tot {N : Nat} (hN : 0 < N) {n : Int} (h1 : 0 ≤ n) (h2 : n < 10) : Tot (spec_l1Num.g N n) fun r => r.size = 1 := by
  obtain ⟨k, rfl⟩ : ∃ k, N = k + 1 := ⟨N - 1, by omega⟩
  unfold spec_l1Num.g spec_l1Num.gk spec_l1Num.s spec_l1Num.o0
  rw [dcT (by omega), cond_true]
  exact ⟨_, rfl, rfl⟩
end Go.Proofs.Ytpmipkbfohcjiaa.M

namespace Go.Proofs.Ytpmipkbfohcjiaa.M
open Go Go.PM Go.Proofs.Ytpmipkbfohcjiaa.P
set_option linter.unusedVariables false
set_option linter.unusedSimpArgs false
set_option maxRecDepth 100000
/-- few and short texts -/
def Few (n : Nat) (l : List ByteArray) : Prop := l.length ≤ n ∧ ∀ s ∈ l, s.size ≤ 16
theorem Few.add {n : Nat} {l : List ByteArray} {s : ByteArray} (h : Few n l) (hs : s.size ≤ 16) : Few (n + 1) (l ++ [s]) := by
  refine ⟨by rw [List.length_append]; have := h.1; simp; omega, fun x hx => ?_⟩
  rcases List.mem_append.1 hx with hx | hx
  · exact h.2 x hx
  · simp only [List.mem_singleton] at hx; rw [hx]; exact hs
theorem Few.mono {n m : Nat} {l : List ByteArray} (h : Few n l) (hm : n ≤ m) : Few m l := ⟨Nat.le_trans h.1 hm, h.2⟩
theorem blt_of {a b : Nat} (h : a < b) : Nat.blt a b = true := blT h
/-- behind a phrase -/
theorem d3_tot {N : Nat} {Q : spec_l1Cur_sureTune.R → Prop} {code : List Int} {v0 : List ByteArray} {v1 v2 : Int} {v3 : ByteArray} (v4 : Bool) (pos seed : Int) (n : Nat) (hf : Few n v0) (hn : n ≤ 100) (hs : v3.size ≤ 16)
    {c5 : (List ByteArray) → Int → Int → (List Int) → Int → Int → Option spec_l1Cur_sureTune.R} (hv : 1 ≤ v2) (hv2 : v2 ≤ 6) (hk : ∀ out, Few (n + 1) out → v0.length ≤ out.length → Tot (c5 out v1 (v2 - 1) code pos seed) Q) : Tot (spec_l1Cur_sureTune.d3 N v0 v1 v2 v3 v4 code pos seed c5) Q := by
  unfold spec_l1Cur_sureTune.d3 spec_l1Cur_sureTune.o3 spec_l1Cur_sureTune.d4 spec_l1Cur_sureTune.o4
  dsimp only
  rw [w64s (n := v2 - 1) (by omega) (by omega)]
  refine Tot.bif (fun _ => ?_) (fun _ => hk _ (hf.mono (by omega)) (Nat.le_refl _))
  have := hf.1
  rw [blT (by simp; omega), cond_true]
  exact hk _ (hf.add hs) (by simp)
theorem l6_tot {N : Nat} (hN : 0 < N) {Q : spec_l1Cur_sureTune.R → Prop} {code : List Int} (hc : Bs code) {v0 : List ByteArray} {v1 v2 : Int} (n : Nat) (hf : Few n v0) (hn : n ≤ 50) (h4 : 1 ≤ v1 ∧ v1 ≤ 4) (hv : 1 ≤ v2) (hv2 : v2 ≤ 6)
    {c5 : (List ByteArray) → Int → Int → (List Int) → Int → Int → Option spec_l1Cur_sureTune.R} (P : Int) (hP : P ≤ 10000) (hk : ∀ out pos seed, Few (n + 2) out → 0 < out.length → 0 ≤ pos → pos ≤ P → Tot (c5 out v1 (v2 - 1) code pos seed) Q) :
    ∀ (k fuel : Nat) (s : ByteArray) (pos seed : Int), k < fuel → s.size + k ≤ 8 → 0 ≤ pos → pos + 2 * k + 2 ≤ P → Tot (spec_l1Cur_sureTune.l6 N fuel v0 v1 v2 s (k : Int) code pos seed c5) Q
  | 0, fuel+1, s, pos, seed, hfu, hs, h1, h2 => by
    unfold spec_l1Cur_sureTune.l6 spec_l1Cur_sureTune.d6 spec_l1Cur_sureTune.o6
    have := hf.1
    rw [dcF (by omega), cond_false, blT (by simp; omega), cond_true]
    refine Tot.bind (one_tot N hc 4 h1 (by omega) seed) ?_
    rintro ⟨b, c, p, s'⟩ ⟨rfl, p1, p2⟩
    dsimp only at p1 p2 ⊢
    refine Tot.bif (fun _ => ?_) (fun _ => ?_)
    all_goals exact d3_tot _ _ _ (n + 1) (hf.add (by omega)) (by omega) (by omega) hv hv2 (fun out ho hl => hk out _ _ ho (by simp at hl; omega) p1 (by omega))
  | k+1, fuel+1, s, pos, seed, hfu, hs, h1, h2 => by
    unfold spec_l1Cur_sureTune.l6 spec_l1Cur_sureTune.d6 spec_l1Cur_sureTune.o6
    rw [dcT (by omega), cond_true]
    refine Tot.bind (pick_tot N hc v1 h1 (by omega) seed) ?_
    rintro ⟨x, c, p, s'⟩ ⟨⟨x1, x2⟩, rfl, p1, p2⟩
    dsimp only at x1 x2 p1 p2 ⊢
    rw [w64s (n := 1 + x) (by omega) (by omega)]
    refine Tot.bind (digit_tot hN (by omega) (by omega)) ?_
    intro r hr
    rw [show Nat.ble (s.size + r.size) 9223372036854775807 = true from Nat.ble_eq_true_of_le (by omega), cond_true, w64s (by omega) (by omega), show ((k + 1 : Nat) : Int) - 1 = (k : Int) by omega]
    exact l6_tot hN hc n hf hn h4 hv hv2 P hP hk k fuel _ _ _ (by omega) (by rw [ByteArray.size_append]; omega) p1 (by omega)
  | _, 0, _, _, _, hfu, _, _, _ => by omega
theorem l2_tot {N : Nat} (hN : 0 < N) {Q : spec_l1Cur_sureTune.R → Prop} {code : List Int} (hc : Bs code) {v1 v2 : Int} (h4 : 1 ≤ v1 ∧ v1 ≤ 4) (hv : 1 ≤ v2) (hv2 : v2 ≤ 6)
    {c5 : (List ByteArray) → Int → Int → (List Int) → Int → Int → Option spec_l1Cur_sureTune.R} (P : Int) (hP : P ≤ 10000) (hk : ∀ out pos seed, Few 2 out → 0 < out.length → 0 ≤ pos → pos ≤ P → Tot (c5 out v1 (v2 - 1) code pos seed) Q) :
    ∀ (k fuel : Nat) (s : ByteArray) (pos seed : Int), k < fuel → s.size + k ≤ 8 → 0 ≤ pos → pos + 2 * k + 2 ≤ P → Tot (spec_l1Cur_sureTune.l2 N fuel v1 v2 s (k : Int) code pos seed c5) Q
  | 0, fuel+1, s, pos, seed, hfu, hs, h1, h2 => by
    unfold spec_l1Cur_sureTune.l2 spec_l1Cur_sureTune.d2 spec_l1Cur_sureTune.o2
    rw [dcF (by omega), cond_false, blT (by simp), cond_true]
    refine Tot.bind (one_tot N hc 4 h1 (by omega) seed) ?_
    rintro ⟨b, c, p, s'⟩ ⟨rfl, p1, p2⟩
    dsimp only at p1 p2 ⊢
    have f0 : Few 0 [] := ⟨Nat.le_refl _, by simp⟩
    have key : ∀ v4, Tot (spec_l1Cur_sureTune.d3 N ([] ++ [s]) v1 v2 s v4 c p s' c5) Q := by
      intro v4
      unfold spec_l1Cur_sureTune.d3 spec_l1Cur_sureTune.o3 spec_l1Cur_sureTune.d4 spec_l1Cur_sureTune.o4
      dsimp only
      rw [w64s (n := v2 - 1) (by omega) (by omega)]
      refine Tot.bif (fun _ => ?_) (fun _ => hk _ _ _ ((f0.add (s := s) (by omega)).mono (by omega)) (by simp) p1 (by omega))
      rw [blT (by simp), cond_true]
      exact hk _ _ _ ((f0.add (s := s) (by omega)).add (by omega)) (by simp) p1 (by omega)
    refine Tot.bif (fun _ => key _) (fun _ => key _)
  | k+1, fuel+1, s, pos, seed, hfu, hs, h1, h2 => by
    unfold spec_l1Cur_sureTune.l2 spec_l1Cur_sureTune.d2 spec_l1Cur_sureTune.o2
    rw [dcT (by omega), cond_true]
    refine Tot.bind (pick_tot N hc v1 h1 (by omega) seed) ?_
    rintro ⟨x, c, p, s'⟩ ⟨⟨x1, x2⟩, rfl, p1, p2⟩
    dsimp only at x1 x2 p1 p2 ⊢
    rw [w64s (n := 1 + x) (by omega) (by omega)]
    refine Tot.bind (digit_tot hN (by omega) (by omega)) ?_
    intro r hr
    rw [show Nat.ble (s.size + r.size) 9223372036854775807 = true from Nat.ble_eq_true_of_le (by omega), cond_true, w64s (by omega) (by omega), show ((k + 1 : Nat) : Int) - 1 = (k : Int) by omega]
    exact l2_tot hN hc h4 hv hv2 P hP hk k fuel _ _ _ (by omega) (by rw [ByteArray.size_append]; omega) p1 (by omega)
  | _, 0, _, _, _, hfu, _, _, _ => by omega
theorem w5 {x : Int} (h0 : 0 ≤ x) (h1 : x < 4 ∨ x = 0) : ∃ k : Nat, w64 (1 + x) = (k : Int) ∧ 1 ≤ k ∧ k ≤ 4 := by
  refine ⟨(1 + x).toNat, ?_, by omega, by omega⟩
  rw [w64s (by omega) (by omega)]; omega
def SureR (code : List Int) (P : Int) (r : spec_l1Cur_sureTune.R) : Prop := Few 12 r.1 ∧ 0 < r.1.length ∧ r.2.1 = code ∧ 0 ≤ r.2.2.1 ∧ r.2.2.1 ≤ P
theorem l5_tot {N : Nat} (hN : 10 < N) {code : List Int} (hc : Bs code) {v1 : Int} (h4 : 1 ≤ v1 ∧ v1 ≤ 4) (P : Int) (hP : P ≤ 10000) :
    ∀ (j fuel : Nat) (out : List ByteArray) (pos seed : Int), j < fuel → j ≤ 5 → Few (12 - 2 * j) out → 0 < out.length → 0 ≤ pos → pos + 12 * j ≤ P → Tot (spec_l1Cur_sureTune.l5 N fuel out v1 (j : Int) code pos seed) (SureR code P)
  | 0, fuel+1, out, pos, seed, hfu, hj, hf, ho, h1, h2 => by
    unfold spec_l1Cur_sureTune.l5 spec_l1Cur_sureTune.d5 spec_l1Cur_sureTune.o5
    rw [dcF (by omega), cond_false]
    exact Tot.now ⟨hf, ho, rfl, h1, by dsimp only; omega⟩
  | j+1, fuel+1, out, pos, seed, hfu, hj, hf, ho, h1, h2 => by
    unfold spec_l1Cur_sureTune.l5 spec_l1Cur_sureTune.d5 spec_l1Cur_sureTune.o5
    rw [dcT (by omega), cond_true]
    refine Tot.bind (pick_tot N hc 4 h1 (by omega) seed) ?_
    rintro ⟨x, c, p, s'⟩ ⟨⟨x1, x2⟩, rfl, p1, p2⟩
    dsimp only at x1 x2 p1 p2 ⊢
    obtain ⟨k, e, k1, k2⟩ := w5 x1 x2
    rw [e]
    have hol := hf.1
    refine l6_tot (by omega) hc out.length ⟨Nat.le_refl _, hf.2⟩ (by omega) h4 (by omega) (by omega) (pos + 12) (by omega) ?_ k N ⟨#[]⟩ _ _ (by omega) (by show 0 + k ≤ 8; omega) p1 (by omega)
    intro out' pos' seed' hf' ho' q1 q2
    rw [show ((j + 1 : Nat) : Int) - 1 = (j : Int) by omega]
    exact l5_tot hN hc h4 P hP j fuel out' pos' seed' (by omega) (by omega) (hf'.mono (by omega)) ho' q1 (by omega)
  | _, 0, _, _, _, hfu, _, _, _, _, _ => by omega
theorem sure_tot {N : Nat} (hN : 10 < N) {code : List Int} (hc : Bs code) {pos : Int} (h1 : 0 ≤ pos) (h2 : pos ≤ 1000) (seed : Int) : Tot (spec_l1Cur_sureTune.g N code pos seed) (SureR code (pos + 100)) := by
  obtain ⟨M, rfl⟩ : ∃ M, N = M + 1 := ⟨N - 1, by omega⟩
  unfold spec_l1Cur_sureTune.g spec_l1Cur_sureTune.o0
  refine Tot.bind (pick_tot _ hc 4 h1 (by omega) seed) ?_
  rintro ⟨x, c, p, s⟩ ⟨⟨x1, x2⟩, rfl, p1, p2⟩
  dsimp only at x1 x2 p1 p2 ⊢
  refine Tot.bind (pick_tot _ hc 6 p1 (by omega) s) ?_
  rintro ⟨y, c', q, t⟩ ⟨⟨y1, y2⟩, hcc, q1, q2⟩
  dsimp only at y1 y2 q1 q2 hcc ⊢
  subst hcc
  rw [w64s (n := 1 + x) (by omega) (by omega), w64s (n := 1 + y) (by omega) (by omega)]
  unfold spec_l1Cur_sureTune.l1 spec_l1Cur_sureTune.d1 spec_l1Cur_sureTune.o1
  dsimp only
  rw [dcT (by omega), cond_true]
  refine Tot.bind (pick_tot _ hc 4 q1 (by omega) t) ?_
  rintro ⟨z, c', r, u⟩ ⟨⟨z1, z2⟩, hcc, r1, r2⟩
  dsimp only at z1 z2 r1 r2 hcc ⊢
  subst hcc
  obtain ⟨k, e, k1, k2⟩ := w5 z1 z2
  rw [e]
  refine l2_tot (by omega) hc (by omega) (by omega) (by omega) (pos + 20) (by omega) ?_ k _ ⟨#[]⟩ _ _ (by omega) (by show 0 + k ≤ 8; omega) r1 (by omega)
  intro out pos' seed' hf ho a1 a2
  obtain ⟨j, hj⟩ : ∃ j : Nat, 1 + y - 1 = (j : Int) := ⟨y.toNat, by omega⟩
  rw [hj]
  exact l5_tot (by omega) hc (by omega) (pos + 100) (by omega) j M out pos' seed' (by omega) (by omega) (hf.mono (by omega)) ho a1 (by omega)
def TuneR (code : List Int) (P : Int) (r : spec_l1Cur_tune.R) : Prop := Few 14 r.1 ∧ r.2.1 = code ∧ 0 ≤ r.2.2.1 ∧ r.2.2.1 ≤ P
theorem tl2_tot {N : Nat} {code : List Int} (hc : Bs code) (P : Int) (hP : P ≤ 10000) : ∀ (d fuel : Nat) (out : List ByteArray) (pos seed : Int), d < fuel → out.length + d = 13 → 0 < out.length → (∀ s ∈ out, s.size ≤ 16) → 0 ≤ pos → pos + 2 * d + 2 ≤ P → Tot (spec_l1Cur_tune.l2 N fuel out code pos seed) (TuneR code P)
  | d, fuel+1, out, pos, seed, hfu, hl, ho, hs, h1, h2 => by
    unfold spec_l1Cur_tune.l2 spec_l1Cur_tune.d2 spec_l1Cur_tune.o2
    refine Tot.bind (pick_tot _ hc 2 h1 (by omega) seed) ?_
    rintro ⟨x, c, p, s⟩ ⟨⟨x1, x2⟩, rfl, p1, p2⟩
    dsimp only at x1 x2 p1 p2 ⊢
    rw [w64s (n := 12 + x) (by omega) (by omega)]
    refine Tot.dif (fun hlt => ?_) (fun hlt => Tot.now ⟨⟨by show out.length ≤ 14; omega, hs⟩, rfl, p1, by dsimp only; omega⟩)
    rw [dcT (by omega), cond_true, Int.toNat_zero, getAt ho, blT (by simp; omega), cond_true]
    obtain ⟨d', rfl⟩ : ∃ d', d = d' + 1 := ⟨d - 1, by omega⟩
    refine tl2_tot hc P hP d' fuel _ p s (by omega) (by simp; omega) (by simp) (fun y hy => ?_) p1 (by omega)
    rcases List.mem_append.1 hy with hy | hy
    · exact hs y hy
    · simp only [List.mem_singleton] at hy; rw [hy]; exact hs _ (List.getElem_mem ho)
  | _, 0, _, _, _, hfu, _, _, _, _, _ => by omega
theorem tune_tot {N : Nat} (hN : 100 < N) {code : List Int} (hc : Bs code) {pos : Int} (h1 : 0 ≤ pos) (h2 : pos ≤ 1000) (seed : Int) : Tot (spec_l1Cur_tune.g N code pos seed) (TuneR code (pos + 200)) := by
  unfold spec_l1Cur_tune.g spec_l1Cur_tune.o0
  refine Tot.bind (sure_tot (by omega) hc h1 h2 seed) ?_
  rintro ⟨out, c, p, s⟩ ⟨hf, ho, rfl, p1, p2⟩
  dsimp only at hf ho p1 p2 ⊢
  refine Tot.bind (pick_tot _ hc 14 p1 (by omega) s) ?_
  rintro ⟨x, c', q, t⟩ ⟨⟨x1, x2⟩, hcc, q1, q2⟩
  dsimp only at x1 x2 q1 q2 hcc ⊢
  subst hcc
  have hd : ∀ q t, 0 ≤ q → q ≤ pos + 200 → Tot (spec_l1Cur_tune.d1 N out c' q t) (TuneR c' (pos + 200)) := fun q t h1 h2 => Tot.now ⟨hf.mono (by omega), rfl, h1, h2⟩
  refine Tot.bif (fun _ => ?_) (fun _ => Tot.bif (fun _ => Tot.now ⟨⟨Nat.zero_le _, by simp⟩, rfl, q1, by dsimp only; omega⟩) (fun _ => Tot.bif (fun _ => ?_) (fun _ => hd _ _ q1 (by omega))))
  · rw [blT ho, cond_true]
    refine Tot.bind (of_tot _ hc _ (by decide) q1 (by omega) t) ?_
    rintro ⟨y, c2, r, u⟩ ⟨hy, hcc, r1, r2⟩
    dsimp only at hy r1 r2 hcc ⊢
    subst hcc
    have hys : y.size ≤ 16 := by
      have : ∀ s ∈ ([(⟨#[]⟩ : ByteArray), (⟨#[57]⟩ : ByteArray), (⟨#[48]⟩ : ByteArray), (⟨#[49, 50, 51, 52, 53, 54, 55, 56]⟩ : ByteArray), (⟨#[49, 50, 51, 52, 53, 54, 55, 56, 49]⟩ : ByteArray)] : List ByteArray), s.size ≤ 16 := by decide
      exact this y hy
    rw [dcT (by omega), cond_true, Int.toNat_zero, getAt ho, show Nat.ble out.length (out.set 0 y).length = true by rw [List.length_set]; exact Nat.ble_eq_true_of_le (Nat.le_refl _), cond_true]
    refine Tot.now ⟨⟨?_, fun s hs => ?_⟩, rfl, r1, by dsimp only; omega⟩
    · have := hf.1; simp; omega
    · rcases List.mem_or_eq_of_mem_set (List.mem_of_mem_take hs) with h | h
      · exact hf.2 s h
      · rw [h]; exact hys
  · have := hf.1
    exact tl2_tot hc (pos + 200) (by omega) (13 - out.length) N out q t (by omega) (by omega) ho hf.2 q1 (by omega)
theorem quarter_tot (N : Nat) {code : List Int} (hc : Bs code) {pos : Int} (h1 : 0 ≤ pos) (h2 : pos ≤ 10000) (seed : Int) : Tot (spec_l1Cur_quarter.g N code pos seed) (fun _ => True) := by
  unfold spec_l1Cur_quarter.g spec_l1Cur_quarter.o0
  refine Tot.bind (one_tot _ hc 12 h1 (by omega) seed) ?_
  rintro ⟨x, c, p, s⟩ ⟨rfl, p1, p2⟩
  dsimp only at p1 p2 ⊢
  refine Tot.bif (fun _ => Tot.bind (among_tot _ hc _ (by decide) p1 (by omega) s) fun _ _ => Tot.now trivial) (fun _ => Tot.bind (pick_tot _ hc _ p1 (by omega) s) fun _ _ => Tot.now trivial)
theorem drawPlayed_tot {N : Nat} (hN : 100 < N) {code : List Int} (hc : Bs code) : ∃ l q, Few 14 l ∧ spec_DrawPlayedAt.g N code = some (l, q) := by
  have : Tot (spec_DrawPlayedAt.g N code) fun r => Few 14 r.1 := by
    unfold spec_DrawPlayedAt.g spec_DrawPlayedAt.o0
    refine Tot.bind (P := fun r => Few 14 r.1) ?_ fun r hr => Tot.now hr
    unfold spec_DrawPhrasesOf.g spec_DrawPhrasesOf.o0
    refine Tot.bind (tune_tot hN hc (by omega) (by omega) 0) ?_
    rintro ⟨l, c, p, s⟩ ⟨hf, rfl, p1, p2⟩
    dsimp only at hf p1 p2 ⊢
    exact Tot.bind (quarter_tot _ hc p1 (by omega) s) fun _ _ => Tot.now hf
  obtain ⟨⟨l, q⟩, h1, h2⟩ := this
  exact ⟨l, q, h2, h1⟩
theorem drawNext_tot {N : Nat} (hN : 100 < N) {code : List Int} (hc : Bs code) : ∃ l b f, Few 14 l ∧ spec_DrawNextQuarterWith.g N code = some (l, b, f) := by
  have : Tot (spec_DrawNextQuarterWith.g N code) fun r => Few 14 r.1 := by
    unfold spec_DrawNextQuarterWith.g spec_DrawNextQuarterWith.o0
    refine Tot.bind (P := fun r => Few 14 r.1) ?_ fun r hr => Tot.now hr
    unfold spec_DrawBellUpTo.g spec_DrawBellUpTo.o0
    refine Tot.bind (tune_tot hN hc (by omega) (by omega) 0) ?_
    rintro ⟨l, c, p, s⟩ ⟨hf, rfl, p1, p2⟩
    dsimp only at hf p1 p2 ⊢
    refine Tot.bind (among_tot _ hc _ (by decide) p1 (by omega) s) ?_
    rintro ⟨x, c, q, t⟩ ⟨hx, hcc, q1, q2⟩
    dsimp only at hx q1 q2 hcc ⊢
    subst hcc
    exact Tot.bind (quarter_tot _ hc q1 (by omega) t) fun _ _ => Tot.now hf
  obtain ⟨⟨l, b, f⟩, h1, h2⟩ := this
  exact ⟨l, b, f, h2, h1⟩
theorem big_eq (N : Nat) (a b : List Int) (ha : a.length < 4000000000000000000) : ∃ r, laws_big.g N a b = some r ∧ (r = false → a.length ≤ 1048576 ∧ b.length ≤ 1048576) := by
  unfold laws_big.g laws_big.o0
  by_cases h : a.length > 1048576
  · rw [dcT (show (a.length : Int) > 1048576 by omega)]
    exact ⟨true, rfl, fun h => by cases h⟩
  · rw [dcF (show ¬ (a.length : Int) > 1048576 by omega), w64s (n := 1048576 - (a.length : Int)) (by omega) (by omega)]
    exact ⟨_, rfl, fun h => by have := of_decide_eq_false h; omega⟩
end Go.Proofs.Ytpmipkbfohcjiaa.M

namespace Go.Proofs.Ytpmipkbfohcjiaa.M
open Go Go.PM Go.Proofs.Ytpmipkbfohcjiaa.P
set_option linter.unusedVariables false
set_option linter.unusedSimpArgs false
set_option maxRecDepth 100000
theorem bellP_ok {l : List ByteArray} {k c : Nat} (h1 : askOk l (k : Int) = true) (h2 : inB (c : Int) 1 8 = true) : bellP l c k = ((upTo (fun x => bellN x c) l k : Int), true) := by
  unfold bellP
  rw [h1, h2, Bool.and_self, if_pos rfl, Int.toNat_natCast, Int.toNat_natCast]
theorem askOk_of {l : List ByteArray} (ht : tuneOk l = true) {k : Nat} (h : k ≤ 1000000) : askOk l (k : Int) = true := by
  unfold askOk
  rw [ht, Bool.true_and, inB_iff]
  omega
theorem d30_false (N : Nat) (m : List ByteArray) (b f a v : Int) : laws_FnTunesPlayed.d13 N m b f a v false = some true := rfl
theorem d30_true {N : Nat} (m : List ByteArray) (hm : Sm N m) {k c j : Nat} (ht : tuneOk m = true) (hb : inB (c : Int) 1 8 = true) (hp : 0 < bellN (notesOf m (k + j)) c) (hf : ∀ i, i < j → ¬ 0 < bellN (notesOf m (k + i)) c) (c1 : k + j < 1000000) : laws_FnTunesPlayed.d13 N m c k ((k + j : Nat) : Int) ((upTo (fun x => bellN x c) m k : Nat) : Int) true = some true := by
  have h1 := (tuneOk_facts ht).1
  have hn := bell_next m h1 c (k + j)
  have he := bell_same m h1 c k j hf
  unfold laws_FnTunesPlayed.d13 laws_FnTunesPlayed.o13
  rw [cond_true, w1add (by omega), implBellUp_eq m hm, Option.bind_some, implBellUp_eq m hm, Option.bind_some, bellP_ok (askOk_of ht (by omega)) hb, bellP_ok (askOk_of ht (by omega)) hb]
  rw [dcT (show ((k + j : Nat) : Int) ≥ (k : Int) by omega), cond_true, cond_true]
  dsimp only
  rw [ieqT (show ((upTo (fun x => bellN x c) m (k + j) : Nat) : Int) = ((upTo (fun x => bellN x c) m k : Nat) : Int) by rw [he]), cond_true, cond_true]
  rw [dcT (show ((upTo (fun x => bellN x c) m (k + j + 1) : Nat) : Int) > ((upTo (fun x => bellN x c) m (k + j) : Nat) : Int) from Int.ofNat_lt.2 (by rw [hn]; exact Nat.lt_add_of_pos_right hp))]
theorem d22_false (N : Nat) (m : List ByteArray) (b f a v : Int) : laws_FnTunesPlayed.d10 N m b f a false v false = some true := by
  unfold laws_FnTunesPlayed.d10 laws_FnTunesPlayed.o10
  rw [cond_false, cond_false]
  exact d30_false N m b f a v
theorem d22_true {N : Nat} (m : List ByteArray) (hm : Sm N m) {k c j : Nat} (ht : tuneOk m = true) (hb : inB (c : Int) 1 8 = true) (hp : 0 < bellN (notesOf m (k + j)) c) (hf : ∀ i, i < j → ¬ 0 < bellN (notesOf m (k + i)) c) : laws_FnTunesPlayed.d10 N m c k ((k + j : Nat) : Int) true ((upTo (fun x => bellN x c) m k : Nat) : Int) false = some true := by
  unfold laws_FnTunesPlayed.d10 laws_FnTunesPlayed.o10
  rw [cond_false, cond_true]
  by_cases c1 : k + j < 1000000
  · rw [dcT (show ((k + j : Nat) : Int) < 1000000 by omega)]
    exact d30_true m hm ht hb hp hf c1
  · rw [dcF (show ¬ ((k + j : Nat) : Int) < 1000000 by omega)]
    exact d30_false N m _ _ _ _
def MOk (N : Nat) (M : List Int) : Prop := ∃ m b f, Sm N m ∧ spec_DrawNextQuarterWith.g N M = some (m, b, f)
theorem d6_eq {N : Nat} (M : List Int) (hM : MOk N M) : laws_FnTunesPlayed.d6 N M = some true := by
  obtain ⟨m, b, f, hm, e0⟩ := hM
  obtain ⟨r, e1, e2, hr⟩ := next_eq m hm b f
  unfold laws_FnTunesPlayed.d6 laws_FnTunesPlayed.o6
  rw [e0, Option.bind_some]
  dsimp only
  rw [e1, Option.bind_some, e2, Option.bind_some, implBellUp_eq m hm, Option.bind_some, specBellUp_eq m hm, Option.bind_some]
  rw [beq_self_eq_true, Bool.not_true, cond_false, bne_self_eq_false, cond_false, beq_self_eq_true, Bool.not_true, cond_false, bne_self_eq_false, cond_false]
  rcases hr with hr | ⟨k, c, j, ha, hb, hk, hc, hr, hp, hf⟩
  · rw [hr, cond_false]
    exact d22_false N m _ _ _ _
  · rw [hk] at ha ⊢
    rw [hc] at hb ⊢
    rw [hr, cond_true, bellP_ok ha hb, Bool.not_true]
    exact d22_true m hm (askOk_facts ha).1 hb hp hf
theorem fullL_get (l : List ByteArray) (n i : Nat) (h : i < (fullL l n).length) : (fullL l n)[i] = notesOf l (4 * i + 3) := by simp [fullL]
theorem l21_eq (N : Nat) (l : List ByteArray) (M : List Int) (hl : Sm N l) (hm : MOk N M) (ht : tuneOk l = true) {H : Nat} (hH : H ≤ 12) : ∀ (d i n : Nat), i + d = H → d < n → laws_FnTunesPlayed.l9 N n M l (fullL l H) (H : Int) (i : Int) = some true
  | 0, i, n+1, hi, hn => by
    unfold laws_FnTunesPlayed.l9 laws_FnTunesPlayed.d9 laws_FnTunesPlayed.o9
    rw [dcF (by omega), cond_false]
    exact d6_eq M hm
  | d+1, i, n+1, hi, hn => by
    have hlt : i < (fullL l H).length := by rw [fullL_length]; omega
    unfold laws_FnTunesPlayed.l9 laws_FnTunesPlayed.d9 laws_FnTunesPlayed.o9 laws_FnTunesPlayed.d12 laws_FnTunesPlayed.o12
    rw [fullL_length, dcT (show (i : Int) < (H : Int) by omega), dcT (show (0 : Int) ≤ (i : Int) by omega), cond_true, cond_true, cond_true, Int.toNat_natCast, getAt hlt, fullL_get, w43 (by omega), implPlayed_eq l hl, Option.bind_some]
    have e : playedP l ((4 * i + 3 : Nat) : Int) = (notesOf l (4 * i + 3), true) := by
      unfold playedP
      rw [askOk_of ht (by omega), if_pos rfl, Int.toNat_natCast]
    rw [e]
    simp only [beq_self_eq_true, Bool.not_true, cond_false]
    rw [w1add (by omega)]
    exact l21_eq N l M hl hm ht hH d (i+1) n (by omega) (by omega)
  | _, _, 0, _, hn => by omega
theorem d11_eq {N : Nat} (l : List ByteArray) (M : List Int) (hl : Sm N l) (hm : MOk N M) : laws_FnTunesPlayed.d3 N M l (hoursP l).1 (hoursP l).2 (fullP l).1 = some true := by
  unfold laws_FnTunesPlayed.d3 laws_FnTunesPlayed.o3 hoursP fullP
  cases ht : tuneOk l
  · exact d6_eq M hm
  · obtain ⟨h1, h2, hs⟩ := tuneOk_facts ht
    have hh := hours_facts h1 h2
    have hN := hl.1
    simp only [if_true, cond_true]
    rw [dcF (show ¬ (hoursN l.length : Int) < 1 by omega), cond_false, dcF (show ¬ (hoursN l.length : Int) > (l.length : Int) by omega), cond_false, fullL_length, ineF rfl, cond_false, ieqF (by omega), cond_false]
    rw [show (10 : Int) * (hoursN l.length : Int) = ((10 * hoursN l.length : Nat) : Int) by omega, w64s (n := ((10 * hoursN l.length : Nat) : Int)) (by omega) (by omega), tmodN, hh.2.2, ineF (show ((0 : Nat) : Int) = 0 from rfl)]
    unfold laws_FnTunesPlayed.d5 laws_FnTunesPlayed.o5
    rw [cond_false, fullL_length]
    exact l21_eq N l M hl hm ht (by omega) (hoursN l.length) 0 N (by omega) (by omega)
theorem standsP_ok {l : List ByteArray} {k : Nat} (h1 : askOk l (k : Int) = true) : standsP l k = (((before k % l.length : Nat) : Int), true) := by
  unfold standsP
  rw [h1, if_pos rfl, Int.toNat_natCast]
theorem notesP_ok {l : List ByteArray} {k : Nat} (h1 : askOk l (k : Int) = true) : notesP l k = ((upTo (·.size) l k : Int), true) := by
  unfold notesP
  rw [h1, if_pos rfl, Int.toNat_natCast]
theorem l32_eq (N : Nat) (l : List ByteArray) (M : List Int) (hl : Sm N l) (hm : MOk N M) (ht : tuneOk l = true) {k : Nat} (hk : k ≤ 1000000) : ∀ (d i n : Nat), i + d = 8 → d < n →
    laws_FnTunesPlayed.l11 N n M l k ((before k % l.length : Nat) : Int) (upTo (·.size) l k : Int) (hoursN l.length : Int) true (bellsL l 8) (fullL l (hoursN l.length)) (bellsUp l k i : Int) ((i + 1 : Nat) : Int) = some true
  | 0, i, n+1, hi, hn => by
    obtain ⟨h1, h2, hs⟩ := tuneOk_facts ht
    have hh := hours_facts h1 h2
    have hd := d11_eq l M hl hm
    unfold hoursP fullP at hd
    rw [ht] at hd
    simp only [if_true] at hd
    unfold laws_FnTunesPlayed.l11 laws_FnTunesPlayed.d11 laws_FnTunesPlayed.o11 laws_FnTunesPlayed.d15 laws_FnTunesPlayed.o15
    rw [dcF (by omega), cond_false, show i = 8 by omega, bellsUp_all l ht, ineF rfl, cond_false, w64s (n := 4 * (hoursN l.length : Int)) (by omega) (by omega), w64s (n := 1000000 - 4 * (hoursN l.length : Int)) (by omega) (by omega)]
    by_cases c : (k : Int) ≤ 1000000 - 4 * (hoursN l.length : Int)
    · rw [dcT c, cond_true, show (k : Int) + 4 * (hoursN l.length : Int) = ((k + 4 * hoursN l.length : Nat) : Int) by omega, w64s (n := ((k + 4 * hoursN l.length : Nat) : Int)) (by omega) (by omega), implStands_eq l hl, standsP_ok (askOk_of ht (by omega)), Option.bind_some, before_hours, Nat.add_mod, hh.2.2, Nat.add_zero, Nat.mod_mod]
      simp only [bne_self_eq_false, Bool.not_true, cond_false]
      exact hd
    · rw [dcF c, cond_false]
      exact hd
  | d+1, i, n+1, hi, hn => by
    obtain ⟨h1, h2, hs⟩ := tuneOk_facts ht
    have hbl := bellsL_le l 8
    have hN := hl.1
    unfold laws_FnTunesPlayed.l11 laws_FnTunesPlayed.d11 laws_FnTunesPlayed.o11 laws_FnTunesPlayed.d14 laws_FnTunesPlayed.o14
    rw [dcT (by omega), cond_true, implBellUp_eq l hl, bellP_ok (askOk_of ht hk) (by rw [inB_iff]; omega), Option.bind_some]
    simp only [Bool.not_true, cond_false]
    have hu := upTo_le (fun x => bellN x (i + 1)) l h1 (fun x hx => Nat.le_trans (bellN_le x _) (hs x hx).2) k
    have hb8 : bellsUp l k i ≤ 192000640 := by
      have : ∀ c, c ≤ 8 → bellsUp l k c ≤ c * 24000080 := by
        intro c
        induction c with
        | zero => intro _; exact Nat.le_refl _
        | succ c ih =>
          intro hc
          have := ih (by omega)
          have := upTo_le (fun x => bellN x (c + 1)) l h1 (fun x hx => Nat.le_trans (bellN_le x _) (hs x hx).2) k
          rw [bellsUp]; omega
      have := this i (by omega)
      omega
    have ih := l32_eq N l M hl hm ht hk d (i+1) n (by omega) (by omega)
    rw [bellsUp] at ih
    by_cases c : 0 < upTo (fun x => bellN x (i + 1)) l k
    · rw [dcT (show ((upTo (fun x => bellN x (i + 1)) l k : Nat) : Int) > 0 by omega), cond_true, kHas_eq _ _ (by omega) (by omega), Option.bind_some, dcT ((bellsL_mem l (i + 1) 8).2 ⟨by omega, by omega, bell_has l h1 c⟩)]
      simp only [Bool.not_true, cond_false]
      rw [w2add (by omega), w1add (by omega)]
      exact ih
    · rw [dcF (show ¬ ((upTo (fun x => bellN x (i + 1)) l k : Nat) : Int) > 0 by omega), cond_false, w2add (by omega), w1add (by omega)]
      exact ih
  | _, _, 0, _, hn => by omega
theorem d17_eq {N : Nat} (l : List ByteArray) (M : List Int) (hl : Sm N l) (hm : MOk N M) (ht : tuneOk l = true) {k : Nat} (hk : k ≤ 1000000) :
    laws_FnTunesPlayed.d4 N M l k (notesOf l k) (plays l.length (before k) (cnt k)) ((before k % l.length : Nat) : Int) (upTo (·.size) l k : Int) (hoursN l.length : Int) true (bellsL l 8) (fullL l (hoursN l.length)) (l.length : Int) false = some true := by
  obtain ⟨h1, h2, hs⟩ := tuneOk_facts ht
  have hN := hl.1
  have hfin := l32_eq N l M hl hm ht hk 8 0 N (by omega) (by omega)
  unfold laws_FnTunesPlayed.d4 laws_FnTunesPlayed.o4 laws_FnTunesPlayed.d7 laws_FnTunesPlayed.o7 laws_FnTunesPlayed.d8 laws_FnTunesPlayed.o8
  rw [cond_false]
  by_cases c : k < 1000000
  · have hb := before_le k
    have hc : cnt k = k % 4 + 1 := rfl
    have hml := Nat.mod_lt (before k) (show l.length > 0 by omega)
    have hnx := notes_next l h1 k
    have hu := upTo_le (·.size) l h1 (fun x hx => (hs x hx).2) (k + 1)
    rw [dcT (show (k : Int) < 1000000 by omega), cond_true, w1add (by omega), implStands_eq l hl, standsP_ok (askOk_of ht (by omega)), Option.bind_some, implNotesUp_eq l hl, notesP_ok (askOk_of ht (by omega)), Option.bind_some]
    simp only [Bool.not_true, cond_false]
    rw [plays_length, ieqF (by omega), cond_false, w2add (by omega), tmodN, before_step, Nat.mod_add_mod, ← hc, ineF rfl, cond_false]
    rw [w64s (n := ((upTo (·.size) l (k + 1) : Nat) : Int) - ((upTo (·.size) l k : Nat) : Int)) (by omega) (by omega), ineF (by omega), cond_false]
    exact hfin
  · rw [dcF (show ¬ (k : Int) < 1000000 by omega), cond_false]
    exact hfin
theorem l10_eq (N : Nat) (l : List ByteArray) (M : List Int) (hl : Sm N l) (hm : MOk N M) (ht : tuneOk l = true) {k : Nat} (hk : k ≤ 1000000) : ∀ (d i n : Nat) (acc : ByteArray), i + d = cnt k → d < n → acc.size ≤ 8 * i → addAll l acc ((plays l.length (before k) (cnt k)).drop i) = notesOf l k →
    laws_FnTunesPlayed.l2 N n M l k (notesOf l k) (plays l.length (before k) (cnt k)) ((before k % l.length : Nat) : Int) (upTo (·.size) l k : Int) (hoursN l.length : Int) true (bellsL l 8) (fullL l (hoursN l.length)) (l.length : Int) acc (plays l.length (before k) (cnt k)) (cnt k : Int) (i : Int) = some true
  | 0, i, n+1, acc, hi, hn, ha, he => by
    unfold laws_FnTunesPlayed.l2 laws_FnTunesPlayed.d2 laws_FnTunesPlayed.o2
    have hc : cnt k = k % 4 + 1 := rfl
    rw [List.drop_eq_nil_of_le (by rw [plays_length]; omega), addAll] at he
    rw [dcF (by omega), cond_false, he, beq_self_eq_true, Bool.not_true, cond_false, plays_length, show Int.tmod (k : Int) 4 = ((k % 4 : Nat) : Int) from tmodN k 4, w1add (by omega), ← hc, ineF rfl]
    exact d17_eq l M hl hm ht hk
  | d+1, i, n+1, acc, hi, hn, ha, he => by
    obtain ⟨h1, h2, hs⟩ := tuneOk_facts ht
    have hc : cnt k = k % 4 + 1 := rfl
    have hlt : i < (plays l.length (before k) (cnt k)).length := by rw [plays_length]; omega
    have hml := Nat.mod_lt (before k) (show l.length > 0 by omega)
    have hmi := Nat.mod_lt (before k + i) (show l.length > 0 by omega)
    have hz := (hs _ (el_mem l hmi)).2
    have hel : el l ((before k + i) % l.length) = l[(before k + i) % l.length] := by unfold el; rw [List.getElem?_eq_getElem hmi, Option.getD_some]
    unfold laws_FnTunesPlayed.l2 laws_FnTunesPlayed.d2 laws_FnTunesPlayed.o2
    rw [List.drop_eq_getElem_cons hlt, addAll, plays_get, Int.toNat_natCast] at he
    rw [dcT (show (i : Int) < (cnt k : Int) by omega), dcT (show (0 : Int) ≤ (i : Int) by omega), dcT (show (i : Int) < ((plays l.length (before k) (cnt k)).length : Int) by omega), cond_true, cond_true, cond_true, Int.toNat_natCast, getAt hlt, plays_get, ieqF (by omega), cond_false, w2add (by omega), tmodN, Nat.mod_add_mod, ineF rfl, cond_false]
    rw [dcT (show (0 : Int) ≤ (((before k + i) % l.length : Nat) : Int) by omega), dcT (show (((before k + i) % l.length : Nat) : Int) < (l.length : Int) by omega), cond_true, cond_true, Int.toNat_natCast, getAt hmi, ← hel]
    rw [show Nat.ble (acc.size + (el l ((before k + i) % l.length)).size) 9223372036854775807 = true from Nat.ble_eq_true_of_le (by omega), cond_true, w1add (by omega)]
    exact l10_eq N l M hl hm ht hk d (i+1) n _ (by omega) (by omega) (by rw [ByteArray.size_append]; omega) he
  | _, _, 0, _, _, hn, _, _ => by omega
theorem d5_eq {N : Nat} (l : List ByteArray) (M : List Int) (hl : Sm N l) (hm : MOk N M) (q : Int) : laws_FnTunesPlayed.d1 N M l q (playedP l q).1 (playedP l q).2 (phrasesP l q).1 (standsP l q).1 (notesP l q).1 (hoursP l).1 (hoursP l).2 (bellsP l).1 (fullP l).1 false = some true := by
  unfold laws_FnTunesPlayed.d1 laws_FnTunesPlayed.o1
  rw [cond_false]
  cases c : askOk l q
  · have : (playedP l q).2 = false := by unfold playedP; rw [c]; rfl
    rw [this, cond_false]
    exact d11_eq l M hl hm
  · obtain ⟨ht, q0, q1⟩ := askOk_facts c
    obtain ⟨k, rfl⟩ := Int.eq_ofNat_of_zero_le q0
    have hN := hl.1
    have hc : cnt k = k % 4 + 1 := rfl
    have e1 : playedP l (k : Int) = (notesOf l k, true) := by unfold playedP; rw [c, if_pos rfl, Int.toNat_natCast]
    have e2 : phrasesP l (k : Int) = (plays l.length (before k) (cnt k), true) := by unfold phrasesP; rw [c, if_pos rfl, Int.toNat_natCast]
    have e3 : hoursP l = ((hoursN l.length : Int), true) := by unfold hoursP; rw [ht, if_pos rfl]
    have e4 : bellsP l = (bellsL l 8, true) := by unfold bellsP; rw [ht, if_pos rfl]
    have e5 : fullP l = (fullL l (hoursN l.length), true) := by unfold fullP; rw [ht, if_pos rfl]
    rw [e1, e2, e3, e4, e5, standsP_ok c, notesP_ok c]
    dsimp only
    rw [cond_true, plays_length]
    exact l10_eq N l M hl hm ht (by omega) (cnt k) 0 N ⟨#[]⟩ (by omega) (by omega) (by exact Nat.le_refl 0) rfl
theorem FnTunesPlayed.pure : FnTunesPlayed.Pure := by
  intro a M ha hM
  obtain ⟨rb, eb, hb⟩ := big_eq 200000000000000 a M (by have := ha.2.1; omega)
  refine ⟨200000000000000, ?_⟩
  unfold laws_FnTunesPlayed.g laws_FnTunesPlayed.o0
  rw [eb, Option.bind_some]
  cases rb with
  | true => rfl
  | false =>
  obtain ⟨b1, b2⟩ := hb rfl
  have hwf : ∀ x : Int, (Lit.int .u8 x).wf = true → 0 ≤ x ∧ x ≤ 255 := by
    intro x hx
    simp [Lit.wf, IntKind.min, IntKind.max, IntKind.signed, IntKind.bits] at hx
    omega
  have cA : Bs a := ⟨b1, fun x hx => hwf x (ha.2.2 x hx)⟩
  have cM : Bs M := ⟨b2, fun x hx => hwf x (hM.2.2 x hx)⟩
  obtain ⟨l, q, hf, e0⟩ := drawPlayed_tot (N := 200000000000000) (by omega) cA
  obtain ⟨m, b, f, hfm, em⟩ := drawNext_tot (N := 200000000000000) (by omega) cM
  have sm : ∀ x : List ByteArray, Few 14 x → Sm 200000000000000 x := fun x h => ⟨by omega, by have := h.1; omega, by have := h.1; omega, fun s hs => by have := h.2 s hs; omega⟩
  have hl := sm l hf
  have hm : MOk 200000000000000 M := ⟨m, b, f, sm m hfm, em⟩
  generalize (200000000000000 : Nat) = N at *
  rw [cond_false, e0, Option.bind_some]
  dsimp only
  have hN := hl.1
  have hbl := bellsL_le l 8
  have a1 : (phrasesP l q).1.length ≤ 20 := by
    have hc : cnt q.toNat = q.toNat % 4 + 1 := rfl
    unfold phrasesP
    split
    · rw [plays_length]; omega
    · exact Nat.zero_le _
  have a2 : (bellsP l).1.length ≤ 20 := by
    unfold bellsP
    split
    · show (bellsL l 8).length ≤ 20; omega
    · exact Nat.zero_le _
  have a3 : (fullP l).1.length ≤ 20 := by
    unfold fullP
    split
    · rename_i ht
      have := hours_facts (tuneOk_facts ht).1 (tuneOk_facts ht).2.1
      have := (tuneOk_facts ht).2.1
      show (fullL l (hoursN l.length)).length ≤ 20
      rw [fullL_length]; omega
    · exact Nat.zero_le _
  have b1 : (phrasesP l q).2 = askOk l q := by unfold phrasesP; cases askOk l q <;> rfl
  have b2 : (playedP l q).2 = askOk l q := by unfold playedP; cases askOk l q <;> rfl
  have b3 : (standsP l q).2 = askOk l q := by unfold standsP; cases askOk l q <;> rfl
  have b4 : (notesP l q).2 = askOk l q := by unfold notesP; cases askOk l q <;> rfl
  have b5 : (hoursP l).2 = tuneOk l := by unfold hoursP; cases tuneOk l <;> rfl
  have b6 : (bellsP l).2 = tuneOk l := by unfold bellsP; cases tuneOk l <;> rfl
  have b7 : (fullP l).2 = tuneOk l := by unfold fullP; cases tuneOk l <;> rfl
  have hd := d5_eq l M hl hm q
  rw [implPlayed_eq l hl, Option.bind_some, specPlayed_eq l hl, Option.bind_some, implPhrases_eq l hl, Option.bind_some, specPhrases_eq l hl, Option.bind_some, implStands_eq l hl, Option.bind_some, specStands_eq l hl, Option.bind_some, implNotesUp_eq l hl, Option.bind_some, specNotesUp_eq l hl, Option.bind_some, implHours_eq l hl, Option.bind_some, specHours_eq l hl, Option.bind_some, implBellsOf_eq l hl, Option.bind_some, specBellsOf_eq l hl, Option.bind_some, implFull_eq l hl, Option.bind_some, specFull_eq l hl, Option.bind_some]
  rw [kSame_eq _ _ (by omega) (by omega), kSame_eq _ _ (by omega) (by omega), kTexts_self _ (by omega) (by omega), isTune_eq l hl, specIsTune_eq l hl]
  simp only [beq_self_eq_true, bne_self_eq_false, Bool.not_true, cond_false, Option.bind_some, decide_true, b1, b2, b3, b4, b5, b6, b7]
  rw [b2, b5] at hd
  cases c : askOk l q
  · rw [c] at hd
    rw [cond_false]
    exact hd
  · rw [c] at hd
    obtain ⟨ht, _, _⟩ := askOk_facts c
    rw [ht] at hd ⊢
    rw [cond_true]
    exact hd
end Go.Proofs.Ytpmipkbfohcjiaa.M
