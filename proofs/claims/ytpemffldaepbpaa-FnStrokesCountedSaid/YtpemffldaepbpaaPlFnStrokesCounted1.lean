/- Plain lemmas about what the functions compute (part 1). No conditions but those stated. -/
import Derived.Test.YtpemffldaepbpaaFnFnStrokesCounted3
/- Strokes of halves, counted. -/
namespace Str
def st (h n : Nat) : Nat := bif Nat.beq (n % (2*h) % 2) 1 then 1 else bif Nat.beq (n % (2*h)) 0 then h else n % (2*h) / 2
def sm (h : Nat) : Nat → Nat
  | 0 => 0
  | n + 1 => sm h n + st h n
def tn (h : Nat) : Nat := h * (h+1) / 2 + h
def allLt (n : Nat) (p : Nat → Bool) : Bool := Nat.rec true (fun i b => p i && b) n
theorem allLt_spec {n : Nat} {p : Nat → Bool} (h : allLt n p = true) : ∀ i, i < n → p i = true := by
  induction n with
  | zero => intro i hi; omega
  | succ n ih =>
    simp only [allLt, Bool.and_eq_true] at h
    intro i hi
    by_cases e : i = n
    · subst e; exact h.1
    · exact ih h.2 i (by omega)
theorem st_mod (h n : Nat) : st h (n % (2*h)) = st h n := by simp only [st, Nat.mod_mod]
theorem st_add (h n k : Nat) : st h (n + 2*h*k) = st h n := by simp only [st, Nat.add_mul_mod_self_left]
set_option maxRecDepth 100000 in
theorem sm_turn {h : Nat} (h1 : 2 ≤ h) (h2 : h ≤ 24) : sm h (2*h) = tn h := by
  have := allLt_spec (n := 25) (p := fun h => Nat.blt h 2 || Nat.beq (sm h (2*h)) (tn h)) (by decide +kernel) h (by omega)
  simp only [Bool.or_eq_true, Nat.blt_eq, Nat.beq_eq] at this
  omega
theorem sm_wrap {h : Nat} (h1 : 2 ≤ h) (h2 : h ≤ 24) : ∀ n, sm h (n + 2*h) = sm h n + tn h
  | 0 => by rw [Nat.zero_add, sm_turn h1 h2]; simp [sm]
  | n + 1 => by
    have e : n + 1 + 2*h = (n + 2*h) + 1 := by omega
    rw [e]; simp only [sm]; rw [sm_wrap h1 h2 n]
    have := st_add h n 1
    rw [Nat.mul_one] at this
    omega
theorem sm_wraps {h : Nat} (h1 : 2 ≤ h) (h2 : h ≤ 24) (n : Nat) : ∀ k, sm h (n + 2*h*k) = sm h n + tn h * k
  | 0 => by simp
  | k + 1 => by
    have : n + 2*h*(k+1) = (n + 2*h*k) + 2*h := by rw [Nat.mul_succ]; omega
    rw [this, sm_wrap h1 h2, sm_wraps h1 h2 n k, Nat.mul_succ]; omega
theorem sm_dm {h : Nat} (h1 : 2 ≤ h) (h2 : h ≤ 24) (n : Nat) : sm h n = n / (2*h) * tn h + sm h (n % (2*h)) := by
  have := sm_wraps h1 h2 (n % (2*h)) (n / (2*h))
  rw [Nat.mod_add_div] at this
  rw [this, Nat.mul_comm (tn h)]; omega
theorem nbT {a b : Nat} (h : a = b) : Nat.beq a b = true := by subst h; exact Nat.beq_refl a
theorem nbF {a b : Nat} (h : ¬ a = b) : Nat.beq a b = false := by
  cases e : Nat.beq a b
  · rfl
  · exact absurd (Nat.eq_of_beq_eq_true e) h
theorem st_pos {h : Nat} (h1 : 2 ≤ h) (n : Nat) : 1 ≤ st h n := by
  have : n % (2*h) < 2*h := Nat.mod_lt _ (by omega)
  unfold st
  by_cases e : (n % (2*h) % 2) = 1
  · rw [nbT e]; simp
  · rw [nbF e]
    by_cases e' : n % (2*h) = 0
    · rw [nbT e']; simp; omega
    · rw [nbF e']; simp; omega
theorem st_le {h : Nat} (h1 : 2 ≤ h) (n : Nat) : st h n ≤ h := by
  have : n % (2*h) < 2*h := Nat.mod_lt _ (by omega)
  unfold st
  cases Nat.beq (n % (2*h) % 2) 1 <;> cases Nat.beq (n % (2*h)) 0 <;> simp <;> omega
theorem sm_mono (h : Nat) {a b : Nat} (hab : a ≤ b) : sm h a ≤ sm h b := by
  induction hab with
  | refl => exact Nat.le_refl _
  | step _ ih => simp only [sm]; omega
theorem sm_lt {h : Nat} (h1 : 2 ≤ h) {a b : Nat} (hab : a < b) : sm h a < sm h b := by
  have : sm h (a+1) ≤ sm h b := sm_mono h hab
  have := st_pos h1 a
  simp only [sm] at *; omega
theorem sm_bound {h : Nat} (h1 : 2 ≤ h) : ∀ n, sm h n ≤ h * n
  | 0 => by simp [sm]
  | n + 1 => by have := sm_bound h1 n; have := st_le h1 n; simp only [sm, Nat.mul_succ]; omega
/-- a half with so many strokes comes within a turn -/
theorem st_has {h : Nat} (h1 : 2 ≤ h) {s : Nat} (h3 : 1 ≤ s) (h4 : s ≤ h) (half : Nat) : ∃ w, w < 2*h ∧ st h (half + w) = s := by
  have hm : half % (2*h) < 2*h := Nat.mod_lt _ (by omega)
  have hd := Nat.mod_add_div half (2*h)
  obtain ⟨t, ht, hs⟩ : ∃ t, t < 2*h ∧ st h t = s := by
    by_cases e : s = h
    · refine ⟨0, by omega, ?_⟩; unfold st; rw [Nat.zero_mod, nbF (by omega), nbT rfl, e]; rfl
    · refine ⟨2*s, by omega, ?_⟩
      unfold st
      rw [Nat.mod_eq_of_lt (show 2*s < 2*h by omega)]
      have e1 : Nat.beq (2*s%2) 1 = false := by rw [Nat.mul_mod_right]; rfl
      have e2 : Nat.beq (2*s) 0 = false := nbF (by omega)
      rw [e1, e2]; simp
  by_cases hc : half % (2*h) ≤ t
  · refine ⟨t - half % (2*h), by omega, ?_⟩
    have e : half + (t - half % (2*h)) = t + 2*h*(half / (2*h)) := by omega
    rw [e, st_add, hs]
  · refine ⟨t + 2*h - half % (2*h), by omega, ?_⟩
    have e : half + (t + 2*h - half % (2*h)) = t + 2*h*(half / (2*h) + 1) := by rw [Nat.mul_succ]; omega
    rw [e, st_add, hs]
end Str

namespace Go.Proofs.Ytpemffldaepbpaa.M
open Go Go.PM Str
set_option linter.unusedVariables false
set_option linter.unusedSimpArgs false
def inB (a lo hi : Int) : Bool := decide (lo ≤ a) && decide (a ≤ hi)
theorem inB_iff {a lo hi : Int} : inB a lo hi = true ↔ lo ≤ a ∧ a ≤ hi := by simp [inB]
theorem inB_not {a lo hi : Int} : inB a lo hi = false ↔ ¬ (lo ≤ a ∧ a ≤ hi) := by rw [← inB_iff]; simp
theorem within_eq (N : Nat) (a b c : Int) : impl_within.g N a b c = some (inB a b c) := by
  unfold impl_within.g impl_within.o0 inB
  by_cases h : b ≤ a
  · rw [dcT (show a ≥ b from h)]; rfl
  · rw [dcF (show ¬ a ≥ b from h)]; rfl
theorem l1In_eq (N : Nat) (a b c : Int) : spec_l1In.g N a b c = some (inB a b c) := by
  unfold spec_l1In.g spec_l1In.o0 inB
  by_cases h : b ≤ a
  · rw [dcT (show a ≥ b from h)]; rfl
  · rw [dcF (show ¬ a ≥ b from h)]; rfl
theorem isDial_eq (N : Nat) (a : Int) : impl_isDial.g N a = some (inB a 2 24) := by
  unfold impl_isDial.g impl_isDial.o0; rw [within_eq]; rfl
theorem diHours_eq (N : Nat) (a : Int) : spec_diHours.g N a = some (inB a 2 24) := by
  unfold spec_diHours.g spec_diHours.o0; rw [l1In_eq]; rfl
def halfB (h a : Int) : Bool := inB h 2 24 && inB a 0 (2*h-1)
theorem halfB_iff {h a : Int} : halfB h a = true ↔ (2 ≤ h ∧ h ≤ 24) ∧ 0 ≤ a ∧ a ≤ 2*h-1 := by simp [halfB, inB_iff]
theorem isHalf_eq (N : Nat) (h a : Int) : impl_isHalf.g N h a = some (halfB h a) := by
  unfold impl_isHalf.g impl_isHalf.o0 halfB
  rw [isDial_eq, Option.bind_some]
  cases e : inB h 2 24 with
  | false => rfl
  | true =>
    have := inB_iff.1 e
    rw [cond_true, w64s (n := 2*h) (by omega) (by omega), w64s (by omega) (by omega), within_eq]; rfl
theorem stHalf_eq (N : Nat) (h a : Int) : spec_stHalf.g N h a = some (halfB h a) := by
  unfold spec_stHalf.g spec_stHalf.o0 halfB
  rw [diHours_eq, Option.bind_some]
  cases e : inB h 2 24 with
  | false => rfl
  | true =>
    have := inB_iff.1 e
    rw [cond_true, w64s (n := 2*h) (by omega) (by omega), w64s (by omega) (by omega), l1In_eq]; rfl
theorem tmodN (a b : Nat) : Int.tmod (a : Int) (b : Int) = ((a % b : Nat) : Int) := (Int.ofNat_tmod a b).symm
theorem tdivN (a b : Nat) : Int.tdiv (a : Int) (b : Int) = ((a / b : Nat) : Int) := (Int.ofNat_tdiv a b).symm
theorem w2 {h : Nat} (h2 : h ≤ 24) : w64 (2 * (h : Int)) = ((2*h : Nat) : Int) := by rw [w64s (by omega) (by omega)]; omega
theorem w2add {a b : Nat} (h : a + b < 9000000000000000000) : w64 ((a : Int) + (b : Int)) = ((a + b : Nat) : Int) := by rw [w64s (by omega) (by omega)]; omega
theorem w1add {a : Nat} (h : a < 9000000000000000000) : w64 ((a : Int) + 1) = ((a + 1 : Nat) : Int) := by rw [w64s (by omega) (by omega)]; omega
theorem strokes_eq (N : Nat) {h : Nat} (h1 : 2 ≤ h) (h2 : h ≤ 24) (n : Nat) : impl_strokes.g N h n = some ((st h n : Nat) : Int) := by
  have hm : n % (2*h) < 2*h := Nat.mod_lt _ (by omega)
  unfold impl_strokes.g impl_strokes.o0 st
  rw [w2 h2, ieqF (by omega), cond_false, tmodN, show ((2 : Int)) = ((2 : Nat) : Int) from rfl, tmodN, tdivN]
  generalize n % (2*h) = m at *
  by_cases e : m = 0
  · subst e; rfl
  · rw [ieqF (by omega), cond_false, nbF e]
    by_cases e' : m % 2 = 1
    · rw [nbT e', ieqT (by omega)]; rfl
    · rw [nbF e', ieqF (by omega), cond_false, w64s (by omega) (by omega)]; rfl
theorem stAt_eq (N : Nat) {h : Nat} (h1 : 2 ≤ h) (h2 : h ≤ 24) {n : Nat} (hn : n < 2*h) : spec_stAt.g N h n = some ((st h n : Nat) : Int) := by
  unfold spec_stAt.g spec_stAt.o0 st
  rw [Nat.mod_eq_of_lt hn, show ((2 : Int)) = ((2 : Nat) : Int) from rfl, tmodN, tdivN]
  by_cases e' : n % 2 = 1
  · rw [nbT e', ieqT (by omega)]; rfl
  · rw [nbF e', ieqF (by omega), cond_false, cond_false]
    by_cases e : n = 0
    · subst e; rfl
    · rw [nbF e, ieqF (by omega), cond_false, w64s (by omega) (by omega)]; rfl
theorem stAtm_eq (N : Nat) {h : Nat} (h1 : 2 ≤ h) (h2 : h ≤ 24) (n : Nat) : spec_stAt.g N h ((n % (2*h) : Nat) : Int) = some ((st h n : Nat) : Int) := by
  rw [stAt_eq N h1 h2 (Nat.mod_lt _ (by omega)), st_mod]
theorem ofTurn_eq (N : Nat) {h : Nat} (h2 : h ≤ 24) : impl_ofTurn.g N h = some ((tn h : Nat) : Int) := by
  unfold impl_ofTurn.g impl_ofTurn.o0 tn
  have : h * (h + 1) ≤ 24 * 25 := Nat.mul_le_mul h2 (by omega)
  rw [w1add (by omega), ← Int.natCast_mul, w64s (n := ((h * (h+1) : Nat) : Int)) (by omega) (by omega), show ((2 : Int)) = ((2 : Nat) : Int) from rfl, tdivN, w64s (n := ((h * (h+1) / 2 : Nat) : Int)) (by omega) (by omega), w2add (by omega)]
theorem sm_small {h : Nat} (h1 : 2 ≤ h) (h2 : h ≤ 24) {n : Nat} (hn : n ≤ 3000000000) : sm h n ≤ 72000000000 := by
  have := sm_bound h1 n
  have : h * n ≤ 24 * n := Nat.mul_le_mul_right _ h2
  omega
theorem tn_small {h : Nat} (h2 : h ≤ 24) : tn h ≤ 324 := by
  have : h * (h + 1) ≤ 24 * 25 := Nat.mul_le_mul h2 (by omega)
  unfold tn; omega
theorem before_loop (N : Nat) {h : Nat} (h1 : 2 ≤ h) (h2 : h ≤ 24) {m : Nat} (hm : m < 2*h) (b : Nat) (hb : b ≤ 72000000000) : ∀ (k i n : Nat), m = i + k → k < n → impl_before.l1 N n h ((b + sm h i : Nat) : Int) m i = some ((b + sm h m : Nat) : Int)
  | 0, i, n + 1, hi, hn => by
    have : i = m := by omega
    subst this
    unfold impl_before.l1 impl_before.d1 impl_before.o1
    rw [dcF (by omega)]; rfl
  | k + 1, i, n + 1, hi, hn => by
    unfold impl_before.l1 impl_before.d1 impl_before.o1
    have := sm_small h1 h2 (n := i) (by omega)
    have := st_le h1 i
    rw [dcT (by omega), cond_true, strokes_eq N h1 h2, Option.bind_some, w2add (by omega), w1add (by omega)]
    have := before_loop N h1 h2 hm b hb k (i+1) n (by omega) (by omega)
    rw [show b + sm h i + st h i = b + sm h (i+1) by simp only [sm]; omega]
    exact this
  | _, _, 0, _, hn => by omega
theorem before_eq {N : Nat} (hN : 10000 ≤ N) {h : Nat} (h1 : 2 ≤ h) (h2 : h ≤ 24) {n : Nat} (hn : n ≤ 3000000000) : impl_before.g N h n = some ((sm h n : Nat) : Int) := by
  have hm : n % (2*h) < 2*h := Nat.mod_lt _ (by omega)
  have e := sm_dm h1 h2 n
  have hs := sm_small h1 h2 hn
  unfold impl_before.g impl_before.o0
  have hd : n / (2*h) ≤ n := Nat.div_le_self _ _
  rw [w2 h2, ieqF (by omega), cond_false, ofTurn_eq N h2, Option.bind_some, cond_false, tdivN, tmodN]
  generalize n / (2*h) = q at *
  rw [w64s (n := ((q : Nat) : Int)) (by omega) (by omega), ← Int.natCast_mul, w64s (by omega) (by omega)]
  have := before_loop N h1 h2 hm (q * tn h) (by omega) (n % (2*h)) 0 N (by omega) (by omega)
  rw [show q * tn h + sm h 0 = q * tn h by simp [sm], ← e] at this
  exact this
/-- what is heard at so many halves -/
def hf (h half : Nat) : Nat → List Int
  | 0 => []
  | k + 1 => hf h half k ++ [((st h (half + k) : Nat) : Int)]
theorem hf_len (h half : Nat) : ∀ k, (hf h half k).length = k
  | 0 => rfl
  | k + 1 => by simp [hf, hf_len h half k]
theorem hf_get (h half : Nat) : ∀ (k i : Nat), i < k → (hf h half k)[i]? = some ((st h (half + i) : Nat) : Int)
  | k + 1, i, hi => by
    simp only [hf]
    by_cases e : i = k
    · subst e
      rw [List.getElem?_append_right (by rw [hf_len]; omega), hf_len]; simp
    · rw [List.getElem?_append_left (by rw [hf_len]; omega)]
      exact hf_get h half k i (by omega)
theorem heardFrom_loop (N : Nat) {h : Nat} (h1 : 2 ≤ h) (h2 : h ≤ 24) {half c : Nat} (hf1 : half ≤ 1000000000) (hc : c ≤ 1000000) : ∀ (k i n : Nat), c = i + k → k < n → impl_heardFrom.l1 N n h half (hf h half i) c i = some (hf h half c)
  | 0, i, n + 1, hi, hn => by
    have : i = c := by omega
    subst this
    unfold impl_heardFrom.l1 impl_heardFrom.d1 impl_heardFrom.o1
    rw [dcF (by omega)]; rfl
  | k + 1, i, n + 1, hi, hn => by
    unfold impl_heardFrom.l1 impl_heardFrom.d1 impl_heardFrom.o1
    rw [dcT (by omega), cond_true, w2add (by omega), strokes_eq N h1 h2, Option.bind_some, blT (by rw [hf_len]; simp; omega), cond_true, w1add (by omega)]
    exact heardFrom_loop N h1 h2 hf1 hc k (i+1) n (by omega) (by omega)
  | _, _, 0, _, hn => by omega
theorem heardFrom_eq {N : Nat} {h : Nat} (h1 : 2 ≤ h) (h2 : h ≤ 24) {half c : Nat} (hf1 : half ≤ 1000000000) (hc : c ≤ 1000000) (hN : c < N) : impl_heardFrom.g N h half c = some (hf h half c) :=
  heardFrom_loop N h1 h2 hf1 hc c 0 N (by omega) hN
theorem stFrom_loop (N : Nat) {h : Nat} (h1 : 2 ≤ h) (h2 : h ≤ 24) {half c : Nat} (hf1 : half ≤ 1000000000) (hc : c ≤ 1000000) : ∀ (k i n : Nat), c = i + k → k < n → spec_stFrom.l2 N n h half c (hf h half i) i = some (hf h half c)
  | 0, i, n + 1, hi, hn => by
    have : i = c := by omega
    subst this
    unfold spec_stFrom.l2 spec_stFrom.d2 spec_stFrom.o2
    rw [dcF (by omega)]; rfl
  | k + 1, i, n + 1, hi, hn => by
    unfold spec_stFrom.l2 spec_stFrom.d2 spec_stFrom.o2
    rw [dcT (by omega), cond_true, w2add (by omega), w2 h2, ieqF (by omega), cond_false, tmodN, stAtm_eq N h1 h2, Option.bind_some, blT (by rw [hf_len]; simp; omega), cond_true, w1add (by omega)]
    exact stFrom_loop N h1 h2 hf1 hc k (i+1) n (by omega) (by omega)
  | _, _, 0, _, hn => by omega
theorem stFrom_eq {N : Nat} {h : Nat} (h1 : 2 ≤ h) (h2 : h ≤ 24) {half c : Nat} (hf1 : half ≤ 1000000000) (hc : c ≤ 1000000) (hN : c < N) : spec_stFrom.g N h half c = some (hf h half c) := by
  obtain ⟨n, rfl⟩ : ∃ n, N = n + 1 := ⟨N - 1, by omega⟩
  unfold spec_stFrom.g spec_stFrom.o0
  show spec_stFrom.l1 (n+1) (n+1) h half c ((0 : Nat) : Int) = _
  unfold spec_stFrom.l1 spec_stFrom.d1 spec_stFrom.o1
  dsimp only
  cases c with
  | zero => rw [dcF (by omega)]; rfl
  | succ c =>
    rw [dcT (by omega), cond_true, w2add (by omega), w2 h2, ieqF (by omega), cond_false, tmodN, stAtm_eq _ h1 h2, Option.bind_some, blT (by simp), cond_true, w1add (by omega)]
    exact stFrom_loop (n+1) h1 h2 hf1 hc c 1 n (by omega) (by omega)
def heardB (h half c : Int) : Bool := halfB h half && inB c 1 60
theorem HeardFrom_eq {N : Nat} (hN : 10000 ≤ N) (h half c : Int) : impl_HeardFrom.g N h half c = some (if heardB h half c then (hf h.toNat half.toNat c.toNat, true) else ([], false)) := by
  unfold impl_HeardFrom.g impl_HeardFrom.o0 impl_HeardFrom.d1 impl_HeardFrom.o1 heardB
  rw [isHalf_eq, Option.bind_some]
  cases e : halfB h half with
  | false => rfl
  | true =>
    rw [Bool.not_true, cond_false, within_eq, Option.bind_some]
    cases e' : inB c 1 60 with
    | false => rfl
    | true =>
      have e1 := halfB_iff.1 e
      have e2 := inB_iff.1 e'
      obtain ⟨h, rfl⟩ := Int.eq_ofNat_of_zero_le (show 0 ≤ h by omega)
      obtain ⟨half, rfl⟩ := Int.eq_ofNat_of_zero_le (show 0 ≤ half by omega)
      obtain ⟨c, rfl⟩ := Int.eq_ofNat_of_zero_le (show 0 ≤ c by omega)
      dsimp only
      rw [Bool.not_true, cond_false, heardFrom_eq (by omega) (by omega) (by omega) (by omega) (by omega)]; rfl
theorem sHeardFrom_eq {N : Nat} (hN : 10000 ≤ N) (h half c : Int) : spec_HeardFrom.g N h half c = some (if heardB h half c then (hf h.toNat half.toNat c.toNat, true) else ([], false)) := by
  unfold spec_HeardFrom.g spec_HeardFrom.o0 spec_HeardFrom.d1 spec_HeardFrom.o1 heardB
  rw [stHalf_eq, Option.bind_some]
  cases e : halfB h half with
  | false => rfl
  | true =>
    rw [Bool.not_true, cond_false, l1In_eq, Option.bind_some]
    cases e' : inB c 1 60 with
    | false => rfl
    | true =>
      have e1 := halfB_iff.1 e
      have e2 := inB_iff.1 e'
      obtain ⟨h, rfl⟩ := Int.eq_ofNat_of_zero_le (show 0 ≤ h by omega)
      obtain ⟨half, rfl⟩ := Int.eq_ofNat_of_zero_le (show 0 ≤ half by omega)
      obtain ⟨c, rfl⟩ := Int.eq_ofNat_of_zero_le (show 0 ≤ c by omega)
      dsimp only
      rw [Bool.not_true, cond_false, stFrom_eq (by omega) (by omega) (by omega) (by omega) (by omega)]; rfl
theorem StrokesAt_eq (N : Nat) (h half : Int) : impl_StrokesAt.g N h half = some (if halfB h half then (((st h.toNat half.toNat : Nat) : Int), true) else (0, false)) := by
  unfold impl_StrokesAt.g impl_StrokesAt.o0
  rw [isHalf_eq, Option.bind_some]
  cases e : halfB h half with
  | false => rfl
  | true =>
    have e1 := halfB_iff.1 e
    obtain ⟨h, rfl⟩ := Int.eq_ofNat_of_zero_le (show 0 ≤ h by omega)
    obtain ⟨half, rfl⟩ := Int.eq_ofNat_of_zero_le (show 0 ≤ half by omega)
    rw [Bool.not_true, cond_false, strokes_eq N (by omega) (by omega)]; rfl
theorem sStrokesAt_eq (N : Nat) (h half : Int) : spec_StrokesAt.g N h half = some (if halfB h half then (((st h.toNat half.toNat : Nat) : Int), true) else (0, false)) := by
  unfold spec_StrokesAt.g spec_StrokesAt.o0
  rw [stHalf_eq, Option.bind_some]
  cases e : halfB h half with
  | false => rfl
  | true =>
    have e1 := halfB_iff.1 e
    obtain ⟨h, rfl⟩ := Int.eq_ofNat_of_zero_le (show 0 ≤ h by omega)
    obtain ⟨half, rfl⟩ := Int.eq_ofNat_of_zero_le (show 0 ≤ half by omega)
    rw [Bool.not_true, cond_false, stAt_eq N (by omega) (by omega) (by omega)]; rfl
/-- at a half, counted on -/
theorem StrokesAt_at (N : Nat) {h : Nat} (h1 : 2 ≤ h) (h2 : h ≤ 24) (n : Nat) : impl_StrokesAt.g N h ((n % (2*h) : Nat) : Int) = some (((st h n : Nat) : Int), true) := by
  have hm : n % (2*h) < 2*h := Nat.mod_lt _ (by omega)
  rw [StrokesAt_eq, if_pos (halfB_iff.2 (by omega))]
  rw [Int.toNat_natCast, Int.toNat_natCast, st_mod]
def betB (h a b : Int) : Bool := inB h 2 24 && (inB a 0 1000000 && inB b 0 1000000)
theorem betB_iff {h a b : Int} : betB h a b = true ↔ (2 ≤ h ∧ h ≤ 24) ∧ (0 ≤ a ∧ a ≤ 1000000) ∧ 0 ≤ b ∧ b ≤ 1000000 := by simp [betB, inB_iff]
/-- strokes at halves one behind the other -/
def bet (h a b : Nat) : Nat := sm h (b+1) - sm h a
theorem StrokesBetween_eq {N : Nat} (hN : 10000 ≤ N) (h a b : Int) : impl_StrokesBetween.g N h a b = some (if betB h a b then (((bet h.toNat a.toNat b.toNat : Nat) : Int), true) else (0, false)) := by
  unfold impl_StrokesBetween.g impl_StrokesBetween.o0 impl_StrokesBetween.d1 impl_StrokesBetween.o1 betB
  rw [isDial_eq, Option.bind_some]
  cases e : inB h 2 24 with
  | false => rfl
  | true =>
    rw [Bool.not_true, cond_false, within_eq, Option.bind_some]
    cases e' : inB a 0 1000000 with
    | false => rfl
    | true =>
      rw [Bool.not_true, cond_false, within_eq, Option.bind_some]
      cases e'' : inB b 0 1000000 with
      | false => rfl
      | true =>
        have e1 := inB_iff.1 e
        have e2 := inB_iff.1 e'
        have e3 := inB_iff.1 e''
        obtain ⟨h, rfl⟩ := Int.eq_ofNat_of_zero_le (show 0 ≤ h by omega)
        obtain ⟨a, rfl⟩ := Int.eq_ofNat_of_zero_le (show 0 ≤ a by omega)
        obtain ⟨b, rfl⟩ := Int.eq_ofNat_of_zero_le (show 0 ≤ b by omega)
        have s1 := sm_small (h := h) (n := b + 1) (by omega) (by omega) (by omega)
        have s2 := sm_small (h := h) (n := a) (by omega) (by omega) (by omega)
        dsimp only
        rw [Bool.not_true, cond_false, w1add (by omega), before_eq hN (by omega) (by omega) (by omega), Option.bind_some, before_eq hN (by omega) (by omega) (by omega), Option.bind_some, w64s (by omega) (by omega)]
        simp only [Bool.and_true, if_true, Option.some.injEq, Prod.mk.injEq, and_true, Int.toNat_natCast, bet]
        split <;> omega
theorem kSame_loop (N : Nat) (l m : List Int) (hl : l.length = m.length) (hs : l.length < 1000000000) : ∀ (k i n : Nat), l.length = i + k → k < n → laws_kSame.l1 N n l m (l.length : Int) i = some (decide (l.drop i = m.drop i))
  | 0, i, n + 1, hi, hn => by
    unfold laws_kSame.l1 laws_kSame.d1 laws_kSame.o1
    rw [dcF (by omega), cond_false, List.drop_eq_nil_of_le (by omega), List.drop_eq_nil_of_le (by omega)]; rfl
  | k + 1, i, n + 1, hi, hn => by
    unfold laws_kSame.l1 laws_kSame.d1 laws_kSame.o1
    rw [dcT (by omega), dcT (by omega), cond_true, cond_true, cond_true, Int.toNat_natCast, getAt (by omega), cond_true, dcT (by omega), cond_true, getAt (by omega)]
    rw [List.drop_eq_getElem_cons (show i < l.length by omega), List.drop_eq_getElem_cons (show i < m.length by omega)]
    by_cases e : l[i] = m[i]
    · rw [ineF e, cond_false, w1add (by omega)]
      refine (kSame_loop N l m hl hs k (i+1) n (by omega) (by omega)).trans ?_
      rw [Option.some.injEq, e, decide_eq_decide]
      exact ⟨fun h => by rw [h], fun h => (List.cons.inj h).2⟩
    · rw [ineT e, cond_true, dcF (fun h => e (List.cons.inj h).1)]
  | _, _, 0, _, hn => by omega
theorem kSame_eq {N : Nat} (l m : List Int) (hs : l.length < 1000000000) (hN : l.length < N) : laws_kSame.g N l m = some (decide (l = m)) := by
  unfold laws_kSame.g laws_kSame.o0
  by_cases e : l.length = m.length
  · rw [ineF (by omega), cond_false]
    exact kSame_loop N l m e hs l.length 0 N (by omega) hN
  · rw [ineT (by omega), cond_true, dcF (fun e' => e (by rw [e']))]
end Go.Proofs.Ytpemffldaepbpaa.M

namespace Go.Proofs.Ytpemffldaepbpaa.M
open Go Go.PM Str
set_option linter.unusedVariables false
set_option linter.unusedSimpArgs false
theorem and255 (x : Int) : 0 ≤ w64 (andK .u64 x 255) ∧ w64 (andK .u64 x 255) ≤ 255 := by
  have e : (BitVec.ofInt IntKind.u64.bits x &&& BitVec.ofInt IntKind.u64.bits 255).toNat ≤ 255 := by
    rw [BitVec.toNat_and]
    exact Nat.le_trans Nat.and_le_right (by decide)
  unfold andK
  generalize (BitVec.ofInt IntKind.u64.bits x &&& BitVec.ofInt IntKind.u64.bits 255).toNat = n at e
  have e1 : IntKind.wrap .u64 (n : Int) = n := by
    unfold IntKind.wrap
    have : (n : Int) % (2 ^ IntKind.u64.bits : Int) = n := by
      show (n : Int) % (18446744073709551616 : Int) = n
      omega
    rw [this]
    rfl
  rw [e1, w64s (by omega) (by omega)]
  omega
/-- bytes -/
def Bs (code : List Int) : Prop := code.length ≤ 1048576 ∧ ∀ x ∈ code, 0 ≤ x ∧ x ≤ 255
theorem next_tot (N : Nat) {code : List Int} (hc : Bs code) {pos : Int} (h1 : 0 ≤ pos) (h2 : pos ≤ 1000000000) (seed : Int) :
    Tot (spec_l1Cur_next.g N code pos seed) fun r => (0 ≤ r.1 ∧ r.1 ≤ 255) ∧ r.2.1 = code ∧ 0 ≤ r.2.2.1 ∧ r.2.2.1 ≤ pos + 1 := by
  have key : ∀ b, 0 ≤ b → b ≤ 255 → Tot (spec_l1Cur_next.d1 N b code pos seed) fun r => (0 ≤ r.1 ∧ r.1 ≤ 255) ∧ r.2.1 = code ∧ 0 ≤ r.2.2.1 ∧ r.2.2.1 ≤ pos + 1 := by
    intro b hb1 hb2
    unfold spec_l1Cur_next.d1 spec_l1Cur_next.o1
    rw [w64s (n := pos + 1) (by omega) (by omega)]
    refine Tot.bif (fun _ => Tot.now ⟨⟨hb1, hb2⟩, rfl, ?_, ?_⟩) (fun _ => Tot.now ⟨and255 _, rfl, ?_, ?_⟩)
    all_goals (dsimp only; omega)
  unfold spec_l1Cur_next.g spec_l1Cur_next.o0
  dsimp only
  refine Tot.dif (fun hlt => ?_) (fun hlt => key 0 (by omega) (by omega))
  have hl : pos.toNat < code.length := by omega
  rw [dcT h1, cond_true, dcT hlt, cond_true, getAt hl]
  have := hc.2 code[pos.toNat] (List.getElem_mem hl)
  rw [w64s (by omega) (by omega)]
  exact key _ this.1 this.2
theorem pick_tot (N : Nat) {code : List Int} (hc : Bs code) (n : Int) {pos : Int} (h1 : 0 ≤ pos) (h2 : pos ≤ 1000000) (seed : Int) :
    Tot (spec_l1Cur_pick.g N n code pos seed) fun r => (0 ≤ r.1 ∧ (r.1 < n ∨ r.1 = 0)) ∧ r.2.1 = code ∧ 0 ≤ r.2.2.1 ∧ r.2.2.1 ≤ pos + 2 := by
  have key : ∀ x p s, 1 < n → 0 ≤ x → 0 ≤ p → p ≤ pos + 2 → Tot (spec_l1Cur_pick.d1 N n x code p s) fun r => (0 ≤ r.1 ∧ (r.1 < n ∨ r.1 = 0)) ∧ r.2.1 = code ∧ 0 ≤ r.2.2.1 ∧ r.2.2.1 ≤ pos + 2 := by
    intro x p s hn hx hp1 hp2
    unfold spec_l1Cur_pick.d1 spec_l1Cur_pick.o1
    rw [ieqF (by omega), cond_false]
    refine Tot.now ⟨⟨Int.tmod_nonneg _ hx, .inl ?_⟩, rfl, hp1, hp2⟩
    exact Int.tmod_lt_of_pos _ (by omega)
  unfold spec_l1Cur_pick.g spec_l1Cur_pick.o0
  dsimp only
  refine Tot.dif (fun hlt => Tot.now ⟨⟨by dsimp only; omega, .inr rfl⟩, rfl, h1, by dsimp only; omega⟩) (fun hlt => ?_)
  refine Tot.bind (next_tot N hc h1 (by omega) seed) ?_
  rintro ⟨x, c, p, s⟩ ⟨⟨x1, x2⟩, rfl, p1, p2⟩
  dsimp only at x1 x2 p1 p2 ⊢
  refine Tot.dif (fun hgt => ?_) (fun hgt => ?_)
  · refine Tot.bind (next_tot N hc p1 (by omega) s) ?_
    rintro ⟨y, c, q, t⟩ ⟨⟨y1, y2⟩, rfl, q1, q2⟩
    dsimp only at y1 y2 q1 q2 ⊢
    rw [w64s (n := x * 256) (by omega) (by omega), w64s (by omega) (by omega)]
    exact key _ _ _ (by omega) (by omega) q1 (by omega)
  · exact key _ _ _ (by omega) x1 p1 (by omega)
theorem one_tot (N : Nat) {code : List Int} (hc : Bs code) (n : Int) {pos : Int} (h1 : 0 ≤ pos) (h2 : pos ≤ 1000000) (seed : Int) :
    Tot (spec_l1Cur_one.g N n code pos seed) fun r => r.2.1 = code ∧ 0 ≤ r.2.2.1 ∧ r.2.2.1 ≤ pos + 2 := by
  unfold spec_l1Cur_one.g spec_l1Cur_one.o0
  refine Tot.bind (pick_tot N hc n h1 h2 seed) ?_
  rintro ⟨x, c, p, s⟩ ⟨⟨x1, x2⟩, rfl, p1, p2⟩
  exact Tot.now ⟨rfl, p1, p2⟩
theorem among_tot (N : Nat) {code : List Int} (hc : Bs code) (l : List Int) (hl : 0 < l.length) {pos : Int} (h1 : 0 ≤ pos) (h2 : pos ≤ 1000000) (seed : Int) :
    Tot (spec_l1Cur_among.g N l code pos seed) fun r => r.1 ∈ l ∧ r.2.1 = code ∧ 0 ≤ r.2.2.1 ∧ r.2.2.1 ≤ pos + 2 := by
  unfold spec_l1Cur_among.g spec_l1Cur_among.o0
  refine Tot.bind (pick_tot N hc _ h1 h2 seed) ?_
  rintro ⟨x, c, p, s⟩ ⟨⟨x1, x2⟩, rfl, p1, p2⟩
  dsimp only at x1 x2 p1 p2 ⊢
  have hx : x.toNat < l.length := by omega
  rw [dcT x1, cond_true, dcT (by omega), cond_true, getAt hx]
  exact Tot.now ⟨List.getElem_mem hx, rfl, p1, p2⟩
theorem hours_tot (N : Nat) {code : List Int} (hc : Bs code) {pos : Int} (h1 : 0 ≤ pos) (h2 : pos ≤ 1000000) (seed : Int) :
    Tot (spec_l1Cur_hours.g N code pos seed) fun r => (0 ≤ r.1 ∧ r.1 ≤ 25) ∧ r.2.1 = code ∧ 0 ≤ r.2.2.1 ∧ r.2.2.1 ≤ pos + 2 := by
  unfold spec_l1Cur_hours.g spec_l1Cur_hours.o0
  refine Tot.bind (among_tot N hc _ (by decide) h1 h2 seed) ?_
  rintro ⟨x, c, p, s⟩ ⟨x1, rfl, p1, p2⟩
  refine Tot.now ⟨?_, rfl, p1, p2⟩
  have : ∀ y ∈ ([12, 24, 10, 12, 24, 6, 2, 3, 5, 12, 1, 25, 0] : List Int), 0 ≤ y ∧ y ≤ 25 := by decide
  exact this _ x1
theorem least_eq (N : Nat) (a b : Int) : spec_l1Least.g N a b = some (if a < b then a else b) := by
  unfold spec_l1Least.g spec_l1Least.o0
  by_cases h : a < b
  · rw [dcT h, if_pos h]; rfl
  · rw [dcF h, if_neg h]; rfl
theorem most_eq (N : Nat) (a b : Int) : spec_l1Most.g N a b = some (if a > b then a else b) := by
  unfold spec_l1Most.g spec_l1Most.o0
  by_cases h : a > b
  · rw [dcT h, if_pos h]; rfl
  · rw [dcF h, if_neg h]; rfl
end Go.Proofs.Ytpemffldaepbpaa.M

/- More on strokes: which half a stroke has, wheels, halves heard once. -/
namespace Str
set_option linter.unusedVariables false
theorem sm_one {h : Nat} : sm h 1 = h := by
  simp only [sm]
  unfold st
  rw [Nat.zero_mod, nbF (by omega), nbT rfl]
  simp
theorem sm_ge {h : Nat} (h1 : 2 ≤ h) : ∀ n, n ≤ sm h n
  | 0 => Nat.zero_le _
  | n + 1 => by have := sm_ge h1 n; have := st_pos h1 n; simp only [sm]; omega
/-- the half of a stroke -/
theorem half_of {h : Nat} (h1 : 2 ≤ h) {n : Nat} (hn : 1 ≤ n) : ∃ x, sm h x < n ∧ n ≤ sm h (x + 1) := by
  have key : ∀ m, n ≤ sm h m → ∃ x, sm h x < n ∧ n ≤ sm h (x + 1) := by
    intro m
    induction m with
    | zero => intro e; simp only [sm] at e; omega
    | succ m ih =>
      intro e
      by_cases hc : n ≤ sm h m
      · exact ih hc
      · exact ⟨m, by omega, e⟩
  exact key n (sm_ge h1 n)
theorem half_uniq {h : Nat} {n x y : Nat} (hx : sm h x < n) (hx' : n ≤ sm h (x + 1)) (hy : sm h y < n) (hy' : n ≤ sm h (y + 1)) : x = y := by
  rcases Nat.lt_trichotomy x y with c | c | c
  · have := sm_mono h (show x + 1 ≤ y by omega); omega
  · exact c
  · have := sm_mono h (show y + 1 ≤ x by omega); omega
theorem half_turn {h : Nat} (h1 : 2 ≤ h) (h2 : h ≤ 24) {n x q : Nat} (hx : sm h x < n) (hx' : n ≤ sm h (x + 1)) (hq : tn h * q < n) : 2*h*q ≤ x := by
  have := sm_wraps h1 h2 0 q
  rw [Nat.zero_add] at this
  have e : sm h 0 = 0 := rfl
  by_cases hc : 2*h*q ≤ x
  · exact hc
  · have := sm_mono h (show x + 1 ≤ 2*h*q by omega); omega
theorem half_lt {h : Nat} (h1 : 2 ≤ h) (h2 : h ≤ 24) {n x q : Nat} (hx : sm h x < n) (hq : n ≤ tn h * q) : x < 2*h*q := by
  have := sm_wraps h1 h2 0 q
  rw [Nat.zero_add] at this
  have e : sm h 0 = 0 := rfl
  by_cases hc : x < 2*h*q
  · exact hc
  · have := sm_mono h (show 2*h*q ≤ x by omega); omega
/-- how many numbers below n have a property -/
def cnt (p : Nat → Bool) : Nat → Nat
  | 0 => 0
  | n + 1 => cnt p n + (bif p n then 1 else 0)
/-- of how many halves it is so many -/
def lenS (h s : Nat) : Nat := cnt (fun x => Nat.beq (st h x) s) (2*h)
set_option maxRecDepth 100000 in
theorem once_alone {h : Nat} (h1 : 2 ≤ h) (h2 : h ≤ 24) : cnt (fun x => Nat.beq (lenS h (st h x)) 1) (2*h) = cnt (fun n => Nat.beq (lenS h (n+1)) 1) h := by
  have := allLt_spec (n := 25) (p := fun h => Nat.blt h 2 || Nat.beq (cnt (fun x => Nat.beq (lenS h (st h x)) 1) (2*h)) (cnt (fun n => Nat.beq (lenS h (n+1)) 1) h)) (by decide +kernel) h (by omega)
  simp only [Bool.or_eq_true, Nat.blt_eq, Nat.beq_eq] at this
  omega
/-- steps back -/
def stp (p q r : Nat) : Nat := (q + 2*p - r) % (2*p)
theorem stp_lt {p : Nat} (hp : 2 ≤ p) (q r : Nat) : stp p q r < 2*p := Nat.mod_lt _ (by omega)
theorem stp_ok {p q r : Nat} (hp : 2 ≤ p) (hq : q < 2*p) (hr : r < 2*p) : (r + stp p q r) % (2*p) = q ∧ ∀ i, i < stp p q r → (r + i) % (2*p) ≠ q := by
  unfold stp
  by_cases c : r ≤ q
  · have e : (q + 2*p - r) % (2*p) = q - r := by rw [show q + 2*p - r = (q - r) + 2*p by omega, Nat.add_mod_right, Nat.mod_eq_of_lt (by omega)]
    rw [e]
    refine ⟨by rw [show r + (q - r) = q by omega, Nat.mod_eq_of_lt hq], fun i hi => ?_⟩
    rw [Nat.mod_eq_of_lt (by omega)]; omega
  · have e : (q + 2*p - r) % (2*p) = q + 2*p - r := Nat.mod_eq_of_lt (by omega)
    rw [e]
    refine ⟨by rw [show r + (q + 2*p - r) = q + 2*p by omega, Nat.add_mod_right, Nat.mod_eq_of_lt hq], fun i hi => ?_⟩
    by_cases c' : r + i < 2*p
    · rw [Nat.mod_eq_of_lt c']; omega
    · rw [show r + i = (r + i - 2*p) + 2*p by omega, Nat.add_mod_right, Nat.mod_eq_of_lt (by omega)]; omega
end Str

namespace Go.Proofs.Ytpemffldaepbpaa.M
open Go Go.PM Str
set_option linter.unusedVariables false
set_option linter.unusedSimpArgs false
theorem stTurn_eq (N : Nat) {h : Nat} (h2 : h ≤ 24) : spec_stTurn.g N h = some ((tn h : Nat) : Int) := ofTurn_eq N h2
theorem stUpTo_loop (N : Nat) {h : Nat} (h1 : 2 ≤ h) (h2 : h ≤ 24) (v : Nat) (b : Nat) (hb : b ≤ 72000000000) : ∀ (k i n : Nat), v % (2*h) = i + k → k < n → spec_stUpTo.l1 N n h v ((b + sm h i : Nat) : Int) i = some ((b + sm h (v % (2*h)) : Nat) : Int)
  | 0, i, n + 1, hi, hn => by
    unfold spec_stUpTo.l1 spec_stUpTo.d1 spec_stUpTo.o1
    rw [w2 h2, ieqF (by omega), cond_false, tmodN, dcF (by omega), hi]; rfl
  | k + 1, i, n + 1, hi, hn => by
    have hm : v % (2*h) < 2*h := Nat.mod_lt _ (by omega)
    unfold spec_stUpTo.l1 spec_stUpTo.d1 spec_stUpTo.o1
    have := sm_small h1 h2 (n := i) (by omega)
    have := st_le h1 i
    rw [w2 h2, ieqF (by omega), cond_false, tmodN, dcT (by omega), cond_true, stAt_eq N h1 h2 (by omega), Option.bind_some, w2add (by omega), w1add (by omega)]
    have := stUpTo_loop N h1 h2 v b hb k (i+1) n (by omega) (by omega)
    rw [show b + sm h i + st h i = b + sm h (i+1) by simp only [sm]; omega]
    exact this
  | _, _, 0, _, hn => by omega
theorem stUpTo_eq {N : Nat} (hN : 10000 ≤ N) {h : Nat} (h1 : 2 ≤ h) (h2 : h ≤ 24) {n : Nat} (hn : n ≤ 3000000000) : spec_stUpTo.g N h n = some ((sm h n : Nat) : Int) := by
  have hm : n % (2*h) < 2*h := Nat.mod_lt _ (by omega)
  have e := sm_dm h1 h2 n
  have hs := sm_small h1 h2 hn
  unfold spec_stUpTo.g spec_stUpTo.o0
  have hd : n / (2*h) ≤ n := Nat.div_le_self _ _
  rw [w2 h2, ieqF (by omega), cond_false, stTurn_eq N h2, Option.bind_some, tdivN]
  have := fun q => stUpTo_loop N h1 h2 n (q * tn h)
  generalize n / (2*h) = q at *
  rw [w64s (n := ((q : Nat) : Int)) (by omega) (by omega), ← Int.natCast_mul, w64s (by omega) (by omega)]
  have := this q (by omega) (n % (2*h)) 0 N (by omega) (by omega)
  rw [show q * tn h + sm h 0 = q * tn h by simp [sm], ← e] at this
  exact this
theorem sStrokesBetween_eq {N : Nat} (hN : 10000 ≤ N) (h a b : Int) : spec_StrokesBetween.g N h a b = some (if betB h a b then (((bet h.toNat a.toNat b.toNat : Nat) : Int), true) else (0, false)) := by
  unfold spec_StrokesBetween.g spec_StrokesBetween.o0 spec_StrokesBetween.d1 spec_StrokesBetween.o1 betB
  rw [diHours_eq, Option.bind_some]
  cases e : inB h 2 24 with
  | false => rfl
  | true =>
    rw [Bool.not_true, cond_false, l1In_eq, Option.bind_some]
    cases e' : inB a 0 1000000 with
    | false => rfl
    | true =>
      rw [Bool.not_true, cond_false, l1In_eq, Option.bind_some]
      cases e'' : inB b 0 1000000 with
      | false => rfl
      | true =>
        have e1 := inB_iff.1 e
        have e2 := inB_iff.1 e'
        have e3 := inB_iff.1 e''
        obtain ⟨h, rfl⟩ := Int.eq_ofNat_of_zero_le (show 0 ≤ h by omega)
        obtain ⟨a, rfl⟩ := Int.eq_ofNat_of_zero_le (show 0 ≤ a by omega)
        obtain ⟨b, rfl⟩ := Int.eq_ofNat_of_zero_le (show 0 ≤ b by omega)
        have s1 := sm_small (h := h) (n := b + 1) (by omega) (by omega) (by omega)
        have s2 := sm_small (h := h) (n := a) (by omega) (by omega) (by omega)
        dsimp only
        simp only [Bool.not_true, cond_false, Bool.and_true, if_true, Int.toNat_natCast]
        by_cases c : b < a
        · have := sm_mono h (show b + 1 ≤ a by omega)
          have e0 : bet h a b = 0 := by unfold bet; omega
          rw [dcT (by omega), cond_true, e0]; rfl
        · have := sm_mono h (show a ≤ b + 1 by omega)
          rw [dcF (by omega), cond_false, w1add (by omega), stUpTo_eq hN (by omega) (by omega) (by omega), Option.bind_some, stUpTo_eq hN (by omega) (by omega) (by omega), Option.bind_some, w64s (by omega) (by omega)]
          simp only [Option.some.injEq, Prod.mk.injEq, and_true, bet]
          omega
theorem OfTurn_eq (N : Nat) (h : Int) : impl_StrokesOfTurn.g N h = some (if inB h 2 24 then (((tn h.toNat : Nat) : Int), true) else (0, false)) := by
  unfold impl_StrokesOfTurn.g impl_StrokesOfTurn.o0
  rw [isDial_eq, Option.bind_some]
  cases e : inB h 2 24 with
  | false => rfl
  | true =>
    have e1 := inB_iff.1 e
    obtain ⟨h, rfl⟩ := Int.eq_ofNat_of_zero_le (show 0 ≤ h by omega)
    rw [Bool.not_true, cond_false, ofTurn_eq N (by omega)]; rfl
theorem sOfTurn_eq (N : Nat) (h : Int) : spec_StrokesOfTurn.g N h = some (if inB h 2 24 then (((tn h.toNat : Nat) : Int), true) else (0, false)) := by
  unfold spec_StrokesOfTurn.g spec_StrokesOfTurn.o0
  rw [diHours_eq, Option.bind_some]
  cases e : inB h 2 24 with
  | false => rfl
  | true =>
    have e1 := inB_iff.1 e
    obtain ⟨h, rfl⟩ := Int.eq_ofNat_of_zero_le (show 0 ≤ h by omega)
    rw [Bool.not_true, cond_false, stTurn_eq N (by omega)]; rfl
theorem Equal_l1 (N : Nat) : ∀ (n : Nat) (a b : List Int) (c d : Int), slices_Equal_int_int.l1 N n a b c d = laws_kSame.l1 N n a b c d
  | 0, _, _, _, _ => rfl
  | n + 1, a, b, c, d => by
    unfold slices_Equal_int_int.l1 laws_kSame.l1 slices_Equal_int_int.d1 laws_kSame.d1
    simp only [Equal_l1 N n]
    rfl
theorem Equal_eq {N : Nat} (l m : List Int) (hs : l.length < 1000000000) (hN : l.length < N) : slices_Equal_int_int.g N l m = some (decide (l = m)) := by
  rw [← kSame_eq l m hs hN]
  unfold slices_Equal_int_int.g laws_kSame.g
  simp only [Equal_l1]
  rfl
theorem l1Same_l1 (N : Nat) : ∀ (n : Nat) (a b : List Int) (c d : Int), spec_l1Same.l1 N n a b c d = laws_kSame.l1 N n a b c d
  | 0, _, _, _, _ => rfl
  | n + 1, a, b, c, d => by
    unfold spec_l1Same.l1 laws_kSame.l1 spec_l1Same.d1 laws_kSame.d1
    simp only [l1Same_l1 N n]
    rfl
theorem l1Same_eq {N : Nat} (l m : List Int) (hs : l.length < 1000000000) (hN : l.length < N) : spec_l1Same.g N l m = some (decide (l = m)) := by
  rw [← kSame_eq l m hs hN]
  unfold spec_l1Same.g laws_kSame.g
  simp only [l1Same_l1]
  rfl
/-- the numbers below n that have a property, in order -/
def hvs (p : Nat → Bool) : Nat → List Int
  | 0 => []
  | n + 1 => hvs p n ++ (bif p n then [(n : Int)] else [])
theorem hvs_len (p : Nat → Bool) : ∀ n, (hvs p n).length = cnt p n
  | 0 => rfl
  | n + 1 => by simp only [hvs, cnt, List.length_append, hvs_len p n]; cases p n <;> rfl
theorem cnt_le (p : Nat → Bool) : ∀ n, cnt p n ≤ n
  | 0 => Nat.le_refl _
  | n + 1 => by have := cnt_le p n; simp only [cnt]; cases p n <;> simp <;> omega
theorem hvs_len_le (p : Nat → Bool) (n : Nat) : (hvs p n).length ≤ n := by rw [hvs_len]; exact cnt_le p n
/-- what is heard from a half is the list -/
def hrd (h : Nat) (l : List Int) (x : Nat) : Bool := decide (hf h x l.length = l)
theorem halvesOf_loop {N : Nat} (hN : 10000 ≤ N) {h : Nat} (h1 : 2 ≤ h) (h2 : h ≤ 24) {l : List Int} (hl : l.length ≤ 1000) : ∀ (k i n : Nat), 2*h = i + k → k < n → impl_halvesOf.l1 N n h l (hvs (hrd h l) i) ((2*h : Nat) : Int) i = some (hvs (hrd h l) (2*h))
  | 0, i, n + 1, hi, hn => by
    have : i = 2*h := by omega
    subst this
    unfold impl_halvesOf.l1 impl_halvesOf.d1 impl_halvesOf.o1
    rw [dcF (by omega)]; rfl
  | k + 1, i, n + 1, hi, hn => by
    have hle := hvs_len_le (hrd h l) i
    unfold impl_halvesOf.l1 impl_halvesOf.d1 impl_halvesOf.o1
    rw [dcT (by omega), cond_true, heardFrom_eq h1 h2 (by omega) (by omega) (by omega), Option.bind_some, Equal_eq _ _ (by rw [hf_len]; omega) (by rw [hf_len]; omega), Option.bind_some, w1add (by omega)]
    have ih := halvesOf_loop hN h1 h2 hl k (i+1) n (by omega) (by omega)
    simp only [hvs] at ih
    show cond (hrd h l i) _ _ = _
    cases hp : hrd h l i with
    | true =>
      rw [hp, cond_true] at ih
      rw [cond_true, blT (by simp; omega), cond_true]
      exact ih
    | false =>
      rw [hp, cond_false, List.append_nil] at ih
      rw [cond_false]
      exact ih
  | _, _, 0, _, hn => by omega
theorem halvesOf_eq {N : Nat} (hN : 10000 ≤ N) {h : Nat} (h1 : 2 ≤ h) (h2 : h ≤ 24) {l : List Int} (hl : l.length ≤ 1000) : impl_halvesOf.g N h l = some (hvs (hrd h l) (2*h)) := by
  unfold impl_halvesOf.g impl_halvesOf.o0
  dsimp only
  rw [w2 h2]
  exact halvesOf_loop hN h1 h2 hl (2*h) 0 N (by omega) (by omega)
theorem stHalves_loop {N : Nat} (hN : 10000 ≤ N) {h : Nat} (h1 : 2 ≤ h) (h2 : h ≤ 24) {l : List Int} (hl : l.length ≤ 1000) : ∀ (k i n : Nat), 2*h = i + k → k < n → spec_stHalves.l4 N n h l (hvs (hrd h l) i) i = some (hvs (hrd h l) (2*h))
  | 0, i, n + 1, hi, hn => by
    have : i = 2*h := by omega
    subst this
    unfold spec_stHalves.l4 spec_stHalves.d4 spec_stHalves.o4
    rw [w2 h2, dcF (by omega)]; rfl
  | k + 1, i, n + 1, hi, hn => by
    have hle := hvs_len_le (hrd h l) i
    unfold spec_stHalves.l4 spec_stHalves.d4 spec_stHalves.o4 spec_stHalves.d2 spec_stHalves.o2
    rw [w2 h2, dcT (by omega), cond_true, stFrom_eq h1 h2 (by omega) (by omega) (by omega), Option.bind_some, l1Same_eq _ _ (by rw [hf_len]; omega) (by rw [hf_len]; omega), Option.bind_some]
    have ih := stHalves_loop hN h1 h2 hl k (i+1) n (by omega) (by omega)
    simp only [hvs] at ih
    show cond (hrd h l i) _ _ = _
    cases hp : hrd h l i with
    | true =>
      rw [hp, cond_true] at ih
      rw [cond_true, blT (by simp; omega), cond_true]
      dsimp only
      rw [w1add (by omega)]
      exact ih
    | false =>
      rw [hp, cond_false, List.append_nil] at ih
      rw [cond_false]
      dsimp only
      rw [w1add (by omega)]
      exact ih
  | _, _, 0, _, hn => by omega
theorem stHalves_loop1 {N : Nat} (hN : 10000 ≤ N) {h : Nat} (h1 : 2 ≤ h) (h2 : h ≤ 24) {l : List Int} (hl : l.length ≤ 1000) : ∀ (k i n : Nat), 2*h = i + k → k < n → hvs (hrd h l) i = [] → spec_stHalves.l1 N n h l i = some (hvs (hrd h l) (2*h))
  | 0, i, n + 1, hi, hn, h0 => by
    have : i = 2*h := by omega
    subst this
    unfold spec_stHalves.l1 spec_stHalves.d1 spec_stHalves.o1
    rw [w2 h2, dcF (by omega), h0]; rfl
  | k + 1, i, n + 1, hi, hn, h0 => by
    unfold spec_stHalves.l1 spec_stHalves.d1 spec_stHalves.o1 spec_stHalves.d2 spec_stHalves.o2 spec_stHalves.d3 spec_stHalves.o3
    rw [w2 h2, dcT (by omega), cond_true, stFrom_eq h1 h2 (by omega) (by omega) (by omega), Option.bind_some, l1Same_eq _ _ (by rw [hf_len]; omega) (by rw [hf_len]; omega), Option.bind_some]
    show cond (hrd h l i) _ _ = _
    cases hp : hrd h l i with
    | true =>
      have ih := stHalves_loop hN h1 h2 hl k (i+1) n (by omega) (by omega)
      simp only [hvs] at ih
      rw [hp, cond_true, h0] at ih
      rw [cond_true, blT (by simp), cond_true]
      dsimp only
      rw [w1add (by omega)]
      exact ih
    | false =>
      rw [cond_false]
      dsimp only
      rw [w1add (by omega)]
      exact stHalves_loop1 hN h1 h2 hl k (i+1) n (by omega) (by omega) (by simp only [hvs]; rw [hp, h0]; rfl)
  | _, _, 0, _, hn, _ => by omega
theorem stHalves_eq {N : Nat} (hN : 10000 ≤ N) {h : Nat} (h1 : 2 ≤ h) (h2 : h ≤ 24) {l : List Int} (hl : l.length ≤ 1000) : spec_stHalves.g N h l = some (hvs (hrd h l) (2*h)) :=
  stHalves_loop1 hN h1 h2 hl (2*h) 0 N (by omega) (by omega) rfl
theorem hrd_one (h s x : Nat) : hrd h [(s : Int)] x = Nat.beq (st h x) s := by
  unfold hrd
  show decide ([((st h (x + 0) : Nat) : Int)] = [(s : Int)]) = _
  rw [Nat.add_zero]
  by_cases e : st h x = s
  · rw [nbT e, dcT (by rw [e])]
  · rw [nbF e, dcF (fun h' => e (by have := (List.cons.inj h').1; omega))]
theorem hvs_one (h s : Nat) : (hvs (hrd h [(s : Int)]) (2*h)).length = lenS h s := by
  rw [hvs_len]
  unfold lenS
  congr 1
  funext x
  exact hrd_one h s x
def onceB (h x : Nat) : Bool := Nat.beq (lenS h (st h x)) 1
theorem ieq_nb (a b : Nat) : (((a : Nat) : Int) == (b : Int)) = Nat.beq a b := by
  by_cases e : a = b
  · rw [nbT e, ieqT (by omega)]
  · rw [nbF e, ieqF (by omega)]
theorem once_loop {N : Nat} (hN : 10000 ≤ N) {h : Nat} (h1 : 2 ≤ h) (h2 : h ≤ 24) : ∀ (k i n : Nat), 2*h = i + k → k < n → impl_CountHeardOnce.l1 N n h (cnt (onceB h) i : Nat) ((2*h : Nat) : Int) i = some (((cnt (onceB h) (2*h) : Nat) : Int), true)
  | 0, i, n + 1, hi, hn => by
    have : i = 2*h := by omega
    subst this
    unfold impl_CountHeardOnce.l1 impl_CountHeardOnce.d1 impl_CountHeardOnce.o1
    rw [dcF (by omega)]; rfl
  | k + 1, i, n + 1, hi, hn => by
    have hle := cnt_le (onceB h) i
    have hs := heardFrom_eq (N := N) h1 h2 (half := i) (c := 1) (by omega) (by omega) (by omega)
    unfold impl_CountHeardOnce.l1 impl_CountHeardOnce.d1 impl_CountHeardOnce.o1
    rw [dcT (by omega), cond_true, show ((1 : Int)) = ((1 : Nat) : Int) from rfl, hs, Option.bind_some]
    show ((impl_halvesOf.g N h [((st h i : Nat) : Int)]).bind _) = _
    rw [halvesOf_eq hN h1 h2 (by simp), Option.bind_some, hvs_one, ieq_nb, w2add (by omega), w2add (by omega)]
    have ih := once_loop hN h1 h2 k (i+1) n (by omega) (by omega)
    simp only [cnt] at ih
    show cond (onceB h i) _ _ = _
    cases hp : onceB h i with
    | true => rw [hp] at ih; rw [cond_true]; exact ih
    | false => rw [hp] at ih; rw [cond_false]; exact ih
  | _, _, 0, _, hn => by omega
theorem sonce_loop {N : Nat} (hN : 10000 ≤ N) {h : Nat} (h1 : 2 ≤ h) (h2 : h ≤ 24) : ∀ (k i n : Nat), 2*h = i + k → k < n → spec_CountHeardOnce.l1 N n h (cnt (onceB h) i : Nat) i = some (((cnt (onceB h) (2*h) : Nat) : Int), true)
  | 0, i, n + 1, hi, hn => by
    have : i = 2*h := by omega
    subst this
    unfold spec_CountHeardOnce.l1 spec_CountHeardOnce.d1 spec_CountHeardOnce.o1
    rw [w2 h2, dcF (by omega)]; rfl
  | k + 1, i, n + 1, hi, hn => by
    have hle := cnt_le (onceB h) i
    have hs := stFrom_eq (N := N) h1 h2 (half := i) (c := 1) (by omega) (by omega) (by omega)
    unfold spec_CountHeardOnce.l1 spec_CountHeardOnce.d1 spec_CountHeardOnce.o1 spec_CountHeardOnce.d2 spec_CountHeardOnce.o2
    rw [w2 h2, dcT (by omega), cond_true, show ((1 : Int)) = ((1 : Nat) : Int) from rfl, hs, Option.bind_some]
    show ((spec_stHalves.g N h [((st h i : Nat) : Int)]).bind _) = _
    rw [stHalves_eq hN h1 h2 (by simp), Option.bind_some, hvs_one, ieq_nb]
    have ih := sonce_loop hN h1 h2 k (i+1) n (by omega) (by omega)
    simp only [cnt] at ih
    show cond (onceB h i) _ _ = _
    dsimp only
    rw [w2add (by omega), w2add (by omega)]
    cases hp : onceB h i with
    | true => rw [hp] at ih; rw [cond_true]; exact ih
    | false => rw [hp] at ih; rw [cond_false]; exact ih
  | _, _, 0, _, hn => by omega
theorem Once_eq {N : Nat} (hN : 10000 ≤ N) (h : Int) : impl_CountHeardOnce.g N h = some (if inB h 2 24 then (((cnt (onceB h.toNat) (2*h.toNat) : Nat) : Int), true) else (0, false)) := by
  unfold impl_CountHeardOnce.g impl_CountHeardOnce.o0
  rw [isDial_eq, Option.bind_some]
  cases e : inB h 2 24 with
  | false => rfl
  | true =>
    have e1 := inB_iff.1 e
    obtain ⟨h, rfl⟩ := Int.eq_ofNat_of_zero_le (show 0 ≤ h by omega)
    dsimp only
    rw [Bool.not_true, cond_false, w2 (by omega), if_pos rfl, Int.toNat_natCast]
    exact once_loop hN (by omega) (by omega) (2*h) 0 N (by omega) (by omega)
theorem sOnce_eq {N : Nat} (hN : 10000 ≤ N) (h : Int) : spec_CountHeardOnce.g N h = some (if inB h 2 24 then (((cnt (onceB h.toNat) (2*h.toNat) : Nat) : Int), true) else (0, false)) := by
  unfold spec_CountHeardOnce.g spec_CountHeardOnce.o0
  rw [diHours_eq, Option.bind_some]
  cases e : inB h 2 24 with
  | false => rfl
  | true =>
    have e1 := inB_iff.1 e
    obtain ⟨h, rfl⟩ := Int.eq_ofNat_of_zero_le (show 0 ≤ h by omega)
    dsimp only
    rw [Bool.not_true, cond_false, if_pos rfl, Int.toNat_natCast]
    exact sonce_loop hN (by omega) (by omega) (2*h) 0 N (by omega) (by omega)
end Go.Proofs.Ytpemffldaepbpaa.M

namespace Go.Proofs.Ytpemffldaepbpaa.M
open Go Go.PM Str
set_option linter.unusedVariables false
set_option linter.unusedSimpArgs false
theorem half_tot (N : Nat) {code : List Int} (hc : Bs code) {pos : Int} (h1 : 0 ≤ pos) (h2 : pos ≤ 900000) (seed : Int) :
    Tot (spec_l1Cur_half.g N code pos seed) fun r => (0 ≤ r.1 ∧ r.1 ≤ 25) ∧ r.2.2.1 = code ∧ 0 ≤ r.2.2.2.1 ∧ r.2.2.2.1 ≤ pos + 6 := by
  have key : ∀ h b p s, 0 ≤ h → h ≤ 25 → 0 ≤ p → p ≤ pos + 4 → Tot (spec_l1Cur_half.d1 N h b code p s) fun r => (0 ≤ r.1 ∧ r.1 ≤ 25) ∧ r.2.2.1 = code ∧ 0 ≤ r.2.2.2.1 ∧ r.2.2.2.1 ≤ pos + 6 := by
    intro h b p s a1 a2 a3 a4
    unfold spec_l1Cur_half.d1 spec_l1Cur_half.o1
    refine Tot.bif (fun _ => ?_) (fun _ => ?_)
    · refine Tot.bind (among_tot N hc _ (by decide) a3 (by omega) s) ?_
      rintro ⟨x, c, p, s⟩ ⟨x1, rfl, p1, p2⟩
      exact Tot.now ⟨⟨a1, a2⟩, rfl, p1, by dsimp only at p2 ⊢; omega⟩
    · refine Tot.bind (pick_tot N hc _ a3 (by omega) s) ?_
      rintro ⟨x, c, p, s⟩ ⟨x1, rfl, p1, p2⟩
      exact Tot.now ⟨⟨a1, a2⟩, rfl, p1, by dsimp only at p2 ⊢; omega⟩
  unfold spec_l1Cur_half.g spec_l1Cur_half.o0
  refine Tot.bind (hours_tot N hc h1 (by omega) seed) ?_
  rintro ⟨h, c, p, s⟩ ⟨⟨x1, x2⟩, rfl, p1, p2⟩
  dsimp only at x1 x2 p1 p2 ⊢
  rw [diHours_eq, Option.bind_some]
  refine Tot.bif (fun _ => key _ _ _ _ x1 x2 p1 (by omega)) (fun _ => ?_)
  refine Tot.bind (one_tot N hc 14 p1 (by omega) s) ?_
  rintro ⟨b, c, q, t⟩ ⟨rfl, q1, q2⟩
  exact key _ _ _ _ x1 x2 q1 (by dsimp only at q2 ⊢; omega)
theorem drawAt_tot (N : Nat) {code : List Int} (hc : Bs code) : Tot (spec_DrawStrokesAt.g N code) fun _ => True := by
  unfold spec_DrawStrokesAt.g spec_DrawStrokesAt.o0
  exact Tot.bind (half_tot N hc (by omega) (by omega) 0) fun r _ => Tot.now trivial
theorem drawWait_tot (N : Nat) {code : List Int} (hc : Bs code) : Tot (spec_DrawWaitForStrokes.g N code) fun _ => True := by
  unfold spec_DrawWaitForStrokes.g spec_DrawWaitForStrokes.o0
  refine Tot.bind (half_tot N hc (by omega) (by omega) 0) ?_
  rintro ⟨h, a, c, p, s⟩ ⟨⟨x1, x2⟩, rfl, p1, p2⟩
  dsimp only at x1 x2 p1 p2 ⊢
  rw [most_eq, Option.bind_some, least_eq, Option.bind_some]
  exact Tot.bind (pick_tot N hc _ p1 (by omega) s) fun r _ => Tot.now trivial
theorem drawHeard_tot (N : Nat) {code : List Int} (hc : Bs code) : Tot (spec_DrawHeardFrom.g N code) fun _ => True := by
  unfold spec_DrawHeardFrom.g spec_DrawHeardFrom.o0
  refine Tot.bind (half_tot N hc (by omega) (by omega) 0) ?_
  rintro ⟨h, a, c, p, s⟩ ⟨⟨x1, x2⟩, rfl, p1, p2⟩
  dsimp only at x1 x2 p1 p2 ⊢
  exact Tot.bind (among_tot N hc _ (by decide) p1 (by omega) s) fun r _ => Tot.now trivial
theorem drawMost_tot (N : Nat) {code : List Int} (hc : Bs code) : Tot (spec_DrawMostInHalves.g N code) fun _ => True := by
  unfold spec_DrawMostInHalves.g spec_DrawMostInHalves.o0
  refine Tot.bind (hours_tot N hc (by omega) (by omega) 0) ?_
  rintro ⟨h, c, p, s⟩ ⟨⟨x1, x2⟩, rfl, p1, p2⟩
  dsimp only at x1 x2 p1 p2 ⊢
  rw [most_eq, Option.bind_some, least_eq, Option.bind_some]
  exact Tot.bind (pick_tot N hc _ p1 (by omega) s) fun r _ => Tot.now trivial

/-! ### waiting -/
theorem wait_least {h : Nat} (h1 : 2 ≤ h) {s : Nat} (h3 : 1 ≤ s) (h4 : s ≤ h) (half : Nat) : ∃ w, w < 2*h ∧ st h (half + w) = s ∧ ∀ j, j < w → st h (half + j) ≠ s := by
  obtain ⟨w0, hw0, hs0⟩ := st_has h1 h3 h4 half
  obtain ⟨w, hw, hm⟩ := min_ex (J := fun w => st h (half + w) = s) ⟨w0, hs0⟩
  have := hm w0 hs0
  exact ⟨w, by omega, hw, fun j hj e => by have := hm j e; omega⟩
theorem wait_loop (N : Nat) {h : Nat} (h1 : 2 ≤ h) (h2 : h ≤ 24) {half s w : Nat} (hh : half ≤ 1000) (hw : w ≤ 1000) (hs : st h (half + w) = s) (hm : ∀ j, j < w → st h (half + j) ≠ s) : ∀ (k i n : Nat), w = i + k → k < n →
    impl_WaitForStrokes.l2 N n h half s i = some ((w : Int), true)
  | 0, i, n + 1, hi, hn => by
    have : i = w := by omega
    subst this
    unfold impl_WaitForStrokes.l2 impl_WaitForStrokes.d2 impl_WaitForStrokes.o2
    rw [w2add (by omega), strokes_eq N h1 h2, Option.bind_some, ineF (by omega)]; rfl
  | k + 1, i, n + 1, hi, hn => by
    have := hm i (by omega)
    unfold impl_WaitForStrokes.l2 impl_WaitForStrokes.d2 impl_WaitForStrokes.o2
    rw [w2add (by omega), strokes_eq N h1 h2, Option.bind_some, ineT (by omega), cond_true, w1add (by omega)]
    exact wait_loop N h1 h2 hh hw hs hm k (i+1) n (by omega) (by omega)
  | _, _, 0, _, hn => by omega
theorem swait_loop (N : Nat) {h : Nat} (h1 : 2 ≤ h) (h2 : h ≤ 24) {half s w : Nat} (hh : half ≤ 1000) (hw : w ≤ 1000) (hs : st h (half + w) = s) (hm : ∀ j, j < w → st h (half + j) ≠ s) : ∀ (k i n : Nat), w = i + k → k < n →
    spec_WaitForStrokes.l2 N n h half s i = some ((w : Int), true)
  | 0, i, n + 1, hi, hn => by
    have : i = w := by omega
    subst this
    unfold spec_WaitForStrokes.l2 spec_WaitForStrokes.d2 spec_WaitForStrokes.o2
    rw [w2 h2, ieqF (by omega), cond_false, w2add (by omega), tmodN, stAtm_eq N h1 h2, Option.bind_some, ineF (by omega)]; rfl
  | k + 1, i, n + 1, hi, hn => by
    have := hm i (by omega)
    unfold spec_WaitForStrokes.l2 spec_WaitForStrokes.d2 spec_WaitForStrokes.o2
    rw [w2 h2, ieqF (by omega), cond_false, w2add (by omega), tmodN, stAtm_eq N h1 h2, Option.bind_some, ineT (by omega), cond_true, w1add (by omega)]
    exact swait_loop N h1 h2 hh hw hs hm k (i+1) n (by omega) (by omega)
  | _, _, 0, _, hn => by omega
/-- waiting: no answer, or the least wait -/
inductive WaitR (h half s : Int) : Int × Bool → Prop
  | no : WaitR h half s (0, false)
  | yes (h' half' s' w : Nat) (e1 : h = h') (e2 : half = half') (e3 : s = s') (h1 : 2 ≤ h') (h2 : h' ≤ 24) (h3 : half' < 2*h') (hw : w < 2*h') (hs : st h' (half' + w) = s') (hm : ∀ j, j < w → st h' (half' + j) ≠ s') : WaitR h half s ((w : Int), true)
theorem Wait_both {N : Nat} (hN : 10000 ≤ N) (h half s : Int) : ∃ r, WaitR h half s r ∧ impl_WaitForStrokes.g N h half s = some r ∧ spec_WaitForStrokes.g N h half s = some r := by
  unfold impl_WaitForStrokes.g impl_WaitForStrokes.o0 impl_WaitForStrokes.d1 impl_WaitForStrokes.o1 spec_WaitForStrokes.g spec_WaitForStrokes.o0 spec_WaitForStrokes.d1 spec_WaitForStrokes.o1
  rw [isHalf_eq, stHalf_eq, Option.bind_some, Option.bind_some]
  cases e : halfB h half with
  | false => exact ⟨_, .no, rfl, rfl⟩
  | true =>
    rw [Bool.not_true, cond_false, cond_false, within_eq, l1In_eq, Option.bind_some, Option.bind_some]
    cases e' : inB s 1 h with
    | false => exact ⟨_, .no, rfl, rfl⟩
    | true =>
      have e1 := halfB_iff.1 e
      have e2 := inB_iff.1 e'
      obtain ⟨h, rfl⟩ := Int.eq_ofNat_of_zero_le (show 0 ≤ h by omega)
      obtain ⟨half, rfl⟩ := Int.eq_ofNat_of_zero_le (show 0 ≤ half by omega)
      obtain ⟨s, rfl⟩ := Int.eq_ofNat_of_zero_le (show 0 ≤ s by omega)
      obtain ⟨w, hw, hs, hm⟩ := wait_least (h := h) (s := s) (by omega) (by omega) (by omega) half
      exact ⟨_, .yes h half s w rfl rfl rfl (by omega) (by omega) (by omega) hw hs hm,
        wait_loop N (by omega) (by omega) (by omega) (by omega) hs hm w 0 N (by omega) (by omega),
        swait_loop N (by omega) (by omega) (by omega) (by omega) hs hm w 0 N (by omega) (by omega)⟩

/-! ### the most in halves -/
/-- the first of the greatest -/
def mst (f : Nat → Nat) : Nat → Nat × Nat
  | 0 => (0, 0)
  | n + 1 => if f n > (mst f n).2 then (n, f n) else mst f n
theorem mst_ok {f : Nat → Nat} (hf : ∀ i, 0 < f i) : ∀ n, 0 < n → (mst f n).1 < n ∧ f (mst f n).1 = (mst f n).2 ∧ (∀ i, i < n → f i ≤ (mst f n).2) ∧ ∀ i, i < (mst f n).1 → f i < (mst f n).2
  | n + 1, _ => by
    simp only [mst]
    split
    · rename_i hgt
      refine ⟨by dsimp only; omega, rfl, ?_, ?_⟩
      · intro i hi
        dsimp only
        by_cases e : i = n
        · subst e; exact Nat.le_refl _
        · have := (mst_ok hf n (by omega)).2.2.1 i (by omega)
          omega
      · intro i hi
        dsimp only at hi ⊢
        have := (mst_ok hf n (by omega)).2.2.1 i hi
        omega
    · rename_i hgt
      cases n with
      | zero => have := hf 0; simp only [mst] at hgt; omega
      | succ n =>
        obtain ⟨a1, a2, a3, a4⟩ := mst_ok hf (n+1) (by omega)
        refine ⟨by omega, a2, ?_, a4⟩
        intro i hi
        by_cases e : i = n + 1
        · subst e; omega
        · exact a3 i (by omega)
def fm (h halves half : Nat) : Nat := sm h (half + halves) - sm h half
theorem fm_pos {h : Nat} (h1 : 2 ≤ h) {halves : Nat} (hs : 0 < halves) (i : Nat) : 0 < fm h halves i := by
  have := sm_lt h1 (show i < i + halves by omega)
  unfold fm; omega
theorem most_loop {N : Nat} (hN : 10000 ≤ N) {h : Nat} (h1 : 2 ≤ h) (h2 : h ≤ 24) {c : Nat} (hc : c ≤ 2*h) : ∀ (k i n : Nat), 2*h = i + k → k < n →
    impl_MostInHalves.l2 N n h c ((mst (fm h c) i).1 : Nat) ((mst (fm h c) i).2 : Nat) ((2*h : Nat) : Int) i = some ((((mst (fm h c) (2*h)).1 : Nat) : Int), (((mst (fm h c) (2*h)).2 : Nat) : Int), true)
  | 0, i, n + 1, hi, hn => by
    have : i = 2*h := by omega
    subst this
    unfold impl_MostInHalves.l2 impl_MostInHalves.d2 impl_MostInHalves.o2
    rw [dcF (by omega)]; rfl
  | k + 1, i, n + 1, hi, hn => by
    have s1 := sm_small h1 h2 (n := i + c) (by omega)
    have s2 := sm_mono h (show i ≤ i + c by omega)
    unfold impl_MostInHalves.l2 impl_MostInHalves.d2 impl_MostInHalves.o2
    rw [dcT (by omega), cond_true, w2add (by omega), before_eq hN h1 h2 (by omega), Option.bind_some, before_eq hN h1 h2 (by omega), Option.bind_some, w64s (by omega) (by omega), w1add (by omega)]
    have e : ((sm h (i + c) : Nat) : Int) - (sm h i : Nat) = ((fm h c i : Nat) : Int) := by unfold fm; omega
    rw [e]
    have ih := most_loop hN h1 h2 hc k (i+1) n (by omega) (by omega)
    simp only [mst] at ih
    by_cases hg : fm h c i > (mst (fm h c) i).2
    · rw [if_pos hg] at ih
      rw [dcT (by omega), cond_true]
      exact ih
    · rw [if_neg hg] at ih
      rw [dcF (by omega), cond_false]
      exact ih
  | _, _, 0, _, hn => by omega
theorem hf_sum (h half : Nat) : ∀ j, sm h (half + j) = sm h half + (sm h (half + j) - sm h half) := fun j => by have := sm_mono h (show half ≤ half + j by omega); omega
theorem smost_in (N : Nat) {h : Nat} (h1 : 2 ≤ h) (h2 : h ≤ 24) {c half : Nat} (hc : c ≤ 2*h) (hh : half ≤ 1000) (b m : Int) (C : Int → Int → Int → Int → Int → Option spec_MostInHalves.R) : ∀ (k i n : Nat), c = i + k → k < n →
    spec_MostInHalves.l3 N n h c b m half ((sm h (half + i) - sm h half : Nat) : Int) (hf h half c) c i C = if (fm h c half : Int) > m then C h c half (fm h c half : Nat) ((half + 1 : Nat) : Int) else C h c b m ((half + 1 : Nat) : Int)
  | 0, i, n + 1, hi, hn => by
    have : i = c := by omega
    subst this
    unfold spec_MostInHalves.l3 spec_MostInHalves.d3 spec_MostInHalves.o3 spec_MostInHalves.d4 spec_MostInHalves.o4
    rw [dcF (by omega), cond_false]
    dsimp only
    rw [w1add (by omega)]
    show cond (decide ((fm h i half : Int) > m)) _ _ = _
    by_cases hg : (fm h i half : Int) > m
    · rw [dcT hg, if_pos hg]; rfl
    · rw [dcF hg, if_neg hg]; rfl
  | k + 1, i, n + 1, hi, hn => by
    have s1 := sm_small h1 h2 (n := half + i) (by omega)
    have s2 := sm_mono h (show half ≤ half + i by omega)
    have s3 := st_le h1 (half + i)
    unfold spec_MostInHalves.l3 spec_MostInHalves.d3 spec_MostInHalves.o3
    rw [dcT (by omega), dcT (by omega), cond_true, cond_true, dcT (by rw [hf_len]; omega), cond_true, Int.toNat_natCast, hf_get h half c i (by omega), Option.bind_some, w2add (by omega), w1add (by omega)]
    have e : sm h (half + i) - sm h half + st h (half + i) = sm h (half + (i + 1)) - sm h half := by
      rw [← Nat.add_assoc]; simp only [sm]; omega
    rw [e]
    exact smost_in N h1 h2 hc hh b m C k (i+1) n (by omega) (by omega)
  | _, _, 0, _, hn => by omega
theorem smost_loop {N : Nat} (hN : 10000 ≤ N) {h : Nat} (h1 : 2 ≤ h) (h2 : h ≤ 24) {c : Nat} (hc : c ≤ 2*h) : ∀ (k i n : Nat), 2*h = i + k → k < n →
    spec_MostInHalves.l2 N n h c ((mst (fm h c) i).1 : Nat) ((mst (fm h c) i).2 : Nat) i = some ((((mst (fm h c) (2*h)).1 : Nat) : Int), (((mst (fm h c) (2*h)).2 : Nat) : Int), true)
  | 0, i, n + 1, hi, hn => by
    have : i = 2*h := by omega
    subst this
    unfold spec_MostInHalves.l2 spec_MostInHalves.d2 spec_MostInHalves.o2
    rw [w2 h2, dcF (by omega)]; rfl
  | k + 1, i, n + 1, hi, hn => by
    unfold spec_MostInHalves.l2 spec_MostInHalves.d2 spec_MostInHalves.o2
    rw [w2 h2, dcT (by omega), cond_true, stFrom_eq h1 h2 (by omega) (by omega) (by omega), Option.bind_some, hf_len]
    have := smost_in N h1 h2 (c := c) (half := i) hc (by omega) ((mst (fm h c) i).1 : Nat) ((mst (fm h c) i).2 : Nat) (fun w0 w1 w2 w3 w4 => spec_MostInHalves.l2 N n w0 w1 w2 w3 w4) c 0 N (by omega) (by omega)
    rw [Nat.add_zero, Nat.sub_self] at this
    refine Eq.trans this ?_
    have ih := smost_loop hN h1 h2 hc k (i+1) n (by omega) (by omega)
    simp only [mst] at ih
    by_cases hg : fm h c i > (mst (fm h c) i).2
    · rw [if_pos hg] at ih
      rw [if_pos (by omega)]
      exact ih
    · rw [if_neg hg] at ih
      rw [if_neg (by omega)]
      exact ih
  | _, _, 0, _, hn => by omega
inductive MostR (h c : Int) : Int × Int × Bool → Prop
  | no : MostR h c (0, 0, false)
  | yes (h' c' b m : Nat) (e1 : h = h') (e2 : c = c') (h1 : 2 ≤ h') (h2 : h' ≤ 24) (h3 : 1 ≤ c') (h4 : c' ≤ 2*h') (hb : b < 2*h') (hm : fm h' c' b = m) (ha : ∀ i, i < 2*h' → fm h' c' i ≤ m) (hl : ∀ i, i < b → fm h' c' i < m) : MostR h c ((b : Int), (m : Int), true)
theorem Most_both {N : Nat} (hN : 10000 ≤ N) (h c : Int) : ∃ r, MostR h c r ∧ impl_MostInHalves.g N h c = some r ∧ spec_MostInHalves.g N h c = some r := by
  unfold impl_MostInHalves.g impl_MostInHalves.o0 impl_MostInHalves.d1 impl_MostInHalves.o1 spec_MostInHalves.g spec_MostInHalves.o0 spec_MostInHalves.d1 spec_MostInHalves.o1
  rw [isDial_eq, diHours_eq, Option.bind_some, Option.bind_some]
  cases e : inB h 2 24 with
  | false => exact ⟨_, .no, rfl, rfl⟩
  | true =>
    have e1 := inB_iff.1 e
    obtain ⟨h, rfl⟩ := Int.eq_ofNat_of_zero_le (show 0 ≤ h by omega)
    dsimp only
    rw [Bool.not_true, cond_false, cond_false, w2 (by omega), within_eq, l1In_eq, Option.bind_some, Option.bind_some]
    cases e' : inB c 1 ((2*h : Nat) : Int) with
    | false => exact ⟨_, .no, rfl, rfl⟩
    | true =>
      have e2 := inB_iff.1 e'
      obtain ⟨c, rfl⟩ := Int.eq_ofNat_of_zero_le (show 0 ≤ c by omega)
      obtain ⟨a1, a2, a3, a4⟩ := mst_ok (f := fm h c) (fm_pos (by omega) (by omega)) (2*h) (by omega)
      exact ⟨_, .yes h c _ _ rfl rfl (by omega) (by omega) (by omega) (by omega) a1 a2 a3 a4,
        most_loop hN (by omega) (by omega) (by omega) (2*h) 0 N (by omega) (by omega),
        smost_loop hN (by omega) (by omega) (by omega) (2*h) 0 N (by omega) (by omega)⟩
end Go.Proofs.Ytpemffldaepbpaa.M

namespace Go.Proofs.Ytpemffldaepbpaa.M
open Go Go.PM Str
set_option linter.unusedVariables false
set_option linter.unusedSimpArgs false
theorem idx_loop (N : Nat) (l : List Int) (hl : l.length < 1000000000) : ∀ (k i n : Nat), l.length = i + k → k < n → ∃ r, slices_IndexFunc_int_int.l1 N n l (l.length : Int) i = some r ∧ decide (r ≥ 0) = (l.drop i).any (fun x => !inB x 1 24)
  | 0, i, n + 1, hi, hn => by
    unfold slices_IndexFunc_int_int.l1 slices_IndexFunc_int_int.d1 slices_IndexFunc_int_int.o1
    rw [dcF (by omega), cond_false, List.drop_eq_nil_of_le (by omega)]
    exact ⟨_, rfl, rfl⟩
  | k + 1, i, n + 1, hi, hn => by
    unfold slices_IndexFunc_int_int.l1 slices_IndexFunc_int_int.d1 slices_IndexFunc_int_int.o1
    rw [dcT (by omega), cond_true, dcT (by omega), cond_true, cond_true, Int.toNat_natCast, getAt (by omega)]
    unfold impl_isHeardList_1.g impl_isHeardList_1.o0
    rw [within_eq, Option.bind_some, Option.bind_some, List.drop_eq_getElem_cons (show i < l.length by omega), List.any_cons]
    cases h : inB l[i] 1 24 with
    | false => exact ⟨_, rfl, by rw [dcT (show ((i : Nat) : Int) ≥ 0 by omega)]; rfl⟩
    | true =>
      rw [Bool.not_true, cond_false, w1add (by omega), Bool.false_or]
      exact idx_loop N l hl k (i+1) n (by omega) (by omega)
  | _, _, 0, _, hn => by omega
def hlB (h : Int) (l : List Int) : Bool := inB h 2 24 && (inB l.length 1 60 && l.all (fun x => inB x 1 24))
theorem isHeardList_eq {N : Nat} (h : Int) (l : List Int) (hN : 10000 ≤ N) : impl_isHeardList.g N h l = some (hlB h l) := by
  unfold impl_isHeardList.g impl_isHeardList.o0 hlB
  rw [isDial_eq, Option.bind_some]
  cases inB h 2 24 with
  | false => rfl
  | true =>
    rw [cond_true, within_eq, Option.bind_some]
    cases e : inB l.length 1 60 with
    | false => rfl
    | true =>
      have := inB_iff.1 e
      rw [cond_true]
      unfold slices_ContainsFunc_int_int.g slices_ContainsFunc_int_int.o0 slices_IndexFunc_int_int.g slices_IndexFunc_int_int.o0
      obtain ⟨r, h1, h2⟩ := idx_loop N l (by omega) l.length 0 N (by omega) (by omega)
      rw [show (fun w0 w1 w2 => slices_IndexFunc_int_int.l1 N N w0 w1 w2) l (↑l.length) 0 = some r from h1, Option.bind_some, Option.bind_some, h2, List.drop_zero, List.any_eq_not_all_not, Bool.not_not, Bool.true_and, Bool.true_and]
      simp only [Bool.not_not]
theorem HalvesOfHeard_eq {N : Nat} (h : Int) (l : List Int) (hN : 10000 ≤ N) : impl_HalvesOfHeard.g N h l = some (if hlB h l then (hvs (hrd h.toNat l) (2*h.toNat), true) else ([], false)) := by
  unfold impl_HalvesOfHeard.g impl_HalvesOfHeard.o0
  rw [isHeardList_eq h l hN, Option.bind_some]
  cases e : hlB h l with
  | false => rfl
  | true =>
    have e' := e
    unfold hlB at e'
    simp only [Bool.and_eq_true, inB_iff] at e'
    obtain ⟨h, rfl⟩ := Int.eq_ofNat_of_zero_le (show 0 ≤ h by omega)
    rw [Bool.not_true, cond_false, halvesOf_eq hN (by omega) (by omega) (by omega)]; rfl
/-! ### numbers of strokes -/
theorem tn_ge {h : Nat} (h1 : 2 ≤ h) : h + 1 ≤ tn h := by
  have : 2 * (h + 1) ≤ h * (h + 1) := Nat.mul_le_mul_right _ h1
  unfold tn; omega
theorem num_loop (N : Nat) {h : Nat} (h1 : 2 ≤ h) (h2 : h ≤ 24) {m x : Nat} (hm : m ≤ 2000000000) (hx : sm h x < m) (hx' : m ≤ sm h (x + 1)) : ∀ (k i n : Nat), x = i + k → k < n →
    impl_strokeNumber.l1 N n h ((m - sm h i : Nat) : Int) i = some ((x : Int), ((m - sm h x : Nat) : Int))
  | 0, i, n + 1, hi, hn => by
    have : i = x := by omega
    subst this
    unfold impl_strokeNumber.l1 impl_strokeNumber.d1 impl_strokeNumber.o1
    simp only [sm] at hx'
    rw [strokes_eq N h1 h2, Option.bind_some, dcF (by omega)]; rfl
  | k + 1, i, n + 1, hi, hn => by
    have hle : sm h (i + 1) ≤ sm h x := sm_mono h (by omega)
    have hxm := sm_ge h1 x
    have he : sm h (i + 1) = sm h i + st h i := rfl
    unfold impl_strokeNumber.l1 impl_strokeNumber.d1 impl_strokeNumber.o1
    rw [strokes_eq N h1 h2, Option.bind_some, dcT (by omega), cond_true, Option.bind_some, w64s (by omega) (by omega), w1add (by omega)]
    have ih := num_loop N h1 h2 hm hx hx' k (i+1) n (by omega) (by omega)
    rw [show ((m - sm h i : Nat) : Int) - (st h i : Nat) = ((m - sm h (i + 1) : Nat) : Int) by omega]
    exact ih
  | _, _, 0, _, hn => by omega
theorem snum_loop (N : Nat) {h : Nat} (h1 : 2 ≤ h) (h2 : h ≤ 24) {m x : Nat} (hm : m ≤ 2000000000) (hx : sm h x < m) (hx' : m ≤ sm h (x + 1)) : ∀ (k i n : Nat), x = i + k → k < n →
    spec_StrokeNumber.l2 N n h ((m - sm h i : Nat) : Int) i = some ((x : Int), ((m - sm h x : Nat) : Int), true)
  | 0, i, n + 1, hi, hn => by
    have : i = x := by omega
    subst this
    unfold spec_StrokeNumber.l2 spec_StrokeNumber.d2 spec_StrokeNumber.o2
    simp only [sm] at hx'
    rw [w2 h2, ieqF (by omega), cond_false, tmodN, stAtm_eq N h1 h2, Option.bind_some, dcF (by omega)]; rfl
  | k + 1, i, n + 1, hi, hn => by
    have hle : sm h (i + 1) ≤ sm h x := sm_mono h (by omega)
    have hxm := sm_ge h1 x
    have he : sm h (i + 1) = sm h i + st h i := rfl
    unfold spec_StrokeNumber.l2 spec_StrokeNumber.d2 spec_StrokeNumber.o2
    rw [w2 h2, ieqF (by omega), cond_false, tmodN, stAtm_eq N h1 h2, Option.bind_some, dcT (by omega), cond_true, cond_false, Option.bind_some, w64s (by omega) (by omega), w1add (by omega)]
    have ih := snum_loop N h1 h2 hm hx hx' k (i+1) n (by omega) (by omega)
    rw [show ((m - sm h i : Nat) : Int) - (st h i : Nat) = ((m - sm h (i + 1) : Nat) : Int) by omega]
    exact ih
  | _, _, 0, _, hn => by omega
/-- where both begin -/
theorem num_from {h : Nat} (h1 : 2 ≤ h) (h2 : h ≤ 24) {m x : Nat} (hm : 1 ≤ m) (hx : sm h x < m) (hx' : m ≤ sm h (x + 1)) :
    2*h*((m - 1) / tn h) ≤ x ∧ x < 2*h*((m - 1) / tn h) + 2*h ∧ sm h (2*h*((m - 1) / tn h)) = tn h * ((m - 1) / tn h) ∧ (m - 1) % tn h + 1 = m - tn h * ((m - 1) / tn h) ∧ tn h * ((m - 1) / tn h) < m := by
  have ht := tn_ge h1
  have hd := Nat.mod_add_div (m - 1) (tn h)
  have hl : (m - 1) % tn h < tn h := Nat.mod_lt _ (by omega)
  have e0 := sm_wraps h1 h2 0 ((m - 1) / tn h)
  rw [Nat.zero_add] at e0
  have e1 : sm h 0 = 0 := rfl
  have a1 := half_turn h1 h2 hx hx' (q := (m - 1) / tn h) (by omega)
  have a2 := half_lt h1 h2 hx (q := (m - 1) / tn h + 1) (by rw [Nat.mul_succ]; omega)
  rw [Nat.mul_succ] at a2
  exact ⟨a1, a2, by omega, by omega, by omega⟩
theorem num_eq {N : Nat} (hN : 10000 ≤ N) {h : Nat} (h1 : 2 ≤ h) (h2 : h ≤ 24) {m x : Nat} (hm0 : 1 ≤ m) (hm : m ≤ 2000000000) (hx : sm h x < m) (hx' : m ≤ sm h (x + 1)) : impl_strokeNumber.g N h m = some ((x : Int), ((m - sm h x : Nat) : Int)) := by
  obtain ⟨b1, b2, b3, b4, b5⟩ := num_from h1 h2 hm0 hx hx'
  have hxm := sm_ge h1 x
  have ht := tn_ge h1
  unfold impl_strokeNumber.g impl_strokeNumber.o0
  rw [ofTurn_eq N h2, Option.bind_some, ieqF (by omega), cond_false, Option.bind_some, ieqF (by omega), cond_false, show w64 ((m : Int) - 1) = ((m - 1 : Nat) : Int) by rw [w64s (by omega) (by omega)]; omega, tdivN, tmodN]
  have hd : (m - 1) / tn h ≤ m - 1 := Nat.div_le_self _ _
  have lp := num_loop N h1 h2 hm hx hx'
  generalize (m - 1) / tn h = q at *
  rw [w1add (by omega), b4]
  have hq : 2 * h * q = q * 2 * h := by rw [Nat.mul_comm (2*h) q, Nat.mul_assoc]
  rw [w64s (n := ((q : Nat) : Int)) (by omega) (by omega), show ((q : Nat) : Int) * 2 = ((q * 2 : Nat) : Int) by omega, w64s (n := ((q * 2 : Nat) : Int)) (by omega) (by omega), ← Int.natCast_mul, w64s (by omega) (by omega), ← hq, ← b3]
  exact lp (x - 2*h*q) (2*h*q) N (by omega) (by omega)
theorem StrokeNumber_both {N : Nat} (hN : 10000 ≤ N) (h m : Int) : ((inB h 2 24 && inB m 1 1000000000) = false ∧ impl_StrokeNumber.g N h m = some (0, 0, false) ∧ spec_StrokeNumber.g N h m = some (0, 0, false)) ∨
    ∃ h' m' x : Nat, h = h' ∧ m = m' ∧ 2 ≤ h' ∧ h' ≤ 24 ∧ 1 ≤ m' ∧ m' ≤ 1000000000 ∧ sm h' x < m' ∧ m' ≤ sm h' (x + 1) ∧ impl_StrokeNumber.g N h m = some ((x : Int), ((m' - sm h' x : Nat) : Int), true) ∧ spec_StrokeNumber.g N h m = some ((x : Int), ((m' - sm h' x : Nat) : Int), true) := by
  unfold impl_StrokeNumber.g impl_StrokeNumber.o0 impl_StrokeNumber.d1 impl_StrokeNumber.o1 spec_StrokeNumber.g spec_StrokeNumber.o0 spec_StrokeNumber.d1 spec_StrokeNumber.o1
  rw [isDial_eq, diHours_eq, Option.bind_some, Option.bind_some]
  cases e : inB h 2 24 with
  | false => exact .inl ⟨rfl, rfl, rfl⟩
  | true =>
    rw [Bool.not_true, cond_false, cond_false, within_eq, l1In_eq, Option.bind_some, Option.bind_some]
    cases e' : inB m 1 1000000000 with
    | false => exact .inl ⟨rfl, rfl, rfl⟩
    | true =>
      have e1 := inB_iff.1 e
      have e2 := inB_iff.1 e'
      obtain ⟨h, rfl⟩ := Int.eq_ofNat_of_zero_le (show 0 ≤ h by omega)
      obtain ⟨m, rfl⟩ := Int.eq_ofNat_of_zero_le (show 0 ≤ m by omega)
      have h1 : 2 ≤ h := by omega
      have h2 : h ≤ 24 := by omega
      obtain ⟨x, hx, hx'⟩ := half_of h1 (n := m) (by omega)
      refine .inr ⟨h, m, x, rfl, rfl, by omega, by omega, by omega, by omega, hx, hx', ?_, ?_⟩
      · dsimp only
        rw [Bool.not_true, cond_false, num_eq hN h1 h2 (by omega) (by omega) hx hx']; rfl
      · dsimp only
        obtain ⟨b1, b2, b3, b4, b5⟩ := num_from h1 h2 (m := m) (by omega) hx hx'
        have hxm := sm_ge h1 x
        have ht := tn_ge h1
        rw [Bool.not_true, cond_false, stTurn_eq N h2, Option.bind_some, ieqF (by omega), cond_false, Option.bind_some, ieqF (by omega), cond_false, Option.bind_some, show w64 ((m : Int) - 1) = ((m - 1 : Nat) : Int) by rw [w64s (by omega) (by omega)]; omega, tdivN]
        have hd : (m - 1) / tn h ≤ m - 1 := Nat.div_le_self _ _
        have lp := snum_loop N h1 h2 (by omega) hx hx'
        generalize (m - 1) / tn h = q at *
        have hq : 2 * h * q = q * 2 * h := by rw [Nat.mul_comm (2*h) q, Nat.mul_assoc]
        rw [w64s (n := ((q : Nat) : Int)) (by omega) (by omega), show ((q : Nat) : Int) * 2 = ((q * 2 : Nat) : Int) by omega, w64s (n := ((q * 2 : Nat) : Int)) (by omega) (by omega), ← Int.natCast_mul, ← Int.natCast_mul, Nat.mul_comm q (tn h), w64s (n := ((tn h * q : Nat) : Int)) (by omega) (by omega), w64s (by omega) (by omega), w64s (by omega) (by omega), ← hq, show (m : Int) - ((tn h * q : Nat) : Int) = ((m - tn h * q : Nat) : Int) by omega, ← b3]
        exact lp (x - 2*h*q) (2*h*q) N (by omega) (by omega)
/-! ### wheels -/
theorem wheel_loop (N : Nat) {h : Nat} (h1 : 2 ≤ h) (h2 : h ≤ 24) {m x : Nat} (hm : m ≤ 2000) (hx : sm h x < h + m) (hx' : h + m ≤ sm h (x + 1)) : ∀ (k i n : Nat), x = i + k → k < n →
    spec_HalfOfWheel.l2 N n h ((i % (2*h) : Nat) : Int) (((h + m : Nat) : Int) - (sm h (i + 1) : Nat)) = some (((x % (2*h) : Nat) : Int), true)
  | 0, i, n + 1, hi, hn => by
    have : i = x := by omega
    subst this
    unfold spec_HalfOfWheel.l2 spec_HalfOfWheel.d2 spec_HalfOfWheel.o2
    rw [dcF (by omega)]; rfl
  | k + 1, i, n + 1, hi, hn => by
    have hle : sm h (i + 1) ≤ sm h x := sm_mono h (by omega)
    have hxm := sm_ge h1 x
    have he : sm h (i + 1 + 1) = sm h (i + 1) + st h (i + 1) := rfl
    have hs := st_le h1 (i + 1)
    have hi2 : i % (2*h) < 2*h := Nat.mod_lt _ (by omega)
    unfold spec_HalfOfWheel.l2 spec_HalfOfWheel.d2 spec_HalfOfWheel.o2
    have em : (i % (2*h) + 1) % (2*h) = (i + 1) % (2*h) := by rw [Nat.mod_add_mod]
    rw [dcT (by omega), cond_true, w1add (by omega), w2 h2, ieqF (by omega), cond_false, tmodN, em, stAtm_eq N h1 h2, Option.bind_some, w64s (by omega) (by omega)]
    have ih := wheel_loop N h1 h2 hm hx hx' k (i+1) n (by omega) (by omega)
    rw [he] at ih
    rw [show ((h + m : Nat) : Int) - (sm h (i + 1) : Nat) - (st h (i + 1) : Nat) = ((h + m : Nat) : Int) - ((sm h (i + 1) + st h (i + 1) : Nat) : Int) by omega]
    exact ih
  | _, _, 0, _, hn => by omega
theorem Wheel_both {N : Nat} (hN : 10000 ≤ N) (h s : Int) : (impl_HalfOfWheel.g N h s = some (0, false) ∧ spec_HalfOfWheel.g N h s = some (0, false)) ∨
    ∃ h' s' x : Nat, h = h' ∧ s = s' ∧ 2 ≤ h' ∧ h' ≤ 24 ∧ s' ≤ 1000000000 ∧ sm h' x < h' + s' ∧ h' + s' ≤ sm h' (x + 1) ∧ impl_HalfOfWheel.g N h s = some (((x % (2*h') : Nat) : Int), true) ∧ spec_HalfOfWheel.g N h s = some (((x % (2*h') : Nat) : Int), true) := by
  unfold impl_HalfOfWheel.g impl_HalfOfWheel.o0 impl_HalfOfWheel.d1 impl_HalfOfWheel.o1 spec_HalfOfWheel.g spec_HalfOfWheel.o0 spec_HalfOfWheel.d1 spec_HalfOfWheel.o1
  rw [isDial_eq, diHours_eq, Option.bind_some, Option.bind_some]
  cases e : inB h 2 24 with
  | false => exact .inl ⟨rfl, rfl⟩
  | true =>
    rw [Bool.not_true, cond_false, cond_false, within_eq, l1In_eq, Option.bind_some, Option.bind_some]
    cases e' : inB s 0 1000000000 with
    | false => exact .inl ⟨rfl, rfl⟩
    | true =>
      have e1 := inB_iff.1 e
      have e2 := inB_iff.1 e'
      obtain ⟨h, rfl⟩ := Int.eq_ofNat_of_zero_le (show 0 ≤ h by omega)
      obtain ⟨s, rfl⟩ := Int.eq_ofNat_of_zero_le (show 0 ≤ s by omega)
      have h1 : 2 ≤ h := by omega
      have h2 : h ≤ 24 := by omega
      have ht := tn_ge h1
      have ht2 := tn_small h2
      obtain ⟨x, hx, hx'⟩ := half_of h1 (n := h + s) (by omega)
      refine .inr ⟨h, s, x, rfl, rfl, by omega, by omega, by omega, hx, hx', ?_, ?_⟩
      · dsimp only
        rw [Bool.not_true, cond_false, w2add (by omega), num_eq hN h1 h2 (by omega) (by omega) hx hx', Option.bind_some]
        dsimp only
        rw [w2 h2, ieqF (by omega), cond_false, tmodN]
      · dsimp only
        rw [Bool.not_true, cond_false, stTurn_eq N h2, Option.bind_some, ieqF (by omega), cond_false, tmodN]
        have hd := Nat.mod_add_div s (tn h)
        have hl : s % tn h < tn h := Nat.mod_lt _ (by omega)
        -- the wheel within a turn
        have a1 : 2*h*(s / tn h) ≤ x := half_turn h1 h2 hx hx' (by omega)
        have w1 := sm_wraps h1 h2 (x - 2*h*(s / tn h)) (s / tn h)
        have w2' := sm_wraps h1 h2 (x - 2*h*(s / tn h) + 1) (s / tn h)
        rw [show x - 2*h*(s / tn h) + 2*h*(s / tn h) = x by omega] at w1
        rw [show x - 2*h*(s / tn h) + 1 + 2*h*(s / tn h) = x + 1 by omega] at w2'
        have hg := sm_ge h1 (x - 2*h*(s / tn h))
        have lp := wheel_loop N h1 h2 (m := s % tn h) (x := x - 2*h*(s / tn h)) (by omega) (by omega) (by omega) (x - 2*h*(s / tn h)) 0 N (by omega) (by omega)
        rw [Nat.zero_mod, Nat.zero_add, sm_one, show ((h + s % tn h : Nat) : Int) - (h : Int) = ((s % tn h : Nat) : Int) by omega] at lp
        have em : (x - 2*h*(s / tn h)) % (2*h) = x % (2*h) := by
          conv => rhs; rw [show x = (x - 2*h*(s / tn h)) + 2*h*(s / tn h) by omega, Nat.add_mul_mod_self_left]
        rw [em] at lp
        exact lp
/-! ### letting off -/
theorem mend_loop (N : Nat) {p : Nat} (h1 : 2 ≤ p) (h2 : p ≤ 24) {q r s : Nat} (hr : r < 2*p) (hs : s < 2*p) (he : (r + s) % (2*p) = q) (hne : ∀ i, i < s → (r + i) % (2*p) ≠ q) : ∀ (k i n : Nat), s = i + k → k < n →
    spec_StrokesToMend.l2 N n p q (((r + i) % (2*p) : Nat) : Int) ((sm p (r + 1 + i) - sm p (r + 1) : Nat) : Int) = some (((sm p (r + 1 + s) - sm p (r + 1) : Nat) : Int), true)
  | 0, i, n + 1, hi, hn => by
    have : i = s := by omega
    subst this
    unfold spec_StrokesToMend.l2 spec_StrokesToMend.d2 spec_StrokesToMend.o2
    rw [ineF (by omega)]; rfl
  | k + 1, i, n + 1, hi, hn => by
    have hn1 := hne i (by omega)
    have hi2 : (r + i) % (2*p) < 2*p := Nat.mod_lt _ (by omega)
    have b1 := sm_small h1 h2 (n := r + 1 + i) (by omega)
    have b2 := sm_mono p (show r + 1 ≤ r + 1 + i by omega)
    have b3 := st_le h1 (r + 1 + i)
    unfold spec_StrokesToMend.l2 spec_StrokesToMend.d2 spec_StrokesToMend.o2
    have em : ((r + i) % (2*p) + 1) % (2*p) = (r + 1 + i) % (2*p) := by rw [Nat.mod_add_mod]; congr 1; omega
    rw [ineT (by omega), cond_true, w1add (by omega), w2 h2, ieqF (by omega), cond_false, tmodN, em, stAtm_eq N h1 h2, Option.bind_some, w2add (by omega)]
    have ih := mend_loop N h1 h2 hr hs he hne k (i+1) n (by omega) (by omega)
    have e1 : sm p (r + 1 + (i + 1)) = sm p (r + 1 + i) + st p (r + 1 + i) := rfl
    rw [e1] at ih
    rw [show r + (i + 1) = r + 1 + i by omega, show sm p (r + 1 + i) + st p (r + 1 + i) - sm p (r + 1) = sm p (r + 1 + i) - sm p (r + 1) + st p (r + 1 + i) by omega] at ih
    exact ih
  | _, _, 0, _, hn => by omega
inductive StepR (p q r : Int) : Int × Bool → Int × Bool → Prop
  | no : StepR p q r (0, false) (0, false)
  | yes (p' q' r' : Nat) (e1 : p = p') (e2 : q = q') (e3 : r = r') (h1 : 2 ≤ p') (h2 : p' ≤ 24) (h3 : q' < 2*p') (h4 : r' < 2*p') : StepR p q r ((stp p' q' r' : Nat), true) (((sm p' (r' + 1 + stp p' q' r') - sm p' (r' + 1) : Nat) : Int), true)
theorem steps_eq (N : Nat) {p q r : Nat} (h1 : 2 ≤ p) (h2 : p ≤ 24) (h3 : q < 2*p) (h4 : r < 2*p) : Int.tmod (w64 (w64 ((q : Int) - (r : Int)) + w64 (2 * (p : Int)))) (w64 (2 * (p : Int))) = ((stp p q r : Nat) : Int) := by
  rw [w2 h2, w64s (n := (q : Int) - (r : Int)) (by omega) (by omega), w64s (by omega) (by omega), show (q : Int) - (r : Int) + ((2*p : Nat) : Int) = ((q + 2*p - r : Nat) : Int) by omega, tmodN]
  rfl
theorem Steps_both {N : Nat} (hN : 10000 ≤ N) (p q r : Int) : ∃ s m, StepR p q r s m ∧ impl_StepsBack.g N p q r = some s ∧ spec_StepsBack.g N p q r = some s ∧ impl_StrokesToMend.g N p q r = some m ∧ spec_StrokesToMend.g N p q r = some m := by
  unfold impl_StrokesToMend.g impl_StrokesToMend.o0 impl_StepsBack.g impl_StepsBack.o0 impl_StepsBack.d1 impl_StepsBack.o1 spec_StepsBack.g spec_StepsBack.o0 spec_StepsBack.d1 spec_StepsBack.o1 spec_StrokesToMend.g spec_StrokesToMend.o0 spec_StrokesToMend.d1 spec_StrokesToMend.o1 impl_stepsBack.g impl_stepsBack.o0
  rw [isHalf_eq, stHalf_eq, Option.bind_some, Option.bind_some, Option.bind_some]
  cases e : halfB p q with
  | false => exact ⟨_, _, .no, rfl, rfl, rfl, rfl⟩
  | true =>
    rw [Bool.not_true, cond_false, cond_false, cond_false, isHalf_eq, stHalf_eq, Option.bind_some, Option.bind_some, Option.bind_some]
    cases e' : halfB p r with
    | false => exact ⟨_, _, .no, rfl, rfl, rfl, rfl⟩
    | true =>
      have e1 := halfB_iff.1 e
      have e2 := halfB_iff.1 e'
      obtain ⟨p, rfl⟩ := Int.eq_ofNat_of_zero_le (show 0 ≤ p by omega)
      obtain ⟨q, rfl⟩ := Int.eq_ofNat_of_zero_le (show 0 ≤ q by omega)
      obtain ⟨r, rfl⟩ := Int.eq_ofNat_of_zero_le (show 0 ≤ r by omega)
      have h1 : 2 ≤ p := by omega
      have h2 : p ≤ 24 := by omega
      have hs := stp_lt h1 q r
      obtain ⟨o1, o2⟩ := stp_ok h1 (q := q) (r := r) (by omega) (by omega)
      refine ⟨_, _, .yes p q r rfl rfl rfl h1 h2 (by omega) (by omega), ?_, ?_, ?_, ?_⟩
      · dsimp only
        rw [Bool.not_true, cond_false, steps_eq N h1 h2 (by omega) (by omega), w2 h2, ieqF (by omega)]; rfl
      · dsimp only
        rw [Bool.not_true, cond_false, steps_eq N h1 h2 (by omega) (by omega), w2 h2, ieqF (by omega)]; rfl
      · dsimp only
        rw [Bool.not_true, cond_false, steps_eq N h1 h2 (by omega) (by omega), w2 h2, ieqF (by omega), cond_false, Option.bind_some, Option.bind_some]
        dsimp only
        have b1 := sm_small h1 h2 (n := r + 1 + stp p q r) (by omega)
        have b2 := sm_mono p (show r + 1 ≤ r + 1 + stp p q r by omega)
        rw [Bool.not_true, cond_false, w2add (by omega), w1add (by omega), w1add (by omega), before_eq hN h1 h2 (by omega), Option.bind_some, before_eq hN h1 h2 (by omega), Option.bind_some, show r + stp p q r + 1 = r + 1 + stp p q r by omega, w64s (by omega) (by omega)]
        rw [show ((sm p (r + 1 + stp p q r) : Nat) : Int) - (sm p (r + 1) : Nat) = ((sm p (r + 1 + stp p q r) - sm p (r + 1) : Nat) : Int) by omega]
      · dsimp only
        rw [Bool.not_true, cond_false]
        have lp := mend_loop N h1 h2 (q := q) (r := r) (s := stp p q r) (by omega) hs o1 o2 (stp p q r) 0 N (by omega) (by omega)
        rw [Nat.add_zero, Nat.add_zero, Nat.sub_self, Nat.mod_eq_of_lt (by omega)] at lp
        exact lp
/-! ### draws -/
theorem drawBetween_tot (N : Nat) {code : List Int} (hc : Bs code) : Tot (spec_DrawStrokesBetween.g N code) fun _ => True := by
  unfold spec_DrawStrokesBetween.g spec_DrawStrokesBetween.o0
  refine Tot.bind (one_tot N hc 12 (by omega) (by omega) 0) ?_
  rintro ⟨b, c, p, s⟩ ⟨rfl, p1, p2⟩
  dsimp only at p1 p2 ⊢
  refine Tot.bif (fun _ => ?_) (fun _ => ?_)
  · refine Tot.bind (hours_tot N hc p1 (by omega) s) ?_
    rintro ⟨h, c, p, s⟩ ⟨_, rfl, p1, p2⟩
    dsimp only at p1 p2 ⊢
    refine Tot.bind (among_tot N hc _ (by decide) p1 (by omega) s) ?_
    rintro ⟨h, c, p, s⟩ ⟨_, rfl, p1, p2⟩
    dsimp only at p1 p2 ⊢
    exact Tot.bind (among_tot N hc _ (by decide) p1 (by omega) s) fun r _ => Tot.now trivial
  · refine Tot.bind (hours_tot N hc p1 (by omega) s) ?_
    rintro ⟨h, c, p, s⟩ ⟨_, rfl, p1, p2⟩
    dsimp only at p1 p2 ⊢
    refine Tot.bind (pick_tot N hc _ p1 (by omega) s) ?_
    rintro ⟨h, c, p, s⟩ ⟨_, rfl, p1, p2⟩
    dsimp only at p1 p2 ⊢
    exact Tot.bind (pick_tot N hc _ p1 (by omega) s) fun r _ => Tot.now trivial
theorem drawNumber_tot (N : Nat) {code : List Int} (hc : Bs code) : Tot (spec_DrawStrokeNumber.g N code) fun _ => True := by
  unfold spec_DrawStrokeNumber.g spec_DrawStrokeNumber.o0
  refine Tot.bind (one_tot N hc 12 (by omega) (by omega) 0) ?_
  rintro ⟨b, c, p, s⟩ ⟨rfl, p1, p2⟩
  dsimp only at p1 p2 ⊢
  refine Tot.bif (fun _ => ?_) (fun _ => ?_)
  · refine Tot.bind (hours_tot N hc p1 (by omega) s) ?_
    rintro ⟨h, c, p, s⟩ ⟨_, rfl, p1, p2⟩
    dsimp only at p1 p2 ⊢
    exact Tot.bind (among_tot N hc _ (by decide) p1 (by omega) s) fun r _ => Tot.now trivial
  · refine Tot.bind (hours_tot N hc p1 (by omega) s) ?_
    rintro ⟨h, c, p, s⟩ ⟨_, rfl, p1, p2⟩
    dsimp only at p1 p2 ⊢
    exact Tot.bind (pick_tot N hc _ p1 (by omega) s) fun r _ => Tot.now trivial
theorem drawWheel_tot (N : Nat) {code : List Int} (hc : Bs code) : Tot (spec_DrawHalfOfWheel.g N code) fun _ => True := by
  unfold spec_DrawHalfOfWheel.g spec_DrawHalfOfWheel.o0
  refine Tot.bind (one_tot N hc 12 (by omega) (by omega) 0) ?_
  rintro ⟨b, c, p, s⟩ ⟨rfl, p1, p2⟩
  dsimp only at p1 p2 ⊢
  refine Tot.bif (fun _ => ?_) (fun _ => ?_)
  · refine Tot.bind (hours_tot N hc p1 (by omega) s) ?_
    rintro ⟨h, c, p, s⟩ ⟨_, rfl, p1, p2⟩
    dsimp only at p1 p2 ⊢
    exact Tot.bind (among_tot N hc _ (by decide) p1 (by omega) s) fun r _ => Tot.now trivial
  · refine Tot.bind (hours_tot N hc p1 (by omega) s) ?_
    rintro ⟨h, c, p, s⟩ ⟨_, rfl, p1, p2⟩
    dsimp only at p1 p2 ⊢
    exact Tot.bind (pick_tot N hc _ p1 (by omega) s) fun r _ => Tot.now trivial
theorem drawSteps_tot (N : Nat) {code : List Int} (hc : Bs code) : Tot (spec_DrawStepsBack.g N code) fun _ => True := by
  unfold spec_DrawStepsBack.g spec_DrawStepsBack.o0
  refine Tot.bind (half_tot N hc (by omega) (by omega) 0) ?_
  rintro ⟨h, a, c, p, s⟩ ⟨⟨x1, x2⟩, rfl, p1, p2⟩
  dsimp only at x1 x2 p1 p2 ⊢
  rw [most_eq, Option.bind_some, least_eq, Option.bind_some]
  exact Tot.bind (pick_tot N hc _ p1 (by omega) s) fun r _ => Tot.now trivial
end Go.Proofs.Ytpemffldaepbpaa.M

namespace Go.Proofs.Ytpemffldaepbpaa.M
open Go Go.PM Str
set_option linter.unusedVariables false
set_option linter.unusedSimpArgs false
theorem bs_of {y : List Int} (h : ∀ x ∈ y, (Lit.int .u8 x).wf = true) (hl : y.length ≤ 1048576) : Bs y := by
  refine ⟨hl, fun x hx => ?_⟩
  have := h x hx
  simp [Lit.wf, IntKind.min, IntKind.max, IntKind.signed, IntKind.bits] at this
  omega
theorem sw_l13 {N : Nat} (hN : 10000 ≤ N) {h c b m : Nat} (h1 : 2 ≤ h) (h2 : h ≤ 24) (h3 : 1 ≤ c) (h4 : c ≤ 2*h) (hb : b < 2*h) (hm : fm h c b = m) (ha : ∀ i, i < 2*h → fm h c i ≤ m) (hl : ∀ i, i < b → fm h c i < m) : ∀ (k i n : Nat), 2*h = i + k → k < n →
    laws_FnStrokesWaited.l13 N n h c b m i = some true
  | 0, i, n + 1, hi, hn => by
    unfold laws_FnStrokesWaited.l13 laws_FnStrokesWaited.d13 laws_FnStrokesWaited.o13
    rw [w2 h2, dcF (by omega)]; rfl
  | k + 1, i, n + 1, hi, hn => by
    have ih := sw_l13 hN h1 h2 h3 h4 hb hm ha hl k (i+1) n (by omega) (by omega)
    have fin : laws_FnStrokesWaited.d15 N h c b m i false (fun w0 w1 w2 w3 w4 => laws_FnStrokesWaited.l13 N n w0 w1 w2 w3 w4) = some true := by
      unfold laws_FnStrokesWaited.d15 laws_FnStrokesWaited.o15
      rw [cond_false, w1add (by omega)]
      exact ih
    have e0 : w64 (w64 ((i : Int) + (c : Int)) - 1) = ((i + c - 1 : Nat) : Int) := by
      rw [w2add (by omega), w64s (by omega) (by omega)]; omega
    have e1 : bet h i (i + c - 1) = fm h c i := by unfold bet fm; rw [show i + c - 1 + 1 = i + c by omega]
    have le := ha i (by omega)
    unfold laws_FnStrokesWaited.l13 laws_FnStrokesWaited.d13 laws_FnStrokesWaited.o13
    rw [w2 h2, dcT (by omega), cond_true, e0, StrokesBetween_eq hN, if_pos (betB_iff.2 (by omega)), Option.bind_some, Int.toNat_natCast, Int.toNat_natCast, Int.toNat_natCast, e1]
    dsimp only
    rw [Bool.not_true, cond_false, dcF (by omega), cond_false]
    by_cases hib : i < b
    · have := hl i hib
      rw [dcT (by omega), cond_true, ieqF (by omega), cond_false, ieqF (by omega), cond_false]
      exact fin
    · rw [dcF (by omega), cond_false]
      by_cases he : i = b
      · subst he
        rw [ieqT rfl, cond_true, ineF (by omega)]
        exact fin
      · rw [ieqF (by omega), cond_false]
        exact fin
  | _, _, 0, _, hn => by omega
theorem sw_d9 {N : Nat} (hN : 10000 ≤ N) {h c : Int} {r : Int × Int × Bool} (hr : MostR h c r) : laws_FnStrokesWaited.d9 N h c r.1 r.2.1 r.2.2 = some true := by
  unfold laws_FnStrokesWaited.d9 laws_FnStrokesWaited.o9
  cases hr with
  | no => rfl
  | yes h' c' b m e1 e2 h1 h2 h3 h4 hb hm ha hl =>
    subst e1; subst e2
    rw [cond_true]
    exact sw_l13 hN h1 h2 h3 h4 hb hm ha hl (2*h') 0 N (by omega) (by omega)
theorem sw_l11 {N : Nat} (hN : 10000 ≤ N) {h half c : Nat} (h1 : 2 ≤ h) (h2 : h ≤ 24) (h3 : half < 2*h) (h4 : c ≤ 60) {e m : Int} {r : Int × Int × Bool} (hr : MostR e m r) : ∀ (k i n : Nat), c = i + k → k < n →
    laws_FnStrokesWaited.l11 N n h half c (hf h half c) e m r.1 r.2.1 r.2.2 (hf h half c) c i = some true
  | 0, i, n + 1, hi, hn => by
    unfold laws_FnStrokesWaited.l11 laws_FnStrokesWaited.d11 laws_FnStrokesWaited.o11
    rw [dcF (by omega), cond_false, hf_len, ineF rfl, cond_false]
    exact sw_d9 hN hr
  | k + 1, i, n + 1, hi, hn => by
    unfold laws_FnStrokesWaited.l11 laws_FnStrokesWaited.d11 laws_FnStrokesWaited.o11
    rw [dcT (by omega), dcT (by omega), cond_true, cond_true, dcT (by rw [hf_len]; omega), cond_true, Int.toNat_natCast, hf_get h half c i (by omega), Option.bind_some, w2 h2, ieqF (by omega), cond_false, w2add (by omega), tmodN, StrokesAt_at N h1 h2, Option.bind_some]
    dsimp only
    rw [Bool.not_true, cond_false, ineF rfl]
    unfold laws_FnStrokesWaited.d14 laws_FnStrokesWaited.o14
    rw [cond_false, w1add (by omega)]
    exact sw_l11 hN h1 h2 h3 h4 hr k (i+1) n (by omega) (by omega)
  | _, _, 0, _, hn => by omega
theorem sw_d6 {N : Nat} (hN : 10000 ≤ N) (h half c : Int) {e m : Int} {r : Int × Int × Bool} (hr : MostR e m r) {q : List Int × Bool} (hq : q = if heardB h half c then (hf h.toNat half.toNat c.toNat, true) else ([], false)) :
    laws_FnStrokesWaited.d6 N h half c q.1 q.2 e m r.1 r.2.1 r.2.2 = some true := by
  unfold laws_FnStrokesWaited.d6 laws_FnStrokesWaited.o6
  subst hq
  by_cases hb : heardB h half c = true
  · rw [if_pos hb]
    unfold heardB at hb
    rw [Bool.and_eq_true, halfB_iff, inB_iff] at hb
    obtain ⟨h, rfl⟩ := Int.eq_ofNat_of_zero_le (show 0 ≤ h by omega)
    obtain ⟨half, rfl⟩ := Int.eq_ofNat_of_zero_le (show 0 ≤ half by omega)
    obtain ⟨c, rfl⟩ := Int.eq_ofNat_of_zero_le (show 0 ≤ c by omega)
    dsimp only
    rw [cond_true, Int.toNat_natCast, Int.toNat_natCast, Int.toNat_natCast, hf_len]
    exact sw_l11 hN (by omega) (by omega) (by omega) (by omega) hr c 0 N (by omega) (by omega)
  · rw [if_neg hb]
    dsimp only
    rw [cond_false]
    exact sw_d9 hN hr
theorem sw_l5 {N : Nat} (hN : 10000 ≤ N) {h half s w : Nat} (h1 : 2 ≤ h) (h2 : h ≤ 24) (h3 : half < 2*h) (hw : w < 2*h) (hs : st h (half + w) = s) (hm : ∀ j, j < w → st h (half + j) ≠ s) (b1 b2 b3 : Int) {e m : Int} {r : Int × Int × Bool} (hr : MostR e m r) {q : List Int × Bool} (hq : q = if heardB b1 b2 b3 then (hf b1.toNat b2.toNat b3.toNat, true) else ([], false)) : ∀ (k i n : Nat), w + 1 = i + k → k < n →
    laws_FnStrokesWaited.l5 N n h half s w b1 b2 b3 q.1 q.2 e m r.1 r.2.1 r.2.2 i = some true
  | 0, i, n + 1, hi, hn => by
    unfold laws_FnStrokesWaited.l5 laws_FnStrokesWaited.d5 laws_FnStrokesWaited.o5
    rw [dcF (by omega), cond_false]
    exact sw_d6 hN b1 b2 b3 hr hq
  | k + 1, i, n + 1, hi, hn => by
    unfold laws_FnStrokesWaited.l5 laws_FnStrokesWaited.d5 laws_FnStrokesWaited.o5
    rw [dcT (by omega), cond_true, w2 h2, ieqF (by omega), cond_false, w2add (by omega), tmodN, StrokesAt_at N h1 h2, Option.bind_some]
    dsimp only
    rw [Bool.not_true, cond_false]
    have e2 : (!((((st h (half + i) : Nat) : Int) == (s : Int)) == (((i : Nat) : Int) == (w : Int)))) = false := by
      by_cases hiw : i = w
      · subst hiw
        rw [ieqT (by omega), ieqT rfl]; rfl
      · have := hm i (by omega)
        rw [ieqF (by omega), ieqF (by omega)]; rfl
    rw [e2]
    unfold laws_FnStrokesWaited.d10 laws_FnStrokesWaited.o10
    rw [cond_false, w2 h2, dcF (by omega), cond_false, w1add (by omega)]
    exact sw_l5 hN h1 h2 h3 hw hs hm b1 b2 b3 hr hq k (i+1) n (by omega) (by omega)
  | _, _, 0, _, hn => by omega
theorem sw_d2 {N : Nat} (hN : 10000 ≤ N) {a1 a2 a3 : Int} {p : Int × Bool} (hp : WaitR a1 a2 a3 p) (b1 b2 b3 : Int) {e m : Int} {r : Int × Int × Bool} (hr : MostR e m r) {q : List Int × Bool} (hq : q = if heardB b1 b2 b3 then (hf b1.toNat b2.toNat b3.toNat, true) else ([], false)) :
    laws_FnStrokesWaited.d2 N a1 a2 a3 p.1 p.2 b1 b2 b3 q.1 q.2 e m r.1 r.2.1 r.2.2 false = some true := by
  unfold laws_FnStrokesWaited.d2 laws_FnStrokesWaited.o2
  rw [cond_false]
  cases hp with
  | no => dsimp only; rw [cond_false]; exact sw_d6 hN b1 b2 b3 hr hq
  | yes h' half' s' w e1 e2 e3 h1 h2 h3 hw hs hm =>
    subst e1; subst e2; subst e3
    dsimp only
    rw [cond_true]
    exact sw_l5 hN h1 h2 h3 hw hs hm b1 b2 b3 hr hq (w+1) 0 N (by omega) (by omega)
theorem big_eq (N : Nat) (a b : List Int) (ha : a.length * 1 ≤ 140737488351232) : laws_big.g N a b = some true ∨ (laws_big.g N a b = some false ∧ a.length ≤ 1048576 ∧ b.length ≤ 1048576) := by
  unfold laws_big.g laws_big.o0
  by_cases h : (a.length : Int) > 1048576
  · rw [dcT h]; exact .inl rfl
  · rw [dcF h, w64s (by omega) (by omega), cond_false]
    by_cases h' : (b.length : Int) > 1048576 - (a.length : Int)
    · rw [dcT h']; exact .inl rfl
    · rw [dcF h']; exact .inr ⟨rfl, by omega, by omega⟩
theorem FnStrokesWaited.pure : FnStrokesWaited.Pure := by
  intro y0 y1 w0 w1
  suffices hs : ∀ N, 10000 ≤ N → laws_FnStrokesWaited.g N y0 y1 = some true from ⟨10000, hs _ (Nat.le_refl _)⟩
  intro N hN
  refine Tot.get ?_
  unfold laws_FnStrokesWaited.g laws_FnStrokesWaited.o0
  rcases big_eq N y0 y1 w0.2.1 with h | ⟨h, l0, l1⟩
  · rw [h]; exact Tot.now rfl
  rw [h, Option.bind_some, cond_false]
  have c0 := bs_of w0.2.2 l0
  have c1 := bs_of w1.2.2 l1
  refine Tot.bind (drawWait_tot N c0) ?_
  rintro ⟨a1, a2, a3⟩ _
  dsimp only
  obtain ⟨p, hp, p1, p2⟩ := Wait_both hN a1 a2 a3
  rw [p1, p2, Option.bind_some, Option.bind_some]
  refine Tot.bind (drawHeard_tot N c1) ?_
  rintro ⟨b1, b2, b3⟩ _
  dsimp only
  rw [HeardFrom_eq hN, sHeardFrom_eq hN, Option.bind_some, Option.bind_some]
  generalize hq : (if heardB b1 b2 b3 then (hf b1.toNat b2.toNat b3.toNat, true) else ([], false)) = q
  refine Tot.bind (drawMost_tot N c1) ?_
  rintro ⟨d1, d2⟩ _
  dsimp only
  obtain ⟨r, hr, r1, r2⟩ := Most_both hN d1 d2
  rw [r1, r2, Option.bind_some, Option.bind_some]
  refine Tot.bind (drawAt_tot N c1) ?_
  rintro ⟨e1, e2⟩ _
  dsimp only
  rw [StrokesAt_eq, sStrokesAt_eq, Option.bind_some, Option.bind_some]
  have hql : q.1.length ≤ 60 := by
    subst hq
    by_cases hb : heardB b1 b2 b3 = true
    · rw [if_pos hb]
      unfold heardB at hb
      rw [Bool.and_eq_true, halfB_iff, inB_iff] at hb
      dsimp only
      rw [hf_len]
      omega
    · rw [if_neg hb]; exact Nat.zero_le _
  simp only [beq_self_eq_true, bne_self_eq_false, Bool.not_true, cond_false]
  rw [kSame_eq _ _ (by omega) (by omega), Option.bind_some]
  simp only [decide_true, Bool.not_true, cond_false]
  exact Tot.of (sw_d2 hN hp b1 b2 b3 hr hq.symm)
end Go.Proofs.Ytpemffldaepbpaa.M

namespace Go.Proofs.Ytpemffldaepbpaa.M
open Go Go.PM Str
set_option linter.unusedVariables false
set_option linter.unusedSimpArgs false
theorem sc_d17 {N : Nat} (hN : 10000 ≤ N) {p q r : Int} {s m : Int × Bool} (h : StepR p q r s m) : laws_FnStrokesCounted.d17 N p q r s.1 s.2 m.1 false = some true := by
  unfold laws_FnStrokesCounted.d17 laws_FnStrokesCounted.o17
  cases h with
  | no => rfl
  | yes p q r e1 e2 e3 h1 h2 h3 h4 =>
    subst e1; subst e2; subst e3
    have hs := stp_lt h1 q r
    obtain ⟨o1, o2⟩ := stp_ok h1 h3 h4
    dsimp only
    rw [cond_false, cond_true, dcF (by omega), cond_false, w2 h2, dcF (by omega), cond_false, ieqF (by omega), cond_false, w2add (by omega), tmodN, o1, ineF rfl]
    unfold laws_FnStrokesCounted.d18 laws_FnStrokesCounted.o18
    rw [cond_false]
    by_cases c : stp p q r = 0
    · rw [c, dcF (by omega), cond_false, Nat.add_zero, Nat.sub_self, ineF (by omega)]; rfl
    · rw [dcT (by omega), cond_true, w1add (by omega), w2add (by omega), StrokesBetween_eq hN, if_pos (betB_iff.2 (by omega)), Option.bind_some]
      dsimp only
      rw [Bool.not_true, cond_false, Int.toNat_natCast, Int.toNat_natCast, Int.toNat_natCast]
      have e : bet p (r + 1) (r + stp p q r) = sm p (r + 1 + stp p q r) - sm p (r + 1) := by unfold bet; rw [show r + stp p q r + 1 = r + 1 + stp p q r by omega]
      rw [e, ineF rfl]; rfl
theorem sc_d16 {N : Nat} (hN : 10000 ≤ N) {code : List Int} (hc : Bs code) : laws_FnStrokesCounted.d16 N code = some true := by
  unfold laws_FnStrokesCounted.d16 laws_FnStrokesCounted.o16
  refine Tot.get (Tot.bind (drawSteps_tot N hc) ?_)
  rintro ⟨p, q, r⟩ _
  dsimp only
  obtain ⟨s, m, h, a1, a2, a3, a4⟩ := Steps_both hN p q r
  rw [a1, a2, a3, a4]
  simp only [Option.bind_some, beq_self_eq_true, bne_self_eq_false, Bool.not_true, cond_false]
  have e : (m.2 == s.2) = true := by cases h <;> rfl
  rw [e, Bool.not_true]
  exact Tot.of (sc_d17 hN h)
theorem sc_d14 {N : Nat} (hN : 10000 ≤ N) {code : List Int} (hc : Bs code) {e s x : Nat} (h1 : 2 ≤ e) (h2 : e ≤ 24) (hs : s ≤ 1000000000) (hx : sm e x < e + s) (hx' : e + s ≤ sm e (x + 1)) (b : Bool) : laws_FnStrokesCounted.d14 N code e s ((x % (2*e) : Nat) : Int) b = some true := by
  unfold laws_FnStrokesCounted.d14 laws_FnStrokesCounted.o14
  cases b with
  | false => exact sc_d16 hN hc
  | true =>
    have hA := StrokesAt_at N h1 h2 0
    rw [Nat.zero_mod] at hA
    have e0 : st e 0 = e := by have := sm_one (h := e); simp only [sm] at this; omega
    rw [e0] at hA
    rw [cond_true, show ((0 : Int)) = ((0 : Nat) : Int) from rfl, hA, Option.bind_some]
    dsimp only
    rw [w64s (by omega) (by omega)]
    by_cases c : (s : Int) ≤ 1000000000 - (e : Int)
    · rw [dcT c, cond_true, w2add (by omega)]
      rcases StrokeNumber_both hN (e : Int) ((s + e : Nat) : Int) with ⟨n1, n2, n3⟩ | ⟨e', m', y, r1, r2, r3, r4, r5, r6, r7, r8, r9, r10⟩
      · rw [Bool.and_eq_false_iff, inB_not, inB_not] at n1
        omega
      · have re : e' = e := by omega
        have rm : m' = e + s := by omega
        subst re; subst rm
        have ey := half_uniq r7 r8 hx hx'
        subst ey
        rw [r9, Option.bind_some]
        dsimp only
        rw [Bool.not_true, cond_false, cond_false, w2 h2, ieqF (by omega), cond_false, tmodN, ineF rfl]
        exact sc_d16 hN hc
    · rw [dcF c, cond_false]
      exact sc_d16 hN hc
theorem sc_d13 {N : Nat} (hN : 10000 ≤ N) {code : List Int} (hc : Bs code) (h s : Int) {w : Int × Bool} (hw : impl_HalfOfWheel.g N h s = some w) : laws_FnStrokesCounted.d13 N code h s w.1 w.2 = some true := by
  unfold laws_FnStrokesCounted.d13 laws_FnStrokesCounted.o13
  rcases Wheel_both hN h s with ⟨a1, a2⟩ | ⟨h', s', x, e1, e2, h1, h2, h3, h4, h5, h6, h7⟩
  · rw [a1] at hw
    cases hw
    rw [cond_false]
    unfold laws_FnStrokesCounted.d14 laws_FnStrokesCounted.o14
    exact sc_d16 hN hc
  · rw [h6] at hw
    cases hw
    subst e1; subst e2
    dsimp only
    rw [cond_true]
    exact sc_d14 hN hc h1 h2 h3 h4 h5 _
theorem sc_d9 {N : Nat} (hN : 10000 ≤ N) {code : List Int} (hc : Bs code) (d n h s : Int) {u : Int × Int × Bool} (hu : impl_StrokeNumber.g N d n = some u) {w : Int × Bool} (hw : impl_HalfOfWheel.g N h s = some w) :
    laws_FnStrokesCounted.d9 N code d n u.1 u.2.1 u.2.2 h s w.1 w.2 false = some true := by
  have fin := sc_d13 hN hc h s hw
  unfold laws_FnStrokesCounted.d9 laws_FnStrokesCounted.o9
  rw [cond_false]
  have no : ∀ a b, laws_FnStrokesCounted.d11 N code d n a b h s w.1 w.2 false = some true := fun a b => fin
  rcases StrokeNumber_both hN d n with ⟨n1, n2, n3⟩ | ⟨e, m, y, r1, r2, r3, r4, r5, r6, r7, r8, r9, r10⟩
  · rw [n2] at hu
    cases hu
    exact no _ _
  · rw [r9] at hu
    cases hu
    subst r1; subst r2
    dsimp only
    rw [cond_true]
    by_cases c : (y : Int) ≤ 1000000
    · rw [dcT c]
      unfold laws_FnStrokesCounted.d11 laws_FnStrokesCounted.o11
      have e1 : sm e (y + 1) = sm e y + st e y := rfl
      have b1 := sm_small r3 r4 (n := y) (by omega)
      have b2 := st_le r3 y
      rw [cond_true, w2 r4, ieqF (by omega), cond_false, tmodN, StrokesAt_at N r3 r4, Option.bind_some, StrokesBetween_eq hN, if_pos (betB_iff.2 (by omega)), Option.bind_some]
      dsimp only
      rw [Int.toNat_natCast, Int.toNat_natCast]
      have e2 : bet e (Int.toNat 0) y = sm e y + st e y := by
        have : sm e 0 = 0 := rfl
        unfold bet; rw [Int.toNat_zero]; omega
      rw [e2, Bool.not_true, cond_false, dcF (by omega), cond_false, dcF (by omega), cond_false, cond_false, w64s (n := ((sm e y + st e y : Nat) : Int) - (st e y : Nat)) (by omega) (by omega), w64s (by omega) (by omega), ineF (by omega)]
      exact fin
    · rw [dcF c]
      exact no _ _
theorem sc_d7 {N : Nat} (hN : 10000 ≤ N) {code : List Int} (hc : Bs code) : laws_FnStrokesCounted.d7 N code = some true := by
  unfold laws_FnStrokesCounted.d7 laws_FnStrokesCounted.o7
  refine Tot.get (Tot.bind (drawNumber_tot N hc) ?_)
  rintro ⟨d, n⟩ _
  dsimp only
  have hn : ∃ u, impl_StrokeNumber.g N d n = some u ∧ spec_StrokeNumber.g N d n = some u := by
    rcases StrokeNumber_both hN d n with ⟨n1, n2, n3⟩ | ⟨e, m, y, r1, r2, r3, r4, r5, r6, r7, r8, r9, r10⟩
    · exact ⟨_, n2, n3⟩
    · exact ⟨_, r9, r10⟩
  obtain ⟨u, u1, u2⟩ := hn
  rw [u1, u2, Option.bind_some, Option.bind_some]
  refine Tot.bind (drawWheel_tot N hc) ?_
  rintro ⟨h, s⟩ _
  dsimp only
  have hw : ∃ u, impl_HalfOfWheel.g N h s = some u ∧ spec_HalfOfWheel.g N h s = some u := by
    rcases Wheel_both hN h s with ⟨a1, a2⟩ | ⟨h', s', x, e1, e2, h1, h2, h3, h4, h5, h6, h7⟩
    · exact ⟨_, a1, a2⟩
    · exact ⟨_, h6, h7⟩
  obtain ⟨w, w1, w2⟩ := hw
  rw [w1, w2, Option.bind_some, Option.bind_some]
  simp only [beq_self_eq_true, bne_self_eq_false, Bool.not_true, cond_false]
  exact Tot.of (sc_d9 hN hc d n h s u1 w1)
theorem sc_l8 {N : Nat} (hN : 10000 ≤ N) {code : List Int} (hc : Bs code) {h : Nat} (h1 : 2 ≤ h) (h2 : h ≤ 24) : ∀ (k i n : Nat), h = i + k → k < n → laws_FnStrokesCounted.l8 N n code h ((cnt (fun n => Nat.beq (lenS h (n+1)) 1) h : Nat) : Int) ((cnt (fun n => Nat.beq (lenS h (n+1)) 1) i : Nat) : Int) ((i + 1 : Nat) : Int) = some true
  | 0, i, n + 1, hi, hn => by
    have : i = h := by omega
    subst this
    unfold laws_FnStrokesCounted.l8 laws_FnStrokesCounted.d8 laws_FnStrokesCounted.o8
    rw [dcF (by omega), cond_false, ineF rfl, cond_false]
    exact sc_d7 hN hc
  | k + 1, i, n + 1, hi, hn => by
    have hle := cnt_le (fun n => Nat.beq (lenS h (n+1)) 1) i
    have hb : hlB (h : Int) [((i + 1 : Nat) : Int)] = true := by
      unfold hlB
      simp only [Bool.and_eq_true, inB_iff, List.all_cons, List.all_nil, List.length_cons, List.length_nil]
      exact ⟨by omega, by omega, by omega, trivial⟩
    unfold laws_FnStrokesCounted.l8 laws_FnStrokesCounted.d8 laws_FnStrokesCounted.o8
    rw [dcT (by omega), cond_true, HalvesOfHeard_eq _ _ hN, if_pos hb, Option.bind_some]
    dsimp only
    rw [Bool.not_true, cond_false, Int.toNat_natCast, hvs_one, show ((1 : Int)) = ((1 : Nat) : Int) from rfl, ieq_nb]
    have ih := sc_l8 hN hc h1 h2 k (i+1) n (by omega) (by omega)
    simp only [cnt] at ih
    unfold laws_FnStrokesCounted.d10 laws_FnStrokesCounted.o10
    cases hp : Nat.beq (lenS h (i+1)) 1 with
    | true => simp only [hp] at ih; rw [cond_true, w2add (by omega), w1add (by omega)]; exact ih
    | false => simp only [hp] at ih; rw [cond_false, w1add (by omega)]; exact ih
  | _, _, 0, _, hn => by omega
theorem sc_d4 {N : Nat} (hN : 10000 ≤ N) {code : List Int} (hc : Bs code) (h : Int) {t o : Int × Bool} (ht : t = if inB h 2 24 then (((tn h.toNat : Nat) : Int), true) else (0, false)) (ho : o = if inB h 2 24 then (((cnt (onceB h.toNat) (2*h.toNat) : Nat) : Int), true) else (0, false)) :
    laws_FnStrokesCounted.d4 N code h t.1 t.2 o.1 = some true := by
  unfold laws_FnStrokesCounted.d4 laws_FnStrokesCounted.o4
  cases e : inB h 2 24 with
  | false =>
    rw [e] at ht
    subst ht
    exact sc_d7 hN hc
  | true =>
    rw [e] at ht ho
    subst ht; subst ho
    have e1 := inB_iff.1 e
    obtain ⟨h, rfl⟩ := Int.eq_ofNat_of_zero_le (show 0 ≤ h by omega)
    have h1 : 2 ≤ h := by omega
    have h2 : h ≤ 24 := by omega
    have hb : h * (h + 1) ≤ 24 * 25 := Nat.mul_le_mul h2 (by omega)
    simp only [if_true, Int.toNat_natCast]
    rw [cond_true, w2 h2, w64s (by omega) (by omega), StrokesBetween_eq hN, if_pos (betB_iff.2 (by omega)), Option.bind_some]
    dsimp only
    have e2 : bet (h : Int).toNat (Int.toNat 0) (((2*h : Nat) : Int) - 1).toNat = tn h := by
      have : sm h 0 = 0 := rfl
      have := sm_turn h1 h2
      rw [Int.toNat_natCast, Int.toNat_zero, show (((2*h : Nat) : Int) - 1).toNat = 2*h - 1 by omega]
      unfold bet
      rw [show 2*h - 1 + 1 = 2*h by omega]
      omega
    have e3 : w64 (w64 (Int.tdiv (w64 ((h : Int) * w64 ((h : Int) + 1))) 2) + (h : Int)) = ((tn h : Nat) : Int) := by
      have := ofTurn_eq N h2
      unfold impl_ofTurn.g impl_ofTurn.o0 at this
      exact Option.some.inj this
    rw [e2, e3, Bool.not_true, cond_false, ineF rfl, cond_false]
    unfold laws_FnStrokesCounted.d6 laws_FnStrokesCounted.o6
    rw [cond_false]
    have := sc_l8 hN hc h1 h2 h 0 N (by omega) (by omega)
    rw [← once_alone h1 h2] at this
    exact this
theorem sc_d1 {N : Nat} (hN : 10000 ≤ N) {code : List Int} (hc : Bs code) (h a b : Int) {q t o : Int × Bool} (hq : q = if betB h a b then (((bet h.toNat a.toNat b.toNat : Nat) : Int), true) else (0, false)) (ht : t = if inB h 2 24 then (((tn h.toNat : Nat) : Int), true) else (0, false)) (ho : o = if inB h 2 24 then (((cnt (onceB h.toNat) (2*h.toNat) : Nat) : Int), true) else (0, false)) :
    laws_FnStrokesCounted.d1 N code h a b q.1 q.2 t.1 t.2 o.1 false = some true := by
  have fin := sc_d4 hN hc h ht ho
  unfold laws_FnStrokesCounted.d1 laws_FnStrokesCounted.o1
  rw [cond_false]
  have no : laws_FnStrokesCounted.d2 N code h a b q.1 t.1 t.2 o.1 false = some true := fin
  cases e : betB h a b with
  | false => rw [e] at hq; subst hq; exact no
  | true =>
    rw [e] at hq
    subst hq
    have e1 := betB_iff.1 e
    rw [if_pos rfl, cond_true]
    by_cases c : a ≤ b
    · rw [dcT c]
      unfold laws_FnStrokesCounted.d2 laws_FnStrokesCounted.o2
      obtain ⟨h, rfl⟩ := Int.eq_ofNat_of_zero_le (show 0 ≤ h by omega)
      obtain ⟨a, rfl⟩ := Int.eq_ofNat_of_zero_le (show 0 ≤ a by omega)
      obtain ⟨b, rfl⟩ := Int.eq_ofNat_of_zero_le (show 0 ≤ b by omega)
      have h1 : 2 ≤ h := by omega
      have h2 : h ≤ 24 := by omega
      have b1 := sm_small h1 h2 (n := b) (by omega)
      have b2 := st_le h1 b
      have b3 := sm_mono h (show a ≤ b by omega)
      dsimp only
      rw [cond_true, w2 h2, ieqF (by omega), cond_false, tmodN, StrokesAt_at N h1 h2, Option.bind_some, Int.toNat_natCast, Int.toNat_natCast, Int.toNat_natCast]
      have e2 : bet h a b = sm h b + st h b - sm h a := rfl
      by_cases c' : a < b
      · rw [dcT (by omega), cond_true, show w64 ((b : Int) - 1) = ((b - 1 : Nat) : Int) by rw [w64s (by omega) (by omega)]; omega, StrokesBetween_eq hN, if_pos (betB_iff.2 (by omega)), Option.bind_some]
        dsimp only
        rw [Bool.not_true, cond_false, Int.toNat_natCast, Int.toNat_natCast, Int.toNat_natCast]
        have e3 : bet h a (b - 1) = sm h b - sm h a := by unfold bet; rw [show b - 1 + 1 = b by omega]
        unfold laws_FnStrokesCounted.d3 laws_FnStrokesCounted.o3
        rw [Bool.not_true, cond_false, e3, e2, w64s (by omega) (by omega), ineF (by omega)]
        exact fin
      · have : a = b := by omega
        subst this
        rw [dcF (by omega), cond_false]
        dsimp only
        unfold laws_FnStrokesCounted.d3 laws_FnStrokesCounted.o3
        rw [Bool.not_true, cond_false, e2, w64s (by omega) (by omega), ineF (by omega)]
        exact fin
    · rw [dcF c]; exact no
theorem FnStrokesCounted.pure : FnStrokesCounted.Pure := by
  intro y0 y1 w0 w1
  suffices hs : ∀ N, 10000 ≤ N → laws_FnStrokesCounted.g N y0 y1 = some true from ⟨10000, hs _ (Nat.le_refl _)⟩
  intro N hN
  refine Tot.get ?_
  unfold laws_FnStrokesCounted.g laws_FnStrokesCounted.o0
  rcases big_eq N y0 y1 w0.2.1 with h | ⟨h, l0, l1⟩
  · rw [h]; exact Tot.now rfl
  rw [h, Option.bind_some, cond_false]
  have c0 := bs_of w0.2.2 l0
  have c1 := bs_of w1.2.2 l1
  refine Tot.bind (drawBetween_tot N c0) ?_
  rintro ⟨h, a, b⟩ _
  dsimp only
  rw [StrokesBetween_eq hN, sStrokesBetween_eq hN, OfTurn_eq, sOfTurn_eq, Once_eq hN, sOnce_eq hN]
  have main := fun q t o hq ht ho => sc_d1 (N := N) hN c1 h a b (q := q) (t := t) (o := o) hq ht ho
  simp only [Option.bind_some, beq_self_eq_true, bne_self_eq_false, Bool.not_true, cond_false]
  have e1 : ((if inB h 2 24 = true then (((cnt (onceB h.toNat) (2*h.toNat) : Nat) : Int), true) else (0, false)).2 == (if inB h 2 24 = true then (((tn h.toNat : Nat) : Int), true) else (0, false)).2) = true := by
    cases inB h 2 24 <;> rfl
  have e2 : betB h a b = true → (if inB h 2 24 = true then (((tn h.toNat : Nat) : Int), true) else (0, false)).2 = true := by
    intro hb
    rw [if_pos (inB_iff.2 (betB_iff.1 hb).1)]
  rw [e1, Bool.not_true, cond_false]
  refine Tot.of ?_
  cases e : betB h a b with
  | false =>
    rw [if_neg (by simp), cond_false]
    exact main _ _ _ (by rw [e]; rfl) rfl rfl
  | true =>
    rw [if_pos rfl, cond_true, e2 e, Bool.not_true]
    have := main _ _ _ (by rw [e, if_pos rfl]) rfl rfl
    rw [e2 e] at this
    exact this
end Go.Proofs.Ytpemffldaepbpaa.M
