/- Plain lemmas about what the functions compute (part 1). No conditions but those stated. -/
import Derived.Test.YtpemffldaepbpaaFnFnStrokesHeard2
/- Strokes of halves, counted. -/
namespace Str
def st (h n : Nat) : Nat := bif Nat.beq (n % (2*h) % 2) 1 then 1 else bif Nat.beq (n % (2*h)) 0 then h else n % (2*h) / 2
def sm (h : Nat) : Nat → Nat
  | 0 => 0
  | n + 1 => sm h n + st h n
def tn (h : Nat) : Nat := h * (h+1) / 2 + h
def allLt (n : Nat) (p : Nat → Bool) : Bool := Nat.rec true (fun i b => p i && b) n
theorem allLt_spec {n : Nat} {p : Nat → Bool} (h : allLt n p = true) : ∀ i, i < n → p i = true := by
  induction n with
  | zero => intro i hi; omega
  | succ n ih =>
    simp only [allLt, Bool.and_eq_true] at h
    intro i hi
    by_cases e : i = n
    · subst e; exact h.1
    · exact ih h.2 i (by omega)
theorem st_mod (h n : Nat) : st h (n % (2*h)) = st h n := by simp only [st, Nat.mod_mod]
theorem st_add (h n k : Nat) : st h (n + 2*h*k) = st h n := by simp only [st, Nat.add_mul_mod_self_left]
set_option maxRecDepth 100000 in
theorem sm_turn {h : Nat} (h1 : 2 ≤ h) (h2 : h ≤ 24) : sm h (2*h) = tn h := by
  have := allLt_spec (n := 25) (p := fun h => Nat.blt h 2 || Nat.beq (sm h (2*h)) (tn h)) (by decide +kernel) h (by omega)
  simp only [Bool.or_eq_true, Nat.blt_eq, Nat.beq_eq] at this
  omega
theorem sm_wrap {h : Nat} (h1 : 2 ≤ h) (h2 : h ≤ 24) : ∀ n, sm h (n + 2*h) = sm h n + tn h
  | 0 => by rw [Nat.zero_add, sm_turn h1 h2]; simp [sm]
  | n + 1 => by
    have e : n + 1 + 2*h = (n + 2*h) + 1 := by omega
    rw [e]; simp only [sm]; rw [sm_wrap h1 h2 n]
    have := st_add h n 1
    rw [Nat.mul_one] at this
    omega
theorem sm_wraps {h : Nat} (h1 : 2 ≤ h) (h2 : h ≤ 24) (n : Nat) : ∀ k, sm h (n + 2*h*k) = sm h n + tn h * k
  | 0 => by simp
  | k + 1 => by
    have : n + 2*h*(k+1) = (n + 2*h*k) + 2*h := by rw [Nat.mul_succ]; omega
    rw [this, sm_wrap h1 h2, sm_wraps h1 h2 n k, Nat.mul_succ]; omega
theorem sm_dm {h : Nat} (h1 : 2 ≤ h) (h2 : h ≤ 24) (n : Nat) : sm h n = n / (2*h) * tn h + sm h (n % (2*h)) := by
  have := sm_wraps h1 h2 (n % (2*h)) (n / (2*h))
  rw [Nat.mod_add_div] at this
  rw [this, Nat.mul_comm (tn h)]; omega
theorem nbT {a b : Nat} (h : a = b) : Nat.beq a b = true := by subst h; exact Nat.beq_refl a
theorem nbF {a b : Nat} (h : ¬ a = b) : Nat.beq a b = false := by
  cases e : Nat.beq a b
  · rfl
  · exact absurd (Nat.eq_of_beq_eq_true e) h
theorem st_pos {h : Nat} (h1 : 2 ≤ h) (n : Nat) : 1 ≤ st h n := by
  have : n % (2*h) < 2*h := Nat.mod_lt _ (by omega)
  unfold st
  by_cases e : (n % (2*h) % 2) = 1
  · rw [nbT e]; simp
  · rw [nbF e]
    by_cases e' : n % (2*h) = 0
    · rw [nbT e']; simp; omega
    · rw [nbF e']; simp; omega
theorem st_le {h : Nat} (h1 : 2 ≤ h) (n : Nat) : st h n ≤ h := by
  have : n % (2*h) < 2*h := Nat.mod_lt _ (by omega)
  unfold st
  cases Nat.beq (n % (2*h) % 2) 1 <;> cases Nat.beq (n % (2*h)) 0 <;> simp <;> omega
theorem sm_mono (h : Nat) {a b : Nat} (hab : a ≤ b) : sm h a ≤ sm h b := by
  induction hab with
  | refl => exact Nat.le_refl _
  | step _ ih => simp only [sm]; omega
theorem sm_lt {h : Nat} (h1 : 2 ≤ h) {a b : Nat} (hab : a < b) : sm h a < sm h b := by
  have : sm h (a+1) ≤ sm h b := sm_mono h hab
  have := st_pos h1 a
  simp only [sm] at *; omega
theorem sm_bound {h : Nat} (h1 : 2 ≤ h) : ∀ n, sm h n ≤ h * n
  | 0 => by simp [sm]
  | n + 1 => by have := sm_bound h1 n; have := st_le h1 n; simp only [sm, Nat.mul_succ]; omega
/-- a half with so many strokes comes within a turn -/
theorem st_has {h : Nat} (h1 : 2 ≤ h) {s : Nat} (h3 : 1 ≤ s) (h4 : s ≤ h) (half : Nat) : ∃ w, w < 2*h ∧ st h (half + w) = s := by
  have hm : half % (2*h) < 2*h := Nat.mod_lt _ (by omega)
  have hd := Nat.mod_add_div half (2*h)
  obtain ⟨t, ht, hs⟩ : ∃ t, t < 2*h ∧ st h t = s := by
    by_cases e : s = h
    · refine ⟨0, by omega, ?_⟩; unfold st; rw [Nat.zero_mod, nbF (by omega), nbT rfl, e]; rfl
    · refine ⟨2*s, by omega, ?_⟩
      unfold st
      rw [Nat.mod_eq_of_lt (show 2*s < 2*h by omega)]
      have e1 : Nat.beq (2*s%2) 1 = false := by rw [Nat.mul_mod_right]; rfl
      have e2 : Nat.beq (2*s) 0 = false := nbF (by omega)
      rw [e1, e2]; simp
  by_cases hc : half % (2*h) ≤ t
  · refine ⟨t - half % (2*h), by omega, ?_⟩
    have e : half + (t - half % (2*h)) = t + 2*h*(half / (2*h)) := by omega
    rw [e, st_add, hs]
  · refine ⟨t + 2*h - half % (2*h), by omega, ?_⟩
    have e : half + (t + 2*h - half % (2*h)) = t + 2*h*(half / (2*h) + 1) := by rw [Nat.mul_succ]; omega
    rw [e, st_add, hs]
end Str

namespace Go.Proofs.Ytpemffldaepbpaa.M
open Go Go.PM Str
set_option linter.unusedVariables false
set_option linter.unusedSimpArgs false
set_option maxRecDepth 100000
def inB (a lo hi : Int) : Bool := decide (lo ≤ a) && decide (a ≤ hi)
theorem inB_iff {a lo hi : Int} : inB a lo hi = true ↔ lo ≤ a ∧ a ≤ hi := by simp [inB]
theorem inB_not {a lo hi : Int} : inB a lo hi = false ↔ ¬ (lo ≤ a ∧ a ≤ hi) := by rw [← inB_iff]; simp
theorem within_eq (N : Nat) (a b c : Int) : impl_within.g N a b c = some (inB a b c) := by
  unfold impl_within.g impl_within.o0 inB
  by_cases h : b ≤ a
  · rw [dcT (show a ≥ b from h)]; rfl
  · rw [dcF (show ¬ a ≥ b from h)]; rfl
theorem l1In_eq (N : Nat) (a b c : Int) : spec_l1In.g N a b c = some (inB a b c) := by
  unfold spec_l1In.g spec_l1In.o0 inB
  by_cases h : b ≤ a
  · rw [dcT (show a ≥ b from h)]; rfl
  · rw [dcF (show ¬ a ≥ b from h)]; rfl
theorem isDial_eq (N : Nat) (a : Int) : impl_isDial.g N a = some (inB a 2 24) := by
  unfold impl_isDial.g impl_isDial.o0; rw [within_eq]; rfl
theorem diHours_eq (N : Nat) (a : Int) : spec_diHours.g N a = some (inB a 2 24) := by
  unfold spec_diHours.g spec_diHours.o0; rw [l1In_eq]; rfl
def halfB (h a : Int) : Bool := inB h 2 24 && inB a 0 (2*h-1)
theorem halfB_iff {h a : Int} : halfB h a = true ↔ (2 ≤ h ∧ h ≤ 24) ∧ 0 ≤ a ∧ a ≤ 2*h-1 := by simp [halfB, inB_iff]
theorem isHalf_eq (N : Nat) (h a : Int) : impl_isHalf.g N h a = some (halfB h a) := by
  unfold impl_isHalf.g impl_isHalf.o0 halfB
  rw [isDial_eq, Option.bind_some]
  cases e : inB h 2 24 with
  | false => rfl
  | true =>
    have := inB_iff.1 e
    rw [cond_true, w64s (n := 2*h) (by omega) (by omega), w64s (by omega) (by omega), within_eq]; rfl
theorem stHalf_eq (N : Nat) (h a : Int) : spec_stHalf.g N h a = some (halfB h a) := by
  unfold spec_stHalf.g spec_stHalf.o0 halfB
  rw [diHours_eq, Option.bind_some]
  cases e : inB h 2 24 with
  | false => rfl
  | true =>
    have := inB_iff.1 e
    rw [cond_true, w64s (n := 2*h) (by omega) (by omega), w64s (by omega) (by omega), l1In_eq]; rfl
theorem tmodN (a b : Nat) : Int.tmod (a : Int) (b : Int) = ((a % b : Nat) : Int) := (Int.ofNat_tmod a b).symm
theorem tdivN (a b : Nat) : Int.tdiv (a : Int) (b : Int) = ((a / b : Nat) : Int) := (Int.ofNat_tdiv a b).symm
theorem w2 {h : Nat} (h2 : h ≤ 24) : w64 (2 * (h : Int)) = ((2*h : Nat) : Int) := by rw [w64s (by omega) (by omega)]; omega
theorem w2add {a b : Nat} (h : a + b < 9000000000000000000) : w64 ((a : Int) + (b : Int)) = ((a + b : Nat) : Int) := by rw [w64s (by omega) (by omega)]; omega
theorem w1add {a : Nat} (h : a < 9000000000000000000) : w64 ((a : Int) + 1) = ((a + 1 : Nat) : Int) := by rw [w64s (by omega) (by omega)]; omega
theorem strokes_eq (N : Nat) {h : Nat} (h1 : 2 ≤ h) (h2 : h ≤ 24) (n : Nat) : impl_strokes.g N h n = some ((st h n : Nat) : Int) := by
  have hm : n % (2*h) < 2*h := Nat.mod_lt _ (by omega)
  unfold impl_strokes.g impl_strokes.o0 st
  rw [w2 h2, ieqF (by omega), cond_false, tmodN, show ((2 : Int)) = ((2 : Nat) : Int) from rfl, tmodN, tdivN]
  generalize n % (2*h) = m at *
  by_cases e : m = 0
  · subst e; rfl
  · rw [ieqF (by omega), cond_false, nbF e]
    by_cases e' : m % 2 = 1
    · rw [nbT e', ieqT (by omega)]; rfl
    · rw [nbF e', ieqF (by omega), cond_false, w64s (by omega) (by omega)]; rfl
theorem stAt_eq (N : Nat) {h : Nat} (h1 : 2 ≤ h) (h2 : h ≤ 24) {n : Nat} (hn : n < 2*h) : spec_stAt.g N h n = some ((st h n : Nat) : Int) := by
  unfold spec_stAt.g spec_stAt.o0 st
  rw [Nat.mod_eq_of_lt hn, show ((2 : Int)) = ((2 : Nat) : Int) from rfl, tmodN, tdivN]
  by_cases e' : n % 2 = 1
  · rw [nbT e', ieqT (by omega)]; rfl
  · rw [nbF e', ieqF (by omega), cond_false, cond_false]
    by_cases e : n = 0
    · subst e; rfl
    · rw [nbF e, ieqF (by omega), cond_false, w64s (by omega) (by omega)]; rfl
theorem stAtm_eq (N : Nat) {h : Nat} (h1 : 2 ≤ h) (h2 : h ≤ 24) (n : Nat) : spec_stAt.g N h ((n % (2*h) : Nat) : Int) = some ((st h n : Nat) : Int) := by
  rw [stAt_eq N h1 h2 (Nat.mod_lt _ (by omega)), st_mod]
/-- what is heard at so many halves -/
def hf (h half : Nat) : Nat → List Int
  | 0 => []
  | k + 1 => hf h half k ++ [((st h (half + k) : Nat) : Int)]
theorem hf_len (h half : Nat) : ∀ k, (hf h half k).length = k
  | 0 => rfl
  | k + 1 => by simp [hf, hf_len h half k]
theorem hf_get (h half : Nat) : ∀ (k i : Nat), i < k → (hf h half k)[i]? = some ((st h (half + i) : Nat) : Int)
  | k + 1, i, hi => by
    simp only [hf]
    by_cases e : i = k
    · subst e
      rw [List.getElem?_append_right (by rw [hf_len]; omega), hf_len]; simp
    · rw [List.getElem?_append_left (by rw [hf_len]; omega)]
      exact hf_get h half k i (by omega)
theorem heardFrom_loop (N : Nat) {h : Nat} (h1 : 2 ≤ h) (h2 : h ≤ 24) {half c : Nat} (hf1 : half ≤ 1000000000) (hc : c ≤ 1000000) : ∀ (k i n : Nat), c = i + k → k < n → impl_heardFrom.l1 N n h half (hf h half i) c i = some (hf h half c)
  | 0, i, n + 1, hi, hn => by
    have : i = c := by omega
    subst this
    unfold impl_heardFrom.l1 impl_heardFrom.d1 impl_heardFrom.o1
    rw [dcF (by omega)]; rfl
  | k + 1, i, n + 1, hi, hn => by
    unfold impl_heardFrom.l1 impl_heardFrom.d1 impl_heardFrom.o1
    rw [dcT (by omega), cond_true, w2add (by omega), strokes_eq N h1 h2, Option.bind_some, blT (by rw [hf_len]; simp; omega), cond_true, w1add (by omega)]
    exact heardFrom_loop N h1 h2 hf1 hc k (i+1) n (by omega) (by omega)
  | _, _, 0, _, hn => by omega
theorem heardFrom_eq {N : Nat} {h : Nat} (h1 : 2 ≤ h) (h2 : h ≤ 24) {half c : Nat} (hf1 : half ≤ 1000000000) (hc : c ≤ 1000000) (hN : c < N) : impl_heardFrom.g N h half c = some (hf h half c) :=
  heardFrom_loop N h1 h2 hf1 hc c 0 N (by omega) hN
theorem stFrom_loop (N : Nat) {h : Nat} (h1 : 2 ≤ h) (h2 : h ≤ 24) {half c : Nat} (hf1 : half ≤ 1000000000) (hc : c ≤ 1000000) : ∀ (k i n : Nat), c = i + k → k < n → spec_stFrom.l2 N n h half c (hf h half i) i = some (hf h half c)
  | 0, i, n + 1, hi, hn => by
    have : i = c := by omega
    subst this
    unfold spec_stFrom.l2 spec_stFrom.d2 spec_stFrom.o2
    rw [dcF (by omega)]; rfl
  | k + 1, i, n + 1, hi, hn => by
    unfold spec_stFrom.l2 spec_stFrom.d2 spec_stFrom.o2
    rw [dcT (by omega), cond_true, w2add (by omega), w2 h2, ieqF (by omega), cond_false, tmodN, stAtm_eq N h1 h2, Option.bind_some, blT (by rw [hf_len]; simp; omega), cond_true, w1add (by omega)]
    exact stFrom_loop N h1 h2 hf1 hc k (i+1) n (by omega) (by omega)
  | _, _, 0, _, hn => by omega
theorem stFrom_eq {N : Nat} {h : Nat} (h1 : 2 ≤ h) (h2 : h ≤ 24) {half c : Nat} (hf1 : half ≤ 1000000000) (hc : c ≤ 1000000) (hN : c < N) : spec_stFrom.g N h half c = some (hf h half c) := by
  obtain ⟨n, rfl⟩ : ∃ n, N = n + 1 := ⟨N - 1, by omega⟩
  unfold spec_stFrom.g spec_stFrom.o0
  show spec_stFrom.l1 (n+1) (n+1) h half c ((0 : Nat) : Int) = _
  unfold spec_stFrom.l1 spec_stFrom.d1 spec_stFrom.o1
  dsimp only
  cases c with
  | zero => rw [dcF (by omega)]; rfl
  | succ c =>
    rw [dcT (by omega), cond_true, w2add (by omega), w2 h2, ieqF (by omega), cond_false, tmodN, stAtm_eq _ h1 h2, Option.bind_some, blT (by simp), cond_true, w1add (by omega)]
    exact stFrom_loop (n+1) h1 h2 hf1 hc c 1 n (by omega) (by omega)
def heardB (h half c : Int) : Bool := halfB h half && inB c 1 60
theorem HeardFrom_eq {N : Nat} (hN : 10000 ≤ N) (h half c : Int) : impl_HeardFrom.g N h half c = some (if heardB h half c then (hf h.toNat half.toNat c.toNat, true) else ([], false)) := by
  unfold impl_HeardFrom.g impl_HeardFrom.o0 impl_HeardFrom.d1 impl_HeardFrom.o1 heardB
  rw [isHalf_eq, Option.bind_some]
  cases e : halfB h half with
  | false => rfl
  | true =>
    rw [Bool.not_true, cond_false, within_eq, Option.bind_some]
    cases e' : inB c 1 60 with
    | false => rfl
    | true =>
      have e1 := halfB_iff.1 e
      have e2 := inB_iff.1 e'
      obtain ⟨h, rfl⟩ := Int.eq_ofNat_of_zero_le (show 0 ≤ h by omega)
      obtain ⟨half, rfl⟩ := Int.eq_ofNat_of_zero_le (show 0 ≤ half by omega)
      obtain ⟨c, rfl⟩ := Int.eq_ofNat_of_zero_le (show 0 ≤ c by omega)
      dsimp only
      rw [Bool.not_true, cond_false, heardFrom_eq (by omega) (by omega) (by omega) (by omega) (by omega)]; rfl
theorem kSame_loop (N : Nat) (l m : List Int) (hl : l.length = m.length) (hs : l.length < 1000000000) : ∀ (k i n : Nat), l.length = i + k → k < n → laws_kSame.l1 N n l m (l.length : Int) i = some (decide (l.drop i = m.drop i))
  | 0, i, n + 1, hi, hn => by
    unfold laws_kSame.l1 laws_kSame.d1 laws_kSame.o1
    rw [dcF (by omega), cond_false, List.drop_eq_nil_of_le (by omega), List.drop_eq_nil_of_le (by omega)]; rfl
  | k + 1, i, n + 1, hi, hn => by
    unfold laws_kSame.l1 laws_kSame.d1 laws_kSame.o1
    rw [dcT (by omega), dcT (by omega), cond_true, cond_true, cond_true, Int.toNat_natCast, getAt (by omega), cond_true, dcT (by omega), cond_true, getAt (by omega)]
    rw [List.drop_eq_getElem_cons (show i < l.length by omega), List.drop_eq_getElem_cons (show i < m.length by omega)]
    by_cases e : l[i] = m[i]
    · rw [ineF e, cond_false, w1add (by omega)]
      refine (kSame_loop N l m hl hs k (i+1) n (by omega) (by omega)).trans ?_
      rw [Option.some.injEq, e, decide_eq_decide]
      exact ⟨fun h => by rw [h], fun h => (List.cons.inj h).2⟩
    · rw [ineT e, cond_true, dcF (fun h => e (List.cons.inj h).1)]
  | _, _, 0, _, hn => by omega
theorem kSame_eq {N : Nat} (l m : List Int) (hs : l.length < 1000000000) (hN : l.length < N) : laws_kSame.g N l m = some (decide (l = m)) := by
  unfold laws_kSame.g laws_kSame.o0
  by_cases e : l.length = m.length
  · rw [ineF (by omega), cond_false]
    exact kSame_loop N l m e hs l.length 0 N (by omega) hN
  · rw [ineT (by omega), cond_true, dcF (fun e' => e (by rw [e']))]
end Go.Proofs.Ytpemffldaepbpaa.M

namespace Go.Proofs.Ytpemffldaepbpaa.M
open Go Go.PM Str
set_option linter.unusedVariables false
set_option linter.unusedSimpArgs false
set_option maxRecDepth 100000
/-- how many numbers below n have a property -/
def cnt (p : Nat → Bool) : Nat → Nat
  | 0 => 0
  | n + 1 => cnt p n + (bif p n then 1 else 0)
theorem Equal_l1 (N : Nat) : ∀ (n : Nat) (a b : List Int) (c d : Int), slices_Equal_int_int.l1 N n a b c d = laws_kSame.l1 N n a b c d
  | 0, _, _, _, _ => rfl
  | n + 1, a, b, c, d => by
    unfold slices_Equal_int_int.l1 laws_kSame.l1 slices_Equal_int_int.d1 laws_kSame.d1
    simp only [Equal_l1 N n]
    rfl
theorem Equal_eq {N : Nat} (l m : List Int) (hs : l.length < 1000000000) (hN : l.length < N) : slices_Equal_int_int.g N l m = some (decide (l = m)) := by
  rw [← kSame_eq l m hs hN]
  unfold slices_Equal_int_int.g laws_kSame.g
  simp only [Equal_l1]
  rfl
theorem l1Same_l1 (N : Nat) : ∀ (n : Nat) (a b : List Int) (c d : Int), spec_l1Same.l1 N n a b c d = laws_kSame.l1 N n a b c d
  | 0, _, _, _, _ => rfl
  | n + 1, a, b, c, d => by
    unfold spec_l1Same.l1 laws_kSame.l1 spec_l1Same.d1 laws_kSame.d1
    simp only [l1Same_l1 N n]
    rfl
theorem l1Same_eq {N : Nat} (l m : List Int) (hs : l.length < 1000000000) (hN : l.length < N) : spec_l1Same.g N l m = some (decide (l = m)) := by
  rw [← kSame_eq l m hs hN]
  unfold spec_l1Same.g laws_kSame.g
  simp only [l1Same_l1]
  rfl
/-- the numbers below n that have a property, in order -/
def hvs (p : Nat → Bool) : Nat → List Int
  | 0 => []
  | n + 1 => hvs p n ++ (bif p n then [(n : Int)] else [])
theorem hvs_len (p : Nat → Bool) : ∀ n, (hvs p n).length = cnt p n
  | 0 => rfl
  | n + 1 => by simp only [hvs, cnt, List.length_append, hvs_len p n]; cases p n <;> rfl
theorem cnt_le (p : Nat → Bool) : ∀ n, cnt p n ≤ n
  | 0 => Nat.le_refl _
  | n + 1 => by have := cnt_le p n; simp only [cnt]; cases p n <;> simp <;> omega
theorem hvs_len_le (p : Nat → Bool) (n : Nat) : (hvs p n).length ≤ n := by rw [hvs_len]; exact cnt_le p n
/-- what is heard from a half is the list -/
def hrd (h : Nat) (l : List Int) (x : Nat) : Bool := decide (hf h x l.length = l)
theorem halvesOf_loop {N : Nat} (hN : 10000 ≤ N) {h : Nat} (h1 : 2 ≤ h) (h2 : h ≤ 24) {l : List Int} (hl : l.length ≤ 1000) : ∀ (k i n : Nat), 2*h = i + k → k < n → impl_halvesOf.l1 N n h l (hvs (hrd h l) i) ((2*h : Nat) : Int) i = some (hvs (hrd h l) (2*h))
  | 0, i, n + 1, hi, hn => by
    have : i = 2*h := by omega
    subst this
    unfold impl_halvesOf.l1 impl_halvesOf.d1 impl_halvesOf.o1
    rw [dcF (by omega)]; rfl
  | k + 1, i, n + 1, hi, hn => by
    have hle := hvs_len_le (hrd h l) i
    unfold impl_halvesOf.l1 impl_halvesOf.d1 impl_halvesOf.o1
    rw [dcT (by omega), cond_true, heardFrom_eq h1 h2 (by omega) (by omega) (by omega), Option.bind_some, Equal_eq _ _ (by rw [hf_len]; omega) (by rw [hf_len]; omega), Option.bind_some, w1add (by omega)]
    have ih := halvesOf_loop hN h1 h2 hl k (i+1) n (by omega) (by omega)
    simp only [hvs] at ih
    show cond (hrd h l i) _ _ = _
    cases hp : hrd h l i with
    | true =>
      rw [hp, cond_true] at ih
      rw [cond_true, blT (by simp; omega), cond_true]
      exact ih
    | false =>
      rw [hp, cond_false, List.append_nil] at ih
      rw [cond_false]
      exact ih
  | _, _, 0, _, hn => by omega
theorem halvesOf_eq {N : Nat} (hN : 10000 ≤ N) {h : Nat} (h1 : 2 ≤ h) (h2 : h ≤ 24) {l : List Int} (hl : l.length ≤ 1000) : impl_halvesOf.g N h l = some (hvs (hrd h l) (2*h)) := by
  unfold impl_halvesOf.g impl_halvesOf.o0
  dsimp only
  rw [w2 h2]
  exact halvesOf_loop hN h1 h2 hl (2*h) 0 N (by omega) (by omega)
theorem stHalves_loop {N : Nat} (hN : 10000 ≤ N) {h : Nat} (h1 : 2 ≤ h) (h2 : h ≤ 24) {l : List Int} (hl : l.length ≤ 1000) : ∀ (k i n : Nat), 2*h = i + k → k < n → spec_stHalves.l4 N n h l (hvs (hrd h l) i) i = some (hvs (hrd h l) (2*h))
  | 0, i, n + 1, hi, hn => by
    have : i = 2*h := by omega
    subst this
    unfold spec_stHalves.l4 spec_stHalves.d4 spec_stHalves.o4
    rw [w2 h2, dcF (by omega)]; rfl
  | k + 1, i, n + 1, hi, hn => by
    have hle := hvs_len_le (hrd h l) i
    unfold spec_stHalves.l4 spec_stHalves.d4 spec_stHalves.o4 spec_stHalves.d2 spec_stHalves.o2
    rw [w2 h2, dcT (by omega), cond_true, stFrom_eq h1 h2 (by omega) (by omega) (by omega), Option.bind_some, l1Same_eq _ _ (by rw [hf_len]; omega) (by rw [hf_len]; omega), Option.bind_some]
    have ih := stHalves_loop hN h1 h2 hl k (i+1) n (by omega) (by omega)
    simp only [hvs] at ih
    show cond (hrd h l i) _ _ = _
    cases hp : hrd h l i with
    | true =>
      rw [hp, cond_true] at ih
      rw [cond_true, blT (by simp; omega), cond_true]
      dsimp only
      rw [w1add (by omega)]
      exact ih
    | false =>
      rw [hp, cond_false, List.append_nil] at ih
      rw [cond_false]
      dsimp only
      rw [w1add (by omega)]
      exact ih
  | _, _, 0, _, hn => by omega
theorem stHalves_loop1 {N : Nat} (hN : 10000 ≤ N) {h : Nat} (h1 : 2 ≤ h) (h2 : h ≤ 24) {l : List Int} (hl : l.length ≤ 1000) : ∀ (k i n : Nat), 2*h = i + k → k < n → hvs (hrd h l) i = [] → spec_stHalves.l1 N n h l i = some (hvs (hrd h l) (2*h))
  | 0, i, n + 1, hi, hn, h0 => by
    have : i = 2*h := by omega
    subst this
    unfold spec_stHalves.l1 spec_stHalves.d1 spec_stHalves.o1
    rw [w2 h2, dcF (by omega), h0]; rfl
  | k + 1, i, n + 1, hi, hn, h0 => by
    unfold spec_stHalves.l1 spec_stHalves.d1 spec_stHalves.o1 spec_stHalves.d2 spec_stHalves.o2 spec_stHalves.d3 spec_stHalves.o3
    rw [w2 h2, dcT (by omega), cond_true, stFrom_eq h1 h2 (by omega) (by omega) (by omega), Option.bind_some, l1Same_eq _ _ (by rw [hf_len]; omega) (by rw [hf_len]; omega), Option.bind_some]
    show cond (hrd h l i) _ _ = _
    cases hp : hrd h l i with
    | true =>
      have ih := stHalves_loop hN h1 h2 hl k (i+1) n (by omega) (by omega)
      simp only [hvs] at ih
      rw [hp, cond_true, h0] at ih
      rw [cond_true, blT (by simp), cond_true]
      dsimp only
      rw [w1add (by omega)]
      exact ih
    | false =>
      rw [cond_false]
      dsimp only
      rw [w1add (by omega)]
      exact stHalves_loop1 hN h1 h2 hl k (i+1) n (by omega) (by omega) (by simp only [hvs]; rw [hp, h0]; rfl)
  | _, _, 0, _, hn, _ => by omega
theorem stHalves_eq {N : Nat} (hN : 10000 ≤ N) {h : Nat} (h1 : 2 ≤ h) (h2 : h ≤ 24) {l : List Int} (hl : l.length ≤ 1000) : spec_stHalves.g N h l = some (hvs (hrd h l) (2*h)) :=
  stHalves_loop1 hN h1 h2 hl (2*h) 0 N (by omega) (by omega) rfl
theorem idx_loop (N : Nat) (l : List Int) (hl : l.length < 1000000000) : ∀ (k i n : Nat), l.length = i + k → k < n → ∃ r, slices_IndexFunc_int_int.l1 N n l (l.length : Int) i = some r ∧ decide (r ≥ 0) = (l.drop i).any (fun x => !inB x 1 24)
  | 0, i, n + 1, hi, hn => by
    unfold slices_IndexFunc_int_int.l1 slices_IndexFunc_int_int.d1 slices_IndexFunc_int_int.o1
    rw [dcF (by omega), cond_false, List.drop_eq_nil_of_le (by omega)]
    exact ⟨_, rfl, rfl⟩
  | k + 1, i, n + 1, hi, hn => by
    unfold slices_IndexFunc_int_int.l1 slices_IndexFunc_int_int.d1 slices_IndexFunc_int_int.o1
    rw [dcT (by omega), cond_true, dcT (by omega), cond_true, cond_true, Int.toNat_natCast, getAt (by omega)]
    unfold impl_isHeardList_1.g impl_isHeardList_1.o0
    rw [within_eq, Option.bind_some, Option.bind_some, List.drop_eq_getElem_cons (show i < l.length by omega), List.any_cons]
    cases h : inB l[i] 1 24 with
    | false => exact ⟨_, rfl, by rw [dcT (show ((i : Nat) : Int) ≥ 0 by omega)]; rfl⟩
    | true =>
      rw [Bool.not_true, cond_false, w1add (by omega), Bool.false_or]
      exact idx_loop N l hl k (i+1) n (by omega) (by omega)
  | _, _, 0, _, hn => by omega
def hlB (h : Int) (l : List Int) : Bool := inB h 2 24 && (inB l.length 1 60 && l.all (fun x => inB x 1 24))
theorem isHeardList_eq {N : Nat} (h : Int) (l : List Int) (hN : 10000 ≤ N) : impl_isHeardList.g N h l = some (hlB h l) := by
  unfold impl_isHeardList.g impl_isHeardList.o0 hlB
  rw [isDial_eq, Option.bind_some]
  cases inB h 2 24 with
  | false => rfl
  | true =>
    rw [cond_true, within_eq, Option.bind_some]
    cases e : inB l.length 1 60 with
    | false => rfl
    | true =>
      have := inB_iff.1 e
      rw [cond_true]
      unfold slices_ContainsFunc_int_int.g slices_ContainsFunc_int_int.o0 slices_IndexFunc_int_int.g slices_IndexFunc_int_int.o0
      obtain ⟨r, h1, h2⟩ := idx_loop N l (by omega) l.length 0 N (by omega) (by omega)
      rw [show (fun w0 w1 w2 => slices_IndexFunc_int_int.l1 N N w0 w1 w2) l (↑l.length) 0 = some r from h1, Option.bind_some, Option.bind_some, h2, List.drop_zero, List.any_eq_not_all_not, Bool.not_not, Bool.true_and, Bool.true_and]
      simp only [Bool.not_not]
theorem HalvesOfHeard_eq {N : Nat} (h : Int) (l : List Int) (hN : 10000 ≤ N) : impl_HalvesOfHeard.g N h l = some (if hlB h l then (hvs (hrd h.toNat l) (2*h.toNat), true) else ([], false)) := by
  unfold impl_HalvesOfHeard.g impl_HalvesOfHeard.o0
  rw [isHeardList_eq h l hN, Option.bind_some]
  cases e : hlB h l with
  | false => rfl
  | true =>
    have e' := e
    unfold hlB at e'
    simp only [Bool.and_eq_true, inB_iff] at e'
    obtain ⟨h, rfl⟩ := Int.eq_ofNat_of_zero_le (show 0 ≤ h by omega)
    rw [Bool.not_true, cond_false, halvesOf_eq hN (by omega) (by omega) (by omega)]; rfl
/-! ### numbers of strokes -/
end Go.Proofs.Ytpemffldaepbpaa.M

namespace Go.Proofs.Ytpemffldaepbpaa.M
open Go Go.PM Str
set_option linter.unusedVariables false
set_option linter.unusedSimpArgs false
set_option maxRecDepth 100000
theorem kHas_loop (N : Nat) (x : Int) (l : List Int) (hl : l.length < 1000000000) : ∀ (k i n : Nat), l.length = i + k → k < n → laws_kHas.l1 N n x l (l.length : Int) i = some (decide (x ∈ l.drop i))
  | 0, i, n+1, hi, hn => by
    unfold laws_kHas.l1 laws_kHas.d1 laws_kHas.o1
    rw [dcF (by omega), cond_false, List.drop_eq_nil_of_le (by omega)]; rfl
  | k+1, i, n+1, hi, hn => by
    unfold laws_kHas.l1 laws_kHas.d1 laws_kHas.o1
    rw [dcT (by omega), dcT (by omega), cond_true, cond_true, cond_true, Int.toNat_natCast, getAt (by omega)]
    rw [List.drop_eq_getElem_cons (show i < l.length by omega)]
    by_cases e : l[i] = x
    · rw [ieqT e, cond_true, dcT (by rw [e]; simp)]
    · rw [ieqF e, cond_false, w1add (by omega)]
      refine (kHas_loop N x l hl k (i+1) n (by omega) (by omega)).trans ?_
      rw [Option.some.injEq, decide_eq_decide]
      exact ⟨fun h => List.mem_cons_of_mem _ h, fun h => (List.mem_cons.1 h).resolve_left fun h' => e h'.symm⟩
  | _, _, 0, _, hn => by omega
theorem kHas_eq {N : Nat} (l : List Int) (x : Int) (hl : l.length < 1000000000) (hN : l.length < N) : laws_kHas.g N l x = some (decide (x ∈ l)) :=
  kHas_loop N x l hl l.length 0 N (by omega) hN
theorem l1Has_loop (N : Nat) (x : Int) (l : List Int) (hl : l.length < 1000000000) : ∀ (k i n : Nat), l.length = i + k → k < n → spec_l1Has.l1 N n x l (l.length : Int) i = some (decide (x ∈ l.drop i))
  | 0, i, n+1, hi, hn => by
    unfold spec_l1Has.l1 spec_l1Has.d1 spec_l1Has.o1
    rw [dcF (by omega), cond_false, List.drop_eq_nil_of_le (by omega)]; rfl
  | k+1, i, n+1, hi, hn => by
    unfold spec_l1Has.l1 spec_l1Has.d1 spec_l1Has.o1
    rw [dcT (by omega), dcT (by omega), cond_true, cond_true, cond_true, Int.toNat_natCast, getAt (by omega)]
    rw [List.drop_eq_getElem_cons (show i < l.length by omega)]
    by_cases e : l[i] = x
    · rw [ieqT e, cond_true, dcT (by rw [e]; simp)]
    · rw [ieqF e, cond_false, w1add (by omega)]
      refine (l1Has_loop N x l hl k (i+1) n (by omega) (by omega)).trans ?_
      rw [Option.some.injEq, decide_eq_decide]
      exact ⟨fun h => List.mem_cons_of_mem _ h, fun h => (List.mem_cons.1 h).resolve_left fun h' => e h'.symm⟩
  | _, _, 0, _, hn => by omega
theorem l1Has_eq {N : Nat} (l : List Int) (x : Int) (hl : l.length < 1000000000) (hN : l.length < N) : spec_l1Has.g N l x = some (decide (x ∈ l)) :=
  l1Has_loop N x l hl l.length 0 N (by omega) hN
/-- increasing -/
abbrev Inc (l : List Int) : Prop := l.Pairwise (· < ·)
theorem inc_uniq : ∀ {a b : List Int}, Inc a → Inc b → (∀ x, x ∈ a ↔ x ∈ b) → a = b
  | [], [], _, _, _ => rfl
  | [], y :: b, _, _, h => by have := (h y).2 (by simp); cases this
  | x :: a, [], _, _, h => by have := (h x).1 (by simp); cases this
  | x :: a, y :: b, ha, hb, h => by
    have ha' := List.pairwise_cons.1 ha
    have hb' := List.pairwise_cons.1 hb
    have e : x = y := by
      rcases List.mem_cons.1 ((h x).1 (by simp)) with h1 | h1
      · exact h1
      · rcases List.mem_cons.1 ((h y).2 (by simp)) with h2 | h2
        · exact h2.symm
        · have := hb'.1 x h1; have := ha'.1 y h2; omega
    subst e
    rw [inc_uniq ha'.2 hb'.2 fun z => ?_]
    constructor
    · intro hz
      rcases List.mem_cons.1 ((h z).1 (List.mem_cons_of_mem _ hz)) with h1 | h1
      · have := ha'.1 z hz; omega
      · exact h1
    · intro hz
      rcases List.mem_cons.1 ((h z).2 (List.mem_cons_of_mem _ hz)) with h1 | h1
      · have := hb'.1 z hz; omega
      · exact h1
theorem put_inc {l : List Int} (hl : Inc l) {x : Int} {k : Nat} (hk : k ≤ l.length) (h1 : ∀ i (h : i < l.length), i < k → l[i] < x) (h2 : ∀ i (h : i < l.length), k ≤ i → x < l[i]) : Inc (l.take k ++ [x] ++ l.drop k) := by
  rw [List.append_assoc]
  refine List.pairwise_append.2 ⟨hl.sublist (List.take_sublist ..), ?_, ?_⟩
  · refine List.pairwise_append.2 ⟨List.pairwise_singleton _ _, hl.sublist (List.drop_sublist ..), ?_⟩
    intro a ha b hb
    simp only [List.mem_singleton] at ha
    subst ha
    obtain ⟨i, hi, rfl⟩ := List.mem_iff_getElem.1 hb
    rw [List.getElem_drop]
    exact h2 _ _ (by omega)
  · intro a ha b hb
    obtain ⟨i, hi, rfl⟩ := List.mem_iff_getElem.1 ha
    rw [List.getElem_take]
    have hik : i < k := by simp at hi; omega
    have hil : i < l.length := by omega
    have ha := h1 i hil hik
    rcases List.mem_append.1 hb with hb | hb
    · simp only [List.mem_singleton] at hb; rw [hb]; exact ha
    · obtain ⟨j, hj, rfl⟩ := List.mem_iff_getElem.1 hb
      rw [List.getElem_drop]
      have := h2 (k + j) (by simp at hj; omega) (by omega)
      omega
theorem put_loop (N : Nat) (l : List Int) (x : Int) (hl : l.length < 1000000) (hi : Inc l) (hx : x ∉ l) : ∀ (d i n : Nat), l.length = i + d → d < n → (∀ j (h : j < l.length), j < i → l[j] < x) →
    ∃ m, spec_l1Put.l1 N n l x (i : Int) = some m ∧ Inc m ∧ m.length = l.length + 1 ∧ ∀ y, y ∈ m ↔ y = x ∨ y ∈ l
  | d, i, n+1, hd, hn, hb => by
    have fin : (∀ j (h : j < l.length), i ≤ j → x < l[j]) → ∃ m, spec_l1Put.d3 N l x (i : Int) false = some m ∧ Inc m ∧ m.length = l.length + 1 ∧ ∀ y, y ∈ m ↔ y = x ∨ y ∈ l := by
      intro h2
      refine ⟨l.take i ++ [x] ++ l.drop i, ?_, put_inc hi (by omega) hb h2, by simp; omega, fun y => ?_⟩
      · unfold spec_l1Put.d3 spec_l1Put.o3
        have e1 : ((l.take ((i : Int)).toNat).drop (0 : Int).toNat) = l.take i := by simp
        have e2 : ((l.take ((l.length : Int)).toNat).drop ((i : Int)).toNat) = l.drop i := by simp
        rw [e1, e2, dcT (show (0 : Int) ≤ (i : Int) by omega), dcT (show (i : Int) ≤ (l.length : Int) by omega), dcT (show (0 : Int) ≤ (l.length : Int) by omega), dcT (show (l.length : Int) ≤ (l.length : Int) by omega)]
        simp only [cond_true, cond_false, List.nil_append]
        rw [blT (by simp; omega), blT (by simp; omega), blT (by simp; omega)]
        simp
      · simp only [List.mem_append, List.mem_singleton]
        have : y ∈ l ↔ y ∈ l.take i ∨ y ∈ l.drop i := by rw [← List.mem_append, List.take_append_drop]
        rw [this]
        constructor
        · rintro ((h | h) | h)
          · exact .inr (.inl h)
          · exact .inl h
          · exact .inr (.inr h)
        · rintro (h | h | h)
          · exact .inl (.inr h)
          · exact .inl (.inl h)
          · exact .inr h
    unfold spec_l1Put.l1 spec_l1Put.d1 spec_l1Put.o1
    dsimp only
    by_cases c : i < l.length
    · have hne : ¬ l[i] = x := fun e => hx (by rw [← e]; exact List.getElem_mem c)
      rw [dcT (show (i : Int) < (l.length : Int) by omega), dcT (show (0 : Int) ≤ (i : Int) by omega)]
      simp only [cond_true, Int.toNat_natCast]
      rw [getAt c]
      by_cases c2 : l[i] < x
      · rw [dcT c2, cond_true]
        unfold spec_l1Put.d2 spec_l1Put.o2
        rw [w1add (by omega)]
        obtain ⟨d', rfl⟩ : ∃ d', d = d' + 1 := ⟨d - 1, by omega⟩
        refine put_loop N l x hl hi hx d' (i+1) n (by omega) (by omega) fun j h hj => ?_
        rcases Nat.lt_or_ge j i with h' | h'
        · exact hb j h h'
        · have : j = i := by omega
          subst this; exact c2
      · rw [dcF c2, cond_false, getAt c, ieqF hne]
        refine fin fun j h hj => ?_
        rcases Nat.lt_or_ge i j with h' | h'
        · have := List.pairwise_iff_getElem.1 hi i j c h h'; omega
        · have : j = i := by omega
          subst this; omega
    · rw [dcF (show ¬ (i : Int) < (l.length : Int) by omega)]
      simp only [cond_false]
      exact fin fun j h hj => by omega
  | _, _, 0, _, hn, _ => by omega
theorem l1Put_eq {N : Nat} (l : List Int) (x : Int) (hl : l.length < 1000000) (hN : l.length < N) (hi : Inc l) (hx : x ∉ l) : ∃ m, spec_l1Put.g N l x = some m ∧ Inc m ∧ m.length = l.length + 1 ∧ ∀ y, y ∈ m ↔ y = x ∨ y ∈ l :=
  put_loop N l x hl hi hx l.length 0 N (by omega) hN fun j h hj => by omega
theorem compact_inc (l : List Int) (hs : l.Pairwise (· ≤ ·)) : Inc (Lib.compact l) ∧ ∀ x, x ∈ Lib.compact l ↔ x ∈ l := by
  have hk : ∀ j, Lib.keeps l.toArray j = true ↔ (j = 0 ∨ l.toArray[j]! ≠ l.toArray[j - 1]!) := by
    intro j; simp [Lib.keeps]
  have hget : ∀ j (h : j < l.length), l.toArray[j]! = l[j] := fun j h => by simp [h]
  constructor
  · unfold Lib.compact Lib.compactUpTo
    show List.Pairwise _ _
    rw [List.pairwise_map, List.pairwise_filter]
    refine (List.pairwise_lt_range (n := l.length)).imp_of_mem ?_
    intro a b ha hb hab ka kb
    have hb' := List.mem_range.1 hb
    rw [hget a (by omega), hget b hb']
    have hbn : b ≠ 0 := by omega
    have := ((hk b).1 kb).resolve_left hbn
    rw [hget b hb', hget (b - 1) (by omega)] at this
    have h1 : l[a] ≤ l[b - 1]'(by omega) := by
      rcases Nat.lt_or_ge a (b - 1) with h | h
      · exact List.pairwise_iff_getElem.1 hs a (b - 1) (by omega) (by omega) h
      · have : a = b - 1 := by omega
        subst this; exact Int.le_refl _
    have h2 : l[b - 1]'(by omega) ≤ l[b] := List.pairwise_iff_getElem.1 hs (b - 1) b (by omega) hb' (by omega)
    omega
  · intro x
    unfold Lib.compact Lib.compactUpTo
    simp only [List.mem_map, List.mem_filter, List.mem_range]
    constructor
    · rintro ⟨j, ⟨hj, _⟩, rfl⟩
      rw [hget j hj]
      exact List.getElem_mem hj
    · intro hx
      obtain ⟨i, hi, rfl⟩ := List.mem_iff_getElem.1 hx
      clear hx
      induction i with
      | zero => exact ⟨0, ⟨hi, (hk 0).2 (.inl rfl)⟩, hget 0 hi⟩
      | succ i ih =>
        by_cases e : l[i + 1] = l[i]
        · obtain ⟨j, hj, he⟩ := ih (by omega)
          exact ⟨j, hj, by rw [he, e]⟩
        · refine ⟨i + 1, ⟨hi, (hk _).2 (.inr ?_)⟩, hget _ hi⟩
          rw [hget _ hi, show i + 1 - 1 = i by omega, hget i (by omega)]
          exact e
end Go.Proofs.Ytpemffldaepbpaa.M

namespace Go.Proofs.Ytpemffldaepbpaa.M
open Go Go.PM Str
set_option linter.unusedVariables false
set_option linter.unusedSimpArgs false
set_option maxRecDepth 100000
theorem hvs_mem (p : Nat → Bool) (x : Int) : ∀ n, x ∈ hvs p n ↔ ∃ k, k < n ∧ p k = true ∧ x = (k : Int)
  | 0 => by simp [hvs]
  | n + 1 => by
    simp only [hvs, List.mem_append, hvs_mem p x n]
    cases hp : p n with
    | true =>
      simp only [cond_true, List.mem_singleton]
      constructor
      · rintro (⟨k, a, b, c⟩ | h)
        · exact ⟨k, by omega, b, c⟩
        · exact ⟨n, by omega, hp, h⟩
      · rintro ⟨k, a, b, c⟩
        by_cases e : k = n
        · subst e; exact .inr c
        · exact .inl ⟨k, by omega, b, c⟩
    | false =>
      simp only [cond_false, List.not_mem_nil, or_false]
      constructor
      · rintro ⟨k, a, b, c⟩; exact ⟨k, by omega, b, c⟩
      · rintro ⟨k, a, b, c⟩
        have e : k ≠ n := by rintro rfl; rw [hp] at b; cases b
        exact ⟨k, by omega, b, c⟩
theorem l1All_loop (N : Nat) (lo hi : Int) (l : List Int) (hl : l.length < 1000000000) : ∀ (k i n : Nat), l.length = i + k → k < n → spec_l1All.l1 N n lo hi l (l.length : Int) i = some ((l.drop i).all fun x => inB x lo hi)
  | 0, i, n+1, hi', hn => by
    unfold spec_l1All.l1 spec_l1All.d1 spec_l1All.o1
    rw [dcF (by omega), cond_false, List.drop_eq_nil_of_le (by omega)]; rfl
  | k+1, i, n+1, hi', hn => by
    unfold spec_l1All.l1 spec_l1All.d1 spec_l1All.o1
    rw [dcT (by omega), dcT (by omega), cond_true, cond_true, cond_true, Int.toNat_natCast, getAt (by omega), l1In_eq, Option.bind_some]
    rw [List.drop_eq_getElem_cons (show i < l.length by omega), List.all_cons]
    cases h : inB l[i] lo hi with
    | false => rfl
    | true =>
      rw [Bool.not_true, cond_false, w1add (by omega), Bool.true_and]
      exact l1All_loop N lo hi l hl k (i+1) n (by omega) (by omega)
  | _, _, 0, _, hn => by omega
theorem stHeard_eq {N : Nat} (h : Int) (l : List Int) (hN : 10000 ≤ N) : spec_stHeard.g N h l = some (hlB h l) := by
  unfold spec_stHeard.g spec_stHeard.o0 hlB
  rw [diHours_eq, Option.bind_some]
  cases inB h 2 24 with
  | false => rfl
  | true =>
    rw [cond_true, l1In_eq, Option.bind_some]
    cases e : inB l.length 1 60 with
    | false => rfl
    | true =>
      have := inB_iff.1 e
      rw [cond_true]
      unfold spec_l1All.g spec_l1All.o0
      have e2 : spec_l1All.l1 N N 1 24 l (l.length : Int) 0 = some _ := l1All_loop N 1 24 l (by omega) l.length 0 N (by omega) (by omega)
      dsimp only
      rw [e2]; rfl
theorem hlB_iff {h : Int} {l : List Int} : hlB h l = true ↔ (2 ≤ h ∧ h ≤ 24) ∧ (1 ≤ (l.length : Int) ∧ (l.length : Int) ≤ 60) ∧ ∀ x ∈ l, 1 ≤ x ∧ x ≤ 24 := by
  unfold hlB
  simp only [Bool.and_eq_true, inB_iff, List.all_eq_true]
abbrev H (h : Nat) (l : List Int) : List Int := hvs (hrd h l) (2*h)
theorem spec_HalvesOfHeard_eq {N : Nat} (h : Int) (l : List Int) (hN : 10000 ≤ N) : spec_HalvesOfHeard.g N h l = some (if hlB h l then (hvs (hrd h.toNat l) (2*h.toNat), true) else ([], false)) := by
  unfold spec_HalvesOfHeard.g spec_HalvesOfHeard.o0
  rw [stHeard_eq h l hN, Option.bind_some]
  cases e : hlB h l with
  | false => rfl
  | true =>
    have e' := hlB_iff.1 e
    obtain ⟨h, rfl⟩ := Int.eq_ofNat_of_zero_le (show 0 ≤ h by omega)
    rw [Bool.not_true, cond_false, stHalves_eq hN (by omega) (by omega) (by omega)]; rfl
theorem IsHeard_eq {N : Nat} (h : Int) (l : List Int) (hN : 10000 ≤ N) : impl_IsHeard.g N h l = some (if hlB h l then (decide (((hvs (hrd h.toNat l) (2*h.toNat)).length : Int) > 0), true) else (false, false)) := by
  unfold impl_IsHeard.g impl_IsHeard.o0
  rw [HalvesOfHeard_eq h l hN]
  cases hlB h l <;> rfl
theorem spec_IsHeard_eq {N : Nat} (h : Int) (l : List Int) (hN : 10000 ≤ N) : spec_IsHeard.g N h l = some (if hlB h l then (decide (((hvs (hrd h.toNat l) (2*h.toNat)).length : Int) > 0), true) else (false, false)) := by
  unfold spec_IsHeard.g spec_IsHeard.o0
  rw [stHeard_eq h l hN, Option.bind_some]
  cases e : hlB h l with
  | false => rfl
  | true =>
    have e' := hlB_iff.1 e
    obtain ⟨h, rfl⟩ := Int.eq_ofNat_of_zero_le (show 0 ≤ h by omega)
    rw [Bool.not_true, cond_false, stHalves_eq hN (by omega) (by omega) (by omega)]; rfl
/-- what comes after -/
def ff (h len : Nat) (x : Int) : Int := ((st h (x.toNat + len) : Nat) : Int)
theorem nextI_loop {N : Nat} {h : Nat} (h1 : 2 ≤ h) (h2 : h ≤ 24) (l hs : List Int) (hl : l.length ≤ 1000) (hh : ∀ x ∈ hs, 0 ≤ x ∧ x ≤ 1000) (hhl : hs.length ≤ 1000) : ∀ (k i n : Nat), hs.length = i + k → k < n → impl_NextHeard.l1 N n h l ((hs.take i).map (ff h l.length)) hs (hs.length : Int) i = some (Lib.compact ((hs.map (ff h l.length)).mergeSort fun x y => decide (x ≤ y)), true)
  | 0, i, n+1, hi, hn => by
    unfold impl_NextHeard.l1 impl_NextHeard.d1 impl_NextHeard.o1
    rw [dcF (by omega), cond_false, List.take_of_length_le (by omega)]
    by_cases e : hs = []
    · subst e
      rw [List.map_nil, List.mergeSort_nil]; rfl
    · have hp : 0 < hs.length := List.length_pos_iff.2 e
      rw [blT (by rw [List.length_map]; exact hp), cond_true]
      unfold slices_Sort_int_int_r.g slices_Compact_int_int_r.g
      rw [show Nat.beq (hs.map (ff h l.length)).length (hs.map (ff h l.length)).length = true from Nat.beq_refl _, blT (by rw [List.length_map]; omega)]
      rw [Bool.and_self, cond_true, Option.bind_some, List.length_mergeSort, show Nat.beq (hs.map (ff h l.length)).length (hs.map (ff h l.length)).length = true from Nat.beq_refl _, blT (by rw [List.length_map]; omega), Bool.and_self, cond_true, Option.bind_some]
      dsimp only
      rw [show Nat.ble _ _ = true from Nat.ble_eq_true_of_le (by rw [List.length_append]; exact Nat.le_add_right _ _), cond_true, List.take_left']
      rfl
  | k+1, i, n+1, hi, hn => by
    unfold impl_NextHeard.l1 impl_NextHeard.d1 impl_NextHeard.o1
    have hx := hh hs[i] (List.getElem_mem (by omega))
    obtain ⟨q, hq⟩ := Int.eq_ofNat_of_zero_le hx.1
    have ex : hs[i] + (l.length : Int) = ((q + l.length : Nat) : Int) := by omega
    rw [dcT (by omega), dcT (by omega), cond_true, cond_true, cond_true, Int.toNat_natCast, getAt (by omega), ex, w64s (by omega) (by omega), strokes_eq N h1 h2, Option.bind_some, blT (by simp; omega), cond_true, w1add (by omega)]
    have ih := nextI_loop (N := N) h1 h2 l hs hl hh hhl k (i+1) n (by omega) (by omega)
    rw [List.take_succ_eq_append_getElem (show i < hs.length by omega), List.map_append] at ih
    have ef : List.map (ff h l.length) [hs[i]] = [((st h (q + l.length) : Nat) : Int)] := by
      simp only [List.map_cons, List.map_nil, ff]
      rw [show hs[i].toNat = q by omega]
    rw [ef] at ih
    exact ih
  | _, _, 0, _, hn => by omega
theorem nextS_loop {N : Nat} (hN : 10000 ≤ N) {h : Nat} (h1 : 2 ≤ h) (h2 : h ≤ 24) (l hs : List Int) (hl : l.length ≤ 1000) (hh : ∀ x ∈ hs, 0 ≤ x ∧ x ≤ 1000) (hhl : hs.length ≤ 1000) : ∀ (k i n : Nat) (m : List Int), hs.length = i + k → k < n → Inc m → m.length ≤ i → (∀ x, x ∈ m ↔ x ∈ (hs.take i).map (ff h l.length)) →
    ∃ m', spec_NextHeard.l2 N n h l m hs (hs.length : Int) i = some (m', true) ∧ Inc m' ∧ ∀ x, x ∈ m' ↔ x ∈ hs.map (ff h l.length)
  | 0, i, n+1, m, hi, hn, hinc, hml, hm => by
    unfold spec_NextHeard.l2 spec_NextHeard.d2 spec_NextHeard.o2
    rw [dcF (by omega), cond_false]
    rw [List.take_of_length_le (by omega)] at hm
    exact ⟨m, rfl, hinc, hm⟩
  | k+1, i, n+1, m, hi, hn, hinc, hml, hm => by
    unfold spec_NextHeard.l2 spec_NextHeard.d2 spec_NextHeard.o2
    have hx := hh hs[i] (List.getElem_mem (by omega))
    obtain ⟨q, hq⟩ := Int.eq_ofNat_of_zero_le hx.1
    have ex : hs[i] + (l.length : Int) = ((q + l.length : Nat) : Int) := by omega
    have ef : List.map (ff h l.length) [hs[i]] = [((st h (q + l.length) : Nat) : Int)] := by
      simp only [List.map_cons, List.map_nil, ff]
      rw [show hs[i].toNat = q by omega]
    rw [dcT (by omega), dcT (by omega), cond_true, cond_true, cond_true, Int.toNat_natCast, getAt (by omega), w2 h2, ieqF (by omega), cond_false, ex, w64s (by omega) (by omega), tmodN, stAtm_eq N h1 h2, Option.bind_some, l1Has_eq m _ (by omega) (by omega), Option.bind_some, w1add (by omega)]
    have hm2 : ∀ x, x ∈ (hs.take (i+1)).map (ff h l.length) ↔ x = ((st h (q + l.length) : Nat) : Int) ∨ x ∈ m := by
      intro x
      rw [List.take_succ_eq_append_getElem (show i < hs.length by omega), List.map_append, ef, List.mem_append, ← hm, List.mem_singleton]
      exact Or.comm
    by_cases hc : ((st h (q + l.length) : Nat) : Int) ∈ m
    · rw [dcT hc, Bool.not_true, cond_false]
      refine nextS_loop hN h1 h2 l hs hl hh hhl k (i+1) n m (by omega) (by omega) hinc (by omega) fun x => ?_
      rw [hm2]
      exact ⟨.inr, fun h => h.elim (fun e => by rw [e]; exact hc) id⟩
    · rw [dcF hc, Bool.not_false, cond_true]
      obtain ⟨m', e, a, b, c⟩ := l1Put_eq (N := N) m _ (by omega) (by omega) hinc hc
      rw [e, Option.bind_some]
      exact nextS_loop hN h1 h2 l hs hl hh hhl k (i+1) n m' (by omega) (by omega) a (by omega) fun x => by rw [hm2, c]
  | _, _, 0, _, _, hn, _, _, _ => by omega
theorem nextS_eq {N : Nat} (hN : 10000 ≤ N) {h : Nat} (h1 : 2 ≤ h) (h2 : h ≤ 24) (l hs : List Int) (hl : l.length ≤ 1000) (hh : ∀ x ∈ hs, 0 ≤ x ∧ x ≤ 1000) (hhl : hs.length ≤ 1000) :
    ∃ m', spec_NextHeard.l1 N N h l hs (hs.length : Int) 0 = some (m', true) ∧ Inc m' ∧ ∀ x, x ∈ m' ↔ x ∈ hs.map (ff h l.length) := by
  obtain ⟨n, rfl⟩ : ∃ n, N = n + 1 := ⟨N - 1, by omega⟩
  unfold spec_NextHeard.l1 spec_NextHeard.d1 spec_NextHeard.o1
  cases hs with
  | nil => exact ⟨[], rfl, List.Pairwise.nil, fun x => by simp⟩
  | cons a t =>
    have hx := hh a (by simp)
    obtain ⟨q, hq⟩ := Int.eq_ofNat_of_zero_le hx.1
    have ex : a + (l.length : Int) = ((q + l.length : Nat) : Int) := by omega
    rw [dcT (show (0 : Int) < ((a :: t).length : Int) by simp), dcT (by omega), cond_true, cond_true, cond_true, Int.toNat_zero, getAt (show 0 < (a :: t).length by simp), List.getElem_cons_zero, w2 h2, ieqF (by omega), cond_false, ex, w64s (by omega) (by omega), tmodN, stAtm_eq _ h1 h2, Option.bind_some, l1Has_eq [] _ (by simp) (by simp), Option.bind_some, dcF (by simp), Bool.not_false, cond_true]
    obtain ⟨m', e, b, c, d⟩ := l1Put_eq (N := n+1) [] (((st h (q + l.length) : Nat) : Int)) (by simp) (by simp) List.Pairwise.nil (by simp)
    rw [e, Option.bind_some]
    refine nextS_loop hN h1 h2 l (a :: t) hl hh hhl t.length 1 n m' (by simp; omega) (by simp at hhl; omega) b (by rw [c]; simp) fun x => ?_
    rw [d]
    simp only [List.take_succ_cons, List.take_zero, List.map_cons, List.map_nil, ff, List.mem_singleton, List.not_mem_nil, or_false]
    rw [show a.toNat = q by omega]
theorem H_small {h : Nat} (h2 : h ≤ 24) (l : List Int) : (∀ x ∈ H h l, 0 ≤ x ∧ x ≤ 1000) ∧ (H h l).length ≤ 1000 := by
  constructor
  · intro x hx
    obtain ⟨k, a, b, c⟩ := (hvs_mem _ _ _).1 hx
    omega
  · have := hvs_len_le (hrd h l) (2*h); show (hvs _ _).length ≤ _; omega
/-- what may follow -/
def NxOk (h : Nat) (l nx : List Int) : Prop := Inc nx ∧ ∀ x, x ∈ nx ↔ ∃ k, k < 2*h ∧ hrd h l k = true ∧ x = ((st h (k + l.length) : Nat) : Int)
theorem NextHeard_both {N : Nat} (hN : 10000 ≤ N) (h : Int) (l : List Int) : ∃ nx, impl_NextHeard.g N h l = some (nx, hlB h l) ∧ spec_NextHeard.g N h l = some (nx, hlB h l) ∧ nx.length ≤ 1000 ∧ (hlB h l = true → NxOk h.toNat l nx) := by
  unfold impl_NextHeard.g impl_NextHeard.o0 spec_NextHeard.g spec_NextHeard.o0
  rw [stHeard_eq h l hN, isHeardList_eq h l hN, Option.bind_some, Option.bind_some]
  cases e : hlB h l with
  | false => exact ⟨[], rfl, rfl, by simp, fun h => by cases h⟩
  | true =>
    have e' := hlB_iff.1 e
    obtain ⟨h, rfl⟩ := Int.eq_ofNat_of_zero_le (show 0 ≤ h by omega)
    have h1 : 2 ≤ h := by omega
    have h2 : h ≤ 24 := by omega
    have hl : l.length ≤ 1000 := by omega
    obtain ⟨s1, s2⟩ := H_small h2 l
    rw [Bool.not_true, cond_false, cond_false, stHalves_eq hN h1 h2 hl, halvesOf_eq hN h1 h2 hl, Option.bind_some, Option.bind_some]
    obtain ⟨m, hm, hinc, hmem⟩ := nextS_eq hN h1 h2 l (H h l) hl s1 s2
    have hI : impl_NextHeard.l1 N N h l [] (H h l) ((H h l).length : Int) 0 = _ := nextI_loop (N := N) h1 h2 l (H h l) hl s1 s2 (H h l).length 0 N (by omega) (by omega)
    have hs : ((List.map (ff h l.length) (H h l)).mergeSort fun x y => decide (x ≤ y)).Pairwise (· ≤ ·) := by
      have := List.pairwise_mergeSort (le := fun x y : Int => decide (x ≤ y)) (fun a b c h1 h2 => by simp at *; omega) (fun a b => by simp; omega) (List.map (ff h l.length) (H h l))
      exact this.imp fun h => by simpa using h
    obtain ⟨c1, c2⟩ := compact_inc _ hs
    have em : Lib.compact ((List.map (ff h l.length) (H h l)).mergeSort fun x y => decide (x ≤ y)) = m := inc_uniq c1 hinc fun x => by rw [c2, hmem, List.mem_mergeSort]
    refine ⟨m, ?_, hm, ?_, fun _ => ⟨hinc, fun x => ?_⟩⟩
    · rw [← em]; exact hI
    · rw [← em]
      unfold Lib.compact Lib.compactUpTo
      rw [List.length_map]
      refine Nat.le_trans (List.length_filter_le _ _) ?_
      rw [List.length_range, List.length_mergeSort, List.length_map]; exact s2
    · rw [hmem, List.mem_map]
      show _ ↔ ∃ k, k < 2*h ∧ _
      constructor
      · rintro ⟨y, hy, rfl⟩
        obtain ⟨k, a, b, c⟩ := (hvs_mem _ _ _).1 hy
        refine ⟨k, a, b, ?_⟩
        subst c
        simp [ff]
      · rintro ⟨k, a, b, rfl⟩
        exact ⟨k, (hvs_mem _ _ _).2 ⟨k, a, b, rfl⟩, by simp [ff]⟩
end Go.Proofs.Ytpemffldaepbpaa.M

namespace Go.Proofs.Ytpemffldaepbpaa.M
open Go Go.PM Str
set_option linter.unusedVariables false
set_option linter.unusedSimpArgs false
set_option maxRecDepth 100000
def same4 (h a b : Nat) : Bool := Nat.beq (st h a) (st h b) && (Nat.beq (st h (a+1)) (st h (b+1)) && (Nat.beq (st h (a+2)) (st h (b+2)) && Nat.beq (st h (a+3)) (st h (b+3))))
theorem same4_all : allLt 25 (fun h => Nat.blt h 2 || allLt (2*h) fun a => allLt (2*h) fun b => !same4 h a b || Nat.beq a b) = true := by decide +kernel
theorem four {h : Nat} (h1 : 2 ≤ h) (h2 : h ≤ 24) {a b : Nat} (ha : a < 2*h) (hb : b < 2*h) (e : hf h a 4 = hf h b 4) : a = b := by
  have := allLt_spec same4_all h (by omega)
  rw [Bool.or_eq_true] at this
  rcases this with t | t
  · rw [Nat.blt_eq] at t; omega
  have t := allLt_spec (allLt_spec t a ha) b hb
  have g : ∀ i, i < 4 → st h (a + i) = st h (b + i) := by
    intro i hi
    have h1 := hf_get h a 4 i hi
    rw [e, hf_get h b 4 i hi] at h1
    have := Option.some.inj h1
    omega
  rw [Bool.or_eq_true] at t
  rcases t with t | t
  · exfalso
    have g0 := g 0 (by omega)
    have g1 := g 1 (by omega)
    have g2 := g 2 (by omega)
    have g3 := g 3 (by omega)
    simp only [Nat.add_zero] at g0
    unfold same4 at t
    rw [nbT g0, nbT g1, nbT g2, nbT g3] at t
    simp at t
  · exact Nat.eq_of_beq_eq_true t
theorem hf_pre {h a b : Nat} : ∀ {k j : Nat}, j ≤ k → hf h a k = hf h b k → hf h a j = hf h b j
  | 0, j, hj, e => by have : j = 0 := by omega
                      subst this; rfl
  | k+1, j, hj, e => by
    by_cases c : j = k + 1
    · subst c; exact e
    · have : hf h a k = hf h b k := by
        simp only [hf] at e
        exact (List.append_inj e (by rw [hf_len, hf_len])).1
      exact hf_pre (by omega) this
/-- how many halves it may be -/
def kc (h half n : Nat) : Nat := (H h (hf h half n)).length
theorem own_mem {h half n : Nat} (hh : half < 2*h) : ((half : Nat) : Int) ∈ H h (hf h half n) :=
  (hvs_mem _ _ _).2 ⟨half, hh, by simp [hrd, hf_len], rfl⟩
theorem kc_pos {h half n : Nat} (hh : half < 2*h) : 1 ≤ kc h half n := List.length_pos_of_mem (own_mem hh)
theorem hvs_inc (p : Nat → Bool) : ∀ n, Inc (hvs p n)
  | 0 => List.Pairwise.nil
  | n + 1 => by
    simp only [hvs]
    refine List.pairwise_append.2 ⟨hvs_inc p n, ?_, ?_⟩
    · cases p n
      · exact List.Pairwise.nil
      · exact List.pairwise_singleton _ _
    · intro a ha b hb
      obtain ⟨k, k1, k2, rfl⟩ := (hvs_mem _ _ _).1 ha
      cases hp : p n with
      | false => rw [hp] at hb; cases hb
      | true =>
        rw [hp, cond_true, List.mem_singleton] at hb
        subst hb; omega
theorem one_is {l : List Int} (h : l.length = 1) {x : Int} (hx : x ∈ l) : l = [x] := by
  match l, h, hx with
  | [a], _, hx => rw [List.mem_singleton.1 hx]
theorem kc_four {h half : Nat} (h1 : 2 ≤ h) (h2 : h ≤ 24) (hh : half < 2*h) : kc h half 4 = 1 := by
  have e : H h (hf h half 4) = [(half : Int)] := by
    refine inc_uniq (hvs_inc _ _) (List.pairwise_singleton _ _) fun x => ?_
    rw [List.mem_singleton]
    constructor
    · intro hx
      obtain ⟨k, a, b, c⟩ := (hvs_mem _ _ _).1 hx
      have b := of_decide_eq_true b
      rw [hf_len] at b
      rw [c, four h1 h2 a hh b]
    · rintro rfl; exact own_mem hh
  unfold kc; rw [e]; rfl
/-- known after so many -/
def kn (h half : Nat) : Nat := if kc h half 1 = 1 then 1 else if kc h half 2 = 1 then 2 else if kc h half 3 = 1 then 3 else 4
theorem kn_range (h half : Nat) : 1 ≤ kn h half ∧ kn h half ≤ 4 := by
  unfold kn; split <;> (try split) <;> (try split) <;> omega
theorem kn_one {h half : Nat} (h1 : 2 ≤ h) (h2 : h ≤ 24) (hh : half < 2*h) : kc h half (kn h half) = 1 := by
  unfold kn
  split
  · assumption
  · split
    · assumption
    · split
      · assumption
      · exact kc_four h1 h2 hh
theorem kn_least {h half : Nat} {n : Nat} (h1 : 1 ≤ n) (h2 : n < kn h half) : kc h half n ≠ 1 := by
  unfold kn at h2
  have : n = 1 ∨ n = 2 ∨ n = 3 ∨ 4 ≤ n := by omega
  split at h2
  · omega
  · split at h2
    · have : n = 1 := by omega
      subst this; assumption
    · split at h2
      · have : n = 1 ∨ n = 2 := by omega
        rcases this with rfl | rfl <;> assumption
      · have : n = 1 ∨ n = 2 ∨ n = 3 := by omega
        rcases this with rfl | rfl | rfl <;> assumption
theorem known_loop {N : Nat} (hN : 10000 ≤ N) {h half : Nat} (h1 : 2 ≤ h) (h2 : h ≤ 24) (hh : half < 2*h) : ∀ (k i n : Nat), kn h half = i + k → 1 ≤ i → k < n → impl_knownAfter.l1 N n h half i = some ((kn h half : Nat) : Int) ∧ spec_stKnown.l1 N n h half i = some ((kn h half : Nat) : Int)
  | 0, i, n+1, hi, hi1, hn => by
    have e : i = kn h half := by omega
    subst e
    have r := kn_range h half
    have c := kn_one h1 h2 hh
    unfold kc at c
    unfold impl_knownAfter.l1 impl_knownAfter.d1 impl_knownAfter.o1 spec_stKnown.l1 spec_stKnown.d1 spec_stKnown.o1
    rw [heardFrom_eq h1 h2 (by omega) (by omega) (by omega), Option.bind_some, halvesOf_eq hN h1 h2 (by rw [hf_len]; omega), Option.bind_some, dcT (show ((kn h half : Nat) : Int) ≤ 60 by omega), cond_true, stFrom_eq h1 h2 (by omega) (by omega) (by omega), Option.bind_some, stHalves_eq hN h1 h2 (by rw [hf_len]; omega), Option.bind_some, c]
    exact ⟨rfl, rfl⟩
  | k+1, i, n+1, hi, hi1, hn => by
    have r := kn_range h half
    have c := kn_least (h := h) (half := half) hi1 (by omega)
    have p := kc_pos (n := i) hh
    have c : (hvs (hrd h (hf h half i)) (2*h)).length ≠ 1 := c
    have p : 1 ≤ (hvs (hrd h (hf h half i)) (2*h)).length := p
    unfold impl_knownAfter.l1 impl_knownAfter.d1 impl_knownAfter.o1 spec_stKnown.l1 spec_stKnown.d1 spec_stKnown.o1
    rw [heardFrom_eq h1 h2 (by omega) (by omega) (by omega), Option.bind_some, halvesOf_eq hN h1 h2 (by rw [hf_len]; omega), Option.bind_some, dcT (show (i : Int) ≤ 60 by omega), cond_true, stFrom_eq h1 h2 (by omega) (by omega) (by omega), Option.bind_some, stHalves_eq hN h1 h2 (by rw [hf_len]; omega), Option.bind_some, dcT (by omega), cond_true, ieqF (by omega), cond_false, w1add (by omega)]
    exact known_loop hN h1 h2 hh k (i+1) n (by omega) (by omega) (by omega)
  | _, _, 0, _, _, hn => by omega
theorem known_eq {N : Nat} (hN : 10000 ≤ N) {h half : Nat} (h1 : 2 ≤ h) (h2 : h ≤ 24) (hh : half < 2*h) : impl_knownAfter.g N h half = some ((kn h half : Nat) : Int) ∧ spec_stKnown.g N h half = some ((kn h half : Nat) : Int) := by
  have r := kn_range h half
  exact known_loop hN h1 h2 hh (kn h half - 1) 1 N (by omega) (by omega) (by omega)
theorem halfB_nat {h a : Int} (e : halfB h a = true) : ∃ n m : Nat, h = n ∧ a = m ∧ 2 ≤ n ∧ n ≤ 24 ∧ m < 2*n := by
  have := halfB_iff.1 e
  exact ⟨h.toNat, a.toNat, by omega, by omega, by omega, by omega, by omega⟩
theorem KnownAfter_eq {N : Nat} (hN : 10000 ≤ N) (h a : Int) : impl_KnownAfter.g N h a = some (if halfB h a then (((kn h.toNat a.toNat : Nat) : Int), true) else (0, false)) ∧ spec_KnownAfter.g N h a = some (if halfB h a then (((kn h.toNat a.toNat : Nat) : Int), true) else (0, false)) := by
  unfold impl_KnownAfter.g impl_KnownAfter.o0 spec_KnownAfter.g spec_KnownAfter.o0
  rw [isHalf_eq, stHalf_eq, Option.bind_some, Option.bind_some]
  cases e : halfB h a with
  | false => exact ⟨rfl, rfl⟩
  | true =>
    obtain ⟨n, m, rfl, rfl, h1, h2, hh⟩ := halfB_nat e
    obtain ⟨e1, e2⟩ := known_eq hN h1 h2 hh
    have r := kn_range n m
    rw [Bool.not_true, cond_false, cond_false, e1, Option.bind_some, e2, Option.bind_some, ieqF (by omega)]
    refine ⟨rfl, ?_⟩
    unfold spec_KnownAfter.d1 spec_KnownAfter.o1
    dsimp only
    rw [cond_false, e2]; rfl
/-- the longest so far -/
def LU (h : Nat) : Nat → List Int × Nat
  | 0 => ([], 0)
  | i + 1 => if kn h i > (LU h i).2 then ([(i : Int)], kn h i) else if kn h i = (LU h i).2 then ((LU h i).1 ++ [(i : Int)], (LU h i).2) else LU h i
theorem LU_ok (h : Nat) : ∀ i, (LU h i).1.length ≤ i ∧ (LU h i).2 ≤ 4 ∧ (∀ x, x < i → kn h x ≤ (LU h i).2) ∧ ∀ x, x ∈ (LU h i).1 ↔ ∃ k, k < i ∧ kn h k = (LU h i).2 ∧ x = (k : Int)
  | 0 => ⟨Nat.le_refl _, Nat.zero_le _, fun x hx => by omega, fun x => by simp [LU]⟩
  | i + 1 => by
    obtain ⟨a, b, c, d⟩ := LU_ok h i
    have r := kn_range h i
    simp only [LU]
    split
    · rename_i c1
      refine ⟨by simp, r.2, fun x hx => ?_, fun x => ?_⟩
      · by_cases e : x = i
        · subst e; exact Nat.le_refl _
        · have := c x (by omega); show kn h x ≤ kn h i; omega
      · simp only [List.mem_singleton]
        constructor
        · rintro rfl; exact ⟨i, by omega, rfl, rfl⟩
        · rintro ⟨k, k1, k2, rfl⟩
          by_cases e : k = i
          · subst e; rfl
          · have := c k (by omega); omega
    · split
      · rename_i c1 c2
        refine ⟨by simp; omega, b, fun x hx => ?_, fun x => ?_⟩
        · by_cases e : x = i
          · subst e; show kn h x ≤ _; omega
          · exact c x (by omega)
        · simp only [List.mem_append, List.mem_singleton, d]
          constructor
          · rintro (⟨k, k1, k2, k3⟩ | e)
            · exact ⟨k, by omega, k2, k3⟩
            · exact ⟨i, by omega, c2, e⟩
          · rintro ⟨k, k1, k2, k3⟩
            by_cases e : k = i
            · subst e; exact .inr k3
            · exact .inl ⟨k, by omega, k2, k3⟩
      · rename_i c1 c2
        refine ⟨by omega, b, fun x hx => ?_, fun x => ?_⟩
        · by_cases e : x = i
          · subst e; omega
          · exact c x (by omega)
        · rw [d]
          constructor
          · rintro ⟨k, k1, k2, k3⟩; exact ⟨k, by omega, k2, k3⟩
          · rintro ⟨k, k1, k2, k3⟩
            have e : k ≠ i := by rintro rfl; exact c2 k2
            exact ⟨k, by omega, k2, k3⟩
theorem longI_loop {N : Nat} (hN : 10000 ≤ N) {h : Nat} (h1 : 2 ≤ h) (h2 : h ≤ 24) : ∀ (k i n : Nat), 2*h = i + k → k < n → impl_LongestUnknown.l1 N n h (LU h i).1 ((LU h i).2 : Nat) ((2*h : Nat) : Int) i = some ((LU h (2*h)).1, (((LU h (2*h)).2 : Nat) : Int), true)
  | 0, i, n+1, hi, hn => by
    have e : i = 2*h := by omega
    subst e
    unfold impl_LongestUnknown.l1 impl_LongestUnknown.d1 impl_LongestUnknown.o1
    rw [dcF (by omega)]; rfl
  | k+1, i, n+1, hi, hn => by
    have ih := longI_loop hN h1 h2 k (i+1) n (by omega) (by omega)
    obtain ⟨a, b, -, -⟩ := LU_ok h i
    simp only [LU] at ih
    unfold impl_LongestUnknown.l1 impl_LongestUnknown.d1 impl_LongestUnknown.o1
    rw [dcT (by omega), cond_true, (known_eq hN h1 h2 (show i < 2*h by omega)).1, Option.bind_some]
    unfold impl_LongestUnknown.d2 impl_LongestUnknown.o2
    dsimp only
    rw [w1add (by omega)]
    by_cases c1 : kn h i > (LU h i).2
    · rw [if_pos c1] at ih
      rw [dcT (show ((kn h i : Nat) : Int) > (((LU h i).2 : Nat) : Int) by omega), cond_true, ieqT rfl, cond_true, blT (by simp), cond_true, List.nil_append]
      exact ih
    · rw [if_neg c1] at ih
      rw [dcF (show ¬ ((kn h i : Nat) : Int) > (((LU h i).2 : Nat) : Int) by omega), cond_false]
      by_cases c2 : kn h i = (LU h i).2
      · rw [if_pos c2] at ih
        rw [ieqT (by omega), cond_true, blT (by simp; omega), cond_true]
        exact ih
      · rw [if_neg c2] at ih
        rw [ieqF (by omega), cond_false]
        exact ih
  | _, _, 0, _, hn => by omega
theorem longS_loop {N : Nat} (hN : 10000 ≤ N) {h : Nat} (h1 : 2 ≤ h) (h2 : h ≤ 24) : ∀ (k i n : Nat), 2*h = i + k → k < n → spec_LongestUnknown.l5 N n h (LU h i).1 ((LU h i).2 : Nat) i = some ((LU h (2*h)).1, (((LU h (2*h)).2 : Nat) : Int), true)
  | 0, i, n+1, hi, hn => by
    have e : i = 2*h := by omega
    subst e
    unfold spec_LongestUnknown.l5 spec_LongestUnknown.d5 spec_LongestUnknown.o5
    rw [w2 h2, dcF (by omega)]; rfl
  | k+1, i, n+1, hi, hn => by
    have ih := longS_loop hN h1 h2 k (i+1) n (by omega) (by omega)
    obtain ⟨a, b, -, -⟩ := LU_ok h i
    simp only [LU] at ih
    unfold spec_LongestUnknown.l5 spec_LongestUnknown.d5 spec_LongestUnknown.o5
    rw [w2 h2, dcT (by omega), cond_true, (known_eq hN h1 h2 (show i < 2*h by omega)).2, Option.bind_some]
    unfold spec_LongestUnknown.d2 spec_LongestUnknown.o2 spec_LongestUnknown.d6 spec_LongestUnknown.o6 spec_LongestUnknown.d3 spec_LongestUnknown.o3
    dsimp only
    rw [w1add (by omega)]
    by_cases c1 : kn h i > (LU h i).2
    · rw [if_pos c1] at ih
      rw [dcT (show ((kn h i : Nat) : Int) > (((LU h i).2 : Nat) : Int) by omega), cond_true, ieqT rfl, cond_true, blT (by simp), cond_true, List.nil_append]
      exact ih
    · rw [if_neg c1] at ih
      rw [dcF (show ¬ ((kn h i : Nat) : Int) > (((LU h i).2 : Nat) : Int) by omega), cond_false]
      by_cases c2 : kn h i = (LU h i).2
      · rw [if_pos c2] at ih
        rw [ieqT (by omega), cond_true, blT (by simp; omega), cond_true]
        exact ih
      · rw [if_neg c2] at ih
        rw [ieqF (by omega), cond_false]
        exact ih
  | _, _, 0, _, hn => by omega
def luR (h : Int) : List Int × Int × Bool := if inB h 2 24 then ((LU h.toNat (2*h.toNat)).1, (((LU h.toNat (2*h.toNat)).2 : Nat) : Int), true) else ([], 0, false)
theorem Longest_eq {N : Nat} (hN : 10000 ≤ N) (h : Int) : impl_LongestUnknown.g N h = some (luR h) ∧ spec_LongestUnknown.g N h = some (luR h) := by
  unfold impl_LongestUnknown.g impl_LongestUnknown.o0 spec_LongestUnknown.g spec_LongestUnknown.o0 luR
  rw [isDial_eq, diHours_eq, Option.bind_some, Option.bind_some]
  cases e : inB h 2 24 with
  | false => exact ⟨rfl, rfl⟩
  | true =>
    have e' := inB_iff.1 e
    obtain ⟨h, rfl⟩ := Int.eq_ofNat_of_zero_le (show 0 ≤ h by omega)
    have h1 : 2 ≤ h := by omega
    have h2 : h ≤ 24 := by omega
    rw [Bool.not_true, cond_false, cond_false]
    refine ⟨?_, ?_⟩
    · dsimp only
      rw [w2 h2]
      exact longI_loop hN h1 h2 (2*h) 0 N (by omega) (by omega)
    · obtain ⟨n, rfl⟩ : ∃ n, N = n + 1 := ⟨N - 1, by omega⟩
      dsimp only
      unfold spec_LongestUnknown.l1 spec_LongestUnknown.d1 spec_LongestUnknown.o1
      have ih := longS_loop hN h1 h2 (2*h-1) 1 n (by omega) (by omega)
      have r := kn_range h 0
      have e1 : LU h 1 = ([((0 : Nat) : Int)], kn h 0) := by
        show (if kn h 0 > (LU h 0).2 then _ else _) = _
        rw [if_pos (show kn h 0 > (LU h 0).2 by show kn h 0 > 0; omega)]
      rw [e1] at ih
      rw [w2 h2, dcT (by omega), cond_true, show spec_stKnown.g (n+1) (h : Int) 0 = _ from (known_eq hN h1 h2 (show 0 < 2*h by omega)).2, Option.bind_some, dcT (show ((kn h 0 : Nat) : Int) > 0 by omega), cond_true]
      unfold spec_LongestUnknown.d2 spec_LongestUnknown.o2 spec_LongestUnknown.d3 spec_LongestUnknown.o3
      dsimp only
      rw [ieqT rfl, cond_true, blT (by simp), cond_true, List.nil_append]
      exact ih
end Go.Proofs.Ytpemffldaepbpaa.M

namespace Go.Proofs.Ytpemffldaepbpaa.M
open Go Go.PM Str
set_option linter.unusedVariables false
set_option linter.unusedSimpArgs false
set_option maxRecDepth 100000
theorem and255 (x : Int) : 0 ≤ w64 (andK .u64 x 255) ∧ w64 (andK .u64 x 255) ≤ 255 := by
  have e : (BitVec.ofInt IntKind.u64.bits x &&& BitVec.ofInt IntKind.u64.bits 255).toNat ≤ 255 := by
    rw [BitVec.toNat_and]
    exact Nat.le_trans Nat.and_le_right (by decide)
  unfold andK
  generalize (BitVec.ofInt IntKind.u64.bits x &&& BitVec.ofInt IntKind.u64.bits 255).toNat = n at e
  have e1 : IntKind.wrap .u64 (n : Int) = n := by
    unfold IntKind.wrap
    have : (n : Int) % (2 ^ IntKind.u64.bits : Int) = n := by
      show (n : Int) % (18446744073709551616 : Int) = n
      omega
    rw [this]
    rfl
  rw [e1, w64s (by omega) (by omega)]
  omega
/-- bytes -/
def Bs (code : List Int) : Prop := code.length ≤ 1048576 ∧ ∀ x ∈ code, 0 ≤ x ∧ x ≤ 255
theorem next_tot (N : Nat) {code : List Int} (hc : Bs code) {pos : Int} (h1 : 0 ≤ pos) (h2 : pos ≤ 1000000000) (seed : Int) :
    Tot (spec_l1Cur_next.g N code pos seed) fun r => (0 ≤ r.1 ∧ r.1 ≤ 255) ∧ r.2.1 = code ∧ 0 ≤ r.2.2.1 ∧ r.2.2.1 ≤ pos + 1 := by
  have key : ∀ b, 0 ≤ b → b ≤ 255 → Tot (spec_l1Cur_next.d1 N b code pos seed) fun r => (0 ≤ r.1 ∧ r.1 ≤ 255) ∧ r.2.1 = code ∧ 0 ≤ r.2.2.1 ∧ r.2.2.1 ≤ pos + 1 := by
    intro b hb1 hb2
    unfold spec_l1Cur_next.d1 spec_l1Cur_next.o1
    rw [w64s (n := pos + 1) (by omega) (by omega)]
    refine Tot.bif (fun _ => Tot.now ⟨⟨hb1, hb2⟩, rfl, ?_, ?_⟩) (fun _ => Tot.now ⟨and255 _, rfl, ?_, ?_⟩)
    all_goals (dsimp only; omega)
  unfold spec_l1Cur_next.g spec_l1Cur_next.o0
  dsimp only
  refine Tot.dif (fun hlt => ?_) (fun hlt => key 0 (by omega) (by omega))
  have hl : pos.toNat < code.length := by omega
  rw [dcT h1, cond_true, dcT hlt, cond_true, getAt hl]
  have := hc.2 code[pos.toNat] (List.getElem_mem hl)
  rw [w64s (by omega) (by omega)]
  exact key _ this.1 this.2
theorem pick_tot (N : Nat) {code : List Int} (hc : Bs code) (n : Int) {pos : Int} (h1 : 0 ≤ pos) (h2 : pos ≤ 1000000) (seed : Int) :
    Tot (spec_l1Cur_pick.g N n code pos seed) fun r => (0 ≤ r.1 ∧ (r.1 < n ∨ r.1 = 0)) ∧ r.2.1 = code ∧ 0 ≤ r.2.2.1 ∧ r.2.2.1 ≤ pos + 2 := by
  have key : ∀ x p s, 1 < n → 0 ≤ x → 0 ≤ p → p ≤ pos + 2 → Tot (spec_l1Cur_pick.d1 N n x code p s) fun r => (0 ≤ r.1 ∧ (r.1 < n ∨ r.1 = 0)) ∧ r.2.1 = code ∧ 0 ≤ r.2.2.1 ∧ r.2.2.1 ≤ pos + 2 := by
    intro x p s hn hx hp1 hp2
    unfold spec_l1Cur_pick.d1 spec_l1Cur_pick.o1
    rw [ieqF (by omega), cond_false]
    refine Tot.now ⟨⟨Int.tmod_nonneg _ hx, .inl ?_⟩, rfl, hp1, hp2⟩
    exact Int.tmod_lt_of_pos _ (by omega)
  unfold spec_l1Cur_pick.g spec_l1Cur_pick.o0
  dsimp only
  refine Tot.dif (fun hlt => Tot.now ⟨⟨by dsimp only; omega, .inr rfl⟩, rfl, h1, by dsimp only; omega⟩) (fun hlt => ?_)
  refine Tot.bind (next_tot N hc h1 (by omega) seed) ?_
  rintro ⟨x, c, p, s⟩ ⟨⟨x1, x2⟩, rfl, p1, p2⟩
  dsimp only at x1 x2 p1 p2 ⊢
  refine Tot.dif (fun hgt => ?_) (fun hgt => ?_)
  · refine Tot.bind (next_tot N hc p1 (by omega) s) ?_
    rintro ⟨y, c, q, t⟩ ⟨⟨y1, y2⟩, rfl, q1, q2⟩
    dsimp only at y1 y2 q1 q2 ⊢
    rw [w64s (n := x * 256) (by omega) (by omega), w64s (by omega) (by omega)]
    exact key _ _ _ (by omega) (by omega) q1 (by omega)
  · exact key _ _ _ (by omega) x1 p1 (by omega)
theorem one_tot (N : Nat) {code : List Int} (hc : Bs code) (n : Int) {pos : Int} (h1 : 0 ≤ pos) (h2 : pos ≤ 1000000) (seed : Int) :
    Tot (spec_l1Cur_one.g N n code pos seed) fun r => r.2.1 = code ∧ 0 ≤ r.2.2.1 ∧ r.2.2.1 ≤ pos + 2 := by
  unfold spec_l1Cur_one.g spec_l1Cur_one.o0
  refine Tot.bind (pick_tot N hc n h1 h2 seed) ?_
  rintro ⟨x, c, p, s⟩ ⟨⟨x1, x2⟩, rfl, p1, p2⟩
  exact Tot.now ⟨rfl, p1, p2⟩
theorem among_tot (N : Nat) {code : List Int} (hc : Bs code) (l : List Int) (hl : 0 < l.length) {pos : Int} (h1 : 0 ≤ pos) (h2 : pos ≤ 1000000) (seed : Int) :
    Tot (spec_l1Cur_among.g N l code pos seed) fun r => r.1 ∈ l ∧ r.2.1 = code ∧ 0 ≤ r.2.2.1 ∧ r.2.2.1 ≤ pos + 2 := by
  unfold spec_l1Cur_among.g spec_l1Cur_among.o0
  refine Tot.bind (pick_tot N hc _ h1 h2 seed) ?_
  rintro ⟨x, c, p, s⟩ ⟨⟨x1, x2⟩, rfl, p1, p2⟩
  dsimp only at x1 x2 p1 p2 ⊢
  have hx : x.toNat < l.length := by omega
  rw [dcT x1, cond_true, dcT (by omega), cond_true, getAt hx]
  exact Tot.now ⟨List.getElem_mem hx, rfl, p1, p2⟩
theorem hours_tot (N : Nat) {code : List Int} (hc : Bs code) {pos : Int} (h1 : 0 ≤ pos) (h2 : pos ≤ 1000000) (seed : Int) :
    Tot (spec_l1Cur_hours.g N code pos seed) fun r => (0 ≤ r.1 ∧ r.1 ≤ 25) ∧ r.2.1 = code ∧ 0 ≤ r.2.2.1 ∧ r.2.2.1 ≤ pos + 2 := by
  unfold spec_l1Cur_hours.g spec_l1Cur_hours.o0
  refine Tot.bind (among_tot N hc _ (by decide) h1 h2 seed) ?_
  rintro ⟨x, c, p, s⟩ ⟨x1, rfl, p1, p2⟩
  refine Tot.now ⟨?_, rfl, p1, p2⟩
  have : ∀ y ∈ ([12, 24, 10, 12, 24, 6, 2, 3, 5, 12, 1, 25, 0] : List Int), 0 ≤ y ∧ y ≤ 25 := by decide
  exact this _ x1
theorem half_tot (N : Nat) {code : List Int} (hc : Bs code) {pos : Int} (h1 : 0 ≤ pos) (h2 : pos ≤ 900000) (seed : Int) :
    Tot (spec_l1Cur_half.g N code pos seed) fun r => (0 ≤ r.1 ∧ r.1 ≤ 25) ∧ r.2.2.1 = code ∧ 0 ≤ r.2.2.2.1 ∧ r.2.2.2.1 ≤ pos + 6 := by
  have key : ∀ h b p s, 0 ≤ h → h ≤ 25 → 0 ≤ p → p ≤ pos + 4 → Tot (spec_l1Cur_half.d1 N h b code p s) fun r => (0 ≤ r.1 ∧ r.1 ≤ 25) ∧ r.2.2.1 = code ∧ 0 ≤ r.2.2.2.1 ∧ r.2.2.2.1 ≤ pos + 6 := by
    intro h b p s a1 a2 a3 a4
    unfold spec_l1Cur_half.d1 spec_l1Cur_half.o1
    refine Tot.bif (fun _ => ?_) (fun _ => ?_)
    · refine Tot.bind (among_tot N hc _ (by decide) a3 (by omega) s) ?_
      rintro ⟨x, c, p, s⟩ ⟨x1, rfl, p1, p2⟩
      exact Tot.now ⟨⟨a1, a2⟩, rfl, p1, by dsimp only at p2 ⊢; omega⟩
    · refine Tot.bind (pick_tot N hc _ a3 (by omega) s) ?_
      rintro ⟨x, c, p, s⟩ ⟨x1, rfl, p1, p2⟩
      exact Tot.now ⟨⟨a1, a2⟩, rfl, p1, by dsimp only at p2 ⊢; omega⟩
  unfold spec_l1Cur_half.g spec_l1Cur_half.o0
  refine Tot.bind (hours_tot N hc h1 (by omega) seed) ?_
  rintro ⟨h, c, p, s⟩ ⟨⟨x1, x2⟩, rfl, p1, p2⟩
  dsimp only at x1 x2 p1 p2 ⊢
  rw [diHours_eq, Option.bind_some]
  refine Tot.bif (fun _ => key _ _ _ _ x1 x2 p1 (by omega)) (fun _ => ?_)
  refine Tot.bind (one_tot N hc 14 p1 (by omega) s) ?_
  rintro ⟨b, c, q, t⟩ ⟨rfl, q1, q2⟩
  exact key _ _ _ _ x1 x2 q1 (by dsimp only at q2 ⊢; omega)
theorem drawAt_tot (N : Nat) {code : List Int} (hc : Bs code) : Tot (spec_DrawStrokesAt.g N code) fun _ => True := by
  unfold spec_DrawStrokesAt.g spec_DrawStrokesAt.o0
  exact Tot.bind (half_tot N hc (by omega) (by omega) 0) fun r _ => Tot.now trivial
end Go.Proofs.Ytpemffldaepbpaa.M

namespace Go.Proofs.Ytpemffldaepbpaa.M
open Go Go.PM Str Go.Proofs.Ytpemffldaepbpaa.P
set_option linter.unusedVariables false
set_option linter.unusedSimpArgs false
set_option maxRecDepth 100000
theorem heard_tot {N : Nat} (hN : 10000 ≤ N) {code : List Int} (hc : Bs code) : Tot (spec_l1Cur_heard.g N code 0 0) fun r => r.2.1.length ≤ 100 := by
  unfold spec_l1Cur_heard.g spec_l1Cur_heard.o0
  refine Tot.bind (half_tot N hc (by omega) (by omega) 0) ?_
  rintro ⟨h, a, c, p, s⟩ ⟨⟨x1, x2⟩, rfl, p1, p2⟩
  dsimp only at x1 x2 p1 p2 ⊢
  rw [stHalf_eq, Option.bind_some]
  cases e : halfB h a with
  | false => exact Tot.now (by simp)
  | true =>
    obtain ⟨n, m, rfl, rfl, h1, h2, hh⟩ := halfB_nat e
    rw [Bool.not_true, cond_false]
    refine Tot.bind (pick_tot N hc 5 p1 (by omega) s) ?_
    rintro ⟨x, c', p', s'⟩ ⟨⟨y1, y2⟩, hcc, q1, q2⟩
    dsimp only at y1 y2 hcc q1 q2 ⊢
    subst hcc
    obtain ⟨k, rfl⟩ := Int.eq_ofNat_of_zero_le y1
    have ew : w64 (1 + (k : Int)) = ((k + 1 : Nat) : Int) := by rw [w64s (by omega) (by omega)]; omega
    rw [ew, stFrom_eq h1 h2 (by omega) (by omega) (by omega), Option.bind_some]
    have hlen := hf_len n m (k+1)
    refine Tot.bind (pick_tot N hc 12 q1 (by omega) s') ?_
    rintro ⟨z, c', r, t⟩ ⟨⟨z1, z2⟩, hcc, r1, r2⟩
    dsimp only at z1 z2 hcc r1 r2 ⊢
    subst hcc
    refine Tot.bif (fun _ => ?_) (fun _ => Tot.bif (fun _ => Tot.now (by simp)) (fun _ => Tot.bif (fun _ => ?_) (fun _ => ?_)))
    · rw [blT (by omega), cond_true]
      refine Tot.bind (pick_tot N hc _ r1 (by omega) t) ?_
      rintro ⟨u, c', r', t'⟩ ⟨⟨u1, u2⟩, hcc, s1, s2⟩
      dsimp only at u1 u2 hcc s1 s2 ⊢
      subst hcc
      refine Tot.bind (among_tot N hc _ (by decide) s1 (by omega) t') ?_
      rintro ⟨v, c', r'', t''⟩ ⟨v1, hcc, s3, s4⟩
      dsimp only at v1 hcc s3 s4 ⊢
      subst hcc
      rw [dcT u1, cond_true, dcT (by omega), cond_true, getAt (by omega), show Nat.ble _ _ = true from Nat.ble_eq_true_of_le (by rw [List.length_set]; exact Nat.le_refl _), cond_true]
      unfold spec_l1Cur_heard.d1 spec_l1Cur_heard.o1
      exact Tot.now (by simp; omega)
    · refine Tot.bind (pick_tot N hc _ r1 (by omega) t) ?_
      rintro ⟨u, c', r', t'⟩ ⟨⟨u1, u2⟩, hcc, s1, s2⟩
      dsimp only at u1 u2 hcc s1 s2 ⊢
      obtain ⟨j, rfl⟩ := Int.eq_ofNat_of_zero_le u1
      have ew : w64 (60 + (j : Int)) = ((j + 60 : Nat) : Int) := by rw [w64s (by omega) (by omega)]; omega
      rw [ew, stFrom_eq h1 h2 (by omega) (by omega) (by omega), Option.bind_some]
      exact Tot.now (by dsimp only; rw [hf_len]; omega)
    · unfold spec_l1Cur_heard.d1 spec_l1Cur_heard.o1
      exact Tot.now (by dsimp only; omega)
theorem drawHeard {N : Nat} (hN : 10000 ≤ N) {code : List Int} (hc : Bs code) : ∃ h l, spec_DrawHalvesOfHeard.g N code = some (h, l) ∧ l.length ≤ 100 := by
  unfold spec_DrawHalvesOfHeard.g spec_DrawHalvesOfHeard.o0
  obtain ⟨r, e, hr⟩ := heard_tot hN hc
  rw [e]
  exact ⟨_, _, rfl, hr⟩
theorem drawTurn (N : Nat) {code : List Int} (hc : Bs code) : ∃ h, spec_DrawLongestUnknown.g N code = some h := by
  unfold spec_DrawLongestUnknown.g spec_DrawLongestUnknown.o0 spec_DrawStrokesOfTurn.g spec_DrawStrokesOfTurn.o0
  obtain ⟨r, e, hr⟩ := hours_tot N hc (pos := 0) (by omega) (by omega) 0
  rw [e]
  exact ⟨_, rfl⟩
theorem drawKnown (N : Nat) {code : List Int} (hc : Bs code) : ∃ h a, spec_DrawKnownAfter.g N code = some (h, a) := by
  unfold spec_DrawKnownAfter.g spec_DrawKnownAfter.o0
  obtain ⟨r, e, hr⟩ := drawAt_tot N hc
  rw [e]
  exact ⟨_, _, rfl⟩
theorem beqs (b : Bool) : (b == b) = true := by cases b <;> rfl
theorem nbeqs (b : Bool) : (!(b == b)) = false := by cases b <;> rfl
/-! ### the law's last part -/
theorem l12_true {N : Nat} (hN : 10000 ≤ N) {h : Nat} (h1 : 2 ≤ h) (h2 : h ≤ 24) : ∀ (k i n : Nat), 2*h = i + k → k < n → laws_FnStrokesHeard.l12 N n h (LU h (2*h)).1 ((LU h (2*h)).2 : Nat) i = some true
  | 0, i, n+1, hi, hn => by
    unfold laws_FnStrokesHeard.l12 laws_FnStrokesHeard.d12 laws_FnStrokesHeard.o12
    rw [w2 h2, dcF (by omega)]; rfl
  | k+1, i, n+1, hi, hn => by
    obtain ⟨a, b, c, d⟩ := LU_ok h (2*h)
    have c' := c i (by omega)
    unfold laws_FnStrokesHeard.l12 laws_FnStrokesHeard.d12 laws_FnStrokesHeard.o12
    have hb : halfB (h : Int) (i : Int) = true := halfB_iff.2 (by omega)
    rw [w2 h2, dcT (by omega), cond_true, (KnownAfter_eq hN _ _).1, hb, if_pos rfl, Option.bind_some]
    dsimp only
    rw [Bool.not_true, cond_false, Int.toNat_natCast, Int.toNat_natCast, dcF (by omega), cond_false, kHas_eq _ _ (by omega) (by omega), Option.bind_some]
    have e : (((kn h i : Nat) : Int) == (((LU h (2*h)).2 : Nat) : Int)) = decide (((i : Nat) : Int) ∈ (LU h (2*h)).1) := by
      rw [Bool.eq_iff_iff, beq_iff_eq, decide_eq_true_eq, d]
      constructor
      · intro e; exact ⟨i, by omega, by omega, rfl⟩
      · rintro ⟨k', k1, k2, k3⟩
        have : k' = i := by omega
        subst this; omega
    rw [e, nbeqs]
    unfold laws_FnStrokesHeard.d14 laws_FnStrokesHeard.o14
    dsimp only
    rw [cond_false, w1add (by omega)]
    exact l12_true hN h1 h2 k (i+1) n (by omega) (by omega)
  | _, _, 0, _, hn => by omega
theorem d9_true {N : Nat} (hN : 10000 ≤ N) (h : Int) : laws_FnStrokesHeard.d9 N h (luR h).1 (luR h).2.1 (luR h).2.2 = some true := by
  unfold laws_FnStrokesHeard.d9 laws_FnStrokesHeard.o9 luR
  cases e : inB h 2 24 with
  | false => rfl
  | true =>
    have e' := inB_iff.1 e
    obtain ⟨h, rfl⟩ := Int.eq_ofNat_of_zero_le (show 0 ≤ h by omega)
    exact l12_true hN (by omega) (by omega) (2*h) 0 N (by omega) (by omega)
theorem hf_hlB {h half n : Nat} (h1 : 2 ≤ h) (h2 : h ≤ 24) (n1 : 1 ≤ n) (n2 : n ≤ 60) : hlB (h : Int) (hf h half n) = true := by
  refine hlB_iff.2 ⟨by omega, by rw [hf_len]; omega, fun x hx => ?_⟩
  obtain ⟨i, hi, rfl⟩ := List.mem_iff_getElem.1 hx
  rw [hf_len] at hi
  have g := hf_get h half n i hi
  rw [List.getElem?_eq_getElem (by rw [hf_len]; exact hi)] at g
  rw [Option.some.inj g]
  have := st_pos h1 (half + i)
  have := st_le h1 (half + i)
  omega
theorem hf_take (h half : Nat) : ∀ {k n : Nat}, k ≤ n → (hf h half n).take k = hf h half k
  | k, 0, hk => by have : k = 0 := by omega
                   subst this; rfl
  | k, n+1, hk => by
    by_cases e : k = n + 1
    · subst e; exact List.take_of_length_le (by rw [hf_len]; exact Nat.le_refl _)
    · simp only [hf]
      rw [List.take_append_of_le_length (by rw [hf_len]; omega)]
      exact hf_take h half (by omega)
theorem d3_true {N : Nat} (hN : 10000 ≤ N) {code : List Int} (hc : Bs code) : laws_FnStrokesHeard.d3 N code = some true := by
  obtain ⟨h, a, e1⟩ := drawKnown N hc
  obtain ⟨g, e2⟩ := drawTurn N hc
  unfold laws_FnStrokesHeard.d3 laws_FnStrokesHeard.o3
  rw [e1, Option.bind_some]
  dsimp only
  rw [(KnownAfter_eq hN h a).1, Option.bind_some, (KnownAfter_eq hN h a).2, Option.bind_some, e2, Option.bind_some, (Longest_eq hN g).1, Option.bind_some, (Longest_eq hN g).2, Option.bind_some, nbeqs, cond_false, ineF rfl, cond_false, nbeqs, cond_false]
  have hlu : (luR g).1.length ≤ 1000 := by
    unfold luR
    cases e : inB g 2 24 with
    | false => simp
    | true =>
      have e' := inB_iff.1 e
      have := (LU_ok g.toNat (2*g.toNat)).1
      show (LU g.toNat (2*g.toNat)).1.length ≤ 1000
      omega
  rw [kSame_eq _ _ (by omega) (by omega), Option.bind_some, dcT rfl, Bool.not_true, cond_false, ineF rfl]
  unfold laws_FnStrokesHeard.d5 laws_FnStrokesHeard.o5
  dsimp only
  rw [cond_false]
  cases e : halfB h a with
  | false => exact d9_true hN g
  | true =>
    obtain ⟨n, m, rfl, rfl, h1, h2, hh⟩ := halfB_nat e
    rw [if_pos rfl]
    dsimp only
    rw [cond_true, Int.toNat_natCast, Int.toNat_natCast]
    have r := kn_range n m
    have hB : heardB (n : Int) (m : Int) ((kn n m : Nat) : Int) = true := by
      unfold heardB; rw [e, Bool.true_and]; exact inB_iff.2 (by omega)
    rw [HeardFrom_eq hN, hB, if_pos rfl, Option.bind_some]
    dsimp only
    rw [Int.toNat_natCast, Int.toNat_natCast, Int.toNat_natCast, HalvesOfHeard_eq _ _ hN, hf_hlB h1 h2 r.1 (by omega), if_pos rfl, Option.bind_some]
    dsimp only
    have c := kn_one h1 h2 hh
    have c : (hvs (hrd n (hf n m (kn n m))) (2*n)).length = 1 := c
    have own : hvs (hrd n (hf n m (kn n m))) (2*n) = [(m : Int)] := one_is c (own_mem hh)
    rw [Bool.not_true, cond_false, cond_false, Int.toNat_natCast, own, ineF (by rfl), cond_false, dcT (by simp), cond_true, Int.toNat_zero, getAt (by simp), List.getElem_cons_zero, ineF rfl]
    unfold laws_FnStrokesHeard.d8 laws_FnStrokesHeard.o8
    dsimp only
    rw [cond_false]
    by_cases k1 : kn n m > 1
    · have ew : w64 (((kn n m : Nat) : Int) - 1) = ((kn n m - 1 : Nat) : Int) := by rw [w64s (by omega) (by omega)]; omega
      rw [dcT (by omega), cond_true, ew, dcT (by omega), cond_true, dcT (by rw [hf_len]; omega), cond_true, cond_true, Int.toNat_natCast, Int.toNat_zero, List.drop_zero, hf_take n m (by omega), HalvesOfHeard_eq _ _ hN, hf_hlB h1 h2 (by omega) (by omega), if_pos rfl, Option.bind_some]
      dsimp only
      have c := kn_least (h := n) (half := m) (n := kn n m - 1) (by omega) (by omega)
      have p := kc_pos (n := kn n m - 1) hh
      have c : (hvs (hrd n (hf n m (kn n m - 1))) (2*n)).length ≠ 1 := c
      have p : 1 ≤ (hvs (hrd n (hf n m (kn n m - 1))) (2*n)).length := p
      rw [Bool.not_true, cond_false, Int.toNat_natCast, dcF (by omega)]
      unfold laws_FnStrokesHeard.d11 laws_FnStrokesHeard.o11
      dsimp only
      rw [cond_false]
      exact d9_true hN g
    · rw [dcF (by omega), cond_false]
      exact d9_true hN g
end Go.Proofs.Ytpemffldaepbpaa.M

namespace Go.Proofs.Ytpemffldaepbpaa.M
open Go Go.PM Str Go.Proofs.Ytpemffldaepbpaa.P
set_option linter.unusedVariables false
set_option linter.unusedSimpArgs false
set_option maxRecDepth 100000
/-! ### sums -/
def ss (f : Int → Nat) : List Int → Nat
  | [] => 0
  | x :: l => f x + ss f l
theorem ss_add (f g : Int → Nat) : ∀ l, ss (fun x => f x + g x) l = ss f l + ss g l
  | [] => rfl
  | x :: l => by simp only [ss, ss_add f g l]; omega
theorem ss_app (f : Int → Nat) (x : Int) : ∀ l, ss f (l ++ [x]) = ss f l + f x
  | [] => by simp [ss]
  | y :: l => by simp only [List.cons_append, ss, ss_app f x l]; omega
theorem ss_zero {f : Int → Nat} : ∀ {l : List Int}, (∀ x ∈ l, f x = 0) → ss f l = 0
  | [], _ => rfl
  | x :: l, h => by simp only [ss]; rw [h x (by simp), ss_zero fun y hy => h y (List.mem_cons_of_mem _ hy)]
theorem ss_one {v : Int} : ∀ {l : List Int}, Inc l → v ∈ l → ss (fun x => bif decide (v = x) then 1 else 0) l = 1
  | x :: l, hi, hm => by
    have hi' := List.pairwise_cons.1 hi
    simp only [ss]
    by_cases e : v = x
    · subst e
      rw [dcT rfl, cond_true, ss_zero fun y hy => ?_]
      have := hi'.1 y hy
      rw [dcF (by omega)]; rfl
    · rw [dcF e, cond_false, ss_one hi'.2 ((List.mem_cons.1 hm).resolve_left e)]
theorem hrd_app {h : Nat} {l : List Int} {n : Int} (x : Nat) : hrd h (l ++ [n]) x = (hrd h l x && decide (((st h (x + l.length) : Nat) : Int) = n)) := by
  unfold hrd
  rw [Bool.eq_iff_iff, Bool.and_eq_true, decide_eq_true_eq, decide_eq_true_eq, decide_eq_true_eq, List.length_append, List.length_singleton]
  simp only [hf]
  constructor
  · intro e
    obtain ⟨a, b⟩ := List.append_inj e (by rw [hf_len])
    exact ⟨a, (List.cons.inj b).1⟩
  · rintro ⟨a, b⟩; rw [a, b]
theorem ss_cnt {h : Nat} {l nx : List Int} (hi : Inc nx) (hm : ∀ x, x ∈ nx ↔ ∃ k, k < 2*h ∧ hrd h l k = true ∧ x = ((st h (k + l.length) : Nat) : Int)) : ∀ n, n ≤ 2*h → ss (fun x => cnt (hrd h (l ++ [x])) n) nx = cnt (hrd h l) n
  | 0, _ => ss_zero fun _ _ => rfl
  | n+1, hn => by
    simp only [cnt]
    rw [ss_add, ss_cnt hi hm n (by omega)]
    congr 1
    cases hp : hrd h l n with
    | false =>
      refine ss_zero fun x hx => ?_
      rw [hrd_app, hp]; rfl
    | true =>
      have := ss_one hi ((hm ((st h (n + l.length) : Nat) : Int)).2 ⟨n, by omega, hp, rfl⟩)
      rw [cond_true]
      refine Eq.trans ?_ this
      congr 1
      funext x
      rw [hrd_app, hp, Bool.true_and]
theorem l13_eq {N : Nat} (c7 : (List Int) → Int → (List Int) → (List Int) → Int → (List Int) → Int → Int → Option laws_FnStrokesHeard.R) (v0 : List Int) (v1 : Int) (v2 v3 : List Int) (v4 : Int) (v5 v6 : List Int) (v7 v8 : Int) (hs : ∀ x ∈ v5, x ∈ v3) (h3 : v3.length ≤ 1000) (h5 : v5.length ≤ 1000) (hN : 10000 ≤ N) : ∀ (k i n : Nat), v5.length = i + k → k < n → laws_FnStrokesHeard.l13 N n v0 v1 v2 v3 v4 v5 v6 v7 v8 v5 (v5.length : Int) i c7 = c7 v0 v1 v2 v3 (w64 (v4 + (v5.length : Int))) v6 v7 (w64 (v8 + 1))
  | 0, i, n+1, hi, hn => by
    unfold laws_FnStrokesHeard.l13 laws_FnStrokesHeard.d13 laws_FnStrokesHeard.o13
    rw [dcF (by omega), cond_false]
  | k+1, i, n+1, hi, hn => by
    unfold laws_FnStrokesHeard.l13 laws_FnStrokesHeard.d13 laws_FnStrokesHeard.o13
    rw [dcT (by omega), dcT (by omega), cond_true, cond_true, cond_true, Int.toNat_natCast, getAt (by omega), kHas_eq _ _ (by omega) (by omega), Option.bind_some, dcT (hs _ (List.getElem_mem (by omega))), Bool.not_true, cond_false, w1add (by omega)]
    exact l13_eq c7 v0 v1 v2 v3 v4 v5 v6 v7 v8 hs h3 h5 hN k (i+1) n (by omega) (by omega)
  | _, _, 0, _, hn => by omega
theorem hrd_lt {h : Nat} (h2 : h ≤ 24) (l : List Int) : (hvs (hrd h l) (2*h)).length ≤ 48 := by
  have := hvs_len_le (hrd h l) (2*h); omega
theorem l7_eq {N : Nat} (hN : 10000 ≤ N) {code : List Int} (hc : Bs code) {h : Nat} {l nx : List Int} (hl : hlB (h : Int) l = true) (hl6 : l.length < 60) (hi : Inc nx) (hnl : nx.length ≤ 1000) (hm : ∀ x, x ∈ nx ↔ ∃ k, k < 2*h ∧ hrd h l k = true ∧ x = ((st h (k + l.length) : Nat) : Int)) :
    ∀ (k i n : Nat), nx.length = i + k → k < n → (ss (fun x => cnt (hrd h (l ++ [x])) (2*h)) (nx.take i)) ≤ 48 * i → laws_FnStrokesHeard.l7 N n code h l (hvs (hrd h l) (2*h)) ((ss (fun x => cnt (hrd h (l ++ [x])) (2*h)) (nx.take i) : Nat) : Int) nx (nx.length : Int) i = some true
  | 0, i, n+1, hik, hn, hb => by
    unfold laws_FnStrokesHeard.l7 laws_FnStrokesHeard.d7 laws_FnStrokesHeard.o7
    rw [dcF (by omega), cond_false, List.take_of_length_le (by omega), ss_cnt hi hm (2*h) (Nat.le_refl _), ineF (by rw [hvs_len]), cond_false]
    exact d3_true hN hc
  | k+1, i, n+1, hik, hn, hb => by
    have e' := hlB_iff.1 hl
    have h1 : 2 ≤ h := by omega
    have h2 : h ≤ 24 := by omega
    have hx := (hm nx[i]).1 (List.getElem_mem (by omega))
    obtain ⟨q, q1, q2, q3⟩ := hx
    have hl2 : hlB (h : Int) (l ++ [nx[i]]) = true := by
      refine hlB_iff.2 ⟨e'.1, by simp; omega, fun x hx => ?_⟩
      rcases List.mem_append.1 hx with hx | hx
      · exact e'.2.2 x hx
      · rw [List.mem_singleton.1 hx, q3]
        have := st_pos h1 (q + l.length)
        have := st_le h1 (q + l.length)
        omega
    have hp : 1 ≤ (hvs (hrd h (l ++ [nx[i]])) (2*h)).length := by
      refine List.length_pos_of_mem (a := (q : Int)) ((hvs_mem _ _ _).2 ⟨q, q1, ?_, rfl⟩)
      rw [hrd_app, q2, q3, dcT rfl]; rfl
    have hle := hrd_lt h2 (l ++ [nx[i]])
    unfold laws_FnStrokesHeard.l7 laws_FnStrokesHeard.d7 laws_FnStrokesHeard.o7
    rw [dcT (by omega), dcT (by omega), cond_true, cond_true, cond_true, Int.toNat_natCast, getAt (by omega), blT (by simp; omega), cond_true, blT (by simp; omega), cond_true, List.nil_append, HalvesOfHeard_eq _ _ hN, hl2, if_pos rfl, Option.bind_some]
    dsimp only
    rw [Bool.not_true, cond_false, Int.toNat_natCast, dcF (by omega)]
    unfold laws_FnStrokesHeard.d10 laws_FnStrokesHeard.o10
    dsimp only
    rw [cond_false]
    have hsub : ∀ x ∈ hvs (hrd h (l ++ [nx[i]])) (2*h), x ∈ hvs (hrd h l) (2*h) := by
      intro x hx
      obtain ⟨k', a, b, c⟩ := (hvs_mem _ _ _).1 hx
      rw [hrd_app, Bool.and_eq_true] at b
      exact (hvs_mem _ _ _).2 ⟨k', a, b.1, c⟩
    have := hrd_lt h2 l
    refine (l13_eq _ _ _ _ _ _ _ _ _ _ hsub (by omega) (by omega) hN _ 0 N (Nat.zero_add _).symm (by omega)).trans ?_
    have ih := l7_eq hN hc hl hl6 hi hnl hm k (i+1) n (by omega) (by omega)
    rw [List.take_succ_eq_append_getElem (show i < nx.length by omega), ss_app] at ih
    rw [hvs_len] at hle ⊢
    rw [w2add (by omega), w1add (by omega)]
    exact ih (by omega)
  | _, _, 0, _, hn, _ => by omega
theorem l4_eq {N : Nat} (hN : 10000 ≤ N) {code : List Int} (hc : Bs code) {h : Nat} {l nx : List Int} (hl : hlB (h : Int) l = true) (hi : Inc nx) (hnl : nx.length ≤ 1000) (hm : ∀ x, x ∈ nx ↔ ∃ k, k < 2*h ∧ hrd h l k = true ∧ x = ((st h (k + l.length) : Nat) : Int)) :
    ∀ (k i n : Nat), 2*h = i + k → k < n → laws_FnStrokesHeard.l4 N n code h l (hvs (hrd h l) (2*h)) nx i = some true
  | 0, i, n+1, hik, hn => by
    have e' := hlB_iff.1 hl
    have h2 : h ≤ 24 := by omega
    unfold laws_FnStrokesHeard.l4 laws_FnStrokesHeard.d4 laws_FnStrokesHeard.o4
    rw [w2 h2, dcF (by omega), cond_false]
    by_cases c : (l.length : Int) < 60
    · rw [dcT c, cond_true]
      exact l7_eq hN hc hl (by omega) hi hnl hm nx.length 0 N (by omega) (by omega) (by simp [ss])
    · rw [dcF c, cond_false]
      exact d3_true hN hc
  | k+1, i, n+1, hik, hn => by
    have e' := hlB_iff.1 hl
    have h1 : 2 ≤ h := by omega
    have h2 : h ≤ 24 := by omega
    have hle := hrd_lt h2 l
    have hB : heardB (h : Int) (i : Int) (l.length : Int) = true := by
      unfold heardB
      rw [Bool.and_eq_true]
      exact ⟨halfB_iff.2 (by omega), inB_iff.2 e'.2.1⟩
    unfold laws_FnStrokesHeard.l4 laws_FnStrokesHeard.d4 laws_FnStrokesHeard.o4
    rw [w2 h2, dcT (by omega), cond_true, HeardFrom_eq hN, hB, if_pos rfl, Option.bind_some]
    dsimp only
    rw [Bool.not_true, cond_false, Int.toNat_natCast, Int.toNat_natCast, Int.toNat_natCast, kHas_eq _ _ (by omega) (by omega), Option.bind_some, kSame_eq _ _ (by rw [hf_len]; omega) (by rw [hf_len]; omega), Option.bind_some]
    have e : decide (((i : Nat) : Int) ∈ hvs (hrd h l) (2*h)) = decide (hf h i l.length = l) := by
      rw [decide_eq_decide, hvs_mem]
      constructor
      · rintro ⟨k', a, b, c⟩
        have : k' = i := by omega
        subst this
        exact of_decide_eq_true b
      · intro b; exact ⟨i, by omega, dcT b, rfl⟩
    rw [e, nbeqs]
    unfold laws_FnStrokesHeard.d6 laws_FnStrokesHeard.o6
    dsimp only
    rw [cond_false, w1add (by omega)]
    exact l4_eq hN hc hl hi hnl hm k (i+1) n (by omega) (by omega)
  | _, _, 0, _, hn => by omega
theorem big_eq (N : Nat) (a b : List Int) (ha : a.length < 4000000000000000000) : ∃ r, laws_big.g N a b = some r ∧ (r = false → a.length ≤ 1048576 ∧ b.length ≤ 1048576) := by
  unfold laws_big.g laws_big.o0
  by_cases h : (a.length : Int) > 1048576
  · rw [dcT h]; exact ⟨true, rfl, fun h => by cases h⟩
  · rw [dcF h, cond_false, w64s (by omega) (by omega)]
    refine ⟨_, rfl, fun h2 => ?_⟩
    have := of_decide_eq_false h2
    exact ⟨by omega, by omega⟩
theorem bs_of {y : List Int} (h : ∀ x ∈ y, (Lit.int .u8 x).wf = true) (hl : y.length ≤ 1048576) : Bs y := by
  refine ⟨hl, fun x hx => ?_⟩
  have := h x hx
  simp [Lit.wf, IntKind.min, IntKind.max, IntKind.signed, IntKind.bits] at this
  omega
theorem FnStrokesHeard.pure : FnStrokesHeard.Pure := by
  intro a M ha hM
  refine ⟨100000, ?_⟩
  have hN : 10000 ≤ 100000 := by omega
  generalize 100000 = N at hN
  unfold laws_FnStrokesHeard.g laws_FnStrokesHeard.o0
  obtain ⟨rb, eb, hb⟩ := big_eq N a M (by have := ha.2.1; omega)
  rw [eb, Option.bind_some]
  cases rb with
  | true => rfl
  | false =>
    have ha' : Bs a := bs_of ha.2.2 (hb rfl).1
    have hc : Bs M := bs_of hM.2.2 (hb rfl).2
    obtain ⟨h, l, e1, hl1⟩ := drawHeard hN ha'
    rw [cond_false, e1, Option.bind_some]
    dsimp only
    obtain ⟨nx, n1, n2, n3, n4⟩ := NextHeard_both hN h l
    rw [HalvesOfHeard_eq _ _ hN, Option.bind_some, spec_HalvesOfHeard_eq _ _ hN, Option.bind_some, IsHeard_eq _ _ hN, Option.bind_some, spec_IsHeard_eq _ _ hN, Option.bind_some, n1, Option.bind_some, n2, Option.bind_some]
    cases e : hlB h l with
    | false =>
      rw [if_neg (by simp), if_neg (by simp)]
      dsimp only
      rw [nbeqs, cond_false, kSame_eq _ _ (by simp) (by simp; omega), Option.bind_some, dcT rfl, Bool.not_true, cond_false, cond_false, cond_false, cond_false, kSame_eq _ _ (by omega) (by omega), Option.bind_some, dcT rfl, Bool.not_true, cond_false, cond_false]
      exact d3_true hN hc
    | true =>
      have e' := hlB_iff.1 e
      obtain ⟨h, rfl⟩ := Int.eq_ofNat_of_zero_le (show 0 ≤ h by omega)
      have hle := hrd_lt (show h ≤ 24 by omega) l
      obtain ⟨hi, hm⟩ := n4 e
      rw [Int.toNat_natCast] at hm
      rw [if_pos rfl, if_pos rfl]
      dsimp only
      rw [Int.toNat_natCast, nbeqs, cond_false, kSame_eq _ _ (by omega) (by omega), Option.bind_some, dcT rfl, Bool.not_true, cond_false, nbeqs, cond_false, cond_false, cond_false, kSame_eq _ _ (by omega) (by omega), Option.bind_some, dcT rfl, Bool.not_true, cond_false, cond_false]
      unfold laws_FnStrokesHeard.d1 laws_FnStrokesHeard.o1
      dsimp only
      rw [cond_false, cond_true, nbeqs, cond_false]
      have en : decide (((hvs (hrd h l) (2*h)).length : Int) > 0) = decide ((nx.length : Int) > 0) := by
        rw [decide_eq_decide]
        constructor
        · intro hp
          obtain ⟨x, hx⟩ := List.exists_mem_of_length_pos (show 0 < (hvs (hrd h l) (2*h)).length by omega)
          obtain ⟨k, a, b, c⟩ := (hvs_mem _ _ _).1 hx
          have := List.length_pos_of_mem ((hm _).2 ⟨k, a, b, rfl⟩)
          omega
        · intro hp
          obtain ⟨x, hx⟩ := List.exists_mem_of_length_pos (show 0 < nx.length by omega)
          obtain ⟨k, a, b, c⟩ := (hm _).1 hx
          have := List.length_pos_of_mem ((hvs_mem (hrd h l) (k : Int) (2*h)).2 ⟨k, a, b, rfl⟩)
          omega
      rw [en, nbeqs]
      unfold laws_FnStrokesHeard.d2 laws_FnStrokesHeard.o2
      dsimp only
      rw [cond_false]
      exact l4_eq hN hc e hi n3 hm (2*h) 0 N (by omega) (by omega)
end Go.Proofs.Ytpemffldaepbpaa.M
