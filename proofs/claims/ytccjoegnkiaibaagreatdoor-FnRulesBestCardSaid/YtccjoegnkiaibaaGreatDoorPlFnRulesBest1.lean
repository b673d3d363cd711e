/- Plain lemmas about what the functions compute (part 1). No conditions but those stated. -/
import Derived.Test.YtccjoegnkiaibaaGreatDoorFnFnRulesBest4
namespace Go.Proofs.YtccjoegnkiaibaaGreatDoor.M
open Go Go.PM Go.Proofs.YtccjoegnkiaibaaGreatDoor.P
set_option linter.unusedVariables false
set_option linter.unusedSimpArgs false
def inB (a lo hi : Int) : Bool := decide (lo ≤ a) && decide (a ≤ hi)
theorem inB_iff {a lo hi : Int} : inB a lo hi = true ↔ lo ≤ a ∧ a ≤ hi := by simp [inB]
theorem inB_not {a lo hi : Int} : inB a lo hi = false ↔ ¬ (lo ≤ a ∧ a ≤ hi) := by rw [← inB_iff]; simp
theorem within_eq (N : Nat) (a b c : Int) : zq46.g N a b c = some (inB a b c) := by
  unfold zq46.g zq46.o0 inB
  by_cases h : b ≤ a
  · rw [dcT (show a ≥ b from h)]; rfl
  · rw [dcF (show ¬ a ≥ b from h)]; rfl
theorem l1In_eq (N : Nat) (a b c : Int) : zq110.g N a b c = some (inB a b c) := by
  unfold zq110.g zq110.o0 inB
  by_cases h : b ≤ a
  · rw [dcT (show a ≥ b from h)]; rfl
  · rw [dcF (show ¬ a ≥ b from h)]; rfl
theorem isDial_eq (N : Nat) (a : Int) : zq36.g N a = some (inB a 2 24) := by
  unfold zq36.g zq36.o0; rw [within_eq]; rfl
theorem diHours_eq (N : Nat) (a : Int) : zq91.g N a = some (inB a 2 24) := by
  unfold zq91.g zq91.o0; rw [l1In_eq]; rfl
theorem tmodN (a b : Nat) : Int.tmod (a : Int) (b : Int) = ((a % b : Nat) : Int) := (Int.ofNat_tmod a b).symm
theorem tdivN (a b : Nat) : Int.tdiv (a : Int) (b : Int) = ((a / b : Nat) : Int) := (Int.ofNat_tdiv a b).symm
theorem w1add {a : Nat} (h : a < 9000000000000000000) : w64 ((a : Int) + 1) = ((a + 1 : Nat) : Int) := by rw [w64s (by omega) (by omega)]; omega
def bsOf (l : List UInt8) : ByteArray := ⟨l.toArray⟩
theorem bsOf_list (l : List UInt8) : (bsOf l).data.toList = l := by simp [bsOf]
theorem bs_ext {a b : ByteArray} (h : a.data.toList = b.data.toList) : a = b := by
  cases a; cases b
  congr
  exact Array.toList_inj.1 h
theorem bsOf_size (l : List UInt8) : (bsOf l).size = l.length := by simp [bsOf, ByteArray.size]
theorem extract_list (s : ByteArray) (a b : Nat) : (s.extract a b).data.toList = (s.data.toList.take b).drop a := by
  simp [ByteArray.data_extract, List.drop_take]
theorem bt_at (s : ByteArray) (i : Nat) (h : i < s.data.toList.length) : bt s i = (s.data.toList[i].toNat : Int) := by
  have hs : i < s.size := by rw [Array.length_toList] at h; exact h
  unfold bt
  rw [dif_pos (by simpa using hs)]
  simp only [Int.toNat_natCast]
  rfl
theorem bsOf_append (a b : List UInt8) : bsOf a ++ bsOf b = bsOf (a ++ b) := by
  apply bs_ext
  rw [bsOf_list, ByteArray.data_append, Array.toList_append]
  rfl
end Go.Proofs.YtccjoegnkiaibaaGreatDoor.M
namespace Go.Proofs.YtccjoegnkiaibaaGreatDoor.M
open Go Go.PM
set_option linter.unusedVariables false
set_option linter.unusedSimpArgs false
/-! ### parts of a turn in lowest terms -/
def pr (n d : Nat) : Nat × Nat := (n % d / Nat.gcd (n % d) d, d / Nat.gcd (n % d) d)
theorem pr_scale {k n d : Nat} (hk : 0 < k) : pr (k * n) (k * d) = pr n d := by
  unfold pr
  rw [Nat.mul_mod_mul_left, Nat.gcd_mul_left, Nat.mul_div_mul_left _ _ hk, Nat.mul_div_mul_left _ _ hk]
theorem pr_add (n k d : Nat) : pr (n + k * d) d = pr n d := by
  unfold pr; rw [Nat.add_mul_mod_self_right]
theorem pr_mod (n d : Nat) : pr (n % d) d = pr n d := by
  unfold pr; rw [Nat.mod_mod]
theorem pr_eq {n d n' d' : Nat} (j k : Nat) (hd : 0 < d) (hd' : 0 < d') (h : n * d' + j * (d * d') = n' * d + k * (d * d')) : pr n d = pr n' d' := by
  have h1 : pr n d = pr (d' * n) (d' * d) := (pr_scale hd').symm
  have h2 : pr n' d' = pr (d * n') (d * d') := (pr_scale hd).symm
  rw [h1, h2, Nat.mul_comm d' d, ← pr_add (d' * n) j (d * d'), ← pr_add (d * n') k (d * d'), Nat.mul_comm d' n, Nat.mul_comm d n', h]
theorem pr_eq0 {n d n' d' : Nat} (hd : 0 < d) (hd' : 0 < d') (h : n * d' = n' * d) : pr n d = pr n' d' := pr_eq 0 0 hd hd' (by omega)
theorem pr_low {n d : Nat} (h : n < d) (hg : Nat.gcd n d = 1) : pr n d = (n, d) := by
  unfold pr; rw [Nat.mod_eq_of_lt h, hg, Nat.div_one, Nat.div_one]
theorem pr_spec {n d : Nat} (hd : 0 < d) : (pr n d).1 < (pr n d).2 ∧ (pr n d).2 ≤ d ∧ Nat.gcd (pr n d).1 (pr n d).2 = 1 ∧ (pr n d).1 * d = n % d * (pr n d).2 := by
  have hlt : n % d < d := Nat.mod_lt _ hd
  unfold pr
  generalize n % d = a at *
  have hg : 0 < Nat.gcd a d := Nat.gcd_pos_of_pos_right _ hd
  have hc := Nat.coprime_div_gcd_div_gcd hg
  obtain ⟨x, hx⟩ := Nat.gcd_dvd_left a d
  obtain ⟨y, hy⟩ := Nat.gcd_dvd_right a d
  have ex : a / Nat.gcd a d = x := Nat.div_eq_of_eq_mul_right hg hx
  have ey : d / Nat.gcd a d = y := Nat.div_eq_of_eq_mul_right hg hy
  have hle : d / Nat.gcd a d ≤ d := Nat.div_le_self _ _
  refine ⟨?_, hle, hc, ?_⟩
  · rw [ex, ey]
    refine Nat.lt_of_mul_lt_mul_left (a := Nat.gcd a d) ?_
    rw [← hx, ← hy]; exact hlt
  · show a / Nat.gcd a d * d = a * (d / Nat.gcd a d)
    rw [ex, ey]
    generalize Nat.gcd a d = g at *
    subst hx hy
    simp only [Nat.mul_assoc, Nat.mul_comm, Nat.mul_left_comm]
theorem pr_lt {n d : Nat} (hd : 0 < d) (h : n < d) : (pr n d).1 * d = n * (pr n d).2 := by
  have := (pr_spec (n := n) hd).2.2.2
  rw [Nat.mod_eq_of_lt h] at this
  exact this
theorem pr_pos {n d : Nat} (hd : 0 < d) : 0 < (pr n d).2 := Nat.lt_of_le_of_lt (Nat.zero_le _) (pr_spec (n := n) hd).1
/-- what is in lowest terms and has the same value -/
theorem pr_is {n d p q : Nat} (hd : 0 < d) (hq : p < q) (hg : Nat.gcd p q = 1) (h : n * q = p * d) : pr n d = (p, q) :=
  (pr_eq0 hd (by omega) h).trans (pr_low hq hg)
/-! ### floors -/
theorem div_mul_self' {n k d : Nat} (hk : 0 < k) : (n * k) / (d * k) = n / d := Nat.mul_div_mul_right _ _ hk
/-! ### hours, minutes and seconds of a time; M: minutes times d -/
theorem sec_eq {M d : Nat} (hd : 0 < d) : (pr M d).1 * 60 / (pr M d).2 = 60 * (M % d) / d := by
  have h := (pr_spec (n := M) hd).2.2.2
  have hy := pr_pos (n := M) hd
  rw [← div_mul_self' (n := (pr M d).1 * 60) hd, ← div_mul_self' (n := 60 * (M % d)) hy, Nat.mul_comm d (pr M d).2]
  congr 1
  rw [Nat.mul_right_comm, h, Nat.mul_assoc 60, Nat.mul_comm 60]
theorem more_eq {M d : Nat} (hd : 0 < d) : pr ((pr M d).1 * 60) (pr M d).2 = pr (60 * M) d := by
  have h := (pr_spec (n := M) hd).2.2.2
  have hy := pr_pos (n := M) hd
  have h1 : pr (60 * M) d = pr (60 * (M % d)) d := by
    have : 60 * M = 60 * (M % d) + 60 * (M / d) * d := by
      have := Nat.mod_add_div M d
      rw [Nat.mul_assoc, Nat.mul_comm (M / d) d, ← Nat.mul_add, this]
    rw [this, pr_add]
  rw [h1]
  refine pr_eq0 hy hd ?_
  rw [Nat.mul_right_comm, h, Nat.mul_assoc 60, Nat.mul_comm 60]
theorem S_eq {M d : Nat} (hd : 0 < d) : 60 * M / d = 60 * (M / d) + 60 * (M % d) / d ∧ 60 * (M % d) / d < 60 := by
  have hlt : M % d < d := Nat.mod_lt _ hd
  have h2 : 60 * (M % d) / d < 60 := Nat.div_lt_of_lt_mul (by omega)
  refine ⟨?_, h2⟩
  have : 60 * M = 60 * (M % d) + d * (60 * (M / d)) := by
    have := Nat.mod_add_div M d
    have e : d * (60 * (M / d)) = 60 * (d * (M / d)) := by rw [Nat.mul_left_comm]
    omega
  rw [this, Nat.add_mul_div_left _ _ hd]; omega
/-- the time that is told by its text -/
theorem tell {n d h num den S : Nat} (hd : n < d) (hg : Nat.gcd n d = 1) (hh : 0 < h) (e1 : S = 3600 * (n * h) / d) (e2 : (num, den) = pr (3600 * (n * h)) d) : pr (S * den + num) (h * 3600 * den) = (n, d) := by
  have hp : 0 < d := by omega
  have h1 := (pr_spec (n := 3600 * (n * h)) hp).2.2.2
  have h2 := pr_pos (n := 3600 * (n * h)) hp
  rw [← e2] at h1 h2
  dsimp only at h1 h2
  have h3 := Nat.mod_add_div (3600 * (n * h)) d
  rw [← e1] at h3
  refine pr_is (Nat.mul_pos (by omega) h2) hd hg ?_
  have : (S * den + num) * d = (3600 * (n * h) % d + d * S) * den := by
    rw [Nat.add_mul, Nat.add_mul, h1, Nat.mul_right_comm S den d, Nat.mul_comm S d]; omega
  rw [this, h3]
  simp only [Nat.mul_assoc, Nat.mul_comm, Nat.mul_left_comm]
/-- and back -/
theorem told {n d h num den S : Nat} (hh : 0 < h) (hn : num < den) (hg : Nat.gcd num den = 1) (hS : S < 3600 * h) (e : pr (S * den + num) (h * 3600 * den) = (n, d)) : 3600 * (n * h) / d = S ∧ pr (3600 * (n * h)) d = (num, den) := by
  have hden : 0 < den := by omega
  have hD : 0 < h * 3600 * den := Nat.mul_pos (by omega) hden
  have hlt : S * den + num < h * 3600 * den := by
    have : (S + 1) * den ≤ h * 3600 * den := Nat.mul_le_mul_right _ (by omega)
    rw [Nat.add_mul] at this; omega
  have h1 := pr_lt hD hlt
  have h2 := pr_pos (n := S * den + num) hD
  rw [e] at h1 h2
  dsimp only at h1 h2
  have h3 : 3600 * (n * h) * den = (S * den + num) * d := by
    rw [← h1]; simp only [Nat.mul_assoc, Nat.mul_comm, Nat.mul_left_comm]
  have hP : pr (3600 * (n * h)) d = (num, den) := by
    have : pr (3600 * (n * h)) d = pr (S * den + num) den := pr_eq0 h2 hden h3
    rw [this, Nat.add_comm, pr_add, pr_low hn hg]
  refine ⟨?_, hP⟩
  have h4 := (pr_spec (n := 3600 * (n * h)) h2).2.2.2
  rw [hP] at h4
  dsimp only at h4
  have h5 : 3600 * (n * h) * den / (d * den) = S := by
    rw [h3, Nat.mul_comm d den, div_mul_self' h2, Nat.add_comm, Nat.add_mul_div_right _ _ hden, Nat.div_eq_of_lt hn]; omega
  rw [← h5, div_mul_self' hden]
/-- the part of a second has a small number below -/
theorem den_small {X d : Nat} (hd : 0 < d) (h6 : d ≤ 1000000) : (pr (3600 * X) d).2 ≤ 999999 := by
  by_cases e : d = 1000000
  · subst e
    have : pr (3600 * X) 1000000 = pr (9 * X) 2500 := by
      rw [show 3600 * X = 400 * (9 * X) by omega, show (1000000 : Nat) = 400 * 2500 from rfl, pr_scale (by omega)]
    rw [this]
    have := (pr_spec (n := 9 * X) (d := 2500) (by omega)).2.1
    omega
  · have := (pr_spec (n := 3600 * X) hd).2.1
    omega
end Go.Proofs.YtccjoegnkiaibaaGreatDoor.M
namespace Go.Proofs.YtccjoegnkiaibaaGreatDoor.M
open Go Go.PM Go.Proofs.YtccjoegnkiaibaaGreatDoor.P
set_option linter.unusedVariables false
set_option linter.unusedSimpArgs false
set_option maxRecDepth 100000
/-! ### numbers in decimal -/
theorem dec_small {n : Nat} (h : n < 10) : Lib.decDigits n = [UInt8.ofNat (48 + n)] := by rw [Lib.decDigits, dif_pos h]
theorem dec_big {n : Nat} (h : 10 ≤ n) : Lib.decDigits n = Lib.decDigits (n / 10) ++ [UInt8.ofNat (48 + n % 10)] := by rw [Lib.decDigits, dif_neg (by omega)]
theorem dig_nat {d : Nat} (h : d < 10) : (UInt8.ofNat (48 + d)).toNat = 48 + d := by
  rw [UInt8.toNat_ofNat']; omega
theorem dec_digits : ∀ (n : Nat), ∀ c ∈ Lib.decDigits n, 48 ≤ c.toNat ∧ c.toNat ≤ 57 := by
  intro n
  induction n using Nat.strongRecOn with
  | ind n ih =>
    intro c hc
    by_cases h : n < 10
    · rw [dec_small h, List.mem_singleton] at hc
      rw [hc, dig_nat h]; omega
    · rw [dec_big (by omega), List.mem_append, List.mem_singleton] at hc
      rcases hc with hc | hc
      · exact ih (n / 10) (by omega) c hc
      · rw [hc, dig_nat (by omega)]; omega
theorem dec_ne (n : Nat) : Lib.decDigits n ≠ [] := by
  by_cases h : n < 10
  · rw [dec_small h]; simp
  · rw [dec_big (by omega)]; simp
theorem dec_len : ∀ (k n : Nat), n < 10 ^ (k + 1) → (Lib.decDigits n).length ≤ k + 1
  | 0, n, h => by rw [dec_small (by simpa using h)]; simp
  | k+1, n, h => by
    by_cases c : n < 10
    · rw [dec_small c]; simp
    · have := dec_len k (n / 10) (by rw [Nat.pow_succ] at h; omega)
      rw [dec_big (by omega), List.length_append, List.length_singleton]; omega
theorem pu_append : ∀ (l r : List UInt8) (a u : Nat), Lib.parseUint10 a l = .ok u → Lib.parseUint10 a (l ++ r) = Lib.parseUint10 u r
  | [], r, a, u, h => by simp only [Lib.parseUint10] at h; injection h with h; subst h; rfl
  | c :: l, r, a, u, h => by
    have e1 : ∀ (q : List UInt8), Lib.parseUint10 a (c :: q) = if 48 ≤ c.toNat ∧ c.toNat ≤ 57 then (if 1844674407370955162 ≤ a then .range else if 18446744073709551616 ≤ a * 10 + (c.toNat - 48) then .range else Lib.parseUint10 (a * 10 + (c.toNat - 48)) q) else Lib.parseUint10 0 [0] := fun q => rfl
    rw [List.cons_append, e1]
    rw [e1] at h
    split
    · rename_i h1
      rw [if_pos h1] at h
      split
      · rename_i h2; rw [if_pos h2] at h; cases h
      · rename_i h2
        rw [if_neg h2] at h
        split
        · rename_i h3; rw [if_pos h3] at h; cases h
        · rename_i h3
          rw [if_neg h3] at h
          exact pu_append l r _ u h
    · rename_i h1; rw [if_neg h1] at h; cases h
theorem pu_dec : ∀ n : Nat, n < 1000000000000000000 → Lib.parseUint10 0 (Lib.decDigits n) = .ok n := by
  intro n
  induction n using Nat.strongRecOn with
  | ind n ih =>
    intro hn
    have one : ∀ (a d : Nat), d < 10 → a < 100000000000000000 → Lib.parseUint10 a [UInt8.ofNat (48 + d)] = .ok (a * 10 + d) := by
      intro a d hd ha
      unfold Lib.parseUint10
      rw [dig_nat hd, if_pos (by omega), if_neg (by omega), if_neg (by omega)]
      show Lib.NumEnd.ok (a * 10 + (48 + d - 48)) = _
      congr 1; omega
    by_cases h : n < 10
    · rw [dec_small h, one 0 n h (by omega)]; congr 1; omega
    · rw [dec_big (by omega), pu_append _ _ _ _ (ih (n / 10) (by omega) (by omega)), one (n / 10) (n % 10) (by omega) (by omega)]
      congr 1; omega
theorem atoi_dec {n : Nat} (hn : n < 1000000000000000000) : Lib.atoiAll (Lib.decDigits n) = .ok (n : Int) := by
  cases hd : Lib.decDigits n with
  | nil => exact absurd hd (dec_ne _)
  | cons c r =>
    have hc := dec_digits n c (by rw [hd]; exact List.mem_cons_self)
    have hp : Lib.parseMag (c :: r) = .ok n := by
      unfold Lib.parseMag
      rw [if_neg (by simp), ← hd, pu_dec n hn]
    unfold Lib.atoiAll
    simp only
    rw [if_neg (by omega), hp]
    simp only
    rw [if_neg (by omega), if_neg (by omega), if_neg (by omega)]
/-! #### read by the reference -/
theorem wrap8 {x : Int} (h1 : 0 ≤ x) (h2 : x < 256) : (IntKind.wrap .u8) x = x := by
  have e : (IntKind.wrap .u8) x = x % 256 := by simp [IntKind.wrap, IntKind.signed, IntKind.bits]
  rw [e]; omega
theorem numsO_all : ∀ xs : List Int, numsO T0 5 xs = some xs
  | [] => rfl
  | x :: xs => by
    have ih := numsO_all xs
    unfold numsO at ih ⊢
    show (seqO _ (x :: xs)) = _
    unfold seqO
    show Option.bind (some x) _ = _
    rw [Option.bind_some, ih]; rfl
theorem strOf_digit {n : Int} (h0 : 0 ≤ n) (h1 : n < 10) : strOfNums [(IntKind.wrap .u8) (w64 (48 + n))] = bsOf [UInt8.ofNat (48 + n.toNat)] := by
  apply bs_ext
  rw [bsOf_list, w64s (by omega) (by omega), wrap8 (by omega) (by omega)]
  have : (48 + n).toNat = 48 + n.toNat := by omega
  simp [strOfNums, this]
theorem num_gk (M : Nat) : ∀ (k f n : Nat), n < 10 ^ (k + 1) → k ≤ 15 → k < f → zq112.gk M f (n : Int) = some (bsOf (Lib.decDigits n)) := by
  have one : ∀ (f m : Nat), m < 10 → zq112.gk M (f+1) (m : Int) = some (bsOf (Lib.decDigits m)) := by
    intro f m m1
    unfold zq112.gk zq112.s zq112.o0
    rw [dcT (by omega), cond_true, numsO_all, Option.bind_some, strOf_digit (by omega) (by omega), dec_small m1]; rfl
  intro k
  induction k with
  | zero =>
    intro f n h _ hf
    obtain ⟨f, rfl⟩ : ∃ j, f = j + 1 := ⟨f - 1, by omega⟩
    exact one f n (by simpa using h)
  | succ k ih =>
    intro f n h hk hf
    obtain ⟨f, rfl⟩ : ∃ j, f = j + 1 := ⟨f - 1, by omega⟩
    by_cases c : n < 10
    · exact one f n c
    · have hp : 10 ^ (k + 1 + 1) ≤ 10 ^ 17 := Nat.pow_le_pow_right (by omega) (by omega)
      have hp2 : (10 : Nat) ^ 17 = 100000000000000000 := by decide
      have e10 : w64 (Int.tdiv (n : Int) 10) = ((n / 10 : Nat) : Int) := by rw [Int.tdiv_eq_ediv_of_nonneg (by omega), w64s (by omega) (by omega)]; omega
      have e11 : Int.tmod (n : Int) 10 = ((n % 10 : Nat) : Int) := by rw [Int.tmod_eq_emod_of_nonneg (by omega)]; omega
      have e := ih f (n / 10) (by rw [Nat.pow_succ] at h; omega) (by omega) (by omega)
      have hlen2 : (Lib.decDigits (n / 10)).length ≤ k + 1 := dec_len k (n / 10) (by rw [Nat.pow_succ] at h; omega)
      rw [dec_big (by omega)]
      unfold zq112.gk zq112.s zq112.o0
      rw [dcF (by omega), cond_false, e10, e11, e, Option.bind_some, numsO_all, Option.bind_some, strOf_digit (by omega) (by omega), show Nat.ble _ _ = true from Nat.ble_eq_true_of_le (by rw [bsOf_size, bsOf_size, List.length_singleton]; omega), cond_true, bsOf_append]; rfl
theorem num_eq {N n : Nat} (hN : 100 ≤ N) (h1 : n < 1000000000000000) : zq112.g N (n : Int) = some (bsOf (Lib.decDigits n)) :=
  num_gk N 14 N n (by have : (10 : Nat) ^ 15 = 1000000000000000 := by decide
                      omega) (by omega) (by omega)
/-! ### greatest common divisors and parts, as the program counts them -/
theorem w64n {a : Nat} (h : a < 9000000000000000000) : w64 (a : Int) = (a : Int) := w64s (by omega) (by omega)
theorem gcd_l (N : Nat) : ∀ (n a b : Nat), b < n → a ≤ 1000000000000000 → b ≤ 1000000000000000 → zq33.l1 N n a b = some ((Nat.gcd a b : Nat) : Int)
  | n+1, a, b, hb, h1, h2 => by
    unfold zq33.l1 zq33.d1 zq33.o1
    by_cases e : b = 0
    · subst e
      rw [ineF (show ((0 : Nat) : Int) = 0 from rfl), cond_false, w64s (by omega) (by omega), if_neg (by omega), Nat.gcd_zero_right]
    · rw [ineT (by omega), cond_true, ieqF (by omega), cond_false, tmodN]
      have hm : a % b < b := Nat.mod_lt _ (by omega)
      refine (gcd_l N n b (a % b) (by omega) h2 (by omega)).trans ?_
      rw [Nat.gcd_comm b (a % b), ← Nat.gcd_rec, Nat.gcd_comm]
  | 0, _, _, hb, _, _ => by omega
theorem gcd_eq {N a b : Nat} (hb : b < N) (h1 : a ≤ 1000000000000000) (h2 : b ≤ 1000000000000000) : zq33.g N a b = some ((Nat.gcd a b : Nat) : Int) := gcd_l N N a b hb h1 h2
theorem common_l (N : Nat) : ∀ (n a b : Nat), b < n → a ≤ 1000000000000000 → b ≤ 1000000000000000 → zq88.l1 N n a b = some ((Nat.gcd a b : Nat) : Int)
  | n+1, a, b, hb, h1, h2 => by
    unfold zq88.l1 zq88.d1 zq88.o1
    by_cases e : b = 0
    · subst e
      rw [dcF (by omega), cond_false, Nat.gcd_zero_right]
    · rw [dcT (by omega), cond_true, ieqF (by omega), cond_false, tmodN]
      have hm : a % b < b := Nat.mod_lt _ (by omega)
      refine (common_l N n b (a % b) (by omega) h2 (by omega)).trans ?_
      rw [Nat.gcd_comm b (a % b), ← Nat.gcd_rec, Nat.gcd_comm]
  | 0, _, _, hb, _, _ => by omega
theorem common_eq {N a b : Nat} (hb : b < N) (h1 : a ≤ 1000000000000000) (h2 : b ≤ 1000000000000000) : zq88.g N a b = some ((Nat.gcd a b : Nat) : Int) := common_l N N a b hb h1 h2
theorem prI {x D : Nat} (hD : 1 ≤ D) (hx : x < D) : pr x D = (x / Nat.gcd x D, D / Nat.gcd x D) := by
  unfold pr; rw [Nat.mod_eq_of_lt hx]
theorem part_eq {N m D : Nat} (hN : D < N) (hD : 1 ≤ D) (h2 : D ≤ 1000000000000000) (h1 : m ≤ 1000000000000000) : zq41.g N m D = some (((pr m D).1 : Int), ((pr m D).2 : Int)) := by
  have hr : m % D < D := Nat.mod_lt _ (by omega)
  have hp : 0 < Nat.gcd (m % D) D := Nat.gcd_pos_of_pos_right _ (by omega)
  have e1 : m % D / Nat.gcd (m % D) D ≤ m % D := Nat.div_le_self _ _
  have e2 : D / Nat.gcd (m % D) D ≤ D := Nat.div_le_self _ _
  unfold zq41.g zq41.o0 zq32.g zq32.o0 zq32.d1 zq32.o1 pr
  rw [ieqF (show ¬ (D : Int) = 0 by omega), cond_false, cond_false, tmodN, dcF (by omega), cond_false]
  dsimp only
  rw [Option.bind_some]
  dsimp only
  rw [gcd_eq hN (by omega) h2, Option.bind_some, ieqF (by omega), cond_false, cond_false, tdivN, tdivN]
  generalize m % D / Nat.gcd (m % D) D = x at *
  generalize D / Nat.gcd (m % D) D = y at *
  rw [w64n (by omega), w64n (by omega)]
def mkV (f : Nat × Nat) : Int × Int × Bool := if f.2 ≤ 1000000 then ((f.1 : Int), (f.2 : Int), true) else (0, 0, false)
theorem make_core {N r D : Nat} (hN : D < N) (hr : r < D) (h2 : D ≤ 1000000000000000) (a : Int) (hm : Int.tmod (w64 ((Int.tmod a D) + D)) D = (r : Int)) : zq92.g N a D = some (mkV (pr r D)) := by
  have hp : 0 < Nat.gcd r D := Nat.gcd_pos_of_pos_right _ (by omega)
  have e1 : r / Nat.gcd r D ≤ r := Nat.div_le_self _ _
  have e2 : D / Nat.gcd r D ≤ D := Nat.div_le_self _ _
  unfold zq92.g zq92.o0
  rw [prI (by omega) hr, ieqF (by omega), cond_false, cond_false, hm, common_eq hN (by omega) h2, Option.bind_some, ieqF (by omega), cond_false, cond_false, tdivN, tdivN]
  unfold mkV
  dsimp only
  generalize r / Nat.gcd r D = x at *
  generalize D / Nat.gcd r D = y at *
  rw [w64n (by omega), w64n (by omega)]
  by_cases c : y ≤ 1000000
  · rw [if_pos c, dcF (by omega), cond_false]
  · rw [if_neg c, dcT (by omega), cond_true]
theorem make_eq {N m D : Nat} (hN : D < N) (hD : 1 ≤ D) (h2 : D ≤ 1000000000000000) : zq92.g N m D = some (mkV (pr m D)) := by
  have hr : m % D < D := Nat.mod_lt _ (by omega)
  rw [← pr_mod]
  refine make_core hN hr h2 _ ?_
  rw [tmodN, show w64 (((m % D : Nat) : Int) + (D : Int)) = ((m % D + D : Nat) : Int) by rw [w64s (by omega) (by omega)]; omega, tmodN, Nat.add_mod_right, Nat.mod_mod]
theorem mkV_ok {f : Nat × Nat} (h : f.2 ≤ 1000000) : mkV f = ((f.1 : Int), (f.2 : Int), true) := if_pos h
/-! ### turns -/
structure Turn (n d : Nat) : Prop where
  lt : n < d
  le : d ≤ 1000000
  cop : Nat.gcd n d = 1
def turnB (n d : Int) : Bool := inB d 1 1000000 && (inB n 0 (d - 1) && (((Nat.gcd n.toNat d.toNat : Nat) : Int) == 1))
theorem turnB_iff {n d : Int} : turnB n d = true ↔ ∃ a b : Nat, n = a ∧ d = b ∧ Turn a b := by
  unfold turnB
  rw [Bool.and_eq_true, Bool.and_eq_true, inB_iff, inB_iff, beq_iff_eq]
  constructor
  · rintro ⟨h1, h2, h3⟩
    exact ⟨n.toNat, d.toNat, by omega, by omega, by omega, by omega, by omega⟩
  · rintro ⟨a, b, rfl, rfl, h⟩
    have := h.lt; have := h.le
    exact ⟨by omega, by omega, by rw [Int.toNat_natCast, Int.toNat_natCast, h.cop]; rfl⟩
theorem IsTurn_eq {N : Nat} (hN : 10000000 ≤ N) (n d : Int) : zq7.g N n d = some (turnB n d) := by
  unfold zq7.g zq7.o0 turnB
  rw [within_eq, Option.bind_some]
  cases h1 : inB d 1 1000000 with
  | false => rfl
  | true =>
    have h1' := inB_iff.1 h1
    rw [cond_true, w64s (by omega) (by omega), within_eq, Option.bind_some]
    cases h2 : inB n 0 (d - 1) with
    | false => rfl
    | true =>
      have h2' := inB_iff.1 h2
      obtain ⟨a, rfl⟩ := Int.eq_ofNat_of_zero_le h2'.1
      obtain ⟨b, rfl⟩ := Int.eq_ofNat_of_zero_le (show 0 ≤ d by omega)
      rw [cond_true, gcd_eq (by omega) (by omega) (by omega)]; rfl
theorem diGood_eq {N : Nat} (hN : 10000000 ≤ N) (n d : Int) : zq90.g N n d = some (turnB n d) := by
  unfold zq90.g zq90.o0 turnB
  rw [l1In_eq, Option.bind_some]
  cases h1 : inB d 1 1000000 with
  | false => rfl
  | true =>
    have h1' := inB_iff.1 h1
    rw [cond_true, w64s (by omega) (by omega), l1In_eq, Option.bind_some]
    cases h2 : inB n 0 (d - 1) with
    | false => rfl
    | true =>
      have h2' := inB_iff.1 h2
      obtain ⟨a, rfl⟩ := Int.eq_ofNat_of_zero_le h2'.1
      obtain ⟨b, rfl⟩ := Int.eq_ofNat_of_zero_le (show 0 ≤ d by omega)
      rw [cond_true, common_eq (by omega) (by omega) (by omega)]; rfl
def timeB (h n d : Int) : Bool := inB h 2 24 && turnB n d
theorem timeB_iff {h n d : Int} : timeB h n d = true ↔ ∃ k a b : Nat, h = k ∧ 2 ≤ k ∧ k ≤ 24 ∧ n = a ∧ d = b ∧ Turn a b := by
  unfold timeB
  rw [Bool.and_eq_true, inB_iff, turnB_iff]
  constructor
  · rintro ⟨h1, a, b, rfl, rfl, h2⟩
    exact ⟨h.toNat, a, b, by omega, by omega, by omega, rfl, rfl, h2⟩
  · rintro ⟨k, a, b, rfl, h1, h2, rfl, rfl, h3⟩
    exact ⟨by omega, a, b, rfl, rfl, h3⟩
theorem isTime_eq {N : Nat} (hN : 10000000 ≤ N) (h n d : Int) : zq39.g N h n d = some (timeB h n d) := by
  unfold zq39.g zq39.o0 timeB
  rw [isDial_eq, Option.bind_some]
  cases inB h 2 24 with
  | false => rfl
  | true => rw [cond_true, IsTurn_eq hN, Option.bind_some]; rfl
theorem diAsked_eq {N : Nat} (hN : 10000000 ≤ N) (h n d : Int) : zq87.g N h n d = some (timeB h n d) := by
  unfold zq87.g zq87.o0 timeB
  rw [diHours_eq, Option.bind_some]
  cases inB h 2 24 with
  | false => rfl
  | true => rw [cond_true, diGood_eq hN, Option.bind_some]; rfl
theorem times_eq {N n d k : Nat} (hN : 10000000 ≤ N) (ht : Turn n d) (hk : k ≤ 1000000) : zq28.g N n d k = some (((pr (n * k) d).1 : Int), ((pr (n * k) d).2 : Int)) := by
  have h1 := ht.lt; have h2 := ht.le
  have h3 : n * k ≤ 1000000 * 1000000 := Nat.mul_le_mul (by omega) hk
  unfold zq28.g zq28.o0
  rw [← Int.natCast_mul, w64n (by omega), part_eq (by omega) (by omega) (by omega) (by omega)]; rfl
theorem diTimes_eq {N n d k : Nat} (hN : 10000000 ≤ N) (ht : Turn n d) (hk : k ≤ 1000000) : zq97.g N n d k = some (((pr (n * k) d).1 : Int), ((pr (n * k) d).2 : Int)) := by
  have h1 := ht.lt; have h2 := ht.le
  have h3 : n * k ≤ 1000000 * 1000000 := Nat.mul_le_mul (by omega) hk
  unfold zq97.g zq97.o0
  rw [← Int.natCast_mul, w64n (by omega), make_eq (by omega) (by omega) (by omega), mkV_ok (by have := (pr_spec (n := n * k) (d := d) (by omega)).2.1; omega)]; rfl
/-- a dial's time -/
structure Dial (k n d : Nat) : Prop where
  k1 : 2 ≤ k
  k2 : k ≤ 24
  t : Turn n d
theorem Dial.b {k n d : Nat} (h : Dial k n d) : timeB k n d = true := timeB_iff.2 ⟨k, n, d, rfl, h.k1, h.k2, rfl, rfl, h.t⟩
theorem Dial.p {k n d : Nat} (h : Dial k n d) : 0 < d := Nat.lt_of_le_of_lt (Nat.zero_le _) h.t.lt
theorem Dial.nk {k n d : Nat} (h : Dial k n d) : n * k ≤ 24000000 := by
  have := Nat.mul_le_mul (show n ≤ 1000000 by have := h.t.lt; have := h.t.le; omega) h.k2
  omega
def r3 (f : Nat × Nat) : Int × Int × Bool := ((f.1 : Int), (f.2 : Int), true)
theorem Long_yes {N k n d : Nat} (hN : 10000000 ≤ N) (h : Dial k n d) : zq12.g N k n d = some (r3 (pr (n * k) d)) ∧ zq68.g N k n d = some (r3 (pr (n * k) d)) := by
  have := h.k2
  constructor
  · unfold zq12.g zq12.o0
    rw [isTime_eq hN, h.b, Option.bind_some, Bool.not_true, cond_false, times_eq hN h.t (by omega)]; rfl
  · unfold zq68.g zq68.o0
    rw [diAsked_eq hN, h.b, Option.bind_some, Bool.not_true, cond_false, diTimes_eq hN h.t (by omega)]; rfl
theorem w1 {k : Nat} (h1 : 2 ≤ k) (h2 : k ≤ 24) : w64 ((k : Int) - 1) = ((k - 1 : Nat) : Int) := by rw [w64s (by omega) (by omega)]; omega
theorem split_eq {N k n d : Nat} (hN : 10000000 ≤ N) (h : Dial k n d) : zq44.g N k n d = some (((n * k * 60 / d / 60 : Nat) : Int), ((n * k * 60 / d % 60 : Nat) : Int), ((pr (n * k * 60) d).1 : Int), ((pr (n * k * 60) d).2 : Int)) := by
  have h1 := h.nk
  have h2 := h.p; have h3 := h.t.le
  have e : w64 (w64 ((n : Int) * (k : Int)) * 60) = ((n * k * 60 : Nat) : Int) := by
    rw [← Int.natCast_mul, w64n (by omega), w64s (by omega) (by omega)]; omega
  have hq : n * k * 60 / d ≤ n * k * 60 := Nat.div_le_self _ _
  have hq2 : n * k * 60 / d / 60 ≤ n * k * 60 / d := Nat.div_le_self _ _
  unfold zq44.g zq44.o0
  rw [ieqF (by omega), cond_false, e, part_eq (by omega) (by omega) (by omega) (by omega), Option.bind_some, tdivN, w64n (by omega), show (60 : Int) = ((60 : Nat) : Int) from rfl, tdivN, tmodN, w64n (by omega)]
theorem idx_tot {N : Nat} (hN : 10000000 ≤ N) (l : List S25) (hl : l.length ≤ 1000000) : ∀ (j i m : Nat), i + j = l.length → j < m →
    Tot (zq55.l1 N m l l.length i) fun r => decide (r ≥ 0) = !((l.drop i).all fun t => turnB t.f0 t.f1)
  | 0, i, m+1, hi, hm => by
    unfold zq55.l1 zq55.d1 zq55.o1
    rw [dcF (by omega), cond_false, List.drop_eq_nil_of_le (by omega)]
    exact Tot.now rfl
  | j+1, i, m+1, hi, hm => by
    have hlt : i < l.length := by omega
    unfold zq55.l1 zq55.d1 zq55.o1 zq31.g zq31.o0
    rw [dcT (by omega), cond_true, dcT (by omega), cond_true, cond_true, Int.toNat_natCast, getAt hlt, IsTurn_eq hN, Option.bind_some, Option.bind_some, List.drop_eq_getElem_cons hlt, List.all_cons]
    cases hb : turnB l[i].f0 l[i].f1 with
    | false =>
      rw [Bool.not_false, cond_true]
      exact Tot.now (by simp)
    | true =>
      rw [Bool.not_true, cond_false, w1add (by omega), Bool.true_and]
      exact idx_tot hN l hl j (i + 1) m (by omega) (by omega)
  | _, _, 0, _, hm => by omega
theorem areTurns_eq {N : Nat} (hN : 10000000 ≤ N) (l : List S25) (hl : l.length ≤ 1000000) : zq30.g N l = some (l.all fun t => turnB t.f0 t.f1) := by
  obtain ⟨r, h1, h2⟩ := idx_tot hN l hl l.length 0 N (by omega) (by omega)
  unfold zq30.g zq30.o0 zq54.g zq54.o0 zq55.g zq55.o0
  dsimp only
  rw [show (zq55.l1 N N l (l.length : Int) 0) = some r from h1, Option.bind_some, h2, Option.bind_some, Bool.not_not, List.drop_zero]
theorem turnB_T {n d : Nat} (h : Turn n d) : turnB n d = true := turnB_iff.2 ⟨n, d, rfl, rfl, h⟩
/-! ### all times with a long hand -/
def sT (f : Nat × Nat) : S25 := ⟨(f.1 : Int), (f.2 : Int)⟩
def rt (n d k i : Nat) : Nat × Nat := pr (n + i * d) (d * k)
def rts (n d k i j : Nat) : List S25 := (List.range' i j).map fun x => sT (rt n d k x)
def okR (n d k i : Nat) : Bool := decide ((rt n d k i).2 ≤ 1000000)
theorem turnB_pr {n D : Nat} (hD : 0 < D) : turnB ((pr n D).1 : Int) ((pr n D).2 : Int) = decide ((pr n D).2 ≤ 1000000) := by
  have h := pr_spec (n := n) hD
  by_cases c : (pr n D).2 ≤ 1000000
  · rw [decide_eq_true c]
    exact turnB_T ⟨h.1, c, h.2.2.1⟩
  · rw [decide_eq_false c]
    cases hb : turnB ((pr n D).1 : Int) ((pr n D).2 : Int) with
    | false => rfl
    | true =>
      obtain ⟨a, b, h1, h2, h3⟩ := turnB_iff.1 hb
      have := h3.le
      omega
theorem rts_all {n d k : Nat} (hD : 0 < d * k) (i j : Nat) : ((rts n d k i j).all fun t => turnB t.f0 t.f1) = (List.range' i j).all (okR n d k) := by
  unfold rts
  rw [List.all_map]
  congr 1
  funext x
  exact turnB_pr hD
theorem rts_len (n d k i j : Nat) : (rts n d k i j).length = j := by unfold rts; rw [List.length_map, List.length_range']
theorem rts_succ (n d k i j : Nat) : rts n d k i (j + 1) = sT (rt n d k i) :: rts n d k (i + 1) j := rfl
theorem root_args {n d k i : Nat} (hd : d ≤ 1000000) (hn : n ≤ 1000000) (hk : k ≤ 24) (hi : i < k) : w64 ((n : Int) + w64 ((i : Int) * (d : Int))) = ((n + i * d : Nat) : Int) ∧ w64 ((d : Int) * (k : Int)) = ((d * k : Nat) : Int) ∧ n + i * d ≤ 100000000 ∧ d * k ≤ 100000000 := by
  have h1 := Nat.mul_le_mul (show i ≤ 24 by omega) hd
  have h2 := Nat.mul_le_mul hd hk
  refine ⟨?_, ?_, by omega, by omega⟩
  · rw [← Int.natCast_mul, w64n (by omega), ← Int.natCast_add, w64n (by omega)]
  · rw [← Int.natCast_mul, w64n (by omega)]
theorem roots_l {N : Nat} (hN : 100000000 < N) {n d k : Nat} (hd1 : 1 ≤ d) (hd : d ≤ 1000000) (hn : n ≤ 1000000) (hk : k ≤ 24) : ∀ (j i m : Nat) (acc : List S25), i + j = k → j < m → acc.length = i →
    zq43.l1 N m k acc k i n d = some (acc ++ rts n d k i j, (acc ++ rts n d k i j).all fun t => turnB t.f0 t.f1)
  | 0, i, m+1, acc, hi, hm, ha => by
    unfold zq43.l1 zq43.d1 zq43.o1
    rw [dcF (by omega), cond_false, areTurns_eq (by omega) _ (by omega), Option.bind_some]
    show _ = some (acc ++ [], (acc ++ []).all _)
    rw [List.append_nil]
  | j+1, i, m+1, acc, hi, hm, ha => by
    obtain ⟨e1, e2, e3, e4⟩ := root_args (n := n) hd hn hk (show i < k by omega)
    have hp : 1 ≤ d * k := Nat.mul_pos (by omega) (by omega)
    unfold zq43.l1 zq43.d1 zq43.o1
    rw [dcT (by omega), cond_true, e1, e2, part_eq (by omega) hp (by omega) (by omega), Option.bind_some, blT (by simp; omega), cond_true, w1add (by omega)]
    refine (roots_l hN hd1 hd hn hk j (i + 1) m (acc ++ [sT (rt n d k i)]) (by omega) (by omega) (by simp; omega)).trans ?_
    rw [rts_succ, List.append_assoc]; rfl
  | _, _, 0, _, _, hm, _ => by omega
def timesL (n d k : Nat) : List S25 × Bool := if (List.range' 0 k).all (okR n d k) = true then (rts n d k 0 k, true) else ([], false)
theorem ifRoots_eq {N : Nat} (hN : 100000000 < N) {n d k : Nat} (hd1 : 1 ≤ d) (hd : d ≤ 1000000) (hn : n ≤ 1000000) (hk1 : 1 ≤ k) (hk : k ≤ 24) :
    ((zq43.g N n d k).bind fun r2 => (zq35.g N r2.1 r2.2).bind fun r3 => some (r3.1, r3.2)) = some (timesL n d k) := by
  have hp : 0 < d * k := Nat.mul_pos (by omega) (by omega)
  have h := roots_l hN hd1 hd hn hk k 0 N [] (by omega) (by omega) rfl
  rw [List.nil_append, rts_all hp] at h
  unfold zq43.g zq43.o0 timesL
  dsimp only
  rw [show (zq43.l1 N N k ([] : List S25) k 0 n d) = _ from h, Option.bind_some]
  dsimp only
  unfold zq35.g zq35.o0 zq35.d1 zq35.o1
  cases hb : (List.range' 0 k).all (okR n d k) with
  | false => rw [if_neg (by simp)]; rfl
  | true =>
    rw [Bool.not_true, cond_false, areTurns_eq (by omega) _ (by rw [rts_len]; omega), rts_all hp, hb, if_pos rfl]; rfl
theorem itoa_eq (N : Nat) {n : Nat} (h1 : n ≤ 9223372036854775807) : zq118.g N (n : Int) = some (bsOf (Lib.decDigits n)) := by
  unfold zq118.g
  rw [dcT (by omega), dcT (by omega)]
  show some (⟨(Lib.itoa (n : Int)).toArray⟩ : ByteArray) = _
  have : Lib.itoa (n : Int) = Lib.decDigits n := by unfold Lib.itoa; rw [if_neg (by omega)]; simp
  rw [this]; rfl
def dd (v : Nat) : List UInt8 := [UInt8.ofNat (48 + v / 10), UInt8.ofNat (48 + v % 10)]
theorem hb {R : Type} {a : Nat} {x : Option R} (h : a ≤ 1000000) : (bif Nat.ble a 9223372036854775807 then x else none) = x := by
  rw [Nat.ble_eq_true_of_le (by omega), cond_true]
theorem lit48 : (⟨#[48]⟩ : ByteArray) = bsOf [48] := rfl
theorem lit58 : (⟨#[58]⟩ : ByteArray) = bsOf [58] := rfl
theorem lit43 : (⟨#[43]⟩ : ByteArray) = bsOf [43] := rfl
theorem lit47 : (⟨#[47]⟩ : ByteArray) = bsOf [47] := rfl
theorem dd_small {v : Nat} (h : v < 10) : dd v = [48] ++ Lib.decDigits v := by
  rw [dec_small h]; unfold dd
  rw [show v / 10 = 0 by omega, show v % 10 = v by omega]; rfl
theorem dd_big {v : Nat} (h1 : 10 ≤ v) (h2 : v < 100) : dd v = Lib.decDigits v := by
  rw [dec_big h1, dec_small (by omega)]; rfl
theorem two_eq {N v : Nat} (hN : 100 ≤ N) (h : v < 100) : zq45.g N v = some (bsOf (dd v)) ∧ zq98.g N v = some (bsOf (dd v)) := by
  have hl : (Lib.decDigits v).length ≤ 2 := dec_len 1 v (by simpa using h)
  by_cases c : v < 10
  · constructor
    · unfold zq45.g zq45.o0
      rw [dcT (by omega), cond_true, itoa_eq N (by omega), Option.bind_some, hb (by rw [lit48, bsOf_size, bsOf_size, List.length_singleton]; omega), lit48, bsOf_append, dd_small c]
    · unfold zq98.g zq98.o0
      rw [dcT (by omega), cond_true, num_eq hN (by omega), Option.bind_some, hb (by rw [lit48, bsOf_size, bsOf_size, List.length_singleton]; omega), lit48, bsOf_append, dd_small c]
  · constructor
    · unfold zq45.g zq45.o0
      rw [dcF (by omega), cond_false, itoa_eq N (by omega), Option.bind_some, dd_big (by omega) h]
    · unfold zq98.g zq98.o0
      rw [dcF (by omega), cond_false, num_eq hN (by omega), Option.bind_some, dd_big (by omega) h]
def tailL (f : Nat × Nat) : List UInt8 := if f.1 = 0 then [] else [43] ++ Lib.decDigits f.1 ++ [47] ++ Lib.decDigits f.2
/-- the text; M: minutes times d -/
def timeL (M d : Nat) : List UInt8 := dd (M / d / 60) ++ [58] ++ dd (M / d % 60) ++ [58] ++ dd (60 * (M % d) / d) ++ tailL (pr (60 * M) d)
theorem dd_len (v : Nat) : (dd v).length = 2 := rfl
theorem tail_len {f : Nat × Nat} (h : f.1 < f.2) (h2 : f.2 ≤ 999999) : (tailL f).length ≤ 14 := by
  have e : (10 : Nat) ^ 6 = 1000000 := by decide
  have h3 := dec_len 5 f.1 (by omega)
  have h4 := dec_len 5 f.2 (by omega)
  unfold tailL
  split
  · simp
  · simp only [List.length_append, List.length_singleton]; omega
theorem div60 {M d k n : Nat} (hM : M = n * k * 60) (hd : n < d) (hk : k ≤ 24) : M / d < 1440 := by
  subst hM
  refine Nat.div_lt_of_lt_mul ?_
  have : n * k ≤ n * 24 := Nat.mul_le_mul_left _ hk
  omega
theorem hms {S W s : Nat} (h : S = 60 * W + s) (h2 : s < 60) : S / 3600 = W / 60 ∧ S / 60 % 60 = W % 60 ∧ S % 60 = s := by omega
theorem text_yes {N k n d : Nat} (hN : 10000000 ≤ N) (h : Dial k n d) : zq23.g N k n d = some (bsOf (timeL (n * k * 60) d), true) ∧ zq79.g N k n d = some (bsOf (timeL (n * k * 60) d), true) ∧ zq95.g N k n d = some (bsOf (timeL (n * k * 60) d)) := by
  have h1 := h.nk; have h2 := h.p; have h3 := h.t.le; have h4 := h.k2; have h5 := h.t.lt
  have hW := div60 (M := n * k * 60) rfl h5 h4
  have hS := S_eq (M := n * k * 60) h2
  have hds := den_small (X := n * k) h2 h3
  have hm := more_eq (M := n * k * 60) h2
  have hse := sec_eq (M := n * k * 60) h2
  have hx := pr_spec (n := n * k * 60) h2
  rw [show 3600 * (n * k) = 60 * (n * k * 60) by omega] at hds
  have hf := pr_spec (n := 60 * (n * k * 60)) h2
  have hsplit := split_eq hN h
  have eM : w64 (w64 ((n : Int) * (k : Int)) * 3600) = ((60 * (n * k * 60) : Nat) : Int) := by
    rw [← Int.natCast_mul, w64n (by omega), w64s (by omega) (by omega)]; omega
  have eT : zq97.g N n d (w64 ((k : Int) * 3600)) = some (((pr (60 * (n * k * 60)) d).1 : Int), ((pr (60 * (n * k * 60)) d).2 : Int)) := by
    rw [show w64 ((k : Int) * 3600) = ((k * 3600 : Nat) : Int) by rw [w64s (by omega) (by omega)]; omega, diTimes_eq hN h.t (by omega), show n * (k * 3600) = 60 * (n * k * 60) by rw [← Nat.mul_assoc]; omega]
  have hM2 : 60 * (n * k * 60) / d ≤ 60 * (n * k * 60) := Nat.div_le_self _ _
  generalize n * k * 60 = M at *
  have tl := tail_len hf.1 hds
  have e6 : (10 : Nat) ^ 6 = 1000000 := by decide
  have l1 := dec_len 5 (pr (60 * M) d).1 (by omega)
  have l2 := dec_len 5 (pr (60 * M) d).2 (by omega)
  have tails : (pr (60 * M) d).1 ≠ 0 → tailL (pr (60 * M) d) = [43] ++ Lib.decDigits (pr (60 * M) d).1 ++ [47] ++ Lib.decDigits (pr (60 * M) d).2 := fun hh => by unfold tailL; rw [if_neg hh]
  have tail0 : (pr (60 * M) d).1 = 0 → tailL (pr (60 * M) d) = [] := fun hh => by unfold tailL; rw [if_pos hh]
  have impl : zq23.g N k n d = some (bsOf (timeL M d), true) := by
    unfold zq23.g zq23.o0
    rw [isTime_eq hN, h.b, Option.bind_some, Bool.not_true, cond_false, hsplit, Option.bind_some]
    dsimp only
    rw [(two_eq (by omega) (by omega)).1, Option.bind_some, hb (by simp [lit58, bsOf_size, dd_len]), (two_eq (by omega) (by omega)).1, Option.bind_some, hb (by simp [lit58, bsOf_size, bsOf_append, dd_len]), hb (by simp [lit58, bsOf_size, bsOf_append, dd_len]), ieqF (by omega), cond_false]
    have ex : w64 (((pr M d).1 : Int) * 60) = (((pr M d).1 * 60 : Nat) : Int) := by rw [w64s (by omega) (by omega)]; omega
    rw [ex, tdivN, hse, w64n (by omega), (two_eq (by omega) (by omega)).1, Option.bind_some, hb (by simp [lit58, bsOf_size, bsOf_append, dd_len]), part_eq (by omega) (by omega) (by omega) (by omega), hm, Option.bind_some]
    dsimp only
    unfold timeL zq23.d1 zq23.o1
    by_cases c : (pr (60 * M) d).1 = 0
    · rw [dcF (by omega), cond_false, tail0 c]
      simp only [lit58, bsOf_append, List.append_nil]
    · rw [dcT (by omega), cond_true, itoa_eq N (by omega), Option.bind_some, hb (by simp [lit43, bsOf_size]; omega), hb (by simp [lit43, lit47, bsOf_size, bsOf_append]; omega), itoa_eq N (by omega), Option.bind_some, hb (by simp [lit43, lit47, bsOf_size, bsOf_append]; omega), hb (by simp [lit43, lit47, lit58, bsOf_size, bsOf_append, dd_len]; omega), tails c]
      simp only [lit58, lit43, lit47, bsOf_append, List.append_assoc]
  have spec : zq95.g N k n d = some (bsOf (timeL M d)) := by
    unfold zq95.g zq95.o0
    obtain ⟨a1, a2, a3⟩ := hms hS.1 hS.2
    rw [ieqF (by omega), cond_false, eM, tdivN, w64n (by omega), show (3600 : Int) = ((3600 : Nat) : Int) from rfl, show (60 : Int) = ((60 : Nat) : Int) from rfl, tdivN, tdivN, tmodN, w64n (by omega), w64n (by omega), tmodN, a1, a2, a3]
    rw [(two_eq (by omega) (by omega)).2, Option.bind_some, hb (by simp [lit58, bsOf_size, dd_len]), (two_eq (by omega) (by omega)).2, Option.bind_some, hb (by simp [lit58, bsOf_size, bsOf_append, dd_len]), hb (by simp [lit58, bsOf_size, bsOf_append, dd_len])]
    rw [(two_eq (by omega) (by omega)).2, Option.bind_some, hb (by simp [lit58, bsOf_size, bsOf_append, dd_len]), show ((3600 : Nat) : Int) = 3600 from rfl, eT, Option.bind_some]
    dsimp only
    unfold timeL zq95.d1 zq95.o1
    by_cases c : (pr (60 * M) d).1 = 0
    · rw [dcF (by omega), cond_false, tail0 c]
      simp only [lit58, bsOf_append, List.append_nil]
    · rw [dcT (by omega), cond_true, num_eq (by omega) (by omega), Option.bind_some, hb (by simp [lit43, bsOf_size]; omega), hb (by simp [lit43, lit47, bsOf_size, bsOf_append]; omega), num_eq (by omega) (by omega), Option.bind_some, hb (by simp [lit43, lit47, bsOf_size, bsOf_append]; omega), hb (by simp [lit43, lit47, lit58, bsOf_size, bsOf_append, dd_len]; omega), tails c]
      simp only [lit58, lit43, lit47, bsOf_append, List.append_assoc]
  refine ⟨impl, ?_, spec⟩
  unfold zq79.g zq79.o0
  rw [diAsked_eq hN, h.b, Option.bind_some, Bool.not_true, cond_false, spec]; rfl
theorem text_no {N : Nat} {h n d : Int} (hN : 10000000 ≤ N) (hb : timeB h n d = false) : zq23.g N h n d = some (⟨#[]⟩, false) ∧ zq79.g N h n d = some (⟨#[]⟩, false) := by
  constructor
  · unfold zq23.g zq23.o0
    rw [isTime_eq hN, hb]; rfl
  · unfold zq79.g zq79.o0
    rw [diAsked_eq hN, hb]; rfl
/-! ### the reference reads a time -/
abbrev no3 : Option (Int × Int × Bool) := some (0, 0, false)
def isD (c : UInt8) : Prop := 48 ≤ c.toNat ∧ c.toNat ≤ 57
structure Form (c0 c1 c2 c3 c4 c5 c6 c7 : UInt8) : Prop where
  a0 : isD c0
  a1 : isD c1
  a2 : c2 = 58
  a3 : isD c3
  a4 : isD c4
  a5 : c5 = 58
  a6 : isD c6
  a7 : isD c7
theorem den_mul {S num den : Nat} (hS : S ≤ 86399) (hnum : num ≤ 1000000) (hden : den ≤ 1000000) : w64 (w64 ((S : Int) * (den : Int)) + (num : Int)) = ((S * den + num : Nat) : Int) ∧ S * den + num ≤ 100000000000 := by
  have := Nat.mul_le_mul hS hden
  refine ⟨?_, by omega⟩
  rw [← Int.natCast_mul, w64n (by omega), ← Int.natCast_add, w64n (by omega)]
theorem dial_mul {k den : Nat} (hk : k ≤ 24) (hden : den ≤ 1000000) : w64 (w64 ((k : Int) * 3600) * (den : Int)) = ((k * 3600 * den : Nat) : Int) ∧ k * 3600 * den ≤ 100000000000 := by
  have := Nat.mul_le_mul (show k * 3600 ≤ 86400 by omega) hden
  refine ⟨?_, by omega⟩
  rw [show w64 ((k : Int) * 3600) = ((k * 3600 : Nat) : Int) by rw [w64s (by omega) (by omega)]; omega, ← Int.natCast_mul, w64n (by omega)]
theorem no47 (n : Nat) : (47 : UInt8) ∉ Lib.decDigits n := fun h => by
  have := (dec_digits n _ h).1
  exact absurd this (by decide)
/-! ### the program reads a time -/
theorem bs_toList (a : ByteArray) : a.toList = a.data.toList := Lib.toList_data a
noncomputable def AT (p : ByteArray) : Int × Bool := zq117.v p
theorem AT_eq (N : Nat) {p : ByteArray} (h : p.size ≤ 281474976710656) : zq117.g N p = some (AT p) := by
  unfold zq117.g
  rw [dcT h]; rfl
noncomputable def RN (p : ByteArray) : Int × Bool := zq42.v p 1000000
theorem RN_eq (N : Nat) {p : ByteArray} (h : p.size ≤ 281474976710656) : zq42.g N p 1000000 = some (RN p) := by
  unfold zq42.g
  rw [dcT h, dcT (by omega)]; rfl
theorem RN_dec {n : Nat} (hn : n ≤ 1000000) : RN (bsOf (Lib.decDigits n)) = ((n : Int), true) := by
  unfold RN zq42.v
  rw [bsOf_list, atoi_dec (by omega)]
  show (if 0 ≤ (n : Int) ∧ (n : Int) ≤ 1000000 then (if Lib.itoa n = (bsOf (Lib.decDigits n)).toList then ((n : Int), true) else (0, false)) else (0, false)) = _
  rw [if_pos ⟨by omega, by omega⟩, if_pos]
  rw [bs_toList, bsOf_list]
  unfold Lib.itoa
  rw [if_neg (by omega)]; simp
theorem dd_atoi : ((List.range 100).all fun n => match Lib.atoiAll (dd n) with | .ok v => v == (n : Int) | _ => false) = true := by decide +kernel
theorem AT_dd {p : ByteArray} {v : Nat} (hv : v < 100) (hp : p.data.toList = dd v) : AT p = ((v : Int), true) := by
  have := List.all_eq_true.1 dd_atoi v (List.mem_range.2 hv)
  unfold AT zq117.v
  rw [hp]
  revert this
  rcases Lib.atoiAll (dd v) with u | _ | _
  · intro h
    have : u = (v : Int) := by simpa using h
    rw [this]
  · intro h; cases h
  · intro h; cases h
/-- behind the three numbers -/
theorem pd5_eq {N k x y z num den : Nat} (hN : 1000000000000 < N) {a b : Int} {s : ByteArray} (hk1 : 2 ≤ k) (hk : k ≤ 24) (hx : x < k) (hy : y ≤ 59) (hz : z ≤ 59) (hnum : num ≤ 1000000) (hd1 : 1 ≤ den) (hden : den ≤ 1000000)
    {f : Nat × Nat} (hf : pr ((x * 3600 + y * 60 + z) * den + num) (k * 3600 * den) = f) :
    (f.2 ≤ 1000000 → s = bsOf (timeL (f.1 * k * 60) f.2) → zq16.d5 N k s num den [(x : Int), (y : Int), (z : Int)] false a b = some (r3 f)) ∧
    (¬ (f.2 ≤ 1000000 ∧ s = bsOf (timeL (f.1 * k * 60) f.2)) → zq16.d5 N k s num den [(x : Int), (y : Int), (z : Int)] false a b = no3) := by
  obtain ⟨e1, e2⟩ := den_mul (S := x * 3600 + y * 60 + z) (num := num) (den := den) (by omega) hnum hden
  obtain ⟨e3, e4⟩ := dial_mul hk hden
  have hp : 1 ≤ k * 3600 * den := Nat.mul_pos (by omega) (by omega)
  have e5 : w64 (w64 (w64 ((x : Int) * 3600) + w64 ((y : Int) * 60)) + (z : Int)) = ((x * 3600 + y * 60 + z : Nat) : Int) := by
    rw [w64s (n := (x : Int) * 3600) (by omega) (by omega), w64s (n := (y : Int) * 60) (by omega) (by omega), w64s (n := (x : Int) * 3600 + (y : Int) * 60) (by omega) (by omega), w64s (by omega) (by omega)]; omega
  have hsp := pr_spec (n := (x * 3600 + y * 60 + z) * den + num) hp
  rw [hf] at hsp
  have e6 : zq16.d5 N k s num den [(x : Int), (y : Int), (z : Int)] false a b = (zq23.g N k (f.1 : Int) (f.2 : Int)).bind fun r5 => bif (!r5.2) then zq16.d6 N true a b f.1 f.2 else zq16.d6 N (!(r5.1.toList == s.toList)) a b f.1 f.2 := by
    unfold zq16.d5 zq16.o5
    rw [cond_false, dcT (show (0 : Int) < (([(x : Int), (y : Int), (z : Int)] : List Int).length : Int) by simp), cond_true, show ([(x : Int), (y : Int), (z : Int)] : List Int)[(0 : Int).toNat]? = some (x : Int) from rfl, Option.bind_some, dcT (show (1 : Int) < (([(x : Int), (y : Int), (z : Int)] : List Int).length : Int) by simp), cond_true, show ([(x : Int), (y : Int), (z : Int)] : List Int)[(1 : Int).toNat]? = some (y : Int) from rfl, Option.bind_some, dcT (show (2 : Int) < (([(x : Int), (y : Int), (z : Int)] : List Int).length : Int) by simp), cond_true, show ([(x : Int), (y : Int), (z : Int)] : List Int)[(2 : Int).toNat]? = some (z : Int) from rfl, Option.bind_some, e5, e1, e3, part_eq (by omega) hp (by omega) (by omega), hf, Option.bind_some]
  rw [e6]
  by_cases c : f.2 ≤ 1000000
  · have hD : Dial k f.1 f.2 := ⟨hk1, hk, hsp.1, c, hsp.2.2.1⟩
    rw [(text_yes (by omega) hD).1, Option.bind_some]
    dsimp only
    rw [Bool.not_true, cond_false, bs_toList, bs_toList, bsOf_list]
    constructor
    · intro _ hs
      rw [hs, bsOf_list, beq_self_eq_true]; rfl
    · intro hh
      have : ¬ timeL (f.1 * k * 60) f.2 = s.data.toList := fun e => hh ⟨c, bs_ext (by rw [bsOf_list, e])⟩
      rw [beq_eq_false_iff_ne.mpr this]; rfl
  · have hb : timeB k f.1 f.2 = false := by
      cases h : timeB k f.1 f.2 with
      | false => rfl
      | true =>
        obtain ⟨_, a', b', _, _, _, _, h6, h7⟩ := timeB_iff.1 h
        have := h7.le
        omega
    rw [(text_no (by omega) hb).1]
    exact ⟨fun hh => absurd hh c, fun _ => rfl⟩
theorem pd3_step {N m : Nat} {h n d a b : Int} {s : ByteArray} {v : List Int} {ps : List ByteArray} {i : Nat} (hi : i < ps.length) (hl : ps.length ≤ 3) (hv : v.length ≤ 3) (hs : ∀ p ∈ ps, p.size ≤ 281474976710656) :
    zq16.l4 N (m + 1) h s n d v ps ps.length i a b = bif !(AT ps[i]).2 then no3 else zq16.l4 N m h s n d (v ++ [(AT ps[i]).1]) ps ps.length ((i + 1 : Nat) : Int) a b := by
  show zq16.d4 N h s n d v ps ps.length i a b _ = _
  unfold zq16.d4 zq16.o4
  rw [dcT (by omega), cond_true, dcT (show (0 : Int) ≤ (i : Int) by omega), cond_true, cond_true, Int.toNat_natCast, getAt hi, AT_eq N (hs _ (List.getElem_mem hi)), Option.bind_some, blT (by simp; omega), cond_true, w1add (by omega)]
theorem pd3_end {N m k : Nat} {n d a b : Int} {s : ByteArray} {ps : List ByteArray} (hk : k ≤ 24) (hl : ps.length = 3) {x y z : Int} :
    zq16.l4 N (m + 1) k s n d [x, y, z] ps ps.length ((3 : Nat) : Int) a b = if (0 ≤ x ∧ x ≤ (k : Int) - 1) ∧ (0 ≤ y ∧ y ≤ 59) ∧ (0 ≤ z ∧ z ≤ 59) then zq16.d5 N k s n d [x, y, z] false a b else no3 := by
  show zq16.d4 N k s n d [x, y, z] ps ps.length ((3 : Nat) : Int) a b _ = _
  unfold zq16.d4 zq16.o4
  rw [dcF (by omega), cond_false, dcT (show (0 : Int) < (([x, y, z] : List Int).length : Int) by simp), cond_true, show ([x, y, z] : List Int)[(0 : Int).toNat]? = some x from rfl, Option.bind_some, w64s (by omega) (by omega), within_eq, Option.bind_some]
  have un : ∀ v, zq16.d5 N k s n d v true a b = no3 := fun v => rfl
  cases c1 : inB x 0 ((k : Int) - 1) with
  | false => rw [if_neg (fun hh => inB_not.1 c1 hh.1), Bool.not_false, cond_true]; exact un _
  | true =>
    rw [Bool.not_true, cond_false, dcT (show (1 : Int) < (([x, y, z] : List Int).length : Int) by simp), cond_true, show ([x, y, z] : List Int)[(1 : Int).toNat]? = some y from rfl, Option.bind_some, within_eq, Option.bind_some]
    cases c2 : inB y 0 59 with
    | false => rw [if_neg (fun hh => inB_not.1 c2 hh.2.1), Bool.not_false, cond_true]; exact un _
    | true =>
      rw [Bool.not_true, cond_false, dcT (show (2 : Int) < (([x, y, z] : List Int).length : Int) by simp), cond_true, show ([x, y, z] : List Int)[(2 : Int).toNat]? = some z from rfl, Option.bind_some, within_eq, Option.bind_some]
      cases c3 : inB z 0 59 with
      | false => rw [if_neg (fun hh => inB_not.1 c3 hh.2.2), Bool.not_false]; exact un _
      | true => rw [if_pos ⟨inB_iff.1 c1, inB_iff.1 c2, inB_iff.1 c3⟩, Bool.not_true]
theorem pd3_eq {N k : Nat} (hN : 100 ≤ N) {n d a b : Int} {s : ByteArray} (hk : k ≤ 24) (h8 : 8 ≤ s.size) (hsz : s.size ≤ 1048576) :
    zq16.d3 N k s n d a b = if ((AT (s.extract 0 2)).2 = true ∧ (AT (s.extract 3 5)).2 = true ∧ (AT (s.extract 6 8)).2 = true) ∧ (0 ≤ (AT (s.extract 0 2)).1 ∧ (AT (s.extract 0 2)).1 ≤ (k : Int) - 1) ∧ (0 ≤ (AT (s.extract 3 5)).1 ∧ (AT (s.extract 3 5)).1 ≤ 59) ∧ (0 ≤ (AT (s.extract 6 8)).1 ∧ (AT (s.extract 6 8)).1 ≤ 59)
      then zq16.d5 N k s n d [(AT (s.extract 0 2)).1, (AT (s.extract 3 5)).1, (AT (s.extract 6 8)).1] false a b else no3 := by
  obtain ⟨m, hm⟩ : ∃ m, N = m + 4 := ⟨N - 4, by omega⟩
  have hps : ∀ p ∈ [s.extract 0 2, s.extract 3 5, s.extract 6 8], p.size ≤ 281474976710656 := by
    intro p hp
    simp only [List.mem_cons, List.not_mem_nil, or_false] at hp
    rcases hp with rfl | rfl | rfl <;> (rw [ByteArray.size_extract]; omega)
  have e0 : zq16.d3 N k s n d a b = zq16.l4 N (m + 4) k s n d [] [s.extract 0 2, s.extract 3 5, s.extract 6 8] ([s.extract 0 2, s.extract 3 5, s.extract 6 8] : List ByteArray).length ((0 : Nat) : Int) a b := by
    unfold zq16.d3 zq16.o3
    rw [dcT (show (2 : Int) ≤ (s.size : Int) by omega), cond_true, dcT (show (5 : Int) ≤ (s.size : Int) by omega), cond_true, dcT (show (8 : Int) ≤ (s.size : Int) by omega), cond_true]
    dsimp only
    rw [show zq16.l4 N N = zq16.l4 N (m + 4) from congrArg _ hm]; rfl
  rw [e0, pd3_step (i := 0) (by simp) (by simp) (by simp) hps]
  show (bif !(AT (s.extract 0 2)).2 then no3 else zq16.l4 N (m + 3) k s n d ([(AT (s.extract 0 2)).1]) [s.extract 0 2, s.extract 3 5, s.extract 6 8] ([s.extract 0 2, s.extract 3 5, s.extract 6 8] : List ByteArray).length ((1 : Nat) : Int) a b) = _
  cases c0 : (AT (s.extract 0 2)).2 with
  | false => rw [Bool.not_false, cond_true, if_neg (fun hh => by cases hh.1.1)]
  | true =>
    rw [Bool.not_true, cond_false, pd3_step (i := 1) (by simp) (by simp) (by simp) hps]
    show (bif !(AT (s.extract 3 5)).2 then no3 else zq16.l4 N (m + 2) k s n d ([(AT (s.extract 0 2)).1, (AT (s.extract 3 5)).1]) [s.extract 0 2, s.extract 3 5, s.extract 6 8] ([s.extract 0 2, s.extract 3 5, s.extract 6 8] : List ByteArray).length ((2 : Nat) : Int) a b) = _
    cases c1 : (AT (s.extract 3 5)).2 with
    | false => rw [Bool.not_false, cond_true, if_neg (fun hh => by cases hh.1.2.1)]
    | true =>
      rw [Bool.not_true, cond_false, pd3_step (i := 2) (by simp) (by simp) (by simp) hps]
      show (bif !(AT (s.extract 6 8)).2 then no3 else zq16.l4 N (m + 1) k s n d ([(AT (s.extract 0 2)).1, (AT (s.extract 3 5)).1, (AT (s.extract 6 8)).1]) [s.extract 0 2, s.extract 3 5, s.extract 6 8] ([s.extract 0 2, s.extract 3 5, s.extract 6 8] : List ByteArray).length ((3 : Nat) : Int) a b) = _
      cases c2 : (AT (s.extract 6 8)).2 with
      | false => rw [Bool.not_false, cond_true, if_neg (fun hh => by cases hh.1.2.2)]
      | true =>
        rw [Bool.not_true, cond_false, pd3_end hk rfl]
        by_cases c : (0 ≤ (AT (s.extract 0 2)).1 ∧ (AT (s.extract 0 2)).1 ≤ (k : Int) - 1) ∧ (0 ≤ (AT (s.extract 3 5)).1 ∧ (AT (s.extract 3 5)).1 ≤ 59) ∧ (0 ≤ (AT (s.extract 6 8)).1 ∧ (AT (s.extract 6 8)).1 ≤ 59)
        · rw [if_pos c, if_pos ⟨⟨rfl, rfl, rfl⟩, c⟩]
        · rw [if_neg c, if_neg (fun hh => c hh.2)]
/-- what stands behind the eighth byte and the next -/
theorem ext_rest {s : ByteArray} (h : 9 ≤ s.size) : ((s.extract 8 s.size).extract 1 (s.extract 8 s.size).size).data.toList = s.data.toList.drop 9 := by
  have hlen : s.data.toList.length = s.size := Array.length_toList
  rw [extract_list, extract_list, ByteArray.size_extract, List.take_of_length_le (by rw [List.length_drop, List.length_take]; omega), List.take_of_length_le (by omega), List.drop_drop]
noncomputable def cutB (s : ByteArray) : ByteArray × ByteArray := if Lib.indexByte s.data.toList 47 < 0 then (s, ⟨#[]⟩) else (s.extract 0 (Lib.indexByte s.data.toList 47).toNat, s.extract ((Lib.indexByte s.data.toList 47).toNat + 1) s.size)
theorem cut_eq (N : Nat) (s : ByteArray) (hs : s.size ≤ 1048576) : ∃ b, zq119.g N s (⟨#[47]⟩ : ByteArray) = some ((cutB s).1, (cutB s).2, b) := by
  have h2 : zq119.g N s (⟨#[47]⟩ : ByteArray) = (bif decide (s.size < 4294967281) then some (if Lib.indexByte s.data.toList 47 < 0 then (s, ⟨#[]⟩, false) else (s.extract 0 (Lib.indexByte s.data.toList 47).toNat, s.extract ((Lib.indexByte s.data.toList 47).toNat + 1) s.size, true)) else none) := rfl
  rw [h2, dcT (by omega), cond_true]
  unfold cutB
  by_cases c : Lib.indexByte s.data.toList 47 < 0
  · rw [if_pos c, if_pos c]; exact ⟨_, rfl⟩
  · rw [if_neg c, if_neg c]; exact ⟨_, rfl⟩
theorem cutB_size (s : ByteArray) : (cutB s).1.size ≤ s.size ∧ (cutB s).2.size ≤ s.size := by
  unfold cutB
  split
  · exact ⟨Nat.le_refl _, Nat.zero_le _⟩
  · rw [ByteArray.size_extract, ByteArray.size_extract]; omega
theorem indexByte_sep (c : UInt8) (r : List UInt8) : ∀ a : List UInt8, c ∉ a → Lib.indexByte (a ++ c :: r) c = (a.length : Int)
  | [], _ => by simp [Lib.indexByte]
  | b :: a, h => by
    rw [List.mem_cons, not_or] at h
    have ih := indexByte_sep c r a h.2
    rw [List.cons_append]
    unfold Lib.indexByte
    have hb : (b == c) = false := by rw [beq_eq_false_iff_ne]; exact fun e => h.1 e.symm
    simp only [hb, ih, List.length_cons]
    simp
theorem cut_sep {s : ByteArray} {x y : List UInt8} (h : s.data.toList = x ++ 47 :: y) (hx : (47 : UInt8) ∉ x) : cutB s = (bsOf x, bsOf y) := by
  have hlen : s.data.toList.length = s.size := Array.length_toList
  have hi := indexByte_sep 47 y x hx
  unfold cutB
  rw [h, hi, if_neg (by omega), Int.toNat_natCast]
  refine Prod.ext ?_ ?_
  · apply bs_ext
    rw [extract_list, bsOf_list, h]; simp
  · apply bs_ext
    rw [extract_list, bsOf_list, List.take_of_length_le (by omega), h]
    rw [show x ++ 47 :: y = (x ++ [47]) ++ y by simp, List.drop_left' (by simp)]
theorem top_eq {N k : Nat} (hN : 1000000000000 < N) {s : ByteArray} (hk1 : 2 ≤ k) (hk : k ≤ 24) (h8 : 8 ≤ s.size) (hsz : s.size ≤ 1048576) :
    zq16.g N k s = if s.size = 8 then zq16.d3 N k s 0 1 0 0 else
      (let Q := (s.extract 8 s.size).extract 1 (s.extract 8 s.size).size
       if (RN (cutB Q).1).2 = true ∧ (RN (cutB Q).2).2 = true ∧ (RN (cutB Q).2).1 ≠ 0 then zq16.d3 N k s (RN (cutB Q).1).1 (RN (cutB Q).2).1 0 0 else no3) := by
  have hlen : s.data.toList.length = s.size := Array.length_toList
  unfold zq16.g zq16.o0 zq16.d1 zq16.o1
  rw [isDial_eq, Option.bind_some, inB_iff.2 ⟨by omega, by omega⟩, Bool.not_true, cond_false, dcF (show ¬ (s.size : Int) < 8 by omega)]
  dsimp only
  rw [cond_false, dcT (show (0 : Int) ≤ (s.size : Int) by omega), cond_true, dcT (show (s.size : Int) ≤ (s.size : Int) by omega), cond_true, dcT (show (8 : Int) ≤ (s.size : Int) by omega), cond_true, Int.toNat_natCast, show (8 : Int).toNat = 8 from rfl, show (1 : Int).toNat = 1 from rfl, bs_toList, bs_toList]
  have hR : (s.extract 8 s.size).data.toList = s.data.toList.drop 8 := by rw [extract_list, List.take_of_length_le (by omega)]
  have hRs : (s.extract 8 s.size).size = s.size - 8 := by rw [ByteArray.size_extract]; omega
  by_cases c : s.size = 8
  · rw [if_pos c, hR, List.drop_eq_nil_of_le (by omega)]; rfl
  · have hne : ((s.extract 8 s.size).data.toList == (⟨#[]⟩ : ByteArray).data.toList) = false := by
      rw [beq_eq_false_iff_ne, hR]
      intro e
      have := congrArg List.length e
      rw [List.length_drop] at this
      simp at this
      omega
    rw [if_neg c, hne, Bool.not_false, cond_true, dcT (by omega), cond_true, dcT (Int.le_refl _), cond_true, dcT (show (1 : Int) ≤ ((s.extract 8 s.size).size : Int) by omega), cond_true, Int.toNat_natCast]
    have hQs : ((s.extract 8 s.size).extract 1 (s.extract 8 s.size).size).size ≤ 1048576 := by rw [ByteArray.size_extract]; omega
    generalize (s.extract 8 s.size).extract 1 (s.extract 8 s.size).size = Q at *
    obtain ⟨b, hc⟩ := cut_eq N Q hQs
    have hz := cutB_size Q
    rw [hc, Option.bind_some]
    dsimp only
    rw [RN_eq N (by omega), Option.bind_some, RN_eq N (by omega), Option.bind_some]
    cases c1 : (RN (cutB Q).1).2 with
    | false => rw [Bool.not_false, cond_true, if_neg (fun hh => by cases hh.1)]; rfl
    | true =>
      rw [Bool.not_true, cond_false]
      cases c2 : (RN (cutB Q).2).2 with
      | false => rw [Bool.not_false, cond_true, if_neg (fun hh => by cases hh.2.1)]; rfl
      | true =>
        rw [Bool.not_true, cond_false]
        by_cases c3 : (RN (cutB Q).2).1 = 0
        · rw [ieqT c3, if_neg (fun hh => hh.2.2 c3)]; rfl
        · rw [ieqF c3, if_pos ⟨rfl, rfl, c3⟩]; rfl
theorem impl_read {N k n d : Nat} (hN : 1000000000000 < N) (h : Dial k n d) : zq16.g N k (bsOf (timeL (n * k * 60) d)) = some ((n : Int), (d : Int), true) := by
  have h2 := h.p; have h3 := h.t.le; have h4 := h.k2; have h5 := h.t.lt; have h6 := h.k1
  have hW := div60 (M := n * k * 60) rfl h5 h4
  have hW2 : n * k * 60 / d < 60 * k := by
    refine Nat.div_lt_of_lt_mul ?_
    have : n * k < d * k := Nat.mul_lt_mul_of_pos_right h5 (by omega)
    rw [Nat.mul_left_comm]; omega
  have hS := S_eq (M := n * k * 60) h2
  obtain ⟨a1, a2, a3⟩ := hms hS.1 hS.2
  have hds := den_small (X := n * k) h2 h3
  have hf := pr_spec (n := 60 * (n * k * 60)) h2
  have e36 : 3600 * (n * k) = 60 * (n * k * 60) := by omega
  rw [e36] at hds
  have tl := tail_len hf.1 hds
  have key : ∀ num den : Nat, (num, den) = pr (60 * (n * k * 60)) d → pr ((n * k * 60 / d / 60 * 3600 + n * k * 60 / d % 60 * 60 + 60 * (n * k * 60 % d) / d) * den + num) (k * 3600 * den) = (n, d) := by
    intro num den e
    exact tell (S := n * k * 60 / d / 60 * 3600 + n * k * 60 / d % 60 * 60 + 60 * (n * k * 60 % d) / d) (h := k) (num := num) (den := den) h5 h.t.cop (by omega) (by rw [e36, ← a1, ← a2, ← a3]; omega) (by rw [e36]; exact e)
  generalize hx : n * k * 60 / d / 60 = x at *
  generalize hy : n * k * 60 / d % 60 = y at *
  generalize hz : 60 * (n * k * 60 % d) / d = z at *
  have hL : timeL (n * k * 60) d = UInt8.ofNat (48 + x / 10) :: UInt8.ofNat (48 + x % 10) :: 58 :: UInt8.ofNat (48 + y / 10) :: UInt8.ofNat (48 + y % 10) :: 58 :: UInt8.ofNat (48 + z / 10) :: UInt8.ofNat (48 + z % 10) :: tailL (pr (60 * (n * k * 60)) d) := by
    unfold timeL
    rw [hx, hy, hz]; rfl
  have hl : (bsOf (timeL (n * k * 60) d)).data.toList = _ := (bsOf_list _).trans hL
  have hsz : (bsOf (timeL (n * k * 60) d)).size = 8 + (tailL (pr (60 * (n * k * 60)) d)).length := by rw [bsOf_size, hL]; simp; omega
  have fin : ∀ num den : Nat, (num, den) = pr (60 * (n * k * 60)) d → num ≤ 1000000 → 1 ≤ den → den ≤ 1000000 → zq16.d3 N k (bsOf (timeL (n * k * 60) d)) num den 0 0 = some ((n : Int), (d : Int), true) := by
    intro num den e q1 q2 q3
    have A0 : AT ((bsOf (timeL (n * k * 60) d)).extract 0 2) = ((x : Int), true) := AT_dd (by omega) (by rw [extract_list, hl]; rfl)
    have A1 : AT ((bsOf (timeL (n * k * 60) d)).extract 3 5) = ((y : Int), true) := AT_dd (by omega) (by rw [extract_list, hl]; rfl)
    have A2 : AT ((bsOf (timeL (n * k * 60) d)).extract 6 8) = ((z : Int), true) := AT_dd (by omega) (by rw [extract_list, hl]; rfl)
    rw [pd3_eq (by omega) h4 (by omega) (by omega), A0, A1, A2, if_pos ⟨⟨rfl, rfl, rfl⟩, ⟨by show (0 : Int) ≤ (x : Int); omega, by show (x : Int) ≤ _; omega⟩, ⟨by show (0 : Int) ≤ (y : Int); omega, by show (y : Int) ≤ _; omega⟩, ⟨by show (0 : Int) ≤ (z : Int); omega, by show (z : Int) ≤ _; omega⟩⟩]
    exact (pd5_eq hN h6 h4 (by omega) (by omega) (by omega) q1 q2 q3 (key num den e)).1 h3 rfl
  rw [top_eq hN h6 h4 (by omega) (by omega)]
  by_cases c : (pr (60 * (n * k * 60)) d).1 = 0
  · have hden : (pr (60 * (n * k * 60)) d).2 = 1 := by have := hf.2.2.1; rw [c, Nat.gcd_zero_left] at this; exact this
    have ht : tailL (pr (60 * (n * k * 60)) d) = [] := by unfold tailL; rw [if_pos c]
    rw [ht] at hsz
    rw [if_pos (by simpa using hsz)]
    exact fin 0 1 (by rw [← c, ← hden]) (by omega) (by omega) (by omega)
  · have ht : tailL (pr (60 * (n * k * 60)) d) = 43 :: (Lib.decDigits (pr (60 * (n * k * 60)) d).1 ++ 47 :: Lib.decDigits (pr (60 * (n * k * 60)) d).2) := by unfold tailL; rw [if_neg c]; simp
    rw [if_neg (by rw [hsz, ht]; simp)]
    have hQ := ext_rest (s := bsOf (timeL (n * k * 60) d)) (by rw [hsz, ht]; simp; omega)
    dsimp only
    generalize ((bsOf (timeL (n * k * 60) d)).extract 8 (bsOf (timeL (n * k * 60) d)).size).extract 1 ((bsOf (timeL (n * k * 60) d)).extract 8 (bsOf (timeL (n * k * 60) d)).size).size = Q at *
    rw [hl, ht] at hQ
    have hc := cut_sep (x := Lib.decDigits (pr (60 * (n * k * 60)) d).1) (y := Lib.decDigits (pr (60 * (n * k * 60)) d).2) hQ (no47 _)
    rw [hc]
    dsimp only
    rw [RN_dec (by omega), RN_dec (by omega), if_pos ⟨rfl, rfl, by show ¬ (((pr (60 * (n * k * 60)) d).2 : Nat) : Int) = 0; omega⟩]
    exact fin (pr (60 * (n * k * 60)) d).1 (pr (60 * (n * k * 60)) d).2 rfl (by omega) (by omega) (by omega)
end Go.Proofs.YtccjoegnkiaibaaGreatDoor.M
namespace Go.Proofs.YtccjoegnkiaibaaGreatDoor.M
open Go Go.PM
set_option linter.unusedVariables false
set_option linter.unusedSimpArgs false
theorem and255 (x : Int) : 0 ≤ w64 (andK .u64 x 255) ∧ w64 (andK .u64 x 255) ≤ 255 := by
  have e : (BitVec.ofInt IntKind.u64.bits x &&& BitVec.ofInt IntKind.u64.bits 255).toNat ≤ 255 := by
    rw [BitVec.toNat_and]
    exact Nat.le_trans Nat.and_le_right (by decide)
  unfold andK
  generalize (BitVec.ofInt IntKind.u64.bits x &&& BitVec.ofInt IntKind.u64.bits 255).toNat = n at e
  have e1 : IntKind.wrap .u64 (n : Int) = n := by
    unfold IntKind.wrap
    have : (n : Int) % (2 ^ IntKind.u64.bits : Int) = n := by
      show (n : Int) % (18446744073709551616 : Int) = n
      omega
    rw [this]
    rfl
  rw [e1, w64s (by omega) (by omega)]
  omega
/-- bytes -/
def Bs (code : List Int) : Prop := code.length ≤ 1048576 ∧ ∀ x ∈ code, 0 ≤ x ∧ x ≤ 255
theorem next_tot (N : Nat) {code : List Int} (hc : Bs code) {pos : Int} (h1 : 0 ≤ pos) (h2 : pos ≤ 1000000000) (seed : Int) :
    Tot (zq103.g N code pos seed) fun r => (0 ≤ r.1 ∧ r.1 ≤ 255) ∧ r.2.1 = code ∧ 0 ≤ r.2.2.1 ∧ r.2.2.1 ≤ pos + 1 := by
  have key : ∀ b, 0 ≤ b → b ≤ 255 → Tot (zq103.d1 N b code pos seed) fun r => (0 ≤ r.1 ∧ r.1 ≤ 255) ∧ r.2.1 = code ∧ 0 ≤ r.2.2.1 ∧ r.2.2.1 ≤ pos + 1 := by
    intro b hb1 hb2
    unfold zq103.d1 zq103.o1
    rw [w64s (n := pos + 1) (by omega) (by omega)]
    refine Tot.bif (fun _ => Tot.now ⟨⟨hb1, hb2⟩, rfl, ?_, ?_⟩) (fun _ => Tot.now ⟨and255 _, rfl, ?_, ?_⟩)
    all_goals (dsimp only; omega)
  unfold zq103.g zq103.o0
  dsimp only
  refine Tot.dif (fun hlt => ?_) (fun hlt => key 0 (by omega) (by omega))
  have hl : pos.toNat < code.length := by omega
  rw [dcT h1, cond_true, dcT hlt, cond_true, getAt hl]
  have := hc.2 code[pos.toNat] (List.getElem_mem hl)
  rw [w64s (by omega) (by omega)]
  exact key _ this.1 this.2
theorem pick_tot (N : Nat) {code : List Int} (hc : Bs code) (n : Int) {pos : Int} (h1 : 0 ≤ pos) (h2 : pos ≤ 1000000) (seed : Int) :
    Tot (zq105.g N n code pos seed) fun r => (0 ≤ r.1 ∧ (r.1 < n ∨ r.1 = 0)) ∧ r.2.1 = code ∧ 0 ≤ r.2.2.1 ∧ r.2.2.1 ≤ pos + 2 := by
  have key : ∀ x p s, 1 < n → 0 ≤ x → 0 ≤ p → p ≤ pos + 2 → Tot (zq105.d1 N n x code p s) fun r => (0 ≤ r.1 ∧ (r.1 < n ∨ r.1 = 0)) ∧ r.2.1 = code ∧ 0 ≤ r.2.2.1 ∧ r.2.2.1 ≤ pos + 2 := by
    intro x p s hn hx hp1 hp2
    unfold zq105.d1 zq105.o1
    rw [ieqF (by omega), cond_false]
    refine Tot.now ⟨⟨Int.tmod_nonneg _ hx, .inl ?_⟩, rfl, hp1, hp2⟩
    exact Int.tmod_lt_of_pos _ (by omega)
  unfold zq105.g zq105.o0
  dsimp only
  refine Tot.dif (fun hlt => Tot.now ⟨⟨by dsimp only; omega, .inr rfl⟩, rfl, h1, by dsimp only; omega⟩) (fun hlt => ?_)
  refine Tot.bind (next_tot N hc h1 (by omega) seed) ?_
  rintro ⟨x, c, p, s⟩ ⟨⟨x1, x2⟩, rfl, p1, p2⟩
  dsimp only at x1 x2 p1 p2 ⊢
  refine Tot.dif (fun hgt => ?_) (fun hgt => ?_)
  · refine Tot.bind (next_tot N hc p1 (by omega) s) ?_
    rintro ⟨y, c, q, t⟩ ⟨⟨y1, y2⟩, rfl, q1, q2⟩
    dsimp only at y1 y2 q1 q2 ⊢
    rw [w64s (n := x * 256) (by omega) (by omega), w64s (by omega) (by omega)]
    exact key _ _ _ (by omega) (by omega) q1 (by omega)
  · exact key _ _ _ (by omega) x1 p1 (by omega)
theorem among_tot (N : Nat) {code : List Int} (hc : Bs code) (l : List Int) (hl : 0 < l.length) {pos : Int} (h1 : 0 ≤ pos) (h2 : pos ≤ 1000000) (seed : Int) :
    Tot (zq100.g N l code pos seed) fun r => r.1 ∈ l ∧ r.2.1 = code ∧ 0 ≤ r.2.2.1 ∧ r.2.2.1 ≤ pos + 2 := by
  unfold zq100.g zq100.o0
  refine Tot.bind (pick_tot N hc _ h1 h2 seed) ?_
  rintro ⟨x, c, p, s⟩ ⟨⟨x1, x2⟩, rfl, p1, p2⟩
  dsimp only at x1 x2 p1 p2 ⊢
  have hx : x.toNat < l.length := by omega
  rw [dcT x1, cond_true, dcT (by omega), cond_true, getAt hx]
  exact Tot.now ⟨List.getElem_mem hx, rfl, p1, p2⟩
theorem most_eq (N : Nat) (a b : Int) : zq111.g N a b = some (if a > b then a else b) := by
  unfold zq111.g zq111.o0
  by_cases h : a > b
  · rw [dcT h, if_pos h]; rfl
  · rw [dcF h, if_neg h]; rfl
end Go.Proofs.YtccjoegnkiaibaaGreatDoor.M
namespace Go.Proofs.YtccjoegnkiaibaaGreatDoor.M
open Go Go.PM Go.Proofs.YtccjoegnkiaibaaGreatDoor.P
set_option linter.unusedVariables false
set_option linter.unusedSimpArgs false
set_option maxRecDepth 100000
/-! ### draws -/
theorem hours_tot (N : Nat) {code : List Int} (hc : Bs code) {pos : Int} (h1 : 0 ≤ pos) (h2 : pos ≤ 1000000) (seed : Int) :
    Tot (zq102.g N code pos seed) fun r => r.2.1 = code ∧ 0 ≤ r.2.2.1 ∧ r.2.2.1 ≤ pos + 2 := by
  unfold zq102.g zq102.o0
  refine Tot.bind (among_tot N hc _ (by simp) h1 h2 seed) ?_
  rintro ⟨x, c, p, s⟩ ⟨_, rfl, p1, p2⟩
  exact Tot.now ⟨rfl, p1, p2⟩
theorem sure_tot {N : Nat} (hN : 10000000 ≤ N) {code : List Int} (hc : Bs code) {pos : Int} (h1 : 0 ≤ pos) (h2 : pos ≤ 100000) (seed : Int) :
    Tot (zq108.g N code pos seed) fun r => (∃ a b : Nat, r.1 = a ∧ r.2.1 = b ∧ Turn a b) ∧ r.2.2.1 = code ∧ 0 ≤ r.2.2.2.1 ∧ r.2.2.2.1 ≤ pos + 4 := by
  unfold zq108.g zq108.o0
  refine Tot.bind (pick_tot N hc _ h1 (by omega) seed) ?_
  rintro ⟨x, c, p, s⟩ ⟨⟨x1, x2⟩, rfl, p1, p2⟩
  dsimp only at x1 x2 p1 p2 ⊢
  have hl : (([1, 2, 3, 4, 6, 8, 11, 12, 13, 24, 60, 143, 720, 719, 7, 5] : List Int).length : Int) = 16 := rfl
  rw [hl] at x2
  have hx : x.toNat < ([1, 2, 3, 4, 6, 8, 11, 12, 13, 24, 60, 143, 720, 719, 7, 5] : List Int).length := by show x.toNat < 16; omega
  rw [dcT x1, cond_true, dcT (by rw [hl]; omega), cond_true, getAt hx]
  have hy := List.getElem_mem hx
  generalize ([1, 2, 3, 4, 6, 8, 11, 12, 13, 24, 60, 143, 720, 719, 7, 5] : List Int)[x.toNat] = y at *
  have hy2 : 1 ≤ y ∧ y ≤ 720 := by
    simp only [List.mem_cons, List.not_mem_nil, or_false] at hy
    omega
  obtain ⟨D, rfl⟩ := Int.eq_ofNat_of_zero_le (show 0 ≤ y by omega)
  refine Tot.bind (pick_tot N hc _ p1 (by omega) s) ?_
  rintro ⟨u, c', q, t⟩ ⟨⟨u1, u2⟩, hcc, q1, q2⟩
  dsimp only at u1 u2 hcc q1 q2 ⊢
  obtain ⟨m, rfl⟩ := Int.eq_ofNat_of_zero_le u1
  have hsp := pr_spec (n := m) (d := D) (by omega)
  rw [make_eq (by omega) (by omega) (by omega), mkV_ok (by omega), Option.bind_some]
  exact Tot.now ⟨⟨(pr m D).1, (pr m D).2, rfl, rfl, hsp.1, by omega, hsp.2.2.1⟩, hcc, q1, by dsimp only; omega⟩
theorem turn_tot {N : Nat} (hN : 10000000 ≤ N) {code : List Int} (hc : Bs code) {pos : Int} (h1 : 0 ≤ pos) (h2 : pos ≤ 10000) (seed : Int) :
    Tot (zq109.g N code pos seed) fun r => r.2.2.1 = code ∧ 0 ≤ r.2.2.2.1 ∧ r.2.2.2.1 ≤ pos + 6 := by
  unfold zq109.g zq109.o0
  refine Tot.bind (pick_tot N hc 16 h1 (by omega) seed) ?_
  rintro ⟨x, c, p, s⟩ ⟨⟨x1, x2⟩, rfl, p1, p2⟩
  dsimp only at x1 x2 p1 p2 ⊢
  refine Tot.bif (fun _ => ?_) (fun _ => Tot.bif (fun _ => ?_) (fun _ => Tot.bif (fun _ => ?_) (fun _ => ?_)))
  · refine Tot.bind (among_tot N hc _ (by simp) p1 (by omega) s) ?_
    rintro ⟨y, c', q, t⟩ ⟨_, hcc, q1, q2⟩
    dsimp only at hcc q1 q2 ⊢
    subst hcc
    refine Tot.bind (among_tot N hc _ (by simp) q1 (by omega) t) ?_
    rintro ⟨z, c'', q', t'⟩ ⟨_, hcc, q1', q2'⟩
    exact Tot.now ⟨hcc, q1', by dsimp only at q2' ⊢; omega⟩
  · refine Tot.bind (among_tot N hc _ (by simp) p1 (by omega) s) ?_
    rintro ⟨y, c', q, t⟩ ⟨_, hcc, q1, q2⟩
    exact Tot.now ⟨hcc, q1, by dsimp only at q2 ⊢; omega⟩
  · refine Tot.bind (pick_tot N hc _ p1 (by omega) s) ?_
    rintro ⟨y, c', q, t⟩ ⟨_, hcc, q1, q2⟩
    exact Tot.now ⟨hcc, q1, by dsimp only at q2 ⊢; omega⟩
  · refine Tot.bind (sure_tot hN hc p1 (by omega) s) ?_
    rintro ⟨y, y', c', q, t⟩ ⟨_, hcc, q1, q2⟩
    exact Tot.now ⟨hcc, q1, by dsimp only at q2 ⊢; omega⟩
theorem wTurns_l (N : Nat) (l : List S25) (hs : l.length < 1000000000) : ∀ (d i n : Nat), i + d = l.length → d < n → zq52.l1 N n l l l.length i = some true
  | 0, i, n+1, hi, hn => by
    unfold zq52.l1 zq52.d1 zq52.o1
    rw [dcF (by omega), cond_false]
  | d+1, i, n+1, hi, hn => by
    unfold zq52.l1 zq52.d1 zq52.o1
    have hlt : i < l.length := by omega
    simp (disch := omega) only [dcT, cond_true, Int.toNat_natCast, getAt, beq_self_eq_true, Bool.and_self, Bool.not_true, cond_false, w1add]
    exact wTurns_l N l hs d (i+1) n (by omega) (by omega)
  | _, _, 0, _, hn => by omega
theorem wTurns_self {N : Nat} (l : List S25) (hs : l.length < 1000000000) (hN : l.length < N) : zq52.g N l l = some true := by
  unfold zq52.g zq52.o0
  rw [ineF rfl, cond_false]
  exact wTurns_l N l hs l.length 0 N (by omega) hN
theorem rts_get {n d k i j x : Nat} (h : x < (rts n d k i j).length) : (rts n d k i j)[x] = sT (rt n d k (i + x)) := by
  unfold rts at h ⊢
  rw [List.getElem_map, List.getElem_range', Nat.one_mul]
/-- rising -/
theorem rt_rise {n d k i : Nat} (hn : n < d) (hi : i + 1 < k) : (rt n d k i).1 * (rt n d k (i + 1)).2 < (rt n d k (i + 1)).1 * (rt n d k i).2 := by
  have hp : 0 < d * k := Nat.mul_pos (by omega) (by omega)
  have lt : ∀ x, x < k → n + x * d < d * k := by
    intro x hx
    have : (x + 1) * d ≤ k * d := Nat.mul_le_mul_right _ hx
    rw [Nat.add_mul, Nat.one_mul] at this
    rw [Nat.mul_comm d k]; omega
  have h1 := pr_lt hp (lt i (by omega))
  have h2 := pr_lt hp (lt (i + 1) hi)
  have q1 := pr_pos (n := n + i * d) hp
  have q2 := pr_pos (n := n + (i + 1) * d) hp
  unfold rt
  generalize pr (n + i * d) (d * k) = f at *
  generalize pr (n + (i + 1) * d) (d * k) = g at *
  refine Nat.lt_of_mul_lt_mul_right (a := d * k) ?_
  have e1 : f.1 * g.2 * (d * k) = (n + i * d) * (f.2 * g.2) := by rw [Nat.mul_right_comm, h1, Nat.mul_assoc]
  have e2 : g.1 * f.2 * (d * k) = (n + (i + 1) * d) * (f.2 * g.2) := by rw [Nat.mul_right_comm, h2, Nat.mul_assoc, Nat.mul_comm g.2]
  rw [e1, e2]
  refine Nat.mul_lt_mul_of_pos_right ?_ (Nat.mul_pos q1 q2)
  rw [Nat.add_mul]; omega
theorem rises_l {N : Nat} {n d k : Nat} (hn : n < d) (hd : d ≤ 1000000) (hk : k ≤ 24) (hok : (List.range' 0 k).all (okR n d k) = true) : ∀ (j i m : Nat), 1 ≤ i → i + j = k → j < m →
    zq49.l1 N m (rts n d k 0 k) i = some true
  | 0, i, m+1, h1, hi, hm => by
    unfold zq49.l1 zq49.d1 zq49.o1
    rw [dcF (by rw [rts_len]; omega), cond_false]
  | j+1, i, m+1, h1, hi, hm => by
    obtain ⟨i, rfl⟩ : ∃ u, i = u + 1 := ⟨i - 1, by omega⟩
    have hl := rts_len n d k 0 k
    have ok : ∀ x, x < k → (rt n d k x).2 ≤ 1000000 := fun x hx => of_decide_eq_true (List.all_eq_true.1 hok x (by rw [List.mem_range'_1]; omega))
    have lt : ∀ x, x < k → (rt n d k x).1 < (rt n d k x).2 := fun x hx => (pr_spec (Nat.mul_pos (by omega) (by omega))).1
    have g1 : (rts n d k 0 k)[i]'(by omega) = sT (rt n d k i) := by rw [rts_get]; congr 2; omega
    have g2 : (rts n d k 0 k)[i + 1]'(by omega) = sT (rt n d k (i + 1)) := by rw [rts_get]; congr 2; omega
    have hr := rt_rise (k := k) (i := i) hn (by omega)
    have o1 := ok i (by omega); have o2 := ok (i + 1) (by omega)
    have l1 := lt i (by omega); have l2 := lt (i + 1) (by omega)
    unfold zq49.l1 zq49.d1 zq49.o1
    rw [show w64 (((i + 1 : Nat) : Int) - 1) = (i : Int) by rw [w64s (by omega) (by omega)]; omega]
    rw [dcT (show ((i + 1 : Nat) : Int) < ((rts n d k 0 k).length : Int) by omega), dcT (show (0 : Int) ≤ (i : Int) by omega), dcT (show (i : Int) < ((rts n d k 0 k).length : Int) by omega), dcT (show (0 : Int) ≤ ((i + 1 : Nat) : Int) by omega)]
    simp only [cond_true, Int.toNat_natCast]
    rw [getAt (show i < (rts n d k 0 k).length by omega), getAt (show i + 1 < (rts n d k 0 k).length by omega), getAt (show i + 1 < (rts n d k 0 k).length by omega), getAt (show i < (rts n d k 0 k).length by omega), g1, g2]
    have m1 : (rt n d k i).1 * (rt n d k (i + 1)).2 ≤ 1000000 * 1000000 := Nat.mul_le_mul (by omega) o2
    have m2 : (rt n d k (i + 1)).1 * (rt n d k i).2 ≤ 1000000 * 1000000 := Nat.mul_le_mul (by omega) o1
    have w1 : w64 ((sT (rt n d k i)).f0 * (sT (rt n d k (i + 1))).f1) = (((rt n d k i).1 * (rt n d k (i + 1)).2 : Nat) : Int) := by
      show w64 (((rt n d k i).1 : Int) * ((rt n d k (i + 1)).2 : Int)) = _
      rw [← Int.natCast_mul, w64n (by omega)]
    have w2 : w64 ((sT (rt n d k (i + 1))).f0 * (sT (rt n d k i)).f1) = (((rt n d k (i + 1)).1 * (rt n d k i).2 : Nat) : Int) := by
      show w64 (((rt n d k (i + 1)).1 : Int) * ((rt n d k i).2 : Int)) = _
      rw [← Int.natCast_mul, w64n (by omega)]
    rw [w1, w2, dcF (by omega), cond_false, w1add (by omega)]
    exact rises_l hn hd hk hok j (i + 1 + 1) m (by omega) (by omega) (by omega)
  | _, _, 0, _, _, hm => by omega
theorem rises_eq {N : Nat} (hN : 100 ≤ N) {n d k : Nat} (hn : n < d) (hd : d ≤ 1000000) (hk1 : 1 ≤ k) (hk : k ≤ 24) (hok : (List.range' 0 k).all (okR n d k) = true) : zq49.g N (rts n d k 0 k) = some true := by
  obtain ⟨j, rfl⟩ : ∃ j, k = 1 + j := ⟨k - 1, by omega⟩
  exact rises_l hn hd hk hok j 1 N (by omega) rfl (by omega)
/-! ### leap rules -/
structure Rule (E B Y : Nat) : Prop where
  e1 : 1 ≤ E
  e2 : E ≤ 10000
  b : B = 0 ∨ E < B
  b2 : B ≤ 10000
  y : Y = 0 ∨ (0 < B ∧ B < Y)
  y2 : Y ≤ 10000
theorem rule_eq (N : Nat) (e b y : Int) : ∃ v, zq6.g N e b y = some v ∧ zq86.g N e b y = some v ∧ (v = true → ∃ E B Y : Nat, e = E ∧ b = B ∧ y = Y ∧ Rule E B Y) := by
  have bad : ∀ u v w : Int, zq86.d1 N true u v w = some false := fun _ _ _ => rfl
  unfold zq6.g zq6.o0 zq86.g zq86.o0
  rw [within_eq, l1In_eq, Option.bind_some, Option.bind_some]
  cases h1 : inB e 1 10000 with
  | false => exact ⟨false, rfl, rfl, fun h => by cases h⟩
  | true =>
    have h1' := inB_iff.1 h1
    rw [cond_true, Bool.not_true, cond_false, l1In_eq, Option.bind_some]
    unfold zq38.g zq38.o0
    by_cases c0 : b = 0
    · subst c0
      rw [ieqT rfl, cond_true, Option.bind_some, cond_true, inB_iff.2 ⟨by omega, by omega⟩, Bool.not_true, cond_false, l1In_eq, Option.bind_some]
      by_cases c1 : y = 0
      · subst c1
        rw [ieqT rfl, cond_true, Option.bind_some, inB_iff.2 ⟨by omega, by omega⟩, Bool.not_true]
        refine ⟨true, rfl, rfl, fun _ => ⟨e.toNat, 0, 0, by omega, rfl, rfl, by omega, by omega, .inl rfl, by omega, .inl rfl, by omega⟩⟩
      · rw [ieqF c1, cond_false, dcF (by omega), cond_false, Option.bind_some]
        refine ⟨false, rfl, ?_, fun h => by cases h⟩
        cases c2 : inB y 0 10000 with
        | false => rfl
        | true =>
          rw [Bool.not_true]
          unfold zq86.d1 zq86.o1
          dsimp only
          rw [cond_false, ieqT rfl, cond_true, ieqF c1]
    · rw [ieqF c0, cond_false, dcT (by omega), cond_true, w64s (by omega) (by omega), within_eq, Option.bind_some]
      cases c2 : inB b (e + 1) 10000 with
      | false =>
        have c2' := inB_not.1 c2
        refine ⟨false, rfl, ?_, fun h => by cases h⟩
        cases c3 : inB b 0 10000 with
        | false => rfl
        | true =>
          have c3' := inB_iff.1 c3
          rw [Bool.not_true, cond_false, l1In_eq, Option.bind_some]
          cases c4 : inB y 0 10000 with
          | false => rfl
          | true =>
            rw [Bool.not_true]
            unfold zq86.d1 zq86.o1
            dsimp only
            rw [cond_false, ieqF c0, cond_false, dcF (by omega), cond_false]
      | true =>
        have c2' := inB_iff.1 c2
        rw [cond_true, ieqF (by omega), cond_false, Option.bind_some, inB_iff.2 ⟨by omega, by omega⟩, Bool.not_true, cond_false, l1In_eq, Option.bind_some]
        have sp : zq86.d1 N false e b y = bif (Int.tmod b e == 0) then (bif (y == 0) then some true else bif (decide (y > b)) then bif (b == 0) then none else some (Int.tmod y b == 0) else some false) else some false := by
          unfold zq86.d1 zq86.o1
          rw [cond_false, ieqF c0, cond_false, dcT (show b > e by omega), cond_true, ieqF (show ¬ e = 0 by omega), cond_false]
        cases c3 : (Int.tmod b e == 0) with
        | false =>
          refine ⟨false, rfl, ?_, fun h => by cases h⟩
          cases c4 : inB y 0 10000 with
          | false => rfl
          | true => rw [Bool.not_true]; dsimp only; rw [sp, c3]; rfl
        | true =>
          rw [cond_true]
          by_cases c5 : y = 0
          · subst c5
            rw [ieqT rfl, cond_true, Option.bind_some, inB_iff.2 ⟨by omega, by omega⟩, Bool.not_true]
            dsimp only
            rw [sp, c3]
            exact ⟨true, rfl, rfl, fun _ => ⟨e.toNat, b.toNat, 0, by omega, by omega, rfl, by omega, by omega, by omega, by omega, .inl rfl, by omega⟩⟩
          · rw [ieqF c5, cond_false, dcT (show b > 0 by omega), cond_true, w64s (by omega) (by omega), within_eq, Option.bind_some]
            cases c6 : inB y (b + 1) 10000 with
            | false =>
              have c6' := inB_not.1 c6
              refine ⟨false, rfl, ?_, fun h => by cases h⟩
              cases c4 : inB y 0 10000 with
              | false => rfl
              | true =>
                have c4' := inB_iff.1 c4
                rw [Bool.not_true]; dsimp only; rw [sp, c3, ieqF c5, dcF (by omega)]; rfl
            | true =>
              have c6' := inB_iff.1 c6
              rw [cond_true, Option.bind_some, inB_iff.2 ⟨by omega, by omega⟩, Bool.not_true]
              dsimp only
              rw [sp, c3, ieqF c5, dcT (show y > b by omega), ieqF c0]
              exact ⟨_, rfl, rfl, fun _ => ⟨e.toNat, b.toNat, y.toNat, by omega, by omega, by omega, by omega, by omega, by omega, by omega, by omega, by omega⟩⟩
def fracB (n d : Int) : Bool := inB d 2 100000 && inB n 1 (d - 1)
theorem frac_eq (N : Nat) (n d : Int) : zq37.g N n d = some (fracB n d) ∧ zq84.g N n d = some (fracB n d) := by
  unfold zq37.g zq37.o0 zq84.g zq84.o0 fracB
  rw [within_eq, l1In_eq, Option.bind_some, Option.bind_some]
  constructor
  · cases h1 : inB d 1 100000 with
    | false =>
      rw [cond_false]
      have : inB d 2 100000 = false := by have := inB_not.1 h1; rw [inB_not]; omega
      rw [this]; rfl
    | true =>
      have h1' := inB_iff.1 h1
      rw [cond_true, w64s (by omega) (by omega), within_eq, Option.bind_some]
      cases h2 : inB d 2 100000 with
      | false =>
        have h2' := inB_not.1 h2
        have : inB n 1 (d - 1) = false := by rw [inB_not]; omega
        rw [this]; rfl
      | true => rfl
  · cases h2 : inB d 2 100000 with
    | false => rfl
    | true =>
      have h2' := inB_iff.1 h2
      rw [cond_true, w64s (by omega) (by omega), l1In_eq, Option.bind_some]; rfl
theorem fracB_iff {n d : Int} (h : fracB n d = true) : ∃ a b : Nat, n = a ∧ d = b ∧ 1 ≤ a ∧ a < b ∧ b ≤ 100000 := by
  unfold fracB at h
  rw [Bool.and_eq_true, inB_iff, inB_iff] at h
  exact ⟨n.toNat, d.toNat, by omega, by omega, by omega, by omega, by omega⟩
def cyc (E B Y : Nat) : Nat := if 0 < Y then Y else if 0 < B then B else E
theorem cyc_le {E B Y : Nat} (h : Rule E B Y) : 1 ≤ cyc E B Y ∧ cyc E B Y ≤ 10000 := by
  obtain ⟨h1, h2, h3, h4, h5, h6⟩ := h
  unfold cyc
  split
  · omega
  · split <;> omega
theorem cyc_eq (N : Nat) {E B Y : Nat} (h : Rule E B Y) : zq8.g N E B Y = some (cyc E B Y : Int) ∧ zq83.g N E B Y = some (cyc E B Y : Int) := by
  obtain ⟨h1, h2, h3, h4, h5, h6⟩ := h
  unfold cyc
  constructor
  · unfold zq8.g zq8.o0
    by_cases c : 0 < Y
    · rw [dcT (by omega), if_pos c]; rfl
    · rw [dcF (by omega), if_neg c, cond_false]
      by_cases c2 : 0 < B
      · rw [dcT (by omega), if_pos c2]; rfl
      · rw [dcF (by omega), if_neg c2]; rfl
  · unfold zq83.g zq83.o0
    rw [most_eq, Option.bind_some, most_eq, Option.bind_some]
    refine congrArg some (show (_ : Int) = (_ : Int) from ?_)
    by_cases cY : 0 < Y
    · rw [if_pos cY]; repeat' split
      all_goals omega
    · rw [if_neg cY]
      by_cases cB : 0 < B
      · rw [if_pos cB]; repeat' split
        all_goals omega
      · rw [if_neg cB]; repeat' split
        all_goals omega
def lpV (E B Y c : Nat) : Int := ((c / E : Nat) : Int) - (if 0 < B then ((c / B : Nat) : Int) else 0) + (if 0 < Y then ((c / Y : Nat) : Int) else 0)
theorem lpV_le (E B Y : Nat) {c : Nat} (hc : c ≤ 10000) : -20000 ≤ lpV E B Y c ∧ lpV E B Y c ≤ 20000 := by
  have h1 : c / E ≤ c := Nat.div_le_self _ _
  have h2 : c / B ≤ c := Nat.div_le_self _ _
  have h3 : c / Y ≤ c := Nat.div_le_self _ _
  unfold lpV
  generalize c / E = x at *
  generalize c / B = y at *
  generalize c / Y = z at *
  split <;> split <;> omega
theorem leaps_eq (N : Nat) {E B Y c : Nat} (hE : 1 ≤ E) (hc : c ≤ 10000) : zq9.g N E B Y c = some (lpV E B Y c) ∧ zq82.g N E B Y c = some (lpV E B Y c) := by
  have h1 : c / E ≤ c := Nat.div_le_self _ _
  have h2 : c / B ≤ c := Nat.div_le_self _ _
  have h3 : c / Y ≤ c := Nat.div_le_self _ _
  constructor
  · unfold zq9.g zq9.o0 zq9.d1 zq9.o1 zq9.d2 zq9.o2 lpV
    dsimp only
    rw [ieqF (by omega), cond_false, tdivN, tdivN, tdivN]
    generalize c / E = x at *
    generalize c / B = y at *
    generalize c / Y = z at *
    rw [w64n (by omega), w64n (by omega), w64n (by omega), w64s (n := (x : Int) - (y : Int)) (by omega) (by omega)]
    by_cases cB : 0 < B
    · rw [dcT (show (B : Int) > 0 by omega), cond_true, ieqF (show ¬ (B : Int) = 0 by omega), cond_false, if_pos cB]
      by_cases cY : 0 < Y
      · rw [dcT (show (Y : Int) > 0 by omega), cond_true, ieqF (show ¬ (Y : Int) = 0 by omega), cond_false, if_pos cY, w64s (by omega) (by omega)]
      · rw [dcF (show ¬ (Y : Int) > 0 by omega), cond_false, if_neg cY, Int.add_zero]
    · rw [dcF (show ¬ (B : Int) > 0 by omega), cond_false, if_neg cB, Int.sub_zero]
      by_cases cY : 0 < Y
      · rw [dcT (show (Y : Int) > 0 by omega), cond_true, ieqF (show ¬ (Y : Int) = 0 by omega), cond_false, if_pos cY, w64s (by omega) (by omega)]
      · rw [dcF (show ¬ (Y : Int) > 0 by omega), cond_false, if_neg cY, Int.add_zero]
  · unfold zq82.g zq82.o0 zq82.d1 zq82.o1 zq82.d2 zq82.o2 lpV
    dsimp only
    rw [ieqF (by omega), cond_false, tdivN, tdivN, tdivN]
    generalize c / E = x at *
    generalize c / B = y at *
    generalize c / Y = z at *
    rw [w64n (by omega), w64n (by omega), w64n (by omega), w64s (n := (x : Int) - (y : Int)) (by omega) (by omega)]
    by_cases cB : 0 < B
    · rw [dcT (show (B : Int) > 0 by omega), cond_true, ieqF (show ¬ (B : Int) = 0 by omega), cond_false, if_pos cB]
      by_cases cY : 0 < Y
      · rw [dcT (show (Y : Int) > 0 by omega), cond_true, ieqF (show ¬ (Y : Int) = 0 by omega), cond_false, if_pos cY, w64s (by omega) (by omega)]
      · rw [dcF (show ¬ (Y : Int) > 0 by omega), cond_false, if_neg cY, Int.add_zero]
    · rw [dcF (show ¬ (B : Int) > 0 by omega), cond_false, if_neg cB, Int.sub_zero]
      by_cases cY : 0 < Y
      · rw [dcT (show (Y : Int) > 0 by omega), cond_true, ieqF (show ¬ (Y : Int) = 0 by omega), cond_false, if_pos cY, w64s (by omega) (by omega)]
      · rw [dcF (show ¬ (Y : Int) > 0 by omega), cond_false, if_neg cY, Int.add_zero]
/-! ### by how much a rule is off -/
theorem gcdI_l (N : Nat) : ∀ (n : Nat) (a b : Int), b.natAbs < n → a.natAbs ≤ 1000000000000000 → b.natAbs ≤ 1000000000000000 → zq33.l1 N n a b = some ((Nat.gcd a.natAbs b.natAbs : Nat) : Int)
  | n+1, a, b, hb, h1, h2 => by
    unfold zq33.l1 zq33.d1 zq33.o1
    by_cases e : b = 0
    · subst e
      rw [ineF rfl, cond_false, w64s (by omega) (by omega), Int.natAbs_zero, Nat.gcd_zero_right]
      refine congrArg some (show (_ : Int) = (_ : Int) from ?_)
      split <;> omega
    · have hm : a.natAbs % b.natAbs < b.natAbs := Nat.mod_lt _ (by omega)
      have ht : (Int.tmod a b).natAbs = a.natAbs % b.natAbs := Int.natAbs_tmod a b
      rw [ineT e, cond_true, ieqF e, cond_false]
      refine (gcdI_l N n b (Int.tmod a b) (by omega) h2 (by omega)).trans ?_
      rw [ht, Nat.gcd_comm b.natAbs, ← Nat.gcd_rec, Nat.gcd_comm]
  | 0, _, _, hb, _, _ => by omega
theorem abs_eq (N : Nat) {a : Int} (h : a.natAbs ≤ 1000000000000000) : zq99.g N a = some (a.natAbs : Int) := by
  unfold zq99.g zq99.o0
  rw [w64s (by omega) (by omega), most_eq, Option.bind_some]
  refine congrArg some (show (_ : Int) = (_ : Int) from ?_)
  split <;> omega
def n0 (E B Y num den : Nat) : Int := lpV E B Y (cyc E B Y) * den - num * (cyc E B Y : Int)
theorem n0_le {E B Y num den : Nat} (h : Rule E B Y) (hn : num < den) (hd : den ≤ 100000) : -3000000000 ≤ n0 E B Y num den ∧ n0 E B Y num den ≤ 3000000000 ∧
    (-2000000000 ≤ lpV E B Y (cyc E B Y) * den ∧ lpV E B Y (cyc E B Y) * den ≤ 2000000000) ∧ num * cyc E B Y ≤ 1000000000 ∧ cyc E B Y * den ≤ 1000000000 := by
  have hc := cyc_le h
  have hl := lpV_le E B Y hc.2
  have a1 : num * cyc E B Y ≤ 100000 * 10000 := Nat.mul_le_mul (by omega) hc.2
  have a2 : cyc E B Y * den ≤ 10000 * 100000 := Nat.mul_le_mul hc.2 hd
  have a3 : lpV E B Y (cyc E B Y) * (den : Int) ≤ 20000 * (den : Int) := Int.mul_le_mul_of_nonneg_right hl.2 (by omega)
  have a4 : -20000 * (den : Int) ≤ lpV E B Y (cyc E B Y) * (den : Int) := Int.mul_le_mul_of_nonneg_right hl.1 (by omega)
  unfold n0
  rw [← Int.natCast_mul]
  omega
theorem off_eq {N : Nat} (hN : 1000000000000 < N) {E B Y num den : Nat} (h : Rule E B Y) (h1 : 1 ≤ num) (hn : num < den) (hd : den ≤ 100000) : ∃ (x : Int) (y g : Nat),
    zq10.g N E B Y num den = some (x, (y : Int)) ∧ zq85.g N E B Y num den = some (x, (y : Int)) ∧ n0 E B Y num den = x * g ∧ cyc E B Y * den = y * g ∧ 1 ≤ g ∧ 1 ≤ y := by
  have hc := cyc_le h
  obtain ⟨b1, b2, ⟨b3, b4⟩, b5, b6⟩ := n0_le h hn hd
  have hD : 1 ≤ cyc E B Y * den := Nat.mul_pos (by omega) (by omega)
  have hl := leaps_eq N (E := E) (B := B) (Y := Y) h.e1 hc.2
  have hcy := cyc_eq N h
  have e0 : w64 (w64 (lpV E B Y (cyc E B Y) * (den : Int)) - w64 ((num : Int) * (cyc E B Y : Int))) = n0 E B Y num den := by
    rw [w64s (n := lpV E B Y (cyc E B Y) * (den : Int)) (by omega) (by omega), ← Int.natCast_mul, w64n (by omega), Int.natCast_mul]
    exact w64s (by show _ ≤ n0 E B Y num den; omega) (by show n0 E B Y num den < _; omega)
  have e1 : w64 ((cyc E B Y : Int) * (den : Int)) = ((cyc E B Y * den : Nat) : Int) := by rw [← Int.natCast_mul, w64n (by omega)]
  have hg : zq33.g N (n0 E B Y num den) ((cyc E B Y * den : Nat) : Int) = some ((Nat.gcd (n0 E B Y num den).natAbs (cyc E B Y * den) : Nat) : Int) := by
    have := gcdI_l N N (n0 E B Y num den) ((cyc E B Y * den : Nat) : Int) (by rw [Int.natAbs_natCast]; omega) (by omega) (by rw [Int.natAbs_natCast]; omega)
    rw [Int.natAbs_natCast] at this
    exact this
  have hs := common_eq (N := N) (a := (n0 E B Y num den).natAbs) (b := cyc E B Y * den) (by omega) (by omega) (by omega)
  have ha := abs_eq N (a := n0 E B Y num den) (by omega)
  have hI : zq10.g N E B Y num den = (zq40.g N (n0 E B Y num den) ((cyc E B Y * den : Nat) : Int)).bind fun r => some (r.1, r.2) := by
    unfold zq10.g zq10.o0
    rw [hcy.1, Option.bind_some, hl.1, Option.bind_some, Option.bind_some, Option.bind_some, e0, e1]
  have hS : zq85.g N E B Y num den = (zq88.g N ((n0 E B Y num den).natAbs : Int) ((cyc E B Y * den : Nat) : Int)).bind fun r4 => bif (r4 == 0) then none else bif (r4 == 0) then none else some (w64 (Int.tdiv (n0 E B Y num den) r4), w64 (Int.tdiv ((cyc E B Y * den : Nat) : Int) r4)) := by
    unfold zq85.g zq85.o0
    rw [hcy.2, Option.bind_some, hl.2, Option.bind_some, e0, e1, ha, Option.bind_some]
  generalize n0 E B Y num den = z at *
  generalize cyc E B Y * den = D at *
  have hp : 0 < Nat.gcd z.natAbs D := Nat.gcd_pos_of_pos_right _ hD
  have hd1 : ((Nat.gcd z.natAbs D : Nat) : Int) ∣ z := Int.ofNat_dvd_left.2 (Nat.gcd_dvd_left _ _)
  have hd2 : Nat.gcd z.natAbs D ∣ D := Nat.gcd_dvd_right _ _
  rw [hI, hS, hs, Option.bind_some]
  unfold zq40.g zq40.o0
  rw [hg, Option.bind_some]
  generalize Nat.gcd z.natAbs D = g at *
  obtain ⟨x, hx⟩ := hd1
  obtain ⟨y, hy⟩ := hd2
  have ex : Int.tdiv z (g : Int) = x := by rw [hx]; exact Int.mul_tdiv_cancel_left _ (by omega)
  have ey : Int.tdiv (D : Int) (g : Int) = (y : Int) := by rw [tdivN, hy, Nat.mul_div_cancel_left _ hp]
  have yle : y ≤ D := by rw [hy]; exact Nat.le_mul_of_pos_left _ hp
  have xle : x.natAbs ≤ z.natAbs := by rw [hx, Int.natAbs_mul, Int.natAbs_natCast]; exact Nat.le_mul_of_pos_left _ hp
  have y1 : 1 ≤ y := by
    rcases Nat.eq_zero_or_pos y with e | e
    · subst e; simp at hy; omega
    · exact e
  rw [ieqF (by omega), cond_false, cond_false, ex, ey, w64s (n := x) (by omega) (by omega), w64n (by omega)]
  exact ⟨x, y, g, rfl, rfl, by rw [hx, Int.mul_comm], by rw [hy, Nat.mul_comm], hp, y1⟩
theorem OffBy_eq {N : Nat} (hN : 1000000000000 < N) (e b y num den : Int) : ∃ ro ry, zq15.g N e b y num den = some ro ∧ zq71.g N e b y num den = some ro ∧ zq29.g N e b y num den = some ry ∧ zq81.g N e b y num den = some ry ∧
    ((ro = (0, 0, false) ∧ ry = (0, false)) ∨ ∃ (E B Y a d : Nat) (x : Int) (z g : Nat), e = E ∧ b = B ∧ y = Y ∧ num = a ∧ den = d ∧ Rule E B Y ∧ 1 ≤ a ∧ a < d ∧ d ≤ 100000 ∧ ro = (x, (z : Int), true) ∧ n0 E B Y a d = x * g ∧ cyc E B Y * d = z * g ∧ 1 ≤ g ∧ 1 ≤ z ∧
      ry = if x = 0 then (0, false) else ((((z + x.natAbs - 1) / x.natAbs : Nat) : Int), true)) := by
  obtain ⟨v, r1, r2, r3⟩ := rule_eq N e b y
  have fr := frac_eq N num den
  unfold zq15.g zq15.o0 zq71.g zq71.o0 zq29.g zq29.o0 zq81.g zq81.o0
  rw [r1, r2, Option.bind_some, Option.bind_some, Option.bind_some, Option.bind_some, fr.1, fr.2, Option.bind_some, Option.bind_some, Option.bind_some, Option.bind_some]
  cases hv : v with
  | false => exact ⟨_, _, rfl, rfl, rfl, rfl, .inl ⟨rfl, rfl⟩⟩
  | true =>
    cases hf : fracB num den with
    | false => exact ⟨_, _, rfl, rfl, rfl, rfl, .inl ⟨rfl, rfl⟩⟩
    | true =>
      obtain ⟨E, B, Y, rfl, rfl, rfl, hR⟩ := r3 hv
      obtain ⟨a, d, rfl, rfl, f1, f2, f3⟩ := fracB_iff hf
      obtain ⟨x, z, g, o1, o2, o3, o4, o5, o6⟩ := off_eq hN hR f1 f2 f3
      have nb := n0_le hR f2 f3
      have xle : x.natAbs ≤ 3000000000 := by
        have h1 : (n0 E B Y a d).natAbs = x.natAbs * g := by rw [o3, Int.natAbs_mul, Int.natAbs_natCast]
        have h2 : x.natAbs ≤ x.natAbs * g := Nat.le_mul_of_pos_right _ o5
        omega
      have zle : z ≤ 1000000000 := by
        have h2 : z ≤ z * g := Nat.le_mul_of_pos_right _ o5
        omega
      rw [Bool.not_true, cond_false, cond_false, cond_false, cond_false]
      unfold zq15.d1 zq15.o1 zq71.d1 zq71.o1 zq29.d1 zq29.o1 zq81.d1 zq81.o1
      dsimp only
      rw [cond_false, cond_false, cond_false, cond_false, o1, o2, Option.bind_some, Option.bind_some, Option.bind_some]
      refine ⟨(x, (z : Int), true), if x = 0 then (0, false) else ((((z + x.natAbs - 1) / x.natAbs : Nat) : Int), true), rfl, rfl, ?_, ?_, .inr ⟨E, B, Y, a, d, x, z, g, rfl, rfl, rfl, rfl, rfl, hR, f1, f2, f3, rfl, o3, o4, o5, o6, rfl⟩⟩
      · have em : (if (w64 (0 - x)) > x then (w64 (0 - x)) else x) = (x.natAbs : Int) := by
          rw [w64s (by omega) (by omega)]; split <;> omega
        dsimp only
        rw [em]
        by_cases c : x = 0
        · subst c; rfl
        · have hq : (z + x.natAbs - 1) / x.natAbs ≤ z + x.natAbs - 1 := Nat.div_le_self _ _
          rw [ieqF (by omega), cond_false, cond_false, if_neg c, w64s (n := (z : Int) + (x.natAbs : Int)) (by omega) (by omega), w64s (n := (z : Int) + (x.natAbs : Int) - 1) (by omega) (by omega), show (z : Int) + (x.natAbs : Int) - 1 = ((z + x.natAbs - 1 : Nat) : Int) by omega, tdivN, w64n (by omega)]
      · dsimp only
        by_cases c : x = 0
        · subst c; rfl
        · have hq : (z + x.natAbs - 1) / x.natAbs ≤ z + x.natAbs - 1 := Nat.div_le_self _ _
          rw [ieqF c, cond_false, abs_eq N (by omega), Option.bind_some, ieqF (by omega), cond_false, if_neg c, w64s (n := (z : Int) + (x.natAbs : Int)) (by omega) (by omega), w64s (n := (z : Int) + (x.natAbs : Int) - 1) (by omega) (by omega), show (z : Int) + (x.natAbs : Int) - 1 = ((z + x.natAbs - 1 : Nat) : Int) by omega, tdivN, w64n (by omega)]
/-! ### convergents -/
def row (f : Nat × Nat) : List Int := [(f.1 : Int), (f.2 : Int)]
def Chain (num den most : Nat) : Nat → Nat → List (Nat × Nat) → Prop
  | _, _, [] => True
  | lp, lq, (p, q) :: t => (q ≤ most ∧ p ≤ q ∧ ((p : Int) * den - num * q).natAbs * lq ≤ den ∧ ((lp : Int) * q - p * lq).natAbs = 1) ∧ Chain num den most p q t
structure CfS (num den p q lp lq a b : Nat) : Prop where
  q1 : 1 ≤ q
  d : a * q + b * lq = den
  n : a * p + b * lp = num
  det : (lp : Int) * q - p * lq = 1 ∨ (lp : Int) * q - p * lq = -1
  pq : p ≤ q
  l : lp ≤ lq ∨ (p = 0 ∧ lp ≤ 1)
  ba : b < a
theorem CfS.step {num den p q lp lq a b : Nat} (h : CfS num den p q lp lq a b) (hb : 0 < b) : CfS num den (a / b * p + lp) (a / b * q + lq) p q b (a % b) := by
  obtain ⟨q1, d, n, det, pq, l, ba⟩ := h
  have hm := Nat.div_add_mod a b
  have hlt : a % b < b := Nat.mod_lt _ hb
  have hk : 1 ≤ a / b := (Nat.le_div_iff_mul_le hb).2 (by omega)
  generalize a / b = k at *
  generalize a % b = r at *
  have k1 : q ≤ k * q := Nat.le_mul_of_pos_left _ (by omega)
  have k2 : k * p ≤ k * q := Nat.mul_le_mul_left _ pq
  refine ⟨by omega, ?_, ?_, ?_, ?_, .inl pq, hlt⟩
  · rw [← d, ← hm]; grind
  · rw [← n, ← hm]; grind
  · have e : (p : Int) * ((k * q + lq : Nat) : Int) - ((k * p + lp : Nat) : Int) * (q : Int) = -((lp : Int) * q - p * lq) := by
      push_cast
      grind
    rw [e]; omega
  · rcases l with l | ⟨l1, l2⟩
    · omega
    · subst l1
      rw [Nat.mul_zero]; omega
theorem CfS.off {num den p q lp lq a b : Nat} (h : CfS num den p q lp lq a b) : ((p : Int) * den - num * q).natAbs = b := by
  have e : (p : Int) * den - num * q = -(b : Int) * ((lp : Int) * q - p * lq) := by
    rw [← h.d, ← h.n]; push_cast; grind
  rcases h.det with d | d
  · rw [e, d]; omega
  · rw [e, d]; omega
theorem CfS.ok {num den most p q lp lq a b : Nat} (h : CfS num den p q lp lq a b) (hq : q ≤ most) : q ≤ most ∧ p ≤ q ∧ ((p : Int) * den - num * q).natAbs * lq ≤ den ∧ ((lp : Int) * q - p * lq).natAbs = 1 := by
  refine ⟨hq, h.pq, ?_, ?_⟩
  · rw [h.off, ← h.d]; omega
  · rcases h.det with d | d <;> rw [d] <;> rfl
theorem cf_l (N : Nat) {num den most : Nat} (hd : den ≤ 100000) (hn : num < den) (hm : most ≤ 100000) : ∀ (m b a p q lp lq : Nat) (out : List (List Int)), b < m → CfS num den p q lp lq a b → q ≤ most → out.length + b ≤ 1000000 →
    ∃ R, zq4.l2 N m most out p q lp lq a b = some (out ++ R.map row, true) ∧ zq57.l2 N m b a most lp lq p q (out ++ [row (p, q)]) = some (out ++ R.map row, true) ∧ Chain num den most lp lq R ∧ R.length ≤ b + 1 ∧ ∃ t, R = (p, q) :: t
  | m+1, b, a, p, q, lp, lq, out, hb, h, hq, ho => by
    have one : ∃ R : List (Nat × Nat), R = [(p, q)] ∧ Chain num den most lp lq R ∧ R.length ≤ b + 1 ∧ (∃ t, R = (p, q) :: t) ∧ out ++ R.map row = out ++ [row (p, q)] := ⟨_, rfl, ⟨h.ok hq, trivial⟩, by simp, ⟨_, rfl⟩, rfl⟩
    unfold zq4.l2 zq4.d2 zq4.o2 zq57.l2 zq57.d2 zq57.o2
    rw [dcT (show (q : Int) ≤ (most : Int) by omega), cond_true, blT (by simp; omega), cond_true]
    by_cases c : b = 0
    · subst c
      obtain ⟨R, r1, r2, r3, r4, r5⟩ := one
      rw [ieqT (show ((0 : Nat) : Int) = 0 from rfl), cond_true, dcF (by omega), cond_false]
      exact ⟨R, by rw [r5]; rfl, by rw [r5]; rfl, r2, r3, r4⟩
    · have hs := h.step (show 0 < b by omega)
      have hk : a / b ≤ a := Nat.div_le_self _ _
      have aq : a * q ≤ den := by have := h.d; omega
      have ap : a * p ≤ num := by have := h.n; omega
      have bq : b * lq ≤ den := by have := h.d; omega
      have bp : b * lp ≤ num := by have := h.n; omega
      have lqb : lq ≤ b * lq := Nat.le_mul_of_pos_left _ (by omega)
      have lpb : lp ≤ b * lp := Nat.le_mul_of_pos_left _ (by omega)
      have aa : a ≤ a * q := Nat.le_mul_of_pos_right _ h.q1
      have kq : a / b * q ≤ a * q := Nat.mul_le_mul_right _ hk
      have kp : a / b * p ≤ a * p := Nat.mul_le_mul_right _ hk
      have e1 : w64 (w64 (w64 (Int.tdiv (a : Int) (b : Int)) * (p : Int)) + (lp : Int)) = ((a / b * p + lp : Nat) : Int) := by
        rw [tdivN, w64n (by omega), ← Int.natCast_mul, w64n (by omega), ← Int.natCast_add, w64n (by omega)]
      have e2 : w64 (w64 (w64 (Int.tdiv (a : Int) (b : Int)) * (q : Int)) + (lq : Int)) = ((a / b * q + lq : Nat) : Int) := by
        rw [tdivN, w64n (by omega), ← Int.natCast_mul, w64n (by omega), ← Int.natCast_add, w64n (by omega)]
      have hlt : a % b < b := Nat.mod_lt _ (by omega)
      rw [ieqF (show ¬ (b : Int) = 0 by omega), cond_false, cond_false, cond_false, dcT (show (b : Int) > 0 by omega), cond_true, cond_false, cond_false, e1, e2, tmodN]
      by_cases c2 : a / b * q + lq ≤ most
      · obtain ⟨R, r1, r2, r3, r4, r5⟩ := cf_l N hd hn hm m (a % b) b (a / b * p + lp) (a / b * q + lq) p q (out ++ [row (p, q)]) (by omega) hs c2 (by simp; omega)
        rw [dcF (show ¬ (((a / b * q + lq : Nat) : Int) > (most : Int)) by omega), cond_false, blT (by simp; omega), cond_true]
        refine ⟨(p, q) :: R, ?_, ?_, ⟨h.ok hq, r3⟩, by rw [List.length_cons]; omega, ⟨_, rfl⟩⟩
        · rw [List.append_assoc] at r1
          exact r1
        · have e9 : out ++ [row (p, q)] ++ R.map row = out ++ ((p, q) :: R).map row := by rw [List.append_assoc]; rfl
          rw [e9] at r2
          exact r2
      · obtain ⟨R, r1, r2, r3, r4, r5⟩ := one
        rw [dcT (show (((a / b * q + lq : Nat) : Int) > (most : Int)) by omega), cond_true]
        refine ⟨R, ?_, by rw [r5]; rfl, r2, r3, r4⟩
        obtain ⟨m, rfl⟩ : ∃ j, m = j + 1 := ⟨m - 1, by omega⟩
        rw [r5]
        show zq4.d2 N most (out ++ [row (p, q)]) ((a / b * p + lp : Nat) : Int) ((a / b * q + lq : Nat) : Int) p q b ((a % b : Nat) : Int) _ = _
        unfold zq4.d2 zq4.o2
        rw [dcF (by omega), cond_false]; rfl
  | 0, _, _, _, _, _, _, _, hb, _, _, _ => by omega
theorem Best_eq {N : Nat} (hN : 1000000 < N) (a b c : Int) : ∃ r, zq4.g N a b c = some r ∧ zq57.g N a b c = some r ∧ (r = ([], false) ∨
    ∃ (num den most : Nat) (R : List (Nat × Nat)), a = num ∧ b = den ∧ c = most ∧ 1 ≤ num ∧ num < den ∧ den ≤ 100000 ∧ most ≤ 100000 ∧ r = (R.map row, true) ∧ Chain num den most 1 0 R ∧ R.length ≤ 200000 ∧ ∃ t, R = (0, 1) :: t) := by
  have fr := frac_eq N a b
  unfold zq4.g zq4.o0 zq57.g zq57.o0
  rw [fr.1, fr.2, Option.bind_some, Option.bind_some]
  cases hf : fracB a b with
  | false => exact ⟨_, rfl, rfl, .inl rfl⟩
  | true =>
    obtain ⟨num, den, rfl, rfl, f1, f2, f3⟩ := fracB_iff hf
    rw [Bool.not_true, cond_false, cond_false, within_eq, l1In_eq, Option.bind_some, Option.bind_some]
    cases hc : inB c 1 100000 with
    | false => exact ⟨_, rfl, rfl, .inl rfl⟩
    | true =>
      have hc' := inB_iff.1 hc
      obtain ⟨most, rfl⟩ := Int.eq_ofNat_of_zero_le (show 0 ≤ c by omega)
      obtain ⟨R, r1, r2, r3, r4, r5⟩ := cf_l N f3 f2 (show most ≤ 100000 by omega) N num den 0 1 1 0 [] (by omega) ⟨by omega, by omega, by omega, .inl (by simp), by omega, .inr ⟨rfl, by omega⟩, f2⟩ (by omega) (by simp; omega)
      rw [Bool.not_true]
      dsimp only
      unfold zq4.d1 zq4.o1 zq57.d1 zq57.o1
      rw [cond_false, cond_false]
      rw [List.nil_append] at r1 r2
      exact ⟨(R.map row, true), r1, r2, .inr ⟨num, den, most, R, rfl, rfl, rfl, f1, f2, f3, by omega, rfl, r3, by omega, r5⟩⟩
theorem chain_at {num den most : Nat} : ∀ {R : List (Nat × Nat)} {lp lq i : Nat} {f : Nat × Nat}, Chain num den most lp lq R → R[i]? = some f → f.2 ≤ most ∧ f.1 ≤ f.2
  | (p, q) :: t, lp, lq, 0, f, h, hf => by
    simp only [List.getElem?_cons_zero, Option.some.injEq] at hf
    subst hf
    exact ⟨h.1.1, h.1.2.1⟩
  | (p, q) :: t, lp, lq, i+1, f, h, hf => by
    rw [List.getElem?_cons_succ] at hf
    exact chain_at h.2 hf
  | [], _, _, _, _, _, hf => by simp at hf
theorem chain_two {num den most : Nat} : ∀ {R : List (Nat × Nat)} {lp lq i : Nat} {f g : Nat × Nat}, Chain num den most lp lq R → R[i]? = some f → R[i + 1]? = some g →
    ((g.1 : Int) * den - num * g.2).natAbs * f.2 ≤ den ∧ ((f.1 : Int) * g.2 - g.1 * f.2).natAbs = 1
  | (p, q) :: (p', q') :: t, lp, lq, 0, f, g, h, hf, hg => by
    simp only [List.getElem?_cons_zero, List.getElem?_cons_succ, Option.some.injEq] at hf hg
    subst hf hg
    exact ⟨h.2.1.2.2.1, h.2.1.2.2.2⟩
  | (p, q) :: t, lp, lq, i+1, f, g, h, hf, hg => by
    rw [List.getElem?_cons_succ] at hf hg
    exact chain_two h.2 hf hg
  | [_], _, _, 0, _, _, _, _, hg => by simp at hg
  | [], _, _, _, _, _, _, hf, _ => by simp at hf
/-! ### months and leaps that are spread -/
def mo (num den i : Nat) : Int := (((i + 1) * num / den : Nat) : Int) - ((i * num / den : Nat) : Int)
def mos (num den i j : Nat) : List Int := (List.range' i j).map (mo num den)
theorem mos_len (num den i j : Nat) : (mos num den i j).length = j := by unfold mos; rw [List.length_map, List.length_range']
theorem mo_args {num den i : Nat} (hn : num ≤ 1000000) (hi : i ≤ 1000) : w64 ((w64 (Int.tdiv (w64 (((i + 1 : Nat) : Int) * (num : Int))) (den : Int))) - (w64 (Int.tdiv (w64 ((w64 (((i + 1 : Nat) : Int) - 1)) * (num : Int))) (den : Int)))) = mo num den i ∧
    w64 (Int.tdiv (w64 (((i + 1 : Nat) : Int) * (num : Int))) (den : Int)) = (((i + 1) * num / den : Nat) : Int) ∧ w64 (Int.tdiv (w64 ((w64 (((i + 1 : Nat) : Int) - 1)) * (num : Int))) (den : Int)) = ((i * num / den : Nat) : Int) ∧ (i + 1) * num / den ≤ 2000000000 ∧ i * num / den ≤ 2000000000 := by
  have a1 : (i + 1) * num ≤ 1001 * 1000000 := Nat.mul_le_mul (by omega) hn
  have a2 : i * num ≤ 1000 * 1000000 := Nat.mul_le_mul hi hn
  have d1 : (i + 1) * num / den ≤ (i + 1) * num := Nat.div_le_self _ _
  have d2 : i * num / den ≤ i * num := Nat.div_le_self _ _
  have e1 : w64 (Int.tdiv (w64 (((i + 1 : Nat) : Int) * (num : Int))) (den : Int)) = (((i + 1) * num / den : Nat) : Int) := by
    rw [← Int.natCast_mul, w64n (by omega), tdivN, w64n (by omega)]
  have e2 : w64 (Int.tdiv (w64 ((w64 (((i + 1 : Nat) : Int) - 1)) * (num : Int))) (den : Int)) = ((i * num / den : Nat) : Int) := by
    rw [show w64 (((i + 1 : Nat) : Int) - 1) = (i : Int) by rw [w64s (by omega) (by omega)]; omega, ← Int.natCast_mul, w64n (by omega), tdivN, w64n (by omega)]
  refine ⟨?_, e1, e2, by omega, by omega⟩
  rw [e1, e2]
  unfold mo
  clear e1 e2
  generalize (i + 1) * num / den = u at *
  generalize i * num / den = v at *
  exact w64s (by omega) (by omega)
theorem months_l (N : Nat) {num den k : Nat} (hd : 1 ≤ den) (hn : num ≤ 1000000) (hk : k ≤ 400) : ∀ (j i m : Nat) (acc : List Int), i + j = k → j < m → acc.length = i →
    zq14.l2 N m num den k acc ((i + 1 : Nat) : Int) = some (acc ++ mos num den i j, true) ∧ zq70.l3 N m num den k acc ((i + 1 : Nat) : Int) = some (acc ++ mos num den i j, true)
  | 0, i, m+1, acc, hi, hm, ha => by
    unfold zq14.l2 zq14.d2 zq14.o2 zq70.l3 zq70.d3 zq70.o3
    rw [dcF (by omega), cond_false, cond_false]
    show some (acc, true) = some (acc ++ [], true) ∧ some (acc, true) = some (acc ++ [], true)
    rw [List.append_nil]; exact ⟨rfl, rfl⟩
  | j+1, i, m+1, acc, hi, hm, ha => by
    obtain ⟨e, _⟩ := mo_args (den := den) hn (show i ≤ 1000 by omega)
    obtain ⟨h1, h2⟩ := months_l N hd hn hk j (i + 1) m (acc ++ [mo num den i]) (by omega) (by omega) (by simp; omega)
    unfold zq14.l2 zq14.d2 zq14.o2 zq70.l3 zq70.d3 zq70.o3
    rw [dcT (by omega), cond_true, cond_true, ieqF (by omega), cond_false, cond_false, cond_false, cond_false, e, blT (by simp; omega), cond_true, cond_true, w1add (by omega)]
    rw [List.append_assoc] at h1 h2
    exact ⟨h1, h2⟩
  | _, _, 0, _, _, hm, _ => by omega
theorem Months_eq {N : Nat} (hN : 1000000 < N) (a b c : Int) : ∃ r, zq14.g N a b c = some r ∧ zq70.g N a b c = some r ∧ (r = ([], false) ∨
    ∃ num den k : Nat, a = num ∧ b = den ∧ c = k ∧ 1 ≤ den ∧ num ≤ 1000000 ∧ k ≤ 400 ∧ r = (mos num den 0 k, true)) := by
  unfold zq14.g zq14.o0 zq70.g zq70.o0
  rw [within_eq, l1In_eq, Option.bind_some, Option.bind_some]
  cases h1 : inB a 1 1000000 with
  | false => exact ⟨_, rfl, rfl, .inl rfl⟩
  | true =>
    rw [Bool.not_true, cond_false, cond_false, within_eq, l1In_eq, Option.bind_some, Option.bind_some]
    cases h2 : inB b 1 a with
    | false => exact ⟨_, rfl, rfl, .inl rfl⟩
    | true =>
      rw [Bool.not_true, cond_false, cond_false, within_eq, l1In_eq, Option.bind_some, Option.bind_some]
      cases h3 : inB c 1 400 with
      | false => exact ⟨_, rfl, rfl, .inl rfl⟩
      | true =>
        have h1' := inB_iff.1 h1; have h2' := inB_iff.1 h2; have h3' := inB_iff.1 h3
        obtain ⟨num, rfl⟩ := Int.eq_ofNat_of_zero_le (show 0 ≤ a by omega)
        obtain ⟨den, rfl⟩ := Int.eq_ofNat_of_zero_le (show 0 ≤ b by omega)
        obtain ⟨k, rfl⟩ := Int.eq_ofNat_of_zero_le (show 0 ≤ c by omega)
        obtain ⟨m1, m2⟩ := months_l N (show 1 ≤ den by omega) (show num ≤ 1000000 by omega) (show k ≤ 400 by omega) k 0 N [] (by omega) (by omega) rfl
        rw [List.nil_append] at m1 m2
        have e : ∀ (m : Nat) (x y z w : Int), zq70.l2 N m x y z w = zq70.l3 N m x y z [] w := fun m x y z w => by cases m <;> rfl
        rw [Bool.not_true]
        dsimp only
        unfold zq14.d1 zq14.o1 zq70.d1 zq70.o1
        rw [cond_false, cond_false]
        dsimp only
        rw [e]
        exact ⟨(mos num den 0 k, true), m1, m2, .inr ⟨num, den, k, rfl, rfl, rfl, by omega, by omega, by omega, rfl⟩⟩
def sb (l y i : Nat) : Bool := decide (i * l / y < (i + 1) * l / y)
def sbs (l y i j : Nat) : List Bool := (List.range' i j).map (sb l y)
theorem sbs_len (l y i j : Nat) : (sbs l y i j).length = j := by unfold sbs; rw [List.length_map, List.length_range']
theorem spread_l (N : Nat) {l y : Nat} (hy : 1 ≤ y) (hy2 : y ≤ 1000) (hl : l ≤ y) : ∀ (j i m : Nat) (acc : List Bool), i + j = y → j < m → acc.length = i →
    zq20.l2 N m l y acc ((i + 1 : Nat) : Int) = some (acc ++ sbs l y i j, true) ∧ zq76.l3 N m l y acc ((i + 1 : Nat) : Int) = some (acc ++ sbs l y i j, true)
  | 0, i, m+1, acc, hi, hm, ha => by
    unfold zq20.l2 zq20.d2 zq20.o2 zq76.l3 zq76.d3 zq76.o3
    rw [dcF (by omega), cond_false, cond_false]
    show some (acc, true) = some (acc ++ [], true) ∧ some (acc, true) = some (acc ++ [], true)
    rw [List.append_nil]; exact ⟨rfl, rfl⟩
  | j+1, i, m+1, acc, hi, hm, ha => by
    obtain ⟨_, e1, e2, _, _⟩ := mo_args (num := l) (den := y) (show l ≤ 1000000 by omega) (show i ≤ 1000 by omega)
    obtain ⟨h1, h2⟩ := spread_l N hy hy2 hl j (i + 1) m (acc ++ [sb l y i]) (by omega) (by omega) (by simp; omega)
    have e3 : decide ((((i + 1) * l / y : Nat) : Int) > ((i * l / y : Nat) : Int)) = sb l y i := by
      unfold sb
      apply decide_eq_decide.2
      omega
    unfold zq20.l2 zq20.d2 zq20.o2 zq76.l3 zq76.d3 zq76.o3
    rw [dcT (by omega), cond_true, cond_true, ieqF (by omega), cond_false, cond_false, cond_false, cond_false, e1, e2, e3, blT (by simp; omega), cond_true, cond_true, w1add (by omega)]
    rw [List.append_assoc] at h1 h2
    exact ⟨h1, h2⟩
  | _, _, 0, _, _, hm, _ => by omega
theorem Spread_eq {N : Nat} (hN : 1000000 < N) (a b : Int) : ∃ r, zq20.g N a b = some r ∧ zq76.g N a b = some r ∧ (r = ([], false) ∨
    ∃ l y : Nat, a = l ∧ b = y ∧ 1 ≤ y ∧ y ≤ 1000 ∧ l ≤ y ∧ r = (sbs l y 0 y, true)) := by
  unfold zq20.g zq20.o0 zq76.g zq76.o0
  rw [within_eq, l1In_eq, Option.bind_some, Option.bind_some]
  cases h1 : inB b 1 1000 with
  | false => exact ⟨_, rfl, rfl, .inl rfl⟩
  | true =>
    rw [Bool.not_true, cond_false, cond_false, within_eq, l1In_eq, Option.bind_some, Option.bind_some]
    cases h2 : inB a 0 b with
    | false => exact ⟨_, rfl, rfl, .inl rfl⟩
    | true =>
      have h1' := inB_iff.1 h1; have h2' := inB_iff.1 h2
      obtain ⟨l, rfl⟩ := Int.eq_ofNat_of_zero_le (show 0 ≤ a by omega)
      obtain ⟨y, rfl⟩ := Int.eq_ofNat_of_zero_le (show 0 ≤ b by omega)
      obtain ⟨m1, m2⟩ := spread_l N (show 1 ≤ y by omega) (show y ≤ 1000 by omega) (show l ≤ y by omega) y 0 N [] (by omega) (by omega) rfl
      rw [List.nil_append] at m1 m2
      have e : ∀ (m : Nat) (x y z : Int), zq76.l2 N m x y z = zq76.l3 N m x y [] z := fun m x y z => by cases m <;> rfl
      rw [Bool.not_true]
      dsimp only
      unfold zq20.d1 zq20.o1 zq76.d1 zq76.o1
      rw [cond_false, cond_false]
      dsimp only
      rw [e]
      exact ⟨(sbs l y 0 y, true), m1, m2, .inr ⟨l, y, rfl, rfl, by omega, by omega, by omega, rfl⟩⟩
/-! ### lists compared -/
theorem wSame_l (N : Nat) (l : List Int) (hs : l.length < 1000000000) : ∀ (d i n : Nat), i + d = l.length → d < n → zq51.l1 N n l l l.length i = some true
  | 0, i, n+1, hi, hn => by
    unfold zq51.l1 zq51.d1 zq51.o1
    rw [dcF (by omega), cond_false]
  | d+1, i, n+1, hi, hn => by
    unfold zq51.l1 zq51.d1 zq51.o1
    have hlt : i < l.length := by omega
    simp (disch := omega) only [dcT, cond_true, Int.toNat_natCast, getAt, bne_self_eq_false, cond_false, w1add]
    exact wSame_l N l hs d (i+1) n (by omega) (by omega)
  | _, _, 0, _, hn => by omega
theorem wSame_self {N : Nat} (l : List Int) (hs : l.length < 1000000000) (hN : l.length < N) : zq51.g N l l = some true := by
  unfold zq51.g zq51.o0
  rw [ineF rfl, cond_false]
  exact wSame_l N l hs l.length 0 N (by omega) hN
theorem wYes_l (N : Nat) (l : List Bool) (hs : l.length < 1000000000) : ∀ (d i n : Nat), i + d = l.length → d < n → zq53.l1 N n l l l.length i = some true
  | 0, i, n+1, hi, hn => by
    unfold zq53.l1 zq53.d1 zq53.o1
    rw [dcF (by omega), cond_false]
  | d+1, i, n+1, hi, hn => by
    unfold zq53.l1 zq53.d1 zq53.o1
    have hlt : i < l.length := by omega
    simp (disch := omega) only [dcT, cond_true, Int.toNat_natCast, getAt, beq_self_eq_true, Bool.not_true, cond_false, w1add]
    exact wYes_l N l hs d (i+1) n (by omega) (by omega)
  | _, _, 0, _, hn => by omega
theorem wYes_self {N : Nat} (l : List Bool) (hs : l.length < 1000000000) (hN : l.length < N) : zq53.g N l l = some true := by
  unfold zq53.g zq53.o0
  rw [ineF rfl, cond_false]
  exact wYes_l N l hs l.length 0 N (by omega) hN
theorem wRows_l (N : Nat) (l : List (List Int)) (hs : l.length < 1000000000) (hr : ∀ x ∈ l, x.length ≤ 2) (h2 : 2 < N) : ∀ (d i n : Nat), i + d = l.length → d < n → zq50.l1 N n l l l.length i = some true
  | 0, i, n+1, hi, hn => by
    unfold zq50.l1 zq50.d1 zq50.o1
    rw [dcF (by omega), cond_false]
  | d+1, i, n+1, hi, hn => by
    unfold zq50.l1 zq50.d1 zq50.o1
    have hlt : i < l.length := by omega
    have hx := hr l[i] (List.getElem_mem hlt)
    simp (disch := omega) only [dcT, cond_true, Int.toNat_natCast, getAt, wSame_self, Option.bind_some, Bool.not_true, cond_false, w1add]
    exact wRows_l N l hs hr h2 d (i+1) n (by omega) (by omega)
  | _, _, 0, _, hn => by omega
theorem wRows_self {N : Nat} (l : List (List Int)) (hs : l.length < 1000000000) (hr : ∀ x ∈ l, x.length ≤ 2) (hN : l.length < N) (h2 : 2 < N) : zq50.g N l l = some true := by
  unfold zq50.g zq50.o0
  rw [ineF rfl, cond_false]
  exact wRows_l N l hs hr h2 l.length 0 N (by omega) hN
/-! ### one look on two dials -/
theorem rt01 (m i : Nat) : rt 0 1 m i = pr i m := by
  unfold rt
  rw [Nat.mul_one, Nat.zero_add, Nat.one_mul]
theorem ok01 {m : Nat} (h1 : 1 ≤ m) (h2 : m ≤ 24) : (List.range' 0 m).all (okR 0 1 m) = true := by
  rw [List.all_eq_true]
  intro x _
  unfold okR
  rw [rt01]
  have := (pr_spec (n := x) (d := m) (by omega)).2.1
  exact decide_eq_true (by omega)
theorem parts_l (N : Nat) {m : Nat} (hN : 1000 < N) (h1 : 1 ≤ m) (h2 : m ≤ 24) : ∀ (j i f : Nat) (acc : List S25), i + j = m → j < f → acc.length = i →
    zq116.l2 N f 0 m acc i = some (acc ++ rts 0 1 m i j)
  | 0, i, f+1, acc, hi, hf, ha => by
    unfold zq116.l2 zq116.d2 zq116.o2
    rw [w64s (by omega) (by omega), dcF (by omega), cond_false]
    show _ = some (acc ++ [])
    rw [List.append_nil]
  | j+1, i, f+1, acc, hi, hf, ha => by
    unfold zq116.l2 zq116.d2 zq116.o2
    rw [w64s (n := 0 + (m : Int)) (by omega) (by omega), dcT (by omega), cond_true, make_eq (by omega) h1 (by omega), mkV_ok (by have := (pr_spec (n := i) (d := m) (by omega)).2.1; omega), Option.bind_some, blT (by simp; omega), cond_true, w1add (by omega)]
    have ih := parts_l N hN h1 h2 j (i + 1) f (acc ++ [sT (rt 0 1 m i)]) (by omega) (by omega) (by simp; omega)
    rw [List.append_assoc] at ih
    rw [rt01] at ih
    rw [rts_succ, rt01]
    exact ih
  | _, _, 0, _, _, hf, _ => by omega
theorem Look_eq {N : Nat} (hN : 100000000 < N) (a b : Int) : ∃ r, zq17.g N a b = some r ∧ zq73.g N a b = some r ∧ (r = ([], false) ∨
    ∃ i j m : Nat, a = i ∧ b = j ∧ 2 ≤ i ∧ i ≤ 24 ∧ 2 ≤ j ∧ j ≤ 24 ∧ 1 ≤ m ∧ (i = j + m ∨ j = i + m) ∧ r = (rts 0 1 m 0 m, true)) := by
  unfold zq17.g zq17.o0 zq73.g zq73.o0
  rw [isDial_eq, diHours_eq, Option.bind_some, Option.bind_some]
  cases h1 : inB a 2 24 with
  | false => exact ⟨_, rfl, rfl, .inl rfl⟩
  | true =>
    rw [Bool.not_true, cond_false, cond_false, isDial_eq, diHours_eq, Option.bind_some, Option.bind_some]
    cases h2 : inB b 2 24 with
    | false => exact ⟨_, rfl, rfl, .inl rfl⟩
    | true =>
      have h1' := inB_iff.1 h1; have h2' := inB_iff.1 h2
      rw [Bool.not_true, cond_false, cond_false]
      by_cases e : a = b
      · rw [ieqT e]; exact ⟨_, rfl, rfl, .inl rfl⟩
      · rw [ieqF e]
        dsimp only
        unfold zq17.d1 zq17.o1 zq73.d1 zq73.o1
        obtain ⟨i, rfl⟩ := Int.eq_ofNat_of_zero_le (show 0 ≤ a by omega)
        obtain ⟨j, rfl⟩ := Int.eq_ofNat_of_zero_le (show 0 ≤ b by omega)
        obtain ⟨m, hm1, hm⟩ : ∃ m : Nat, 1 ≤ m ∧ (i = j + m ∨ j = i + m) := by
          by_cases c : i ≤ j
          · exact ⟨j - i, by omega, by omega⟩
          · exact ⟨i - j, by omega, by omega⟩
        have em : (if (w64 ((j : Int) - (i : Int))) > (w64 ((i : Int) - (j : Int))) then (w64 ((j : Int) - (i : Int))) else (w64 ((i : Int) - (j : Int)))) = (m : Int) := by
          rw [w64s (by omega) (by omega), w64s (by omega) (by omega)]; split <;> omega
        have ea : zq99.g N (w64 ((i : Int) - (j : Int))) = some (m : Int) := by
          rw [w64s (by omega) (by omega), abs_eq N (by omega)]
          refine congrArg some (show (_ : Int) = (_ : Int) from ?_)
          omega
        have hI := ifRoots_eq hN (n := 0) (d := 1) (k := m) (by omega) (by omega) (by omega) hm1 (by omega)
        have hT : timesL 0 1 m = (rts 0 1 m 0 m, true) := by unfold timesL; rw [if_pos (ok01 hm1 (by omega))]
        have hP := parts_l N (by omega) hm1 (show m ≤ 24 by omega) m 0 N [] (by omega) (by omega) rfl
        have e1 : ∀ (f : Nat) (x y z : Int), zq116.l1 N f x y z = zq116.l2 N f x y [] z := fun f x y z => by cases f <;> rfl
        rw [cond_false, cond_false, em, ea, Option.bind_some]
        refine ⟨(rts 0 1 m 0 m, true), ?_, ?_, .inr ⟨i, j, m, rfl, rfl, by omega, by omega, by omega, by omega, hm1, hm, rfl⟩⟩
        · rw [← hT]; exact hI
        · unfold zq116.g zq116.o0
          dsimp only
          rw [e1, show zq116.l2 N N 0 (m : Int) [] 0 = _ from hP]; rfl
theorem same_long {i j m x : Nat} (hm : 1 ≤ m) (hx : x < m) (h : i = j + m ∨ j = i + m) : pr ((pr x m).1 * i) (pr x m).2 = pr ((pr x m).1 * j) (pr x m).2 := by
  have hl := pr_lt (n := x) (d := m) (by omega) hx
  rcases h with h | h
  · rw [h, Nat.mul_add, hl, pr_add]
  · rw [h, Nat.mul_add, hl, pr_add]
theorem Tell_eq {N : Nat} (hN : 10000000 ≤ N) (f g n d : Int) : ∃ r, zq21.g N f g n d = some r ∧ zq77.g N f g n d = some r ∧ (r = (⟨#[]⟩, false) ∨
    ∃ k a b : Nat, g = k ∧ n = a ∧ d = b ∧ Dial k a b ∧ r = (bsOf (timeL (a * k * 60) b), true)) := by
  unfold zq21.g zq21.o0 zq77.g zq77.o0
  rw [isDial_eq, diAsked_eq hN, Option.bind_some, Option.bind_some]
  unfold timeB
  cases h1 : inB f 2 24 with
  | false => exact ⟨_, rfl, rfl, .inl rfl⟩
  | true =>
    rw [Bool.not_true, cond_false, Bool.true_and]
    cases h2 : turnB n d with
    | false =>
      have hb : timeB g n d = false := by unfold timeB; rw [h2, Bool.and_false]
      rw [(text_no hN hb).1]
      exact ⟨_, rfl, rfl, .inl rfl⟩
    | true =>
      rw [Bool.not_true, cond_false]
      cases hb : timeB g n d with
      | false =>
        rw [(text_no hN hb).1, (text_no hN hb).2]
        exact ⟨_, rfl, rfl, .inl rfl⟩
      | true =>
        obtain ⟨k, a, b, rfl, k1, k2, rfl, rfl, ht⟩ := timeB_iff.1 hb
        rw [(text_yes hN ⟨k1, k2, ht⟩).1, (text_yes hN ⟨k1, k2, ht⟩).2.1]
        exact ⟨_, rfl, rfl, .inr ⟨k, a, b, rfl, rfl, rfl, ⟨k1, k2, ht⟩, rfl⟩⟩
/-! ### draws -/
theorem frac_tot {N : Nat} {code : List Int} (hc : Bs code) {pos : Int} (h1 : 0 ≤ pos) (h2 : pos ≤ 10000) (seed : Int) :
    Tot (zq101.g N code pos seed) fun r => r.2.2.1 = code ∧ 0 ≤ r.2.2.2.1 ∧ r.2.2.2.1 ≤ pos + 6 := by
  unfold zq101.g zq101.o0
  refine Tot.bind (pick_tot N hc 8 h1 (by omega) seed) ?_
  rintro ⟨x, c, p, s⟩ ⟨⟨x1, x2⟩, rfl, p1, p2⟩
  dsimp only at x1 x2 p1 p2 ⊢
  refine Tot.bif (fun _ => ?_) (fun _ => Tot.bif (fun _ => ?_) (fun _ => Tot.bif (fun _ => ?_) (fun _ => ?_)))
  · refine Tot.bind (among_tot N hc _ (by simp) p1 (by omega) s) ?_
    rintro ⟨y, c', q, t⟩ ⟨_, hcc, q1, q2⟩
    dsimp only at hcc q1 q2 ⊢
    subst hcc
    refine Tot.bind (among_tot N hc _ (by simp) q1 (by omega) t) ?_
    rintro ⟨z, c'', q', t'⟩ ⟨_, hcc, q1', q2'⟩
    exact Tot.now ⟨hcc, q1', by dsimp only at q2' ⊢; omega⟩
  · exact Tot.now ⟨rfl, p1, by dsimp only; omega⟩
  · exact Tot.now ⟨rfl, p1, by dsimp only; omega⟩
  · refine Tot.bind (pick_tot N hc _ p1 (by omega) s) ?_
    rintro ⟨y, c', q, t⟩ ⟨_, hcc, q1, q2⟩
    dsimp only at hcc q1 q2 ⊢
    subst hcc
    refine Tot.bind (pick_tot N hc _ q1 (by omega) t) ?_
    rintro ⟨z, c'', q', t'⟩ ⟨_, hcc, q1', q2'⟩
    exact Tot.now ⟨hcc, q1', by dsimp only at q2' ⊢; omega⟩
theorem rule_tot {N : Nat} {code : List Int} (hc : Bs code) {pos : Int} (h1 : 0 ≤ pos) (h2 : pos ≤ 10000) (seed : Int) : Tot (zq106.g N code pos seed) fun _ => True := by
  unfold zq106.g zq106.o0
  refine Tot.bind (pick_tot N hc _ h1 (by omega) seed) ?_
  rintro ⟨x, c, p, s⟩ ⟨⟨x1, x2⟩, rfl, p1, p2⟩
  dsimp only at x1 x2 p1 p2 ⊢
  have x3 : x < 9 := by simp only [List.length_cons, List.length_nil] at x2; omega
  rw [dcT x1, cond_true, dcT (by simp only [List.length_cons, List.length_nil]; omega), cond_true, getAt (by simp only [List.length_cons, List.length_nil]; omega)]
  refine Tot.bind (pick_tot N hc _ p1 (by omega) s) ?_
  rintro ⟨y, c', q, t⟩ ⟨_, hcc, q1, q2⟩
  dsimp only at hcc q1 q2 ⊢
  subst hcc
  refine Tot.bif (fun _ => ?_) (fun _ => Tot.bif (fun _ => ?_) (fun _ => Tot.now trivial))
  · refine Tot.bind (among_tot N hc _ (by simp) q1 (by omega) t) ?_
    rintro ⟨z, c', q', t'⟩ ⟨_, hcc, q1', q2'⟩
    dsimp only at hcc q1' q2' ⊢
    subst hcc
    refine Tot.bind (among_tot N hc _ (by simp) q1' (by omega) t') ?_
    rintro ⟨z, c', q'', t''⟩ ⟨_, hcc, q1'', q2''⟩
    dsimp only at hcc q1'' q2'' ⊢
    subst hcc
    refine Tot.bind (among_tot N hc _ (by simp) q1'' (by omega) t'') ?_
    rintro r _
    exact Tot.now trivial
  · refine Tot.bind (among_tot N hc _ (by simp) q1 (by omega) t) ?_
    rintro ⟨z, c', q', t'⟩ ⟨_, hcc, q1', q2'⟩
    dsimp only at hcc q1' q2' ⊢
    subst hcc
    refine Tot.bind (among_tot N hc _ (by simp) q1' (by omega) t') ?_
    rintro r _
    exact Tot.now trivial
theorem draw1 {N : Nat} {code : List Int} (hc : Bs code) : ∃ r, zq61.g N code = some r := by
  have : Tot (zq61.g N code) fun _ => True := by
    unfold zq61.g zq61.o0
    refine Tot.bind (frac_tot hc (by omega) (by omega) 0) ?_
    rintro ⟨x, y, c, p, s⟩ ⟨hcc, p1, p2⟩
    dsimp only at hcc p1 p2 ⊢
    subst hcc
    refine Tot.bind (rule_tot hc p1 (by omega) s) ?_
    rintro r _
    exact Tot.now trivial
  obtain ⟨r, h, _⟩ := this
  exact ⟨r, h⟩
theorem draw2 {N : Nat} {code : List Int} (hc : Bs code) : ∃ r, zq58.g N code = some r := by
  have : Tot (zq58.g N code) fun _ => True := by
    unfold zq58.g zq58.o0
    refine Tot.bind (frac_tot hc (by omega) (by omega) 0) ?_
    rintro ⟨x, y, c, p, s⟩ ⟨hcc, p1, p2⟩
    dsimp only at hcc p1 p2 ⊢
    subst hcc
    refine Tot.bind (among_tot N hc _ (by simp) p1 (by omega) s) ?_
    rintro r _
    exact Tot.now trivial
  obtain ⟨r, h, _⟩ := this
  exact ⟨r, h⟩
theorem draw3 {N : Nat} {code : List Int} (hc : Bs code) : ∃ r, zq60.g N code = some r := by
  have : Tot (zq60.g N code) fun _ => True := by
    unfold zq60.g zq60.o0
    refine Tot.bind (pick_tot N hc _ (by omega) (by omega) 0) ?_
    rintro ⟨x, c, p, s⟩ ⟨_, hcc, p1, p2⟩
    dsimp only at hcc p1 p2 ⊢
    subst hcc
    refine Tot.bind (among_tot N hc _ (by simp) p1 (by omega) s) ?_
    rintro ⟨x, c, q, t⟩ ⟨_, hcc, q1, q2⟩
    dsimp only at hcc q1 q2 ⊢
    subst hcc
    refine Tot.bind (pick_tot N hc _ q1 (by omega) t) ?_
    rintro ⟨x, c, q', t'⟩ ⟨_, hcc, q1', q2'⟩
    dsimp only at hcc q1' q2' ⊢
    subst hcc
    refine Tot.bind (among_tot N hc _ (by simp) q1' (by omega) t') ?_
    rintro ⟨x, c, q'', t''⟩ ⟨_, hcc, q1'', q2''⟩
    dsimp only at hcc q1'' q2'' ⊢
    subst hcc
    refine Tot.bind (among_tot N hc _ (by simp) q1'' (by omega) t'') ?_
    rintro r _
    exact Tot.now trivial
  obtain ⟨r, h, _⟩ := this
  exact ⟨r, h⟩
theorem draw4 {N : Nat} {code : List Int} (hc : Bs code) : ∃ r, zq64.g N code = some r := by
  have : Tot (zq64.g N code) fun _ => True := by
    unfold zq64.g zq64.o0
    refine Tot.bind (pick_tot N hc _ (by omega) (by omega) 0) ?_
    rintro ⟨x, c, p, s⟩ ⟨_, hcc, p1, p2⟩
    dsimp only at hcc p1 p2 ⊢
    subst hcc
    refine Tot.bind (among_tot N hc _ (by simp) p1 (by omega) s) ?_
    rintro ⟨x, c, q, t⟩ ⟨_, hcc, q1, q2⟩
    dsimp only at hcc q1 q2 ⊢
    subst hcc
    refine Tot.bind (among_tot N hc _ (by simp) q1 (by omega) t) ?_
    rintro r _
    exact Tot.now trivial
  obtain ⟨r, h, _⟩ := this
  exact ⟨r, h⟩
theorem draw5 {N : Nat} (hN : 10000000 ≤ N) {code : List Int} (hc : Bs code) : ∃ r, zq65.g N code = some r := by
  have : Tot (zq65.g N code) fun _ => True := by
    unfold zq65.g zq65.o0
    refine Tot.bind (hours_tot N hc (by omega) (by omega) 0) ?_
    rintro ⟨x, c, p, s⟩ ⟨hcc, p1, p2⟩
    dsimp only at hcc p1 p2 ⊢
    subst hcc
    refine Tot.bind (hours_tot N hc p1 (by omega) s) ?_
    rintro ⟨x, c, q, t⟩ ⟨hcc, q1, q2⟩
    dsimp only at hcc q1 q2 ⊢
    subst hcc
    refine Tot.bind (turn_tot hN hc q1 (by omega) t) ?_
    rintro r _
    exact Tot.now trivial
  obtain ⟨r, h, _⟩ := this
  exact ⟨r, h⟩
theorem draw6 {N : Nat} {code : List Int} (hc : Bs code) : ∃ r, zq63.g N code = some r := by
  have : Tot (zq63.g N code) fun _ => True := by
    unfold zq63.g zq63.o0
    refine Tot.bind (hours_tot N hc (by omega) (by omega) 0) ?_
    rintro ⟨x, c, p, s⟩ ⟨hcc, p1, p2⟩
    dsimp only at hcc p1 p2 ⊢
    subst hcc
    refine Tot.bind (hours_tot N hc p1 (by omega) s) ?_
    rintro r _
    exact Tot.now trivial
  obtain ⟨r, h, _⟩ := this
  exact ⟨r, h⟩
/-! ### the law, from its end -/
theorem k23 {N : Nat} (hN : 100000000 < N) {i j m : Nat} (i1 : 2 ≤ i) (i2 : i ≤ 24) (j1 : 2 ≤ j) (j2 : j ≤ 24) (hm : 1 ≤ m) (h : i = j + m ∨ j = i + m) : ∀ (t x f : Nat), x + t = m → t < f →
    zq47.l23 N f i j (rts 0 1 m 0 m) (rts 0 1 m 0 m) ((rts 0 1 m 0 m).length : Int) x = some true
  | 0, x, f+1, hx, hf => by
    have hl := rts_len 0 1 m 0 m
    have h25 : zq47.d25 N (rts 0 1 m 0 m) (m : Int) = some true := by
      unfold zq47.d25 zq47.o25
      rw [ieqT (by omega), cond_true, rises_eq (by omega) (by omega) (by omega) hm (by omega) (ok01 hm (by omega))]; rfl
    unfold zq47.l23 zq47.d23 zq47.o23
    rw [dcF (by omega), cond_false, w64s (n := (i : Int) - (j : Int)) (by omega) (by omega)]
    rcases h with h | h
    · rw [dcF (by omega), cond_false, show (i : Int) - (j : Int) = (m : Int) by omega]
      exact h25
    · rw [dcT (by omega), cond_true, w64s (by omega) (by omega), show 0 - ((i : Int) - (j : Int)) = (m : Int) by omega]
      exact h25
  | t+1, x, f+1, hx, hf => by
    have hl := rts_len 0 1 m 0 m
    have hsp := pr_spec (n := x) (d := m) (by omega)
    have hT : Turn (pr x m).1 (pr x m).2 := ⟨hsp.1, by omega, hsp.2.2.1⟩
    have g1 : (rts 0 1 m 0 m)[x]'(by omega) = sT (pr x m) := by rw [rts_get, rt01]; congr 2; omega
    unfold zq47.l23 zq47.d23 zq47.o23
    rw [dcT (by omega), cond_true, dcT (by omega), cond_true, cond_true, Int.toNat_natCast, getAt (show x < (rts 0 1 m 0 m).length by omega), g1]
    unfold sT
    dsimp only
    rw [(Long_yes (by omega) ⟨i1, i2, hT⟩).1, Option.bind_some, (Long_yes (by omega) ⟨j1, j2, hT⟩).1, Option.bind_some, same_long hm (by omega) h]
    unfold r3
    simp only [Bool.not_true, cond_false, beq_self_eq_true, Bool.and_self]
    unfold zq47.d24 zq47.o24
    rw [cond_false, w1add (by omega)]
    exact k23 hN i1 i2 j1 j2 hm h t (x + 1) f (by omega) (by omega)
  | _, _, 0, _, hf => by omega
def LookR (a b : Int) (r : List S25 × Bool) : Prop := r = ([], false) ∨ ∃ i j m : Nat, a = i ∧ b = j ∧ 2 ≤ i ∧ i ≤ 24 ∧ 2 ≤ j ∧ j ≤ 24 ∧ 1 ≤ m ∧ (i = j + m ∨ j = i + m) ∧ r = (rts 0 1 m 0 m, true)
theorem k22 {N : Nat} (hN : 100000000 < N) {a b : Int} {r : List S25 × Bool} (h : LookR a b r) : zq47.d22 N a b r.1 r.2 = some true := by
  rcases h with rfl | ⟨i, j, m, rfl, rfl, h1, h2, h3, h4, h5, h6, rfl⟩
  · rfl
  · unfold zq47.d22 zq47.o22
    rw [cond_true]
    exact k23 hN h1 h2 h3 h4 h5 h6 m 0 N (by omega) (by omega)
def TellR (g n d : Int) (r : ByteArray × Bool) : Prop := r = (⟨#[]⟩, false) ∨ ∃ k a b : Nat, g = k ∧ n = a ∧ d = b ∧ Dial k a b ∧ r = (bsOf (timeL (a * k * 60) b), true)
theorem k17 {N : Nat} (hN : 1000000000000 < N) {g n d a b : Int} {q : ByteArray × Bool} {r : List S25 × Bool} (hq : TellR g n d q) (h : LookR a b r) : zq47.d17 N g q.1 q.2 a b r.1 r.2 n d = some true := by
  have fin := k22 (N := N) (by omega) h
  unfold zq47.d17 zq47.o17
  rcases hq with rfl | ⟨k, x, y, rfl, rfl, rfl, hD, rfl⟩
  · exact fin
  · dsimp only
    rw [cond_true, impl_read hN hD, Option.bind_some]
    simp only [Bool.not_true, cond_false, beq_self_eq_true, Bool.and_self]
    unfold zq47.d21 zq47.o21
    rw [cond_false]
    exact fin
theorem sbs_get {l y j x : Nat} (h : x < (sbs l y 0 j).length) : (sbs l y 0 j)[x] = sb l y x := by
  unfold sbs at h ⊢
  rw [List.getElem_map, List.getElem_range', Nat.one_mul, Nat.zero_add]
theorem sb_step {l y x : Nat} (hy : 1 ≤ y) (hl : l ≤ y) : (sb l y x = true → (x + 1) * l / y = x * l / y + 1) ∧ (sb l y x = false → (x + 1) * l / y = x * l / y) := by
  have h1 : (x + 1) * l / y ≤ x * l / y + 1 := by
    rw [← Nat.add_div_right _ (show 0 < y by omega)]
    refine Nat.div_le_div_right ?_
    rw [Nat.add_mul]; omega
  have h2 : x * l / y ≤ (x + 1) * l / y := Nat.div_le_div_right (Nat.mul_le_mul_right _ (by omega))
  unfold sb
  constructor
  · intro h; have := of_decide_eq_true h; omega
  · intro h; have := of_decide_eq_false h; omega
theorem k16 {N : Nat} (hN : 1000000 < N) {l y : Nat} (y1 : 1 ≤ y) (y2 : y ≤ 1000) (hl : l ≤ y) {g n d a b : Int} {tx : ByteArray} {ok okL : Bool} {L : List S25} (H : zq47.d17 N g tx ok a b L okL n d = some true) : ∀ (t x f : Nat), x + t = y → t < f →
    zq47.l16 N f l y (sbs l y 0 y) g tx ok a b L okL ((x * l / y : Nat) : Int) (sbs l y 0 y) ((sbs l y 0 y).length : Int) x n d = some true
  | 0, x, f+1, hx, hf => by
    have hlen := sbs_len l y 0 y
    have e : x * l / y = l := by rw [show x = y by omega, Nat.mul_comm, Nat.mul_div_cancel _ (by omega)]
    unfold zq47.l16 zq47.d16 zq47.o16
    rw [dcF (by omega), cond_false, ineF (by omega), cond_false, e, ineF rfl]
    unfold zq47.d20 zq47.o20
    exact H
  | t+1, x, f+1, hx, hf => by
    have hlen := sbs_len l y 0 y
    obtain ⟨_, e1, _, b1, b2⟩ := mo_args (num := l) (den := y) (show l ≤ 1000000 by omega) (show x ≤ 1000 by omega)
    have hst := sb_step (x := x) y1 hl
    have nxt : zq47.d19 N l y (sbs l y 0 y) g tx ok a b L okL (((x + 1) * l / y : Nat) : Int) x (sbs l y 0 y) ((sbs l y 0 y).length : Int) x n d (fun w0 w1 w2 w3 w4 w5 w6 w7 w8 w9 w10 w11 w12 w13 w14 w15 => zq47.l16 N f w0 w1 w2 w3 w4 w5 w6 w7 w8 w9 w10 w11 w12 w13 w14 w15) = some true := by
      unfold zq47.d19 zq47.o19
      rw [ieqF (by omega), cond_false, w1add (by omega), e1, ineF rfl, cond_false]
      exact k16 hN y1 y2 hl H t (x + 1) f (by omega) (by omega)
    unfold zq47.l16 zq47.d16 zq47.o16
    rw [dcT (by omega), cond_true, dcT (by omega), cond_true, cond_true, Int.toNat_natCast, getAt (show x < (sbs l y 0 y).length by omega), sbs_get]
    cases hs : sb l y x with
    | true =>
      rw [cond_true, w1add (by omega), ← hst.1 hs]
      exact nxt
    | false =>
      rw [cond_false, ← hst.2 hs]
      exact nxt
  | _, _, 0, _, hf => by omega
def SpreadR (a b : Int) (r : List Bool × Bool) : Prop := r = ([], false) ∨ ∃ l y : Nat, a = l ∧ b = y ∧ 1 ≤ y ∧ y ≤ 1000 ∧ l ≤ y ∧ r = (sbs l y 0 y, true)
theorem k13 {N : Nat} (hN : 1000000 < N) {u v : Int} {s : List Bool × Bool} (hs : SpreadR u v s) {g n d a b : Int} {tx : ByteArray} {ok okL : Bool} {L : List S25} (H : zq47.d17 N g tx ok a b L okL n d = some true) : zq47.d13 N u v s.1 s.2 g tx ok a b L okL n d = some true := by
  unfold zq47.d13 zq47.o13
  rcases hs with rfl | ⟨l, y, rfl, rfl, h1, h2, h3, rfl⟩
  · exact H
  · dsimp only
    rw [cond_true]
    have := k16 hN h1 h2 h3 H y 0 N (by omega) (by omega)
    rw [Nat.zero_mul, Nat.zero_div] at this
    exact this
theorem mos_get {num den j x : Nat} (h : x < (mos num den 0 j).length) : (mos num den 0 j)[x] = mo num den x := by
  unfold mos at h ⊢
  rw [List.getElem_map, List.getElem_range', Nat.one_mul, Nat.zero_add]
theorem mo_step {num den x : Nat} (hd : 1 ≤ den) : (num / den : Nat) ≤ mo num den x ∧ mo num den x ≤ ((num / den : Nat) : Int) + 1 := by
  have e : (x + 1) * num = x * num + num := by rw [Nat.add_mul]; omega
  have h1 : x * num / den + num / den ≤ (x + 1) * num / den := by rw [e]; exact Nat.div_add_div_le_add_div
  have h2 : (x + 1) * num / den < x * num / den + num / den + 2 := by
    refine Nat.div_lt_of_lt_mul ?_
    have a1 := Nat.div_add_mod (x * num) den
    have a2 := Nat.div_add_mod num den
    have a3 := Nat.mod_lt (x * num) (show den > 0 by omega)
    have a4 := Nat.mod_lt num (show den > 0 by omega)
    rw [e, Nat.mul_add, Nat.mul_add]
    omega
  unfold mo
  generalize (x + 1) * num / den = u at *
  generalize x * num / den = v at *
  generalize num / den = w at *
  omega
theorem k12 {N : Nat} (hN : 1000000 < N) {num den k : Nat} (d1 : 1 ≤ den) (hn : num ≤ 1000000) (hk : k ≤ 400) {u v g n d a b : Int} {sp : List Bool} {oks ok okL : Bool} {tx : ByteArray} {L : List S25} (H : zq47.d13 N u v sp oks g tx ok a b L okL n d = some true) : ∀ (t x f : Nat), x + t = k → t < f →
    zq47.l12 N f num den k (mos num den 0 k) u v sp oks g tx ok a b L okL ((x * num / den : Nat) : Int) (mos num den 0 k) ((mos num den 0 k).length : Int) x n d = some true
  | 0, x, f+1, hx, hf => by
    have hlen := mos_len num den 0 k
    unfold zq47.l12 zq47.d12 zq47.o12
    rw [dcF (by omega), cond_false, ineF (by omega), cond_false]
    exact H
  | t+1, x, f+1, hx, hf => by
    have hlen := mos_len num den 0 k
    obtain ⟨_, e1, _, b1, b2⟩ := mo_args (den := den) hn (show x ≤ 1000 by omega)
    have hst := mo_step (num := num) (den := den) (x := x) d1
    have hq : num / den ≤ num := Nat.div_le_self _ _
    have es : w64 (((x * num / den : Nat) : Int) + mo num den x) = (((x + 1) * num / den : Nat) : Int) := by
      unfold mo
      clear e1 hst
      generalize (x + 1) * num / den = u at *
      generalize x * num / den = v at *
      rw [w64s (by omega) (by omega)]; omega
    have et : w64 (Int.tdiv (num : Int) (den : Int)) = ((num / den : Nat) : Int) := by rw [tdivN, w64n (by omega)]
    have hst1 := hst.1
    have hst2 := hst.2
    unfold zq47.l12 zq47.d12 zq47.o12
    rw [dcT (show (x : Int) < ((mos num den 0 k).length : Int) by omega), cond_true, dcT (by omega), cond_true, cond_true, Int.toNat_natCast, getAt (show x < (mos num den 0 k).length by omega), mos_get, ieqF (show ¬ (den : Int) = 0 by omega), cond_false, w1add (by omega), es, e1, et, ineF rfl, cond_false, cond_false]
    clear es et e1 hst
    generalize num / den = w at *
    rw [dcF (show ¬ mo num den x < (w : Int) by omega), cond_false, cond_false, w1add (by omega), dcF (show ¬ mo num den x > ((w + 1 : Nat) : Int) by omega)]
    unfold zq47.d15 zq47.o15
    dsimp only
    rw [cond_false, w1add (by omega)]
    exact k12 hN d1 hn hk H t (x + 1) f (by omega) (by omega)
  | _, _, 0, _, hf => by omega
def MonthR (a b c : Int) (r : List Int × Bool) : Prop := r = ([], false) ∨ ∃ num den k : Nat, a = num ∧ b = den ∧ c = k ∧ 1 ≤ den ∧ num ≤ 1000000 ∧ k ≤ 400 ∧ r = (mos num den 0 k, true)
theorem k9 {N : Nat} (hN : 1000000 < N) {p q w : Int} {r : List Int × Bool} (hr : MonthR p q w r) {u v g n d a b : Int} {sp : List Bool} {oks ok okL : Bool} {tx : ByteArray} {L : List S25} (H : zq47.d13 N u v sp oks g tx ok a b L okL n d = some true) :
    zq47.d9 N p q w r.1 r.2 u v sp oks g tx ok a b L okL n d = some true := by
  unfold zq47.d9 zq47.o9
  rcases hr with rfl | ⟨num, den, k, rfl, rfl, rfl, h1, h2, h3, rfl⟩
  · exact H
  · dsimp only
    rw [cond_true]
    have := k12 hN h1 h2 h3 H k 0 N (by omega) (by omega)
    rw [Nat.zero_mul, Nat.zero_div] at this
    exact this
/-! ### convergents -/
theorem row0 (f : Nat × Nat) : (row f)[(0 : Int).toNat]? = some (f.1 : Int) := rfl
theorem row1 (f : Nat × Nat) : (row f)[(1 : Int).toNat]? = some (f.2 : Int) := rfl
theorem rowL (f : Nat × Nat) : ((row f).length : Int) = 2 := rfl
theorem row0' (f : Nat × Nat) : (row f)[0]? = some (f.1 : Int) := rfl
theorem row1' (f : Nat × Nat) : (row f)[1]? = some (f.2 : Int) := rfl
theorem dL0 (f : Nat × Nat) : decide ((0 : Int) < ((row f).length : Int)) = true := rfl
theorem dL1 (f : Nat × Nat) : decide ((1 : Int) < ((row f).length : Int)) = true := rfl
theorem k8 {N : Nat} {num den most : Nat} (hd : den ≤ 100000) (hn : num < den) (hmo : most ≤ 100000) {R : List (Nat × Nat)} (hC : Chain num den most 1 0 R) (hL : R.length ≤ 200000) {T : List (Nat × Nat)} (hR : R = (0, 1) :: T)
    {p q w : Int} {ms : List Int} {okm : Bool} {u v g n d a b : Int} {sp : List Bool} {oks ok okL : Bool} {tx : ByteArray} {L : List S25}
    (H : zq47.d9 N p q w ms okm u v sp oks g tx ok a b L okL n d = some true) : ∀ (t x f : Nat), x + t = R.length → t < f →
    zq47.l8 N f num den most (R.map row) p q w ms okm u v sp oks g tx ok a b L okL (R.map row) ((R.map row).length : Int) x n d = some true
  | 0, x, f+1, hx, hf => by
    have hlen : (R.map row).length = R.length := List.length_map ..
    have hpos : 1 ≤ R.length := by rw [hR]; simp
    have h0 : (R.map row)[(0 : Int).toNat]? = some (row (0, 1)) := by rw [hR]; rfl
    unfold zq47.l8 zq47.d8 zq47.o8
    rw [dcF (by omega), cond_false, dcF (by omega), cond_false, dcT (by omega), cond_true, h0, Option.bind_some, rowL, dcT (by omega), cond_true, row0, Option.bind_some, ineF (show (((0, 1) : Nat × Nat).1 : Int) = 0 from rfl), cond_false, cond_true, Option.bind_some, rowL, dcT (by omega), cond_true, row1, Option.bind_some, ineF (show (((0, 1) : Nat × Nat).2 : Int) = 1 from rfl)]
    unfold zq47.d11 zq47.o11
    exact H
  | t+1, x, f+1, hx, hf => by
    have hlen : (R.map row).length = R.length := List.length_map ..
    have hlt : x < R.length := by omega
    have gx : R[x]? = some R[x] := List.getElem?_eq_getElem hlt
    have hx1 := chain_at hC gx
    have g1 : (R.map row)[(x : Int).toNat]? = some (row R[x]) := by rw [Int.toNat_natCast, List.getElem?_map, gx]; rfl
    have ih := k8 hd hn hmo hC hL hR H t (x + 1) f (by omega) (by omega)
    generalize R[x] = F at *
    have m1 : F.1 * den ≤ 100000 * 100000 := Nat.mul_le_mul (by omega) hd
    have m2 : num * F.2 ≤ 100000 * 100000 := Nat.mul_le_mul (by omega) (by omega)
    have ez : w64 (w64 ((F.1 : Int) * (den : Int)) - w64 ((num : Int) * (F.2 : Int))) = (F.1 : Int) * den - num * F.2 := by
      rw [← Int.natCast_mul, ← Int.natCast_mul, w64n (by omega), w64n (by omega), w64s (by omega) (by omega)]
    have zb : ((F.1 : Int) * den - num * F.2).natAbs ≤ 10000000000 := by
      rw [← Int.natCast_mul, ← Int.natCast_mul]; omega
    have nxt : ∀ z : Int, z = (((F.1 : Int) * den - num * F.2).natAbs : Int) → zq47.d14 N num den most (R.map row) p q w ms okm u v sp oks g tx ok a b L okL x (row F) z (R.map row) ((R.map row).length : Int) x n d (fun w0 w1 w2 w3 w4 w5 w6 w7 w8 w9 w10 w11 w12 w13 w14 w15 w16 w17 w18 w19 w20 w21 w22 w23 w24 => zq47.l8 N f w0 w1 w2 w3 w4 w5 w6 w7 w8 w9 w10 w11 w12 w13 w14 w15 w16 w17 w18 w19 w20 w21 w22 w23 w24) = some true := by
      rintro z rfl
      unfold zq47.d14 zq47.o14
      by_cases c : x = 0
      · subst c
        rw [dcF (by omega), cond_false, w1add (by omega)]
        exact ih
      · obtain ⟨y, rfl⟩ : ∃ y, x = y + 1 := ⟨x - 1, by omega⟩
        have gy : R[y]? = some R[y] := List.getElem?_eq_getElem (by omega)
        have hy1 := chain_at hC gy
        have h2 := chain_two hC gy gx
        have g2 : (R.map row)[(y : Int).toNat]? = some (row R[y]) := by rw [Int.toNat_natCast, List.getElem?_map, gy]; rfl
        generalize R[y] = G at *
        have m3 : G.1 * F.2 ≤ 100000 * 100000 := Nat.mul_le_mul (by omega) (by omega)
        have m4 : F.1 * G.2 ≤ 100000 * 100000 := Nat.mul_le_mul (by omega) (by omega)
        have ec : w64 (w64 ((G.1 : Int) * (F.2 : Int)) - w64 ((F.1 : Int) * (G.2 : Int))) = (G.1 : Int) * F.2 - F.1 * G.2 := by
          rw [← Int.natCast_mul, ← Int.natCast_mul, w64n (by omega), w64n (by omega), w64s (by omega) (by omega)]
        have eo : w64 ((((F.1 : Int) * den - num * F.2).natAbs : Int) * (G.2 : Int)) = ((((F.1 : Int) * den - num * F.2).natAbs * G.2 : Nat) : Int) := by
          rw [← Int.natCast_mul, w64n (by omega)]
        have fin : zq47.d18 N num den most (R.map row) p q w ms okm u v sp oks g tx ok a b L okL (R.map row) ((R.map row).length : Int) ((y + 1 : Nat) : Int) (decide (w64 ((((F.1 : Int) * den - num * F.2).natAbs : Int) * (G.2 : Int)) > (den : Int))) n d (fun w0 w1 w2 w3 w4 w5 w6 w7 w8 w9 w10 w11 w12 w13 w14 w15 w16 w17 w18 w19 w20 w21 w22 w23 w24 => zq47.l8 N f w0 w1 w2 w3 w4 w5 w6 w7 w8 w9 w10 w11 w12 w13 w14 w15 w16 w17 w18 w19 w20 w21 w22 w23 w24) = some true := by
          unfold zq47.d18 zq47.o18
          rw [eo, dcF (by have := h2.1; omega), cond_false, w1add (by omega)]
          exact ih
        have ey : w64 (((y + 1 : Nat) : Int) - 1) = (y : Int) := by rw [w64s (by omega) (by omega)]; omega
        have ty0 : decide ((0 : Int) ≤ (y : Int)) = true := dcT (by omega)
        have ty1 : decide ((y : Int) < ((R.map row).length : Int)) = true := dcT (by omega)
        have ty2 : decide (((y + 1 : Nat) : Int) > 0) = true := dcT (by omega)
        rw [ty2, cond_true, ey, ty0, cond_true, ty1, cond_true, g2]
        simp only [row0, row1, row0', row1', dL0, dL1, cond_true, Option.bind_some, ec]
        have h3 : (G.1 : Int) * F.2 - F.1 * G.2 = 1 ∨ (G.1 : Int) * F.2 - F.1 * G.2 = -1 := by have := h2.2; omega
        rcases h3 with e | e
        · rw [e, ineF rfl, cond_false]; exact fin
        · rw [e, ineT (by decide), cond_true, ineF rfl, cond_false]; exact fin
    unfold zq47.l8 zq47.d8 zq47.o8
    rw [dcT (by omega), cond_true, dcT (by omega), cond_true, cond_true, g1, Option.bind_some, rowL, ineF rfl, cond_false, dcT (by omega), cond_true, row1, Option.bind_some, dcF (by omega), cond_false, dcT (by omega), cond_true, row0, Option.bind_some, dcF (by omega), cond_false, cond_true, Option.bind_some, cond_true, Option.bind_some, dcF (by omega)]
    unfold zq47.d10 zq47.o10
    dsimp only
    rw [cond_false, rowL, dcT (by omega), cond_true, row0, Option.bind_some, dcT (by omega), cond_true, row1, Option.bind_some, ez]
    by_cases c : (F.1 : Int) * den - num * F.2 < 0
    · rw [dcT c, cond_true, w64s (by omega) (by omega)]
      exact nxt _ (by omega)
    · rw [dcF c, cond_false]
      exact nxt _ (by omega)
  | _, _, 0, _, hf => by omega
theorem k5 {N : Nat} (hN : 1000000000000 < N) {code : List Int} (hc : Bs code) : zq47.d5 N code = some true := by
  obtain ⟨⟨a1, a2, a3⟩, d1⟩ := draw2 (N := N) hc
  obtain ⟨⟨b1, b2, b3⟩, d2⟩ := draw3 (N := N) hc
  obtain ⟨⟨c1, c2⟩, d3⟩ := draw4 (N := N) hc
  obtain ⟨⟨e1, e2, e3, e4⟩, d4⟩ := draw5 (N := N) (by omega) hc
  obtain ⟨⟨f1, f2⟩, d5⟩ := draw6 (N := N) hc
  obtain ⟨r, r1, r2, r3⟩ := Best_eq (N := N) (by omega) a1 a2 a3
  obtain ⟨s, s1, s2, s3⟩ := Months_eq (N := N) (by omega) b1 b2 b3
  obtain ⟨t, t1, t2, t3⟩ := Spread_eq (N := N) (by omega) c1 c2
  obtain ⟨u, u1, u2, u3⟩ := Tell_eq (N := N) (by omega) e1 e2 e3 e4
  obtain ⟨v, v1, v2, v3⟩ := Look_eq (N := N) (by omega) f1 f2
  have h17 := k17 hN u3 v3
  have h13 := k13 (N := N) (by omega) t3 h17
  have h9 := k9 (N := N) (by omega) s3 h13
  have h7 : zq47.d7 N a1 a2 a3 r.1 r.2 b1 b2 b3 s.1 s.2 c1 c2 t.1 t.2 e2 u.1 u.2 f1 f2 v.1 v.2 false e3 e4 = some true := by
    unfold zq47.d7 zq47.o7
    rcases r3 with rfl | ⟨num, den, most, R, rfl, rfl, rfl, q1, q2, q3, q4, rfl, q5, q6, T, q7⟩
    · exact h9
    · dsimp only
      rw [cond_false, cond_true]
      exact k8 q3 q2 q4 q5 q6 q7 h9 R.length 0 N (by omega) (by omega)
  have lr : zq50.g N r.1 r.1 = some true := by
    rcases r3 with rfl | ⟨num, den, most, R, _, _, _, q1, q2, q3, q4, rfl, q5, q6, T, q7⟩
    · exact wRows_self _ (by simp) (by simp) (by simp; omega) (by omega)
    · refine wRows_self _ (by rw [List.length_map]; omega) ?_ (by rw [List.length_map]; omega) (by omega)
      intro x hx
      obtain ⟨y, _, rfl⟩ := List.mem_map.1 hx
      exact Nat.le_refl 2
  have ls : zq51.g N s.1 s.1 = some true := by
    rcases s3 with rfl | ⟨num, den, k, _, _, _, q1, q2, q3, rfl⟩
    · exact wSame_self _ (by simp) (by simp; omega)
    · exact wSame_self _ (by rw [mos_len]; omega) (by rw [mos_len]; omega)
  have lt : zq53.g N t.1 t.1 = some true := by
    rcases t3 with rfl | ⟨l, y, _, _, q1, q2, q3, rfl⟩
    · exact wYes_self _ (by simp) (by simp; omega)
    · exact wYes_self _ (by rw [sbs_len]; omega) (by rw [sbs_len]; omega)
  have lv : zq52.g N v.1 v.1 = some true := by
    rcases v3 with rfl | ⟨i, j, m, _, _, q1, q2, q3, q4, q5, q6, rfl⟩
    · exact wTurns_self _ (by simp) (by simp; omega)
    · exact wTurns_self _ (by rw [rts_len]; omega) (by rw [rts_len]; omega)
  unfold zq47.d5 zq47.o5
  rw [d1, Option.bind_some]
  dsimp only
  rw [r1, Option.bind_some, r2, Option.bind_some, d2, Option.bind_some]
  dsimp only
  rw [s1, Option.bind_some, s2, Option.bind_some, d3, Option.bind_some]
  dsimp only
  rw [t1, Option.bind_some, t2, Option.bind_some, d4, Option.bind_some]
  dsimp only
  rw [u1, Option.bind_some, u2, Option.bind_some, d5, Option.bind_some]
  dsimp only
  rw [v1, Option.bind_some, v2, Option.bind_some, lr, ls, lt, lv]
  simp only [beq_self_eq_true, Bool.not_true, cond_false, Option.bind_some]
  exact h7
/-- the first half: how much a rule is off -/
theorem off_law {N : Nat} (hN : 1000000000000 < N) {E B Y a d : Nat} (hR : Rule E B Y) (f1 : 1 ≤ a) (f2 : a < d) (f3 : d ≤ 100000) {x : Int} {z g : Nat} (o3 : n0 E B Y a d = x * g) (o4 : cyc E B Y * d = z * g) (o5 : 1 ≤ g) (o6 : 1 ≤ z) :
    (x.natAbs ≤ 3000000000 ∧ z ≤ 1000000000) ∧ w64 (w64 (x * (cyc E B Y : Int)) * (d : Int)) = w64 (w64 (w64 (lpV E B Y (cyc E B Y) * (d : Int)) - w64 ((a : Int) * (cyc E B Y : Int))) * (z : Int)) := by
  obtain ⟨b1, b2, ⟨b3, b4⟩, b5, b6⟩ := n0_le hR f2 f3
  have hc := cyc_le hR
  have xle : x.natAbs ≤ 3000000000 := by
    have h1 : (n0 E B Y a d).natAbs = x.natAbs * g := by rw [o3, Int.natAbs_mul, Int.natAbs_natCast]
    have h2 : x.natAbs ≤ x.natAbs * g := Nat.le_mul_of_pos_right _ o5
    omega
  have zle : z ≤ 1000000000 := by
    have h2 : z ≤ z * g := Nat.le_mul_of_pos_right _ o5
    omega
  refine ⟨⟨xle, zle⟩, ?_⟩
  have e0 : w64 (w64 (lpV E B Y (cyc E B Y) * (d : Int)) - w64 ((a : Int) * (cyc E B Y : Int))) = n0 E B Y a d := by
    rw [w64s (n := lpV E B Y (cyc E B Y) * (d : Int)) (by omega) (by omega), ← Int.natCast_mul, w64n (by omega), Int.natCast_mul]
    exact w64s (by show _ ≤ n0 E B Y a d; omega) (by show n0 E B Y a d < _; omega)
  have m1 : (x * (cyc E B Y : Int)).natAbs ≤ 3000000000 * 10000 := by
    rw [Int.natAbs_mul, Int.natAbs_natCast]
    exact Nat.mul_le_mul xle hc.2
  have e1 : x * (cyc E B Y : Int) * (d : Int) = n0 E B Y a d * (z : Int) := by
    rw [o3, Int.mul_assoc, ← Int.natCast_mul, o4, Int.natCast_mul, Int.mul_assoc, Int.mul_comm (z : Int)]
  rw [e0, w64s (n := x * (cyc E B Y : Int)) (by omega) (by omega), e1]
theorem k3 {N : Nat} (hN : 1000000000000 < N) {code : List Int} (hc : Bs code) {x : Int} {z : Nat} (hx : x.natAbs ≤ 3000000000) (hz : z ≤ 1000000000) {ry : Int × Bool} (hy : ry = if x = 0 then (0, false) else ((((z + x.natAbs - 1) / x.natAbs : Nat) : Int), true)) (hz1 : 1 ≤ z) :
    zq47.d3 N code x z ry.1 ry.2 = some true := by
  have fin := k5 hN hc
  unfold zq47.d3 zq47.o3
  by_cases c : x = 0
  · rw [if_pos c] at hy
    subst hy
    exact fin
  · rw [if_neg c] at hy
    subst hy
    dsimp only
    rw [cond_true]
    have key : ∀ s : Int, s = (x.natAbs : Int) → zq47.d4 N code z (((z + x.natAbs - 1) / x.natAbs : Nat) : Int) s = some true := by
      rintro s rfl
      have hp : 0 < x.natAbs := by omega
      have h1 : 1 ≤ (z + x.natAbs - 1) / x.natAbs := (Nat.le_div_iff_mul_le hp).2 (by omega)
      have h2 := Nat.div_add_mod (z + x.natAbs - 1) x.natAbs
      have h3 := Nat.mod_lt (z + x.natAbs - 1) hp
      rw [Nat.mul_comm] at h2
      generalize hq : (z + x.natAbs - 1) / x.natAbs = y at *
      obtain ⟨w, rfl⟩ : ∃ w, y = w + 1 := ⟨y - 1, by omega⟩
      have e2 : (w + 1) * x.natAbs = w * x.natAbs + x.natAbs := by rw [Nat.add_mul]; omega
      have m1 : w64 (((w + 1 : Nat) : Int) * (x.natAbs : Int)) = (((w + 1) * x.natAbs : Nat) : Int) := by rw [← Int.natCast_mul, w64n (by omega)]
      have m0 : w64 (((w + 1 : Nat) : Int) - 1) = (w : Int) := by
        have : w ≤ w * x.natAbs := Nat.le_mul_of_pos_right _ hp
        rw [w64s (by omega) (by omega)]; omega
      have m2 : w64 ((w : Int) * (x.natAbs : Int)) = ((w * x.natAbs : Nat) : Int) := by rw [← Int.natCast_mul, w64n (by omega)]
      unfold zq47.d4 zq47.o4
      rw [dcF (by omega), cond_false, m1, dcF (by omega), cond_false, m0, m2, dcF (by omega)]
      unfold zq47.d6 zq47.o6
      exact fin
    by_cases c2 : x < 0
    · rw [dcT c2, cond_true, w64s (by omega) (by omega)]
      exact key _ (by omega)
    · rw [dcF c2, cond_false]
      exact key _ (by omega)
theorem FnRulesBest.pure : FnRulesBest.Pure := by
  intro z s hz hs
  refine ⟨2000000000000, ?_⟩
  have big : zq48.g 2000000000000 z s = some (decide ((z.length : Int) > 1048576 ∨ (s.length : Int) > 1048576 - (z.length : Int))) := by
    unfold zq48.g zq48.o0
    by_cases c : (z.length : Int) > 1048576
    · rw [dcT c, dcT (Or.inl c : (z.length : Int) > 1048576 ∨ (s.length : Int) > 1048576 - (z.length : Int))]; rfl
    · rw [dcF c, w64s (by omega) (by omega), cond_false]
      congr 1
      apply decide_eq_decide.2
      constructor
      · exact .inr
      · intro h; exact h.resolve_left c
  by_cases c : (z.length : Int) > 1048576 ∨ (s.length : Int) > 1048576 - (z.length : Int)
  · unfold zq47.g zq47.o0
    rw [big, dcT c]; rfl
  · rw [dcF c] at big
    have u8 : ∀ x : Int, (Lit.int .u8 x).wf = true → 0 ≤ x ∧ x ≤ 255 := fun x hx => by simpa [Lit.wf, IntKind.min, IntKind.max, IntKind.signed, IntKind.bits] using hx
    have hz' : Bs z := ⟨by omega, fun x hx => u8 x (hz.2.2 x hx)⟩
    have hs' : Bs s := ⟨by omega, fun x hx => u8 x (hs.2.2 x hx)⟩
    have hN : 1000000000000 < 2000000000000 := by omega
    generalize 2000000000000 = N at *
    have fin := k5 hN hs'
    obtain ⟨⟨e, b, y, num, den⟩, ed⟩ := draw1 (N := N) hz'
    obtain ⟨ro, ry, r1, r2, r3, r4, r5⟩ := OffBy_eq hN e b y num den
    unfold zq47.g zq47.o0
    rw [big, Option.bind_some, cond_false, ed, Option.bind_some]
    dsimp only
    rw [r1, Option.bind_some, r2, Option.bind_some, r3, Option.bind_some, r4, Option.bind_some]
    simp only [beq_self_eq_true, Bool.not_true, cond_false, bne_self_eq_false]
    rcases r5 with ⟨rfl, rfl⟩ | ⟨E, B, Y, a, d, x, w, g, rfl, rfl, rfl, rfl, rfl, hR, f1, f2, f3, rfl, o3, o4, o5, o6, hy⟩
    · exact fin
    · obtain ⟨⟨hx, hw⟩, hl⟩ := off_law hN hR f1 f2 f3 o3 o4 o5 o6
      have hk := k3 hN hs' hx hw hy o6
      have one : (!(ry.2 == (x != 0))) = false := by
        rw [hy]
        by_cases c : x = 0
        · rw [if_pos c, ineF c]; rfl
        · rw [if_neg c, ineT c]; rfl
      have hcy := cyc_eq N hR
      have hle := leaps_eq N (E := E) (B := B) (Y := Y) hR.e1 (cyc_le hR).2
      obtain ⟨vv, q1, q2, q3⟩ := rule_eq N (E : Int) (B : Int) (Y : Int)
      dsimp only
      rw [one, cond_true]
      unfold zq47.d1 zq47.o1
      dsimp only
      rw [cond_false, cond_true]
      have lc : zq11.g N E B Y = some ((cyc E B Y : Int), lpV E B Y (cyc E B Y), true) := by
        have hv : vv = true := by
          cases hvv : vv with
          | true => rfl
          | false =>
            exfalso
            subst hvv
            unfold zq15.g zq15.o0 at r1
            rw [q1, Option.bind_some] at r1
            have h9 : (no3 : Option (Int × Int × Bool)) = some (x, (w : Int), true) := r1
            simp at h9
        unfold zq11.g zq11.o0
        rw [q1, hv, Option.bind_some, Bool.not_true, cond_false, hcy.1, Option.bind_some, Option.bind_some, hle.1, Option.bind_some]
      rw [lc, Option.bind_some]
      dsimp only
      rw [Bool.not_true, cond_false, dcF (by omega), cond_false, hl, bne_self_eq_false]
      unfold zq47.d2 zq47.o2
      exact hk
end Go.Proofs.YtccjoegnkiaibaaGreatDoor.M
