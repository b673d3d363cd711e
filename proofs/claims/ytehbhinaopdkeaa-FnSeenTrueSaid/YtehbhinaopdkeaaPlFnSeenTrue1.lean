/- Plain lemmas about what the functions compute (part 1). No conditions but those stated. -/
import Derived.Test.YtehbhinaopdkeaaFnFnSeenTrue2
namespace Go.Proofs.Ytehbhinaopdkeaa.M
open Go Go.PM Go.Proofs.Ytehbhinaopdkeaa.P
set_option linter.unusedVariables false
set_option linter.unusedSimpArgs false
def inB (a lo hi : Int) : Bool := decide (lo ≤ a) && decide (a ≤ hi)
theorem inB_iff {a lo hi : Int} : inB a lo hi = true ↔ lo ≤ a ∧ a ≤ hi := by simp [inB]
theorem within_eq (N : Nat) (a b c : Int) : zq30.g N a b c = some (inB a b c) := by
  unfold zq30.g zq30.o0 inB
  by_cases h : b ≤ a
  · rw [dcT (show a ≥ b from h)]; rfl
  · rw [dcF (show ¬ a ≥ b from h)]; rfl
theorem l1In_eq (N : Nat) (a b c : Int) : zq69.g N a b c = some (inB a b c) := by
  unfold zq69.g zq69.o0 inB
  by_cases h : b ≤ a
  · rw [dcT (show a ≥ b from h)]; rfl
  · rw [dcF (show ¬ a ≥ b from h)]; rfl
theorem isDial_eq (N : Nat) (a : Int) : zq23.g N a = some (inB a 2 24) := by
  unfold zq23.g zq23.o0; rw [within_eq]; rfl
theorem diHours_eq (N : Nat) (a : Int) : zq57.g N a = some (inB a 2 24) := by
  unfold zq57.g zq57.o0; rw [l1In_eq]; rfl
theorem tmodN (a b : Nat) : Int.tmod (a : Int) (b : Int) = ((a % b : Nat) : Int) := (Int.ofNat_tmod a b).symm
theorem tdivN (a b : Nat) : Int.tdiv (a : Int) (b : Int) = ((a / b : Nat) : Int) := (Int.ofNat_tdiv a b).symm
theorem w1add {a : Nat} (h : a < 9000000000000000000) : w64 ((a : Int) + 1) = ((a + 1 : Nat) : Int) := by rw [w64s (by omega) (by omega)]; omega
end Go.Proofs.Ytehbhinaopdkeaa.M
namespace Go.Proofs.Ytehbhinaopdkeaa.M
open Go Go.PM
set_option linter.unusedVariables false
set_option linter.unusedSimpArgs false
/-! ### parts of a turn in lowest terms -/
def pr (n d : Nat) : Nat × Nat := (n % d / Nat.gcd (n % d) d, d / Nat.gcd (n % d) d)
theorem pr_scale {k n d : Nat} (hk : 0 < k) : pr (k * n) (k * d) = pr n d := by
  unfold pr
  rw [Nat.mul_mod_mul_left, Nat.gcd_mul_left, Nat.mul_div_mul_left _ _ hk, Nat.mul_div_mul_left _ _ hk]
theorem pr_add (n k d : Nat) : pr (n + k * d) d = pr n d := by
  unfold pr; rw [Nat.add_mul_mod_self_right]
theorem pr_mod (n d : Nat) : pr (n % d) d = pr n d := by
  unfold pr; rw [Nat.mod_mod]
theorem pr_eq {n d n' d' : Nat} (j k : Nat) (hd : 0 < d) (hd' : 0 < d') (h : n * d' + j * (d * d') = n' * d + k * (d * d')) : pr n d = pr n' d' := by
  have h1 : pr n d = pr (d' * n) (d' * d) := (pr_scale hd').symm
  have h2 : pr n' d' = pr (d * n') (d * d') := (pr_scale hd).symm
  rw [h1, h2, Nat.mul_comm d' d, ← pr_add (d' * n) j (d * d'), ← pr_add (d * n') k (d * d'), Nat.mul_comm d' n, Nat.mul_comm d n', h]
theorem pr_eq0 {n d n' d' : Nat} (hd : 0 < d) (hd' : 0 < d') (h : n * d' = n' * d) : pr n d = pr n' d' := pr_eq 0 0 hd hd' (by omega)
theorem pr_low {n d : Nat} (h : n < d) (hg : Nat.gcd n d = 1) : pr n d = (n, d) := by
  unfold pr; rw [Nat.mod_eq_of_lt h, hg, Nat.div_one, Nat.div_one]
theorem pr_spec {n d : Nat} (hd : 0 < d) : (pr n d).1 < (pr n d).2 ∧ (pr n d).2 ≤ d ∧ Nat.gcd (pr n d).1 (pr n d).2 = 1 ∧ (pr n d).1 * d = n % d * (pr n d).2 := by
  have hlt : n % d < d := Nat.mod_lt _ hd
  unfold pr
  generalize n % d = a at *
  have hg : 0 < Nat.gcd a d := Nat.gcd_pos_of_pos_right _ hd
  have hc := Nat.coprime_div_gcd_div_gcd hg
  obtain ⟨x, hx⟩ := Nat.gcd_dvd_left a d
  obtain ⟨y, hy⟩ := Nat.gcd_dvd_right a d
  have ex : a / Nat.gcd a d = x := Nat.div_eq_of_eq_mul_right hg hx
  have ey : d / Nat.gcd a d = y := Nat.div_eq_of_eq_mul_right hg hy
  have hle : d / Nat.gcd a d ≤ d := Nat.div_le_self _ _
  refine ⟨?_, hle, hc, ?_⟩
  · rw [ex, ey]
    refine Nat.lt_of_mul_lt_mul_left (a := Nat.gcd a d) ?_
    rw [← hx, ← hy]; exact hlt
  · show a / Nat.gcd a d * d = a * (d / Nat.gcd a d)
    rw [ex, ey]
    generalize Nat.gcd a d = g at *
    subst hx hy
    simp only [Nat.mul_assoc, Nat.mul_comm, Nat.mul_left_comm]
theorem pr_lt {n d : Nat} (hd : 0 < d) (h : n < d) : (pr n d).1 * d = n * (pr n d).2 := by
  have := (pr_spec (n := n) hd).2.2.2
  rw [Nat.mod_eq_of_lt h] at this
  exact this
theorem pr_pos {n d : Nat} (hd : 0 < d) : 0 < (pr n d).2 := Nat.lt_of_le_of_lt (Nat.zero_le _) (pr_spec (n := n) hd).1
theorem div_mul_self' {n k d : Nat} (hk : 0 < k) : (n * k) / (d * k) = n / d := Nat.mul_div_mul_right _ _ hk
/-! ### hours, minutes and seconds of a time; M: minutes times d -/
/-- and back -/
theorem told {n d h num den S : Nat} (hh : 0 < h) (hn : num < den) (hg : Nat.gcd num den = 1) (hS : S < 3600 * h) (e : pr (S * den + num) (h * 3600 * den) = (n, d)) : 3600 * (n * h) / d = S ∧ pr (3600 * (n * h)) d = (num, den) := by
  have hden : 0 < den := by omega
  have hD : 0 < h * 3600 * den := Nat.mul_pos (by omega) hden
  have hlt : S * den + num < h * 3600 * den := by
    have : (S + 1) * den ≤ h * 3600 * den := Nat.mul_le_mul_right _ (by omega)
    rw [Nat.add_mul] at this; omega
  have h1 := pr_lt hD hlt
  have h2 := pr_pos (n := S * den + num) hD
  rw [e] at h1 h2
  dsimp only at h1 h2
  have h3 : 3600 * (n * h) * den = (S * den + num) * d := by
    rw [← h1]; simp only [Nat.mul_assoc, Nat.mul_comm, Nat.mul_left_comm]
  have hP : pr (3600 * (n * h)) d = (num, den) := by
    have : pr (3600 * (n * h)) d = pr (S * den + num) den := pr_eq0 h2 hden h3
    rw [this, Nat.add_comm, pr_add, pr_low hn hg]
  refine ⟨?_, hP⟩
  have h4 := (pr_spec (n := 3600 * (n * h)) h2).2.2.2
  rw [hP] at h4
  dsimp only at h4
  have h5 : 3600 * (n * h) * den / (d * den) = S := by
    rw [h3, Nat.mul_comm d den, div_mul_self' h2, Nat.add_comm, Nat.add_mul_div_right _ _ hden, Nat.div_eq_of_lt hn]; omega
  rw [← h5, div_mul_self' hden]
end Go.Proofs.Ytehbhinaopdkeaa.M
namespace Go.Proofs.Ytehbhinaopdkeaa.M
open Go Go.PM Go.Proofs.Ytehbhinaopdkeaa.P
set_option linter.unusedVariables false
set_option linter.unusedSimpArgs false
set_option maxRecDepth 100000
/-! ### greatest common divisors and parts, as the program counts them -/
theorem w64n {a : Nat} (h : a < 9000000000000000000) : w64 (a : Int) = (a : Int) := w64s (by omega) (by omega)
theorem gcd_l (N : Nat) : ∀ (n a b : Nat), b < n → a ≤ 1000000000000000 → b ≤ 1000000000000000 → zq21.l1 N n a b = some ((Nat.gcd a b : Nat) : Int)
  | n+1, a, b, hb, h1, h2 => by
    unfold zq21.l1 zq21.d1 zq21.o1
    by_cases e : b = 0
    · subst e
      rw [ineF (show ((0 : Nat) : Int) = 0 from rfl), cond_false, w64s (by omega) (by omega), if_neg (by omega), Nat.gcd_zero_right]
    · rw [ineT (by omega), cond_true, ieqF (by omega), cond_false, tmodN]
      have hm : a % b < b := Nat.mod_lt _ (by omega)
      refine (gcd_l N n b (a % b) (by omega) h2 (by omega)).trans ?_
      rw [Nat.gcd_comm b (a % b), ← Nat.gcd_rec, Nat.gcd_comm]
  | 0, _, _, hb, _, _ => by omega
theorem gcd_eq {N a b : Nat} (hb : b < N) (h1 : a ≤ 1000000000000000) (h2 : b ≤ 1000000000000000) : zq21.g N a b = some ((Nat.gcd a b : Nat) : Int) := gcd_l N N a b hb h1 h2
theorem common_l (N : Nat) : ∀ (n a b : Nat), b < n → a ≤ 1000000000000000 → b ≤ 1000000000000000 → zq54.l1 N n a b = some ((Nat.gcd a b : Nat) : Int)
  | n+1, a, b, hb, h1, h2 => by
    unfold zq54.l1 zq54.d1 zq54.o1
    by_cases e : b = 0
    · subst e
      rw [dcF (by omega), cond_false, Nat.gcd_zero_right]
    · rw [dcT (by omega), cond_true, ieqF (by omega), cond_false, tmodN]
      have hm : a % b < b := Nat.mod_lt _ (by omega)
      refine (common_l N n b (a % b) (by omega) h2 (by omega)).trans ?_
      rw [Nat.gcd_comm b (a % b), ← Nat.gcd_rec, Nat.gcd_comm]
  | 0, _, _, hb, _, _ => by omega
theorem common_eq {N a b : Nat} (hb : b < N) (h1 : a ≤ 1000000000000000) (h2 : b ≤ 1000000000000000) : zq54.g N a b = some ((Nat.gcd a b : Nat) : Int) := common_l N N a b hb h1 h2
theorem prI {x D : Nat} (hD : 1 ≤ D) (hx : x < D) : pr x D = (x / Nat.gcd x D, D / Nat.gcd x D) := by
  unfold pr; rw [Nat.mod_eq_of_lt hx]
theorem part_eq {N m D : Nat} (hN : D < N) (hD : 1 ≤ D) (h2 : D ≤ 1000000000000000) (h1 : m ≤ 1000000000000000) : zq27.g N m D = some (((pr m D).1 : Int), ((pr m D).2 : Int)) := by
  have hr : m % D < D := Nat.mod_lt _ (by omega)
  have hp : 0 < Nat.gcd (m % D) D := Nat.gcd_pos_of_pos_right _ (by omega)
  have e1 : m % D / Nat.gcd (m % D) D ≤ m % D := Nat.div_le_self _ _
  have e2 : D / Nat.gcd (m % D) D ≤ D := Nat.div_le_self _ _
  unfold zq27.g zq27.o0 zq20.g zq20.o0 zq20.d1 zq20.o1 pr
  rw [ieqF (show ¬ (D : Int) = 0 by omega), cond_false, cond_false, tmodN, dcF (by omega), cond_false]
  dsimp only
  rw [Option.bind_some]
  dsimp only
  rw [gcd_eq hN (by omega) h2, Option.bind_some, ieqF (by omega), cond_false, cond_false, tdivN, tdivN]
  generalize m % D / Nat.gcd (m % D) D = x at *
  generalize D / Nat.gcd (m % D) D = y at *
  rw [w64n (by omega), w64n (by omega)]
/-- below nothing: the mirror -/
theorem part_neg {N m D : Nat} (hN : D < N) (h0 : m < D) (h2 : D ≤ 1000000000000000) : zq27.g N (-(m : Int)) D = some (((pr (D - m) D).1 : Int), ((pr (D - m) D).2 : Int)) := by
  by_cases e : m = 0
  · subst e
    have : pr (D - 0) D = pr 0 D := by
      have := pr_add 0 1 D
      rw [← this]; congr 1; omega
    rw [this]
    exact part_eq (m := 0) hN (by omega) h2 (by omega)
  · have hlt : D - m < D := by omega
    have hp : 0 < Nat.gcd (D - m) D := Nat.gcd_pos_of_pos_right _ (by omega)
    have e1 : (D - m) / Nat.gcd (D - m) D ≤ D - m := Nat.div_le_self _ _
    have e2 : D / Nat.gcd (D - m) D ≤ D := Nat.div_le_self _ _
    have et : Int.tmod (-(m : Int)) (D : Int) = -(m : Int) := by
      rw [Int.neg_tmod, tmodN, Nat.mod_eq_of_lt h0]
    unfold zq27.g zq27.o0 zq20.g zq20.o0 zq20.d1 zq20.o1
    rw [prI (by omega) hlt, ieqF (show ¬ (D : Int) = 0 by omega), cond_false, cond_false, et, dcT (by omega), cond_true, show w64 (-(m : Int) + (D : Int)) = ((D - m : Nat) : Int) by rw [w64s (by omega) (by omega)]; omega]
    dsimp only
    rw [Option.bind_some]
    dsimp only
    rw [gcd_eq hN (by omega) h2, Option.bind_some, ieqF (by omega), cond_false, cond_false, tdivN, tdivN]
    generalize (D - m) / Nat.gcd (D - m) D = x at *
    generalize D / Nat.gcd (D - m) D = y at *
    rw [w64n (by omega), w64n (by omega)]
def mkV (f : Nat × Nat) : Int × Int × Bool := if f.2 ≤ 1000000 then ((f.1 : Int), (f.2 : Int), true) else (0, 0, false)
theorem make_core {N r D : Nat} (hN : D < N) (hr : r < D) (h2 : D ≤ 1000000000000000) (a : Int) (hm : Int.tmod (w64 ((Int.tmod a D) + D)) D = (r : Int)) : zq58.g N a D = some (mkV (pr r D)) := by
  have hp : 0 < Nat.gcd r D := Nat.gcd_pos_of_pos_right _ (by omega)
  have e1 : r / Nat.gcd r D ≤ r := Nat.div_le_self _ _
  have e2 : D / Nat.gcd r D ≤ D := Nat.div_le_self _ _
  unfold zq58.g zq58.o0
  rw [prI (by omega) hr, ieqF (by omega), cond_false, cond_false, hm, common_eq hN (by omega) h2, Option.bind_some, ieqF (by omega), cond_false, cond_false, tdivN, tdivN]
  unfold mkV
  dsimp only
  generalize r / Nat.gcd r D = x at *
  generalize D / Nat.gcd r D = y at *
  rw [w64n (by omega), w64n (by omega)]
  by_cases c : y ≤ 1000000
  · rw [if_pos c, dcF (by omega), cond_false]
  · rw [if_neg c, dcT (by omega), cond_true]
theorem make_eq {N m D : Nat} (hN : D < N) (hD : 1 ≤ D) (h2 : D ≤ 1000000000000000) : zq58.g N m D = some (mkV (pr m D)) := by
  have hr : m % D < D := Nat.mod_lt _ (by omega)
  rw [← pr_mod]
  refine make_core hN hr h2 _ ?_
  rw [tmodN, show w64 (((m % D : Nat) : Int) + (D : Int)) = ((m % D + D : Nat) : Int) by rw [w64s (by omega) (by omega)]; omega, tmodN, Nat.add_mod_right, Nat.mod_mod]
theorem make_neg {N m D : Nat} (hN : D < N) (h0 : m < D) (h2 : D ≤ 1000000000000000) : zq58.g N (-(m : Int)) D = some (mkV (pr (D - m) D)) := by
  have et : Int.tmod (-(m : Int)) (D : Int) = -(m : Int) := by rw [Int.neg_tmod, tmodN, Nat.mod_eq_of_lt h0]
  have hw : w64 (-(m : Int) + (D : Int)) = ((D - m : Nat) : Int) := by rw [w64s (by omega) (by omega)]; omega
  have hr : (D - m) % D < D := Nat.mod_lt _ (by omega)
  rw [← pr_mod]
  refine make_core hN hr h2 _ ?_
  rw [et, hw, tmodN]
theorem mkV_ok {f : Nat × Nat} (h : f.2 ≤ 1000000) : mkV f = ((f.1 : Int), (f.2 : Int), true) := if_pos h
/-! ### turns -/
structure Turn (n d : Nat) : Prop where
  lt : n < d
  le : d ≤ 1000000
  cop : Nat.gcd n d = 1
def turnB (n d : Int) : Bool := inB d 1 1000000 && (inB n 0 (d - 1) && (((Nat.gcd n.toNat d.toNat : Nat) : Int) == 1))
theorem turnB_iff {n d : Int} : turnB n d = true ↔ ∃ a b : Nat, n = a ∧ d = b ∧ Turn a b := by
  unfold turnB
  rw [Bool.and_eq_true, Bool.and_eq_true, inB_iff, inB_iff, beq_iff_eq]
  constructor
  · rintro ⟨h1, h2, h3⟩
    exact ⟨n.toNat, d.toNat, by omega, by omega, by omega, by omega, by omega⟩
  · rintro ⟨a, b, rfl, rfl, h⟩
    have := h.lt; have := h.le
    exact ⟨by omega, by omega, by rw [Int.toNat_natCast, Int.toNat_natCast, h.cop]; rfl⟩
theorem IsTurn_eq {N : Nat} (hN : 10000000 ≤ N) (n d : Int) : zq8.g N n d = some (turnB n d) := by
  unfold zq8.g zq8.o0 turnB
  rw [within_eq, Option.bind_some]
  cases h1 : inB d 1 1000000 with
  | false => rfl
  | true =>
    have h1' := inB_iff.1 h1
    rw [cond_true, w64s (by omega) (by omega), within_eq, Option.bind_some]
    cases h2 : inB n 0 (d - 1) with
    | false => rfl
    | true =>
      have h2' := inB_iff.1 h2
      obtain ⟨a, rfl⟩ := Int.eq_ofNat_of_zero_le h2'.1
      obtain ⟨b, rfl⟩ := Int.eq_ofNat_of_zero_le (show 0 ≤ d by omega)
      rw [cond_true, gcd_eq (by omega) (by omega) (by omega)]; rfl
theorem diGood_eq {N : Nat} (hN : 10000000 ≤ N) (n d : Int) : zq56.g N n d = some (turnB n d) := by
  unfold zq56.g zq56.o0 turnB
  rw [l1In_eq, Option.bind_some]
  cases h1 : inB d 1 1000000 with
  | false => rfl
  | true =>
    have h1' := inB_iff.1 h1
    rw [cond_true, w64s (by omega) (by omega), l1In_eq, Option.bind_some]
    cases h2 : inB n 0 (d - 1) with
    | false => rfl
    | true =>
      have h2' := inB_iff.1 h2
      obtain ⟨a, rfl⟩ := Int.eq_ofNat_of_zero_le h2'.1
      obtain ⟨b, rfl⟩ := Int.eq_ofNat_of_zero_le (show 0 ≤ d by omega)
      rw [cond_true, common_eq (by omega) (by omega) (by omega)]; rfl
def timeB (h n d : Int) : Bool := inB h 2 24 && turnB n d
theorem timeB_iff {h n d : Int} : timeB h n d = true ↔ ∃ k a b : Nat, h = k ∧ 2 ≤ k ∧ k ≤ 24 ∧ n = a ∧ d = b ∧ Turn a b := by
  unfold timeB
  rw [Bool.and_eq_true, inB_iff, turnB_iff]
  constructor
  · rintro ⟨h1, a, b, rfl, rfl, h2⟩
    exact ⟨h.toNat, a, b, by omega, by omega, by omega, rfl, rfl, h2⟩
  · rintro ⟨k, a, b, rfl, h1, h2, rfl, rfl, h3⟩
    exact ⟨by omega, a, b, rfl, rfl, h3⟩
theorem isTime_eq {N : Nat} (hN : 10000000 ≤ N) (h n d : Int) : zq25.g N h n d = some (timeB h n d) := by
  unfold zq25.g zq25.o0 timeB
  rw [isDial_eq, Option.bind_some]
  cases inB h 2 24 with
  | false => rfl
  | true => rw [cond_true, IsTurn_eq hN, Option.bind_some]; rfl
theorem diAsked_eq {N : Nat} (hN : 10000000 ≤ N) (h n d : Int) : zq53.g N h n d = some (timeB h n d) := by
  unfold zq53.g zq53.o0 timeB
  rw [diHours_eq, Option.bind_some]
  cases inB h 2 24 with
  | false => rfl
  | true => rw [cond_true, diGood_eq hN, Option.bind_some]; rfl
theorem pr_Turn {n d : Nat} (hd : 0 < d) (h6 : d ≤ 1000000) : Turn (pr n d).1 (pr n d).2 := by
  have := pr_spec (n := n) hd
  exact ⟨this.1, by omega, this.2.2.1⟩
theorem times_eq {N n d k : Nat} (hN : 10000000 ≤ N) (ht : Turn n d) (hk : k ≤ 1000000) : zq17.g N n d k = some (((pr (n * k) d).1 : Int), ((pr (n * k) d).2 : Int)) := by
  have h1 := ht.lt; have h2 := ht.le
  have h3 : n * k ≤ 1000000 * 1000000 := Nat.mul_le_mul (by omega) hk
  unfold zq17.g zq17.o0
  rw [← Int.natCast_mul, w64n (by omega), part_eq (by omega) (by omega) (by omega) (by omega)]; rfl
theorem diTimes_eq {N n d k : Nat} (hN : 10000000 ≤ N) (ht : Turn n d) (hk : k ≤ 1000000) : zq60.g N n d k = some (((pr (n * k) d).1 : Int), ((pr (n * k) d).2 : Int)) := by
  have h1 := ht.lt; have h2 := ht.le
  have h3 : n * k ≤ 1000000 * 1000000 := Nat.mul_le_mul (by omega) hk
  unfold zq60.g zq60.o0
  rw [← Int.natCast_mul, w64n (by omega), make_eq (by omega) (by omega) (by omega), mkV_ok (by have := (pr_spec (n := n * k) (d := d) (by omega)).2.1; omega)]; rfl
/-- a dial's time -/
structure Dial (k n d : Nat) : Prop where
  k1 : 2 ≤ k
  k2 : k ≤ 24
  t : Turn n d
theorem Dial.b {k n d : Nat} (h : Dial k n d) : timeB k n d = true := timeB_iff.2 ⟨k, n, d, rfl, h.k1, h.k2, rfl, rfl, h.t⟩
theorem Dial.p {k n d : Nat} (h : Dial k n d) : 0 < d := Nat.lt_of_le_of_lt (Nat.zero_le _) h.t.lt
def r3 (f : Nat × Nat) : Int × Int × Bool := ((f.1 : Int), (f.2 : Int), true)
/-! ### the mirror and the smaller angle -/
theorem mirror_eq {N p q : Nat} (hN : 10000000 ≤ N) (h : Turn p q) : zq16.g N p q = some (((pr (q - p) q).1 : Int), ((pr (q - p) q).2 : Int)) ∧ zq59.g N p q = some (((pr (q - p) q).1 : Int), ((pr (q - p) q).2 : Int)) := by
  have h1 := h.lt; have h2 := h.le
  have e : w64 ((p : Int) * (-1)) = -(p : Int) := by rw [w64s (by omega) (by omega)]; omega
  constructor
  · unfold zq16.g zq16.o0 zq17.g zq17.o0
    rw [e, part_neg (by omega) h1 (by omega)]; rfl
  · unfold zq59.g zq59.o0 zq60.g zq60.o0
    rw [e, make_neg (by omega) h1 (by omega), mkV_ok (by have := (pr_spec (n := q - p) (d := q) (by omega)).2.1; omega)]; rfl
theorem mulT {a b c d : Nat} (h1 : Turn a b) (h2 : Turn c d) : a * d ≤ 1000000000000 := by
  have := Nat.mul_le_mul (show a ≤ 1000000 by have := h1.lt; have := h1.le; omega) h2.le
  omega
theorem compare_neg {N a b c d : Nat} (h1 : Turn a b) (h2 : Turn c d) : Tot (zq15.g N a b c d) (fun r => decide (r < 0) = decide (a * d < c * b)) ∧ Tot (zq55.g N a b c d) (fun r => decide (r < 0) = decide (a * d < c * b)) := by
  have e1 := mulT h1 h2
  have e2 := mulT h2 h1
  generalize hx : a * d = x at *
  generalize hy : c * b = y at *
  have w1 : w64 ((a : Int) * (d : Int)) = (x : Int) := by rw [← Int.natCast_mul, hx, w64n (by omega)]
  have w2 : w64 ((c : Int) * (b : Int)) = (y : Int) := by rw [← Int.natCast_mul, hy, w64n (by omega)]
  constructor
  · unfold zq15.g zq15.o0 zq0.g zq0.o0 zq1.g zq1.o0
    rw [w1, w2, ineF rfl, ineF rfl, Option.bind_some, Option.bind_some, cond_false, cond_false]
    by_cases c : x < y
    · rw [dcT (show (x : Int) < y by omega), cond_true]
      exact Tot.now (by simp [c])
    · rw [dcF (show ¬ (x : Int) < y by omega), cond_false]
      by_cases c2 : y < x
      · rw [dcT (show (x : Int) > y by omega), cond_true]
        exact Tot.now (by simp [c])
      · rw [dcF (show ¬ (x : Int) > y by omega), cond_false]
        exact Tot.now (by simp [c])
  · unfold zq55.g zq55.o0 zq70.g zq70.o0
    rw [w1, w2, w64s (by omega) (by omega)]
    by_cases c : x < y
    · rw [dcF (show ¬ ((x : Int) - y > 0) by omega), cond_false, dcT (show (x : Int) - y < 0 by omega), cond_true]
      exact Tot.now (by simp [c])
    · by_cases c2 : y < x
      · rw [dcT (show ((x : Int) - y > 0) by omega), cond_true]
        exact Tot.now (by simp [c])
      · rw [dcF (show ¬ ((x : Int) - y > 0) by omega), cond_false, dcF (show ¬ ((x : Int) - y < 0) by omega), cond_false]
        exact Tot.now (by simp [c])
/-! ### lists of turns -/
theorem idx_tot {N : Nat} (hN : 10000000 ≤ N) (l : List S25) (hl : l.length ≤ 1000000) : ∀ (j i m : Nat), i + j = l.length → j < m →
    Tot (zq38.l1 N m l l.length i) fun r => decide (r ≥ 0) = !((l.drop i).all fun t => turnB t.f0 t.f1)
  | 0, i, m+1, hi, hm => by
    unfold zq38.l1 zq38.d1 zq38.o1
    rw [dcF (by omega), cond_false, List.drop_eq_nil_of_le (by omega)]
    exact Tot.now rfl
  | j+1, i, m+1, hi, hm => by
    have hlt : i < l.length := by omega
    unfold zq38.l1 zq38.d1 zq38.o1 zq19.g zq19.o0
    rw [dcT (by omega), cond_true, dcT (by omega), cond_true, cond_true, Int.toNat_natCast, getAt hlt, IsTurn_eq hN, Option.bind_some, Option.bind_some, List.drop_eq_getElem_cons hlt, List.all_cons]
    cases hb : turnB l[i].f0 l[i].f1 with
    | false =>
      rw [Bool.not_false, cond_true]
      exact Tot.now (by simp)
    | true =>
      rw [Bool.not_true, cond_false, w1add (by omega), Bool.true_and]
      exact idx_tot hN l hl j (i + 1) m (by omega) (by omega)
  | _, _, 0, _, hm => by omega
theorem areTurns_eq {N : Nat} (hN : 10000000 ≤ N) (l : List S25) (hl : l.length ≤ 1000000) : zq18.g N l = some (l.all fun t => turnB t.f0 t.f1) := by
  obtain ⟨r, h1, h2⟩ := idx_tot hN l hl l.length 0 N (by omega) (by omega)
  unfold zq18.g zq18.o0 zq37.g zq37.o0 zq38.g zq38.o0
  dsimp only
  rw [show (zq38.l1 N N l (l.length : Int) 0) = some r from h1, Option.bind_some, h2, Option.bind_some, Bool.not_not, List.drop_zero]
theorem turnB_T {n d : Nat} (h : Turn n d) : turnB n d = true := turnB_iff.2 ⟨n, d, rfl, rfl, h⟩
/-! ### all times with a long hand -/
def sT (f : Nat × Nat) : S25 := ⟨(f.1 : Int), (f.2 : Int)⟩
def rt (n d k i : Nat) : Nat × Nat := pr (n + i * d) (d * k)
def rts (n d k i j : Nat) : List S25 := (List.range' i j).map fun x => sT (rt n d k x)
def okR (n d k i : Nat) : Bool := decide ((rt n d k i).2 ≤ 1000000)
theorem turnB_pr {n D : Nat} (hD : 0 < D) : turnB ((pr n D).1 : Int) ((pr n D).2 : Int) = decide ((pr n D).2 ≤ 1000000) := by
  have h := pr_spec (n := n) hD
  by_cases c : (pr n D).2 ≤ 1000000
  · rw [decide_eq_true c]
    exact turnB_T ⟨h.1, c, h.2.2.1⟩
  · rw [decide_eq_false c]
    cases hb : turnB ((pr n D).1 : Int) ((pr n D).2 : Int) with
    | false => rfl
    | true =>
      obtain ⟨a, b, h1, h2, h3⟩ := turnB_iff.1 hb
      have := h3.le
      omega
theorem rts_all {n d k : Nat} (hD : 0 < d * k) (i j : Nat) : ((rts n d k i j).all fun t => turnB t.f0 t.f1) = (List.range' i j).all (okR n d k) := by
  unfold rts
  rw [List.all_map]
  congr 1
  funext x
  exact turnB_pr hD
theorem rts_len (n d k i j : Nat) : (rts n d k i j).length = j := by unfold rts; rw [List.length_map, List.length_range']
theorem rts_succ (n d k i j : Nat) : rts n d k i (j + 1) = sT (rt n d k i) :: rts n d k (i + 1) j := rfl
theorem root_args {n d k i : Nat} (hd : d ≤ 1000000) (hn : n ≤ 1000000) (hk : k ≤ 1000) (hi : i < k) : w64 ((n : Int) + w64 ((i : Int) * (d : Int))) = ((n + i * d : Nat) : Int) ∧ w64 ((d : Int) * (k : Int)) = ((d * k : Nat) : Int) ∧ n + i * d ≤ 2000000000 ∧ d * k ≤ 2000000000 := by
  have h1 := Nat.mul_le_mul (show i ≤ 1000 by omega) hd
  have h2 := Nat.mul_le_mul hd hk
  refine ⟨?_, ?_, by omega, by omega⟩
  · rw [← Int.natCast_mul, w64n (by omega), ← Int.natCast_add, w64n (by omega)]
  · rw [← Int.natCast_mul, w64n (by omega)]
theorem roots_l {N : Nat} (hN : 2000000000 < N) {n d k : Nat} (hd1 : 1 ≤ d) (hd : d ≤ 1000000) (hn : n ≤ 1000000) (hk : k ≤ 1000) : ∀ (j i m : Nat) (acc : List S25), i + j = k → j < m → acc.length = i →
    zq28.l1 N m k acc k i n d = some (acc ++ rts n d k i j, (acc ++ rts n d k i j).all fun t => turnB t.f0 t.f1)
  | 0, i, m+1, acc, hi, hm, ha => by
    unfold zq28.l1 zq28.d1 zq28.o1
    rw [dcF (by omega), cond_false, areTurns_eq (by omega) _ (by omega), Option.bind_some]
    show _ = some (acc ++ [], (acc ++ []).all _)
    rw [List.append_nil]
  | j+1, i, m+1, acc, hi, hm, ha => by
    obtain ⟨e1, e2, e3, e4⟩ := root_args (n := n) hd hn hk (show i < k by omega)
    have hp : 1 ≤ d * k := Nat.mul_pos (by omega) (by omega)
    unfold zq28.l1 zq28.d1 zq28.o1
    rw [dcT (by omega), cond_true, e1, e2, part_eq (by omega) hp (by omega) (by omega), Option.bind_some, blT (by simp; omega), cond_true, w1add (by omega)]
    refine (roots_l hN hd1 hd hn hk j (i + 1) m (acc ++ [sT (rt n d k i)]) (by omega) (by omega) (by simp; omega)).trans ?_
    rw [rts_succ, List.append_assoc]; rfl
  | _, _, 0, _, _, hm, _ => by omega
def timesL (n d k : Nat) : List S25 × Bool := if (List.range' 0 k).all (okR n d k) = true then (rts n d k 0 k, true) else ([], false)
theorem ifRoots_eq {N : Nat} (hN : 2000000000 < N) {n d k : Nat} (hd1 : 1 ≤ d) (hd : d ≤ 1000000) (hn : n ≤ 1000000) (hk1 : 1 ≤ k) (hk : k ≤ 1000) :
    ((zq28.g N n d k).bind fun r2 => (zq22.g N r2.1 r2.2).bind fun r3 => some (r3.1, r3.2)) = some (timesL n d k) := by
  have hp : 0 < d * k := Nat.mul_pos (by omega) (by omega)
  have h := roots_l hN hd1 hd hn hk k 0 N [] (by omega) (by omega) rfl
  rw [List.nil_append, rts_all hp] at h
  unfold zq28.g zq28.o0 timesL
  dsimp only
  rw [show (zq28.l1 N N k ([] : List S25) k 0 n d) = _ from h, Option.bind_some]
  dsimp only
  unfold zq22.g zq22.o0 zq22.d1 zq22.o1
  cases hb : (List.range' 0 k).all (okR n d k) with
  | false => rw [if_neg (by simp)]; rfl
  | true =>
    rw [Bool.not_true, cond_false, areTurns_eq (by omega) _ (by rw [rts_len]; omega), rts_all hp, hb, if_pos rfl]; rfl
end Go.Proofs.Ytehbhinaopdkeaa.M
namespace Go.Proofs.Ytehbhinaopdkeaa.M
open Go Go.PM
set_option linter.unusedVariables false
set_option linter.unusedSimpArgs false
theorem and255 (x : Int) : 0 ≤ w64 (andK .u64 x 255) ∧ w64 (andK .u64 x 255) ≤ 255 := by
  have e : (BitVec.ofInt IntKind.u64.bits x &&& BitVec.ofInt IntKind.u64.bits 255).toNat ≤ 255 := by
    rw [BitVec.toNat_and]
    exact Nat.le_trans Nat.and_le_right (by decide)
  unfold andK
  generalize (BitVec.ofInt IntKind.u64.bits x &&& BitVec.ofInt IntKind.u64.bits 255).toNat = n at e
  have e1 : IntKind.wrap .u64 (n : Int) = n := by
    unfold IntKind.wrap
    have : (n : Int) % (2 ^ IntKind.u64.bits : Int) = n := by
      show (n : Int) % (18446744073709551616 : Int) = n
      omega
    rw [this]
    rfl
  rw [e1, w64s (by omega) (by omega)]
  omega
/-- bytes -/
def Bs (code : List Int) : Prop := code.length ≤ 1048576 ∧ ∀ x ∈ code, 0 ≤ x ∧ x ≤ 255
theorem next_tot (N : Nat) {code : List Int} (hc : Bs code) {pos : Int} (h1 : 0 ≤ pos) (h2 : pos ≤ 1000000000) (seed : Int) :
    Tot (zq63.g N code pos seed) fun r => (0 ≤ r.1 ∧ r.1 ≤ 255) ∧ r.2.1 = code ∧ 0 ≤ r.2.2.1 ∧ r.2.2.1 ≤ pos + 1 := by
  have key : ∀ b, 0 ≤ b → b ≤ 255 → Tot (zq63.d1 N b code pos seed) fun r => (0 ≤ r.1 ∧ r.1 ≤ 255) ∧ r.2.1 = code ∧ 0 ≤ r.2.2.1 ∧ r.2.2.1 ≤ pos + 1 := by
    intro b hb1 hb2
    unfold zq63.d1 zq63.o1
    rw [w64s (n := pos + 1) (by omega) (by omega)]
    refine Tot.bif (fun _ => Tot.now ⟨⟨hb1, hb2⟩, rfl, ?_, ?_⟩) (fun _ => Tot.now ⟨and255 _, rfl, ?_, ?_⟩)
    all_goals (dsimp only; omega)
  unfold zq63.g zq63.o0
  dsimp only
  refine Tot.dif (fun hlt => ?_) (fun hlt => key 0 (by omega) (by omega))
  have hl : pos.toNat < code.length := by omega
  rw [dcT h1, cond_true, dcT hlt, cond_true, getAt hl]
  have := hc.2 code[pos.toNat] (List.getElem_mem hl)
  rw [w64s (by omega) (by omega)]
  exact key _ this.1 this.2
theorem pick_tot (N : Nat) {code : List Int} (hc : Bs code) (n : Int) {pos : Int} (h1 : 0 ≤ pos) (h2 : pos ≤ 1000000) (seed : Int) :
    Tot (zq65.g N n code pos seed) fun r => (0 ≤ r.1 ∧ (r.1 < n ∨ r.1 = 0)) ∧ r.2.1 = code ∧ 0 ≤ r.2.2.1 ∧ r.2.2.1 ≤ pos + 2 := by
  have key : ∀ x p s, 1 < n → 0 ≤ x → 0 ≤ p → p ≤ pos + 2 → Tot (zq65.d1 N n x code p s) fun r => (0 ≤ r.1 ∧ (r.1 < n ∨ r.1 = 0)) ∧ r.2.1 = code ∧ 0 ≤ r.2.2.1 ∧ r.2.2.1 ≤ pos + 2 := by
    intro x p s hn hx hp1 hp2
    unfold zq65.d1 zq65.o1
    rw [ieqF (by omega), cond_false]
    refine Tot.now ⟨⟨Int.tmod_nonneg _ hx, .inl ?_⟩, rfl, hp1, hp2⟩
    exact Int.tmod_lt_of_pos _ (by omega)
  unfold zq65.g zq65.o0
  dsimp only
  refine Tot.dif (fun hlt => Tot.now ⟨⟨by dsimp only; omega, .inr rfl⟩, rfl, h1, by dsimp only; omega⟩) (fun hlt => ?_)
  refine Tot.bind (next_tot N hc h1 (by omega) seed) ?_
  rintro ⟨x, c, p, s⟩ ⟨⟨x1, x2⟩, rfl, p1, p2⟩
  dsimp only at x1 x2 p1 p2 ⊢
  refine Tot.dif (fun hgt => ?_) (fun hgt => ?_)
  · refine Tot.bind (next_tot N hc p1 (by omega) s) ?_
    rintro ⟨y, c, q, t⟩ ⟨⟨y1, y2⟩, rfl, q1, q2⟩
    dsimp only at y1 y2 q1 q2 ⊢
    rw [w64s (n := x * 256) (by omega) (by omega), w64s (by omega) (by omega)]
    exact key _ _ _ (by omega) (by omega) q1 (by omega)
  · exact key _ _ _ (by omega) x1 p1 (by omega)
theorem one_tot (N : Nat) {code : List Int} (hc : Bs code) (n : Int) {pos : Int} (h1 : 0 ≤ pos) (h2 : pos ≤ 1000000) (seed : Int) :
    Tot (zq64.g N n code pos seed) fun r => r.2.1 = code ∧ 0 ≤ r.2.2.1 ∧ r.2.2.1 ≤ pos + 2 := by
  unfold zq64.g zq64.o0
  refine Tot.bind (pick_tot N hc n h1 h2 seed) ?_
  rintro ⟨x, c, p, s⟩ ⟨⟨x1, x2⟩, rfl, p1, p2⟩
  exact Tot.now ⟨rfl, p1, p2⟩
theorem among_tot (N : Nat) {code : List Int} (hc : Bs code) (l : List Int) (hl : 0 < l.length) {pos : Int} (h1 : 0 ≤ pos) (h2 : pos ≤ 1000000) (seed : Int) :
    Tot (zq61.g N l code pos seed) fun r => r.1 ∈ l ∧ r.2.1 = code ∧ 0 ≤ r.2.2.1 ∧ r.2.2.1 ≤ pos + 2 := by
  unfold zq61.g zq61.o0
  refine Tot.bind (pick_tot N hc _ h1 h2 seed) ?_
  rintro ⟨x, c, p, s⟩ ⟨⟨x1, x2⟩, rfl, p1, p2⟩
  dsimp only at x1 x2 p1 p2 ⊢
  have hx : x.toNat < l.length := by omega
  rw [dcT x1, cond_true, dcT (by omega), cond_true, getAt hx]
  exact Tot.now ⟨List.getElem_mem hx, rfl, p1, p2⟩
end Go.Proofs.Ytehbhinaopdkeaa.M
namespace Go.Proofs.Ytehbhinaopdkeaa.M
open Go Go.PM Go.Proofs.Ytehbhinaopdkeaa.P
set_option linter.unusedVariables false
set_option linter.unusedSimpArgs false
set_option maxRecDepth 100000
/-! ### draws -/
theorem hours_tot (N : Nat) {code : List Int} (hc : Bs code) {pos : Int} (h1 : 0 ≤ pos) (h2 : pos ≤ 1000000) (seed : Int) :
    Tot (zq62.g N code pos seed) fun r => r.2.1 = code ∧ 0 ≤ r.2.2.1 ∧ r.2.2.1 ≤ pos + 2 := by
  unfold zq62.g zq62.o0
  refine Tot.bind (among_tot N hc _ (by simp) h1 h2 seed) ?_
  rintro ⟨x, c, p, s⟩ ⟨_, rfl, p1, p2⟩
  exact Tot.now ⟨rfl, p1, p2⟩
theorem sure_tot {N : Nat} (hN : 10000000 ≤ N) {code : List Int} (hc : Bs code) {pos : Int} (h1 : 0 ≤ pos) (h2 : pos ≤ 100000) (seed : Int) :
    Tot (zq67.g N code pos seed) fun r => (∃ a b : Nat, r.1 = a ∧ r.2.1 = b ∧ Turn a b) ∧ r.2.2.1 = code ∧ 0 ≤ r.2.2.2.1 ∧ r.2.2.2.1 ≤ pos + 4 := by
  unfold zq67.g zq67.o0
  refine Tot.bind (pick_tot N hc _ h1 (by omega) seed) ?_
  rintro ⟨x, c, p, s⟩ ⟨⟨x1, x2⟩, rfl, p1, p2⟩
  dsimp only at x1 x2 p1 p2 ⊢
  have hl : (([1, 2, 3, 4, 6, 8, 11, 12, 13, 24, 60, 143, 720, 719, 7, 5] : List Int).length : Int) = 16 := rfl
  rw [hl] at x2
  have hx : x.toNat < ([1, 2, 3, 4, 6, 8, 11, 12, 13, 24, 60, 143, 720, 719, 7, 5] : List Int).length := by show x.toNat < 16; omega
  rw [dcT x1, cond_true, dcT (by rw [hl]; omega), cond_true, getAt hx]
  have hy := List.getElem_mem hx
  generalize ([1, 2, 3, 4, 6, 8, 11, 12, 13, 24, 60, 143, 720, 719, 7, 5] : List Int)[x.toNat] = y at *
  have hy2 : 1 ≤ y ∧ y ≤ 720 := by
    simp only [List.mem_cons, List.not_mem_nil, or_false] at hy
    omega
  obtain ⟨D, rfl⟩ := Int.eq_ofNat_of_zero_le (show 0 ≤ y by omega)
  refine Tot.bind (pick_tot N hc _ p1 (by omega) s) ?_
  rintro ⟨u, c', q, t⟩ ⟨⟨u1, u2⟩, hcc, q1, q2⟩
  dsimp only at u1 u2 hcc q1 q2 ⊢
  obtain ⟨m, rfl⟩ := Int.eq_ofNat_of_zero_le u1
  have hsp := pr_spec (n := m) (d := D) (by omega)
  rw [make_eq (by omega) (by omega) (by omega), mkV_ok (by omega), Option.bind_some]
  exact Tot.now ⟨⟨(pr m D).1, (pr m D).2, rfl, rfl, hsp.1, by omega, hsp.2.2.1⟩, hcc, q1, by dsimp only; omega⟩
theorem turn_tot {N : Nat} (hN : 10000000 ≤ N) {code : List Int} (hc : Bs code) {pos : Int} (h1 : 0 ≤ pos) (h2 : pos ≤ 10000) (seed : Int) :
    Tot (zq68.g N code pos seed) fun r => r.2.2.1 = code ∧ 0 ≤ r.2.2.2.1 ∧ r.2.2.2.1 ≤ pos + 6 := by
  unfold zq68.g zq68.o0
  refine Tot.bind (pick_tot N hc 16 h1 (by omega) seed) ?_
  rintro ⟨x, c, p, s⟩ ⟨⟨x1, x2⟩, rfl, p1, p2⟩
  dsimp only at x1 x2 p1 p2 ⊢
  refine Tot.bif (fun _ => ?_) (fun _ => Tot.bif (fun _ => ?_) (fun _ => Tot.bif (fun _ => ?_) (fun _ => ?_)))
  · refine Tot.bind (among_tot N hc _ (by simp) p1 (by omega) s) ?_
    rintro ⟨y, c', q, t⟩ ⟨_, hcc, q1, q2⟩
    dsimp only at hcc q1 q2 ⊢
    subst hcc
    refine Tot.bind (among_tot N hc _ (by simp) q1 (by omega) t) ?_
    rintro ⟨z, c'', q', t'⟩ ⟨_, hcc, q1', q2'⟩
    exact Tot.now ⟨hcc, q1', by dsimp only at q2' ⊢; omega⟩
  · refine Tot.bind (among_tot N hc _ (by simp) p1 (by omega) s) ?_
    rintro ⟨y, c', q, t⟩ ⟨_, hcc, q1, q2⟩
    exact Tot.now ⟨hcc, q1, by dsimp only at q2 ⊢; omega⟩
  · refine Tot.bind (pick_tot N hc _ p1 (by omega) s) ?_
    rintro ⟨y, c', q, t⟩ ⟨_, hcc, q1, q2⟩
    exact Tot.now ⟨hcc, q1, by dsimp only at q2 ⊢; omega⟩
  · refine Tot.bind (sure_tot hN hc p1 (by omega) s) ?_
    rintro ⟨y, y', c', q, t⟩ ⟨_, hcc, q1, q2⟩
    exact Tot.now ⟨hcc, q1, by dsimp only at q2 ⊢; omega⟩
/-! ### lists -/
theorem wTurns_l (N : Nat) (l : List S25) (hs : l.length < 1000000000) : ∀ (d i n : Nat), i + d = l.length → d < n → zq35.l1 N n l l l.length i = some true
  | 0, i, n+1, hi, hn => by
    unfold zq35.l1 zq35.d1 zq35.o1
    rw [dcF (by omega), cond_false]
  | d+1, i, n+1, hi, hn => by
    unfold zq35.l1 zq35.d1 zq35.o1
    have hlt : i < l.length := by omega
    simp (disch := omega) only [dcT, cond_true, Int.toNat_natCast, getAt, beq_self_eq_true, Bool.and_self, Bool.not_true, cond_false, w1add]
    exact wTurns_l N l hs d (i+1) n (by omega) (by omega)
  | _, _, 0, _, hn => by omega
theorem wTurns_self {N : Nat} (l : List S25) (hs : l.length < 1000000000) (hN : l.length < N) : zq35.g N l l = some true := by
  unfold zq35.g zq35.o0
  rw [ineF rfl, cond_false]
  exact wTurns_l N l hs l.length 0 N (by omega) hN
theorem rts_get {n d k i j x : Nat} (h : x < (rts n d k i j).length) : (rts n d k i j)[x] = sT (rt n d k (i + x)) := by
  unfold rts at h ⊢
  rw [List.getElem_map, List.getElem_range', Nat.one_mul]
/-- rising -/
theorem rt_rise {n d k i : Nat} (hn : n < d) (hi : i + 1 < k) : (rt n d k i).1 * (rt n d k (i + 1)).2 < (rt n d k (i + 1)).1 * (rt n d k i).2 := by
  have hp : 0 < d * k := Nat.mul_pos (by omega) (by omega)
  have lt : ∀ x, x < k → n + x * d < d * k := by
    intro x hx
    have : (x + 1) * d ≤ k * d := Nat.mul_le_mul_right _ hx
    rw [Nat.add_mul, Nat.one_mul] at this
    rw [Nat.mul_comm d k]; omega
  have h1 := pr_lt hp (lt i (by omega))
  have h2 := pr_lt hp (lt (i + 1) hi)
  have q1 := pr_pos (n := n + i * d) hp
  have q2 := pr_pos (n := n + (i + 1) * d) hp
  unfold rt
  generalize pr (n + i * d) (d * k) = f at *
  generalize pr (n + (i + 1) * d) (d * k) = g at *
  refine Nat.lt_of_mul_lt_mul_right (a := d * k) ?_
  have e1 : f.1 * g.2 * (d * k) = (n + i * d) * (f.2 * g.2) := by rw [Nat.mul_right_comm, h1, Nat.mul_assoc]
  have e2 : g.1 * f.2 * (d * k) = (n + (i + 1) * d) * (f.2 * g.2) := by rw [Nat.mul_right_comm, h2, Nat.mul_assoc, Nat.mul_comm g.2]
  rw [e1, e2]
  refine Nat.mul_lt_mul_of_pos_right ?_ (Nat.mul_pos q1 q2)
  rw [Nat.add_mul]; omega
theorem rises_l {N : Nat} {n d k : Nat} (hn : n < d) (hd : d ≤ 1000000) (hk : k ≤ 1000) (hok : (List.range' 0 k).all (okR n d k) = true) : ∀ (j i m : Nat), 1 ≤ i → i + j = k → j < m →
    zq34.l1 N m (rts n d k 0 k) i = some true
  | 0, i, m+1, h1, hi, hm => by
    unfold zq34.l1 zq34.d1 zq34.o1
    rw [dcF (by rw [rts_len]; omega), cond_false]
  | j+1, i, m+1, h1, hi, hm => by
    obtain ⟨i, rfl⟩ : ∃ u, i = u + 1 := ⟨i - 1, by omega⟩
    have hl := rts_len n d k 0 k
    have ok : ∀ x, x < k → (rt n d k x).2 ≤ 1000000 := fun x hx => of_decide_eq_true (List.all_eq_true.1 hok x (by rw [List.mem_range'_1]; omega))
    have lt : ∀ x, x < k → (rt n d k x).1 < (rt n d k x).2 := fun x hx => (pr_spec (Nat.mul_pos (by omega) (by omega))).1
    have g1 : (rts n d k 0 k)[i]'(by omega) = sT (rt n d k i) := by rw [rts_get]; congr 2; omega
    have g2 : (rts n d k 0 k)[i + 1]'(by omega) = sT (rt n d k (i + 1)) := by rw [rts_get]; congr 2; omega
    have hr := rt_rise (k := k) (i := i) hn (by omega)
    have o1 := ok i (by omega); have o2 := ok (i + 1) (by omega)
    have l1 := lt i (by omega); have l2 := lt (i + 1) (by omega)
    unfold zq34.l1 zq34.d1 zq34.o1
    rw [show w64 (((i + 1 : Nat) : Int) - 1) = (i : Int) by rw [w64s (by omega) (by omega)]; omega]
    rw [dcT (show ((i + 1 : Nat) : Int) < ((rts n d k 0 k).length : Int) by omega), dcT (show (0 : Int) ≤ (i : Int) by omega), dcT (show (i : Int) < ((rts n d k 0 k).length : Int) by omega), dcT (show (0 : Int) ≤ ((i + 1 : Nat) : Int) by omega)]
    simp only [cond_true, Int.toNat_natCast]
    rw [getAt (show i < (rts n d k 0 k).length by omega), getAt (show i + 1 < (rts n d k 0 k).length by omega), getAt (show i + 1 < (rts n d k 0 k).length by omega), getAt (show i < (rts n d k 0 k).length by omega), g1, g2]
    have m1 : (rt n d k i).1 * (rt n d k (i + 1)).2 ≤ 1000000 * 1000000 := Nat.mul_le_mul (by omega) o2
    have m2 : (rt n d k (i + 1)).1 * (rt n d k i).2 ≤ 1000000 * 1000000 := Nat.mul_le_mul (by omega) o1
    have w1 : w64 ((sT (rt n d k i)).f0 * (sT (rt n d k (i + 1))).f1) = (((rt n d k i).1 * (rt n d k (i + 1)).2 : Nat) : Int) := by
      show w64 (((rt n d k i).1 : Int) * ((rt n d k (i + 1)).2 : Int)) = _
      rw [← Int.natCast_mul, w64n (by omega)]
    have w2 : w64 ((sT (rt n d k (i + 1))).f0 * (sT (rt n d k i)).f1) = (((rt n d k (i + 1)).1 * (rt n d k i).2 : Nat) : Int) := by
      show w64 (((rt n d k (i + 1)).1 : Int) * ((rt n d k i).2 : Int)) = _
      rw [← Int.natCast_mul, w64n (by omega)]
    rw [w1, w2, dcF (by omega), cond_false, w1add (by omega)]
    exact rises_l hn hd hk hok j (i + 1 + 1) m (by omega) (by omega) (by omega)
  | _, _, 0, _, _, hm => by omega
theorem rises_eq {N : Nat} (hN : 10000 ≤ N) {n d k : Nat} (hn : n < d) (hd : d ≤ 1000000) (hk1 : 1 ≤ k) (hk : k ≤ 1000) (hok : (List.range' 0 k).all (okR n d k) = true) : zq34.g N (rts n d k 0 k) = some true := by
  obtain ⟨j, rfl⟩ : ∃ j, k = 1 + j := ⟨k - 1, by omega⟩
  exact rises_l hn hd hk hok j 1 N (by omega) rfl (by omega)
theorem rt01 (m i : Nat) : rt 0 1 m i = pr i m := by
  unfold rt
  rw [Nat.mul_one, Nat.zero_add, Nat.one_mul]
theorem ok01 {m : Nat} (h1 : 1 ≤ m) (h2 : m ≤ 1000) : (List.range' 0 m).all (okR 0 1 m) = true := by
  rw [List.all_eq_true]
  intro x _
  unfold okR
  rw [rt01]
  have := (pr_spec (n := x) (d := m) (by omega)).2.1
  exact decide_eq_true (by omega)
theorem parts_l (N : Nat) {m : Nat} (hN : 10000 < N) (h1 : 1 ≤ m) (h2 : m ≤ 1000) : ∀ (j i f : Nat) (acc : List S25), i + j = m → j < f → acc.length = i →
    zq76.l2 N f 0 m acc i = some (acc ++ rts 0 1 m i j)
  | 0, i, f+1, acc, hi, hf, ha => by
    unfold zq76.l2 zq76.d2 zq76.o2
    rw [w64s (by omega) (by omega), dcF (by omega), cond_false]
    show _ = some (acc ++ [])
    rw [List.append_nil]
  | j+1, i, f+1, acc, hi, hf, ha => by
    unfold zq76.l2 zq76.d2 zq76.o2
    rw [w64s (n := 0 + (m : Int)) (by omega) (by omega), dcT (by omega), cond_true, make_eq (by omega) h1 (by omega), mkV_ok (by have := (pr_spec (n := i) (d := m) (by omega)).2.1; omega), Option.bind_some, blT (by simp; omega), cond_true, w1add (by omega)]
    have ih := parts_l N hN h1 h2 j (i + 1) f (acc ++ [sT (rt 0 1 m i)]) (by omega) (by omega) (by simp; omega)
    rw [List.append_assoc] at ih
    rw [rt01] at ih
    rw [rts_succ, rt01]
    exact ih
  | _, _, 0, _, _, hf, _ => by omega
end Go.Proofs.Ytehbhinaopdkeaa.M
namespace Go.Proofs.Ytehbhinaopdkeaa.M
open Go Go.PM
set_option linter.unusedVariables false
set_option linter.unusedSimpArgs false
/-! ### exchanged times -/
theorem pr_mul (X k : Nat) {d : Nat} (hd : 0 < d) : pr ((pr X d).1 * k) (pr X d).2 = pr (X * k) d := by
  have hs := (pr_spec (n := X) hd).2.2.2
  have hp := pr_pos (n := X) hd
  have hm := Nat.mod_add_div X d
  generalize pr X d = f at *
  generalize X % d = r at *
  generalize X / d = z at *
  refine pr_eq (z * k) 0 hp hd ?_
  rw [← hm, Nat.mul_right_comm, hs]
  grind
theorem pr_res {X Y d : Nat} (hd : 0 < d) (h : pr X d = pr Y d) : X % d = Y % d := by
  have h1 := (pr_spec (n := X) hd).2.2.2
  have h2 := (pr_spec (n := Y) hd).2.2.2
  have hp := pr_pos (n := Y) hd
  rw [h] at h1
  rw [h1] at h2
  exact Nat.eq_of_mul_eq_mul_right hp h2
theorem pr_self {n d : Nat} (h : n < d) (hg : Nat.gcd n d = 1) {X : Nat} (e : pr X d = (n, d)) : X % d = n := by
  have := pr_res (X := X) (Y := n) (show 0 < d by omega) (by rw [e, pr_low h hg])
  rw [this, Nat.mod_eq_of_lt h]
/-- the number below of an exchanged time divides h h - 1 -/
theorem exch_dvd {n d h : Nat} (hn : n < d) (hg : Nat.gcd n d = 1) (h1 : 1 ≤ h) (e : pr (n * h * h) d = (n, d)) : (h * h - 1) % d = 0 := by
  have hr := pr_self hn hg e
  have hh : 1 ≤ h * h := Nat.mul_pos h1 h1
  have e1 : n * h * h = n + n * (h * h - 1) := by
    have : n * (h * h) = n * (h * h - 1) + n := by
      conv => lhs; rw [show h * h = (h * h - 1) + 1 by omega]
      rw [Nat.mul_add, Nat.mul_one]
    rw [Nat.mul_assoc, this]; omega
  have hd : d ∣ n * (h * h - 1) := by
    have h2 : (n + n * (h * h - 1)) % d = n % d := by rw [← e1, hr, Nat.mod_eq_of_lt hn]
    have h3 := Nat.sub_mod_eq_zero_of_mod_eq h2
    rw [Nat.add_sub_cancel_left] at h3
    exact Nat.dvd_of_mod_eq_zero h3
  exact Nat.mod_eq_zero_of_dvd (Nat.Coprime.dvd_of_dvd_mul_left (show Nat.Coprime d n by rw [Nat.coprime_comm]; exact hg) hd)
/-- all exchanged times are -/
theorem all_exch {h m i : Nat} (hm : h * h = m + 1) : pr (i * h * h) m = pr i m := by
  have : i * h * h = i + i * m := by rw [Nat.mul_assoc, hm, Nat.mul_add, Nat.mul_one]; omega
  rw [this, pr_add]
/-- unsure are all but those of a multiple of h + 1 -/
theorem unsure_iff {h m i : Nat} (h2 : 2 ≤ h) (hm : h * h = m + 1) (hi : i < m) : pr (i * h) m = pr i m ↔ i % (h + 1) = 0 := by
  have e : m = (h - 1) * (h + 1) := by
    obtain ⟨k, rfl⟩ : ∃ k, h = k + 1 := ⟨h - 1, by omega⟩
    have : (k + 1) * (k + 1) = k * (k + 1 + 1) + 1 := by grind
    rw [Nat.add_sub_cancel]
    omega
  have ei : i * h = i + i * (h - 1) := by
    obtain ⟨k, rfl⟩ : ∃ k, h = k + 1 := ⟨h - 1, by omega⟩
    rw [Nat.add_sub_cancel, Nat.mul_add, Nat.mul_one]; omega
  constructor
  · intro hp
    have hr := pr_res (show 0 < m by omega) hp
    have h3 : m ∣ i * (h - 1) := by
      rw [ei] at hr
      have h4 := Nat.sub_mod_eq_zero_of_mod_eq hr
      rw [Nat.add_sub_cancel_left] at h4
      exact Nat.dvd_of_mod_eq_zero h4
    rw [e, Nat.mul_comm i] at h3
    exact Nat.mod_eq_zero_of_dvd (Nat.dvd_of_mul_dvd_mul_left (show 0 < h - 1 by omega) h3)
  · intro hz
    obtain ⟨z, hz⟩ := Nat.dvd_of_mod_eq_zero hz
    have : i * (h - 1) = z * m := by
      rw [hz, e]; simp only [Nat.mul_assoc, Nat.mul_comm, Nat.mul_left_comm]
    rw [ei, this, pr_add]
def cnt (h i : Nat) : Nat := i - (i + h) / (h + 1)
theorem cnt_step {h i : Nat} (h2 : 2 ≤ h) : (i % (h + 1) = 0 → cnt h (i + 1) = cnt h i) ∧ (i % (h + 1) ≠ 0 → cnt h (i + 1) = cnt h i + 1) := by
  have hm := Nat.div_add_mod i (h + 1)
  have hl := Nat.mod_lt i (show h + 1 > 0 by omega)
  generalize hq : i / (h + 1) = q at *
  generalize hr : i % (h + 1) = r at *
  have qle : q ≤ (h + 1) * q := Nat.le_mul_of_pos_left _ (by omega)
  have d : ∀ a b : Nat, b < h + 1 → ((h + 1) * a + b) / (h + 1) = a := fun a b hb => by
    rw [Nat.mul_add_div (by omega), Nat.div_eq_of_lt hb]; omega
  unfold cnt
  constructor
  · intro e
    subst e
    have e1 : (i + 1 + h) / (h + 1) = q + 1 := by
      have : i + 1 + h = (h + 1) * (q + 1) + 0 := by rw [Nat.mul_add]; omega
      rw [this, d _ _ (by omega)]
    have e2 : (i + h) / (h + 1) = q := by
      have : i + h = (h + 1) * q + h := by omega
      rw [this, d _ _ (by omega)]
    rw [e1, e2]; omega
  · intro e
    have e1 : (i + 1 + h) / (h + 1) = q + 1 := by
      have : i + 1 + h = (h + 1) * (q + 1) + r := by rw [Nat.mul_add]; omega
      rw [this, d _ _ hl]
    have e2 : (i + h) / (h + 1) = q + 1 := by
      have : i + h = (h + 1) * (q + 1) + (r - 1) := by rw [Nat.mul_add]; omega
      rw [this, d _ _ (by omega)]
    rw [e1, e2]; omega
theorem cnt_end {h m : Nat} (h2 : 2 ≤ h) (hm : h * h = m + 1) : cnt h m = h * h - h := by
  obtain ⟨k, rfl⟩ : ∃ k, h = k + 1 := ⟨h - 1, by omega⟩
  have e : (k + 1) * (k + 1) = k * (k + 2) + 1 := by grind
  have em : m = (k + 2) * k := by rw [Nat.mul_comm]; omega
  unfold cnt
  have : (m + (k + 1)) / (k + 1 + 1) = k := by
    rw [em, show k + 1 + 1 = k + 2 from rfl, Nat.mul_add_div (by omega), Nat.div_eq_of_lt (by omega)]; omega
  rw [this, hm]
  have : k ≤ m := by rw [em]; exact Nat.le_mul_of_pos_left _ (by omega)
  omega
end Go.Proofs.Ytehbhinaopdkeaa.M
namespace Go.Proofs.Ytehbhinaopdkeaa.M
open Go Go.PM Go.Proofs.Ytehbhinaopdkeaa.P
set_option linter.unusedVariables false
set_option linter.unusedSimpArgs false
set_option maxRecDepth 100000
/-! ### what is seen -/
def goodB (a b c d : Int) : Bool := turnB a b && turnB c d
def seenB (h a b c d : Int) : Bool := inB h 2 24 && goodB a b c d
def longI (h a b : Int) : Int × Int := (((pr (a.toNat * h.toNat) b.toNat).1 : Int), ((pr (a.toNat * h.toNat) b.toNat).2 : Int))
def trueB (h a b c d : Int) : Bool := (longI h a b).1 == c && (longI h a b).2 == d
theorem IsSeen_eq {N : Nat} (hN : 10000000 ≤ N) (a b c d : Int) : zq6.g N a b c d = some (goodB a b c d) := by
  unfold zq6.g zq6.o0
  rw [areTurns_eq hN _ (by simp), Option.bind_some]
  unfold goodB
  simp
theorem seGood_eq {N : Nat} (hN : 10000000 ≤ N) (a b c d : Int) : zq73.g N a b c d = some (goodB a b c d) := by
  unfold zq73.g zq73.o0 goodB
  rw [diGood_eq hN, Option.bind_some]
  cases turnB a b with
  | false => rfl
  | true => rw [cond_true, diGood_eq hN, Option.bind_some]; rfl
theorem spec_IsSeen_eq {N : Nat} (hN : 10000000 ≤ N) (a b c d : Int) : zq47.g N a b c d = some (goodB a b c d) := by
  unfold zq47.g zq47.o0
  rw [seGood_eq hN]; rfl
theorem isSeenOf_eq {N : Nat} (hN : 10000000 ≤ N) (h a b c d : Int) : zq24.g N h a b c d = some (seenB h a b c d) := by
  unfold zq24.g zq24.o0 seenB
  rw [isDial_eq, Option.bind_some]
  cases inB h 2 24 with
  | false => rfl
  | true => rw [cond_true, IsSeen_eq hN, Option.bind_some]; rfl
theorem seAsked_eq {N : Nat} (hN : 10000000 ≤ N) (h a b c d : Int) : zq71.g N h a b c d = some (seenB h a b c d) := by
  unfold zq71.g zq71.o0 seenB
  rw [diHours_eq, Option.bind_some]
  cases inB h 2 24 with
  | false => rfl
  | true => rw [cond_true, seGood_eq hN, Option.bind_some]; rfl
/-- a dial and what is seen -/
structure Seen (k a b c d : Nat) : Prop where
  k1 : 2 ≤ k
  k2 : k ≤ 24
  s : Turn a b
  l : Turn c d
theorem seenB_iff {h a b c d : Int} : seenB h a b c d = true ↔ ∃ k x y z u : Nat, h = k ∧ a = x ∧ b = y ∧ c = z ∧ d = u ∧ Seen k x y z u := by
  unfold seenB goodB
  rw [Bool.and_eq_true, Bool.and_eq_true, inB_iff, turnB_iff, turnB_iff]
  constructor
  · rintro ⟨h1, ⟨x, y, rfl, rfl, h2⟩, ⟨z, u, rfl, rfl, h3⟩⟩
    exact ⟨h.toNat, x, y, z, u, by omega, rfl, rfl, rfl, rfl, by omega, by omega, h2, h3⟩
  · rintro ⟨k, x, y, z, u, rfl, rfl, rfl, rfl, rfl, h1, h2, h3, h4⟩
    exact ⟨by omega, ⟨x, y, rfl, rfl, h3⟩, ⟨z, u, rfl, rfl, h4⟩⟩
theorem Seen.ex {k a b c d : Nat} (h : Seen k a b c d) : Seen k c d a b := ⟨h.k1, h.k2, h.l, h.s⟩
theorem longN (k a b : Nat) : longI k a b = (((pr (a * k) b).1 : Int), ((pr (a * k) b).2 : Int)) := by
  unfold longI
  simp only [Int.toNat_natCast]
theorem isTrue_eq {N k a b : Nat} (hN : 10000000 ≤ N) (h : Turn a b) (hk : k ≤ 24) (c d : Int) : zq26.g N k a b c d = some (trueB k a b c d) ∧ zq78.g N k a b c d = some (trueB k a b c d) := by
  unfold trueB
  rw [longN]
  constructor
  · unfold zq26.g zq26.o0
    rw [times_eq hN h (by omega), Option.bind_some, Bool.and_true]
  · unfold zq78.g zq78.o0
    rw [diTimes_eq hN h (by omega), Option.bind_some, Bool.and_true]
theorem trueN {k a b c d : Nat} : trueB k a b c d = true ↔ pr (a * k) b = (c, d) := by
  unfold trueB
  rw [longN]
  simp only [Bool.and_eq_true, beq_iff_eq, Prod.ext_iff]
  omega
def iTS (h a b c d : Int) : Bool × Bool := if seenB h a b c d = true then (trueB h a b c d, true) else (false, false)
theorem IsTrueSeen_eq {N : Nat} (hN : 10000000 ≤ N) (h a b c d : Int) : zq7.g N h a b c d = some (iTS h a b c d) ∧ zq48.g N h a b c d = some (iTS h a b c d) := by
  unfold iTS zq7.g zq7.o0 zq48.g zq48.o0
  rw [isSeenOf_eq hN, seAsked_eq hN, Option.bind_some, Option.bind_some]
  cases hs : seenB h a b c d with
  | false => exact ⟨rfl, rfl⟩
  | true =>
    obtain ⟨k, x, y, z, u, rfl, rfl, rfl, rfl, rfl, H⟩ := seenB_iff.1 hs
    rw [cond_true, (isTrue_eq hN H.s H.k2 _ _).1, (isTrue_eq hN H.s H.k2 _ _).2]
    exact ⟨rfl, rfl⟩
def tS (h a b c d : Int) : Int × Int × Bool := if (seenB h a b c d && trueB h a b c d) = true then (a, b, true) else (0, 0, false)
theorem TimeSeen_eq {N : Nat} (hN : 10000000 ≤ N) (h a b c d : Int) : zq13.g N h a b c d = some (tS h a b c d) ∧ zq51.g N h a b c d = some (tS h a b c d) := by
  unfold tS zq13.g zq13.o0 zq13.d1 zq13.o1 zq51.g zq51.o0 zq51.d1 zq51.o1
  rw [isSeenOf_eq hN, seAsked_eq hN, Option.bind_some, Option.bind_some]
  cases hs : seenB h a b c d with
  | false => exact ⟨rfl, rfl⟩
  | true =>
    obtain ⟨k, x, y, z, u, rfl, rfl, rfl, rfl, rfl, H⟩ := seenB_iff.1 hs
    rw [Bool.not_true, cond_false, cond_false, (isTrue_eq hN H.s H.k2 _ _).1, (isTrue_eq hN H.s H.k2 _ _).2, Option.bind_some]
    cases trueB k x y z u with
    | false => exact ⟨rfl, rfl⟩
    | true => exact ⟨rfl, rfl⟩
def eS (a b c d : Int) : Int × Int × Int × Int × Bool := if goodB a b c d = true then (c, d, a, b, true) else (0, 0, 0, 0, false)
theorem ExchangeSeen_eq {N : Nat} (hN : 10000000 ≤ N) (a b c d : Int) : zq4.g N a b c d = some (eS a b c d) ∧ zq45.g N a b c d = some (eS a b c d) := by
  unfold eS zq4.g zq4.o0 zq45.g zq45.o0
  rw [IsSeen_eq hN, seGood_eq hN, Option.bind_some, Option.bind_some]
  cases goodB a b c d with
  | false => exact ⟨rfl, rfl⟩
  | true => exact ⟨rfl, rfl⟩
def sO (h n d : Int) : Int × Int × Int × Int × Bool := if timeB h n d = true then (n, d, (longI h n d).1, (longI h n d).2, true) else (0, 0, 0, 0, false)
theorem seOf_eq {N k a b : Nat} (hN : 10000000 ≤ N) (h : Turn a b) (hk : k ≤ 24) : zq75.g N k a b = some ((a : Int), (b : Int), ((pr (a * k) b).1 : Int), ((pr (a * k) b).2 : Int)) := by
  unfold zq75.g zq75.o0
  rw [diTimes_eq hN h (by omega)]; rfl
theorem SeenOf_eq {N : Nat} (hN : 10000000 ≤ N) (h n d : Int) : zq11.g N h n d = some (sO h n d) ∧ zq50.g N h n d = some (sO h n d) := by
  unfold sO zq11.g zq11.o0 zq50.g zq50.o0
  rw [isTime_eq hN, diAsked_eq hN, Option.bind_some, Option.bind_some]
  cases hb : timeB h n d with
  | false => exact ⟨rfl, rfl⟩
  | true =>
    obtain ⟨k, x, y, rfl, h1, h2, rfl, rfl, H⟩ := timeB_iff.1 hb
    rw [Bool.not_true, cond_false, cond_false, times_eq hN H (by omega), seOf_eq hN H h2, longN]
    exact ⟨rfl, rfl⟩
def eT (h n d : Int) : Int × Int × Bool := if (timeB h n d && trueB h (longI h n d).1 (longI h n d).2 n d) = true then ((longI h n d).1, (longI h n d).2, true) else (0, 0, false)
theorem longT {k a b : Nat} (h : Turn a b) : Turn (pr (a * k) b).1 (pr (a * k) b).2 := pr_Turn (Nat.lt_of_le_of_lt (Nat.zero_le _) h.lt) h.le
theorem seenB_of {k a b c d : Nat} (h : Seen k a b c d) : seenB k a b c d = true := seenB_iff.2 ⟨k, a, b, c, d, rfl, rfl, rfl, rfl, rfl, h⟩
theorem ExchangedTime_eq {N : Nat} (hN : 10000000 ≤ N) (h n d : Int) : zq5.g N h n d = some (eT h n d) ∧ zq46.g N h n d = some (eT h n d) := by
  constructor
  · unfold eT zq5.g zq5.o0 zq12.g zq12.o0
    rw [(SeenOf_eq hN _ _ _).1, Option.bind_some]
    unfold sO
    cases hb : timeB h n d with
    | false => rfl
    | true =>
      obtain ⟨k, x, y, rfl, h1, h2, rfl, rfl, H⟩ := timeB_iff.1 hb
      rw [if_pos rfl]
      dsimp only
      rw [Bool.not_true, cond_false, Option.bind_some]
      dsimp only
      rw [(TimeSeen_eq hN _ _ _ _ _).1, Option.bind_some]
      unfold tS
      rw [longN, seenB_of ⟨h1, h2, longT H, H⟩]
  · unfold eT zq46.g zq46.o0 zq46.d1 zq46.o1 zq72.g zq72.o0
    rw [diAsked_eq hN, Option.bind_some]
    cases hb : timeB h n d with
    | false => rfl
    | true =>
      obtain ⟨k, x, y, rfl, h1, h2, rfl, rfl, H⟩ := timeB_iff.1 hb
      rw [Bool.not_true, cond_false, seOf_eq hN H h2, Option.bind_some, Option.bind_some]
      dsimp only
      rw [(isTrue_eq hN (longT H) h2 _ _).2, Option.bind_some, longN]
      dsimp only
      cases ht : trueB (k : Int) ((pr (x * k) y).1 : Int) ((pr (x * k) y).2 : Int) (x : Int) (y : Int) with
      | false => rfl
      | true =>
        rw [Bool.not_true, cond_false, diTimes_eq hN H (by omega)]; rfl
/-- the exchanged time of a time -/
theorem eT_true {k n d : Nat} (hd : 0 < d) : trueB k (pr (n * k) d).1 (pr (n * k) d).2 n d = true ↔ pr (n * k * k) d = (n, d) := by
  rw [trueN, pr_mul _ _ hd]
/-! ### times alike -/
theorem turn_eq {a b c d : Nat} (h1 : Turn a b) (h2 : Turn c d) (h : a * d = c * b) : a = c ∧ b = d := by
  have p1 : 0 < b := Nat.lt_of_le_of_lt (Nat.zero_le _) h1.lt
  have p2 : 0 < d := Nat.lt_of_le_of_lt (Nat.zero_le _) h2.lt
  have := pr_eq0 p1 p2 h
  rw [pr_low h1.lt h1.cop, pr_low h2.lt h2.cop] at this
  exact ⟨congrArg Prod.fst this, congrArg Prod.snd this⟩
theorem cf_neg {a b c d : Nat} (h1 : Turn a b) (h2 : Turn c d) : decide (zq29.cf ⟨a, b⟩ ⟨c, d⟩ < 0) = decide (a * d < c * b) := by
  have e1 := mulT h1 h2
  have e2 := mulT h2 h1
  unfold zq29.cf Lib.compareInt
  dsimp only
  rw [← Int.natCast_mul, ← Int.natCast_mul, w64n (by omega), w64n (by omega)]
  generalize a * d = x at *
  generalize c * b = y at *
  apply decide_eq_decide.2
  by_cases c1 : (x : Int) < y
  · rw [if_pos c1]; omega
  · rw [if_neg c1]
    by_cases c2 : (x : Int) > y
    · rw [if_pos c2]; omega
    · rw [if_neg c2]; omega
/-- two times in order, each once -/
def ord2 (a b c d : Nat) : List S25 := if a * d < c * b then [⟨a, b⟩, ⟨c, d⟩] else if c * b < a * d then [⟨c, d⟩, ⟨a, b⟩] else [⟨a, b⟩]
theorem s2_eq {a b c d : Nat} (h1 : Turn a b) (h2 : Turn c d) : zq29.s2 [⟨a, b⟩, ⟨c, d⟩] = ord2 a b c d := by
  unfold zq29.s2 ord2 zq29.c2
  dsimp only
  rw [cf_neg h2 h1]
  by_cases c1 : c * b < a * d
  · rw [dcT c1, cond_true, if_neg (by omega), if_pos c1]
    have : ((a : Int) == (c : Int) && (b : Int) == (d : Int)) = false := by
      cases e : ((a : Int) == (c : Int) && (b : Int) == (d : Int)) with
      | false => rfl
      | true =>
        simp only [Bool.and_eq_true, beq_iff_eq] at e
        obtain ⟨e1, e2⟩ : a = c ∧ b = d := by omega
        subst e1; subst e2; omega
    rw [this, cond_false]
  · rw [dcF c1, cond_false]
    by_cases c2 : a * d < c * b
    · rw [if_pos c2]
      have : ((c : Int) == (a : Int) && (d : Int) == (b : Int)) = false := by
        cases e : ((c : Int) == (a : Int) && (d : Int) == (b : Int)) with
        | false => rfl
        | true =>
          simp only [Bool.and_eq_true, beq_iff_eq] at e
          obtain ⟨e1, e2⟩ : a = c ∧ b = d := by omega
          subst e1; subst e2; omega
      rw [this, cond_false]
    · rw [if_neg c2, if_neg c1]
      obtain ⟨e1, e2⟩ := turn_eq h1 h2 (by omega)
      subst e1; subst e2
      simp
theorem put0 (n : Nat) (c d : Int) : zq77.g (n + 2) [] c d = some [⟨c, d⟩] := rfl
theorem put1 {n a b c d : Nat} (h1 : Turn a b) (h2 : Turn c d) : zq77.g (n + 2) [⟨a, b⟩] c d = some (ord2 a b c d) := by
  obtain ⟨r, er, hr⟩ := (compare_neg (N := n + 2) h1 h2).2
  unfold zq77.g zq77.o0 zq77.l1 zq77.d1 zq77.o1
  simp only [List.length_cons, List.length_nil, Nat.zero_add, Int.natCast_one, show decide ((0 : Int) < 1) = true from rfl, show decide ((0 : Int) ≤ 0) = true from rfl, cond_true, show (0 : Int).toNat = 0 from rfl, List.getElem?_cons_zero, Option.bind_some, er, hr]
  unfold ord2
  by_cases c1 : a * d < c * b
  · rw [dcT c1, cond_true, if_pos c1]
    unfold zq77.d2 zq77.o2 zq77.l1 zq77.d1 zq77.o1
    rfl
  · rw [dcF c1, cond_false, if_neg c1]
    by_cases c2 : c * b < a * d
    · rw [if_pos c2]
      have : ((a : Int) == (c : Int) && ((b : Int) == (d : Int) && true)) = false := by
        cases e : ((a : Int) == (c : Int) && ((b : Int) == (d : Int) && true)) with
        | false => rfl
        | true =>
          simp only [Bool.and_eq_true, beq_iff_eq] at e
          obtain ⟨e1, e2⟩ : a = c ∧ b = d := by omega
          subst e1; subst e2; omega
      rw [this]
      rfl
    · rw [if_neg c2]
      obtain ⟨e1, e2⟩ := turn_eq h1 h2 (by omega)
      subst e1; subst e2
      simp only [beq_self_eq_true, Bool.and_self]
      rfl
def al (p q : Bool) (a b c d : Nat) : List S25 := bif p then (bif q then ord2 a b c d else [⟨a, b⟩]) else (bif q then [⟨c, d⟩] else [])
def tA (h a b c d : Int) : List S25 × Bool := if seenB h a b c d = true then (al (trueB h a b c d) (trueB h c d a b) a.toNat b.toNat c.toNat d.toNat, true) else ([], false)
theorem tA_N {k a b c d : Nat} (h : Seen k a b c d) : tA k a b c d = (al (trueB k a b c d) (trueB k c d a b) a b c d, true) := by
  unfold tA
  rw [seenB_of h, if_pos rfl]
  simp only [Int.toNat_natCast]
theorem alike_impl {N : Nat} (hN : 10000000 ≤ N) (h a b c d : Int) : zq14.g N h a b c d = some (tA h a b c d) := by
  unfold zq14.g zq14.o0
  rw [isSeenOf_eq hN, Option.bind_some]
  cases hs : seenB h a b c d with
  | false => unfold tA; rw [hs]; rfl
  | true =>
    obtain ⟨k, x, y, z, u, rfl, rfl, rfl, rfl, rfl, H⟩ := seenB_iff.1 hs
    rw [Bool.not_true, cond_false, (isTrue_eq hN H.s H.k2 _ _).1, Option.bind_some, tA_N H]
    have key : ∀ l : List S25, l.length ≤ 1 → zq14.d1 N k l x y z u = some (zq29.s2 (bif trueB k z u x y then l ++ [⟨z, u⟩] else l), true) := by
      intro l hl
      unfold zq14.d1 zq14.o1 zq12.g zq12.o0
      rw [Option.bind_some]
      dsimp only
      rw [(isTrue_eq hN H.l H.k2 _ _).1, Option.bind_some]
      cases trueB k z u x y with
      | false =>
        rw [cond_false, cond_false]
        unfold zq14.d2 zq14.o2 zq29.g
        rw [Nat.ble_eq_true_of_le (by omega), cond_true, Option.bind_some]
      | true =>
        rw [cond_true, cond_true, blT (by simp; omega), cond_true]
        unfold zq14.d2 zq14.o2 zq29.g
        rw [Nat.ble_eq_true_of_le (by simp; omega), cond_true, Option.bind_some]
    cases hp : trueB k x y z u with
    | false =>
      rw [cond_false]
      refine (key [] (by simp)).trans ?_
      cases trueB k z u x y with
      | false => rfl
      | true => rfl
    | true =>
      rw [cond_true, blT (by simp), cond_true]
      refine (key [⟨x, y⟩] (by simp)).trans ?_
      cases trueB k z u x y with
      | false => rfl
      | true =>
        show some (zq29.s2 [⟨x, y⟩, ⟨z, u⟩], true) = some (ord2 x y z u, true)
        rw [s2_eq H.s H.l]
theorem alike_spec {N : Nat} (hN : 10000000 ≤ N) (h a b c d : Int) : zq52.g (N + 3) h a b c d = some (tA h a b c d) := by
  unfold zq52.g zq52.o0
  rw [seAsked_eq (by omega), Option.bind_some]
  cases hs : seenB h a b c d with
  | false => unfold tA; rw [hs]; rfl
  | true =>
    obtain ⟨k, x, y, z, u, rfl, rfl, rfl, rfl, rfl, H⟩ := seenB_iff.1 hs
    unfold zq72.g zq72.o0
    rw [Bool.not_true, cond_false, Option.bind_some, tA_N H]
    have t1 := (isTrue_eq (N := N + 3) (by omega) H.s H.k2 z u).2
    have t2 := (isTrue_eq (N := N + 3) (by omega) H.l H.k2 x y).2
    have p0 := put0 (N + 1)
    have p1 := put1 (n := N + 1) H.s H.l
    unfold zq52.l1 zq52.d1 zq52.o1
    simp only [List.length_cons, List.length_nil, Nat.zero_add, show decide ((0 : Int) < ((1 + 1 : Nat) : Int)) = true from rfl, show decide ((0 : Int) ≤ 0) = true from rfl, cond_true, show (0 : Int).toNat = 0 from rfl, List.getElem?_cons_zero, Option.bind_some, t1]
    cases hp : trueB k x y z u with
    | false =>
      rw [cond_false]
      unfold zq52.l1 zq52.d1 zq52.o1
      simp only [List.length_cons, List.length_nil, Nat.zero_add, show w64 (0 + 1) = 1 from rfl, show decide ((1 : Int) < ((1 + 1 : Nat) : Int)) = true from rfl, show decide ((0 : Int) ≤ 1) = true from rfl, cond_true, show (1 : Int).toNat = 1 from rfl, List.getElem?_cons_succ, List.getElem?_cons_zero, Option.bind_some, t2]
      cases hq : trueB k z u x y with
      | false => rfl
      | true => rw [cond_true, p0]; rfl
    | true =>
      rw [cond_true, p0, Option.bind_some]
      unfold zq52.l2 zq52.d2 zq52.o2
      simp only [List.length_cons, List.length_nil, Nat.zero_add, show w64 (0 + 1) = 1 from rfl, show decide ((1 : Int) < ((1 + 1 : Nat) : Int)) = true from rfl, show decide ((0 : Int) ≤ 1) = true from rfl, cond_true, show (1 : Int).toNat = 1 from rfl, List.getElem?_cons_succ, List.getElem?_cons_zero, Option.bind_some, t2]
      cases hq : trueB k z u x y with
      | false => rfl
      | true => rw [cond_true, p1]; rfl
/-! ### all exchanged times, how many are unsure -/
theorem parts_eq {N m : Nat} (hN : 10000 < N) (h1 : 1 ≤ m) (h2 : m ≤ 1000) : zq76.g N 0 m = some (rts 0 1 m 0 m) := by
  obtain ⟨n, rfl⟩ : ∃ n, N = n + 1 := ⟨N - 1, by omega⟩
  obtain ⟨j, rfl⟩ : ∃ j, m = j + 1 := ⟨m - 1, by omega⟩
  have e0 := make_eq (N := n + 1) (m := 0) (D := j + 1) (by omega) (by omega) (by omega)
  rw [mkV_ok (by have := (pr_spec (n := 0) (d := j + 1) (by omega)).2.1; omega)] at e0
  have ih := parts_l (n + 1) hN h1 h2 j 1 n [sT (rt 0 1 (j + 1) 0)] (by omega) (by omega) rfl
  change zq76.d1 (n + 1) 0 ((j + 1 : Nat) : Int) 0 (fun w0 w1 w2 w3 => zq76.l2 (n + 1) n w0 w1 w2 w3) = _
  unfold zq76.d1 zq76.o1
  rw [w64s (n := 0 + ((j + 1 : Nat) : Int)) (by omega) (by omega), dcT (by omega), cond_true, show (0 : Int) = ((0 : Nat) : Int) from rfl, e0, Option.bind_some, blT (by simp), cond_true, w1add (by omega)]
  rw [rt01] at ih
  rw [rts_succ, rt01]
  exact ih
theorem sq {k : Nat} (h1 : 2 ≤ k) (h2 : k ≤ 24) : 4 ≤ k * k ∧ k * k ≤ 576 ∧ w64 ((k : Int) * (k : Int)) = ((k * k : Nat) : Int) ∧ w64 (w64 ((k : Int) * (k : Int)) - 1) = ((k * k - 1 : Nat) : Int) := by
  have a := Nat.mul_le_mul h1 h1
  have b := Nat.mul_le_mul h2 h2
  have e : w64 ((k : Int) * (k : Int)) = ((k * k : Nat) : Int) := by rw [← Int.natCast_mul, w64n (by omega)]
  refine ⟨by omega, by omega, e, ?_⟩
  rw [e, w64s (by omega) (by omega)]; omega
theorem dial_iff {h : Int} : inB h 2 24 = true ↔ ∃ k : Nat, h = k ∧ 2 ≤ k ∧ k ≤ 24 := by
  rw [inB_iff]
  constructor
  · intro ⟨a, b⟩; exact ⟨h.toNat, by omega, by omega, by omega⟩
  · rintro ⟨k, rfl, a, b⟩; omega
def allE (h : Int) : List S25 × Bool := if inB h 2 24 = true then (rts 0 1 (h.toNat * h.toNat - 1) 0 (h.toNat * h.toNat - 1), true) else ([], false)
theorem All_eq {N : Nat} (hN : 2000000000 < N) (h : Int) : zq2.g N h = some (allE h) ∧ zq39.g N h = some (allE h) := by
  unfold allE zq2.g zq2.o0 zq39.g zq39.o0
  rw [isDial_eq, diHours_eq, Option.bind_some, Option.bind_some]
  cases hb : inB h 2 24 with
  | false => exact ⟨rfl, rfl⟩
  | true =>
    obtain ⟨k, rfl, h1, h2⟩ := dial_iff.1 hb
    obtain ⟨a, b, e1, e2⟩ := sq h1 h2
    rw [Bool.not_true, cond_false, cond_false, e2, if_pos rfl, Int.toNat_natCast]
    constructor
    · have := ifRoots_eq hN (n := 0) (d := 1) (k := k * k - 1) (by omega) (by omega) (by omega) (by omega) (by omega)
      unfold timesL at this
      rw [if_pos (ok01 (by omega) (by omega))] at this
      exact this
    · rw [parts_eq (by omega) (by omega) (by omega)]; rfl
def cU (h : Int) : Int × Bool := if inB h 2 24 = true then (((h.toNat * h.toNat - h.toNat : Nat) : Int), true) else (0, false)
theorem Count_eq {N : Nat} (h : Int) : zq3.g N h = some (cU h) ∧ zq40.g N h = some (cU h) := by
  unfold cU zq3.g zq3.o0 zq40.g zq40.o0
  rw [isDial_eq, diHours_eq, Option.bind_some, Option.bind_some]
  cases hb : inB h 2 24 with
  | false => exact ⟨rfl, rfl⟩
  | true =>
    obtain ⟨k, rfl, h1, h2⟩ := dial_iff.1 hb
    obtain ⟨a, b, e1, e2⟩ := sq h1 h2
    have hk : k ≤ k * k := Nat.le_mul_of_pos_left _ (by omega)
    rw [Bool.not_true, cond_false, cond_false, e2, e1, if_pos rfl, Int.toNat_natCast]
    constructor
    · rw [w64s (by omega) (by omega)]; congr 2; omega
    · rw [w64s (n := (k : Int) - 1) (by omega) (by omega), w64s (by omega) (by omega)]; congr 2; omega
/-! ### the two times that are their own mirrors -/
theorem pr_one (n : Nat) : pr n 1 = (0, 1) := by unfold pr; rw [Nat.mod_one]; rfl
theorem pr_two (n : Nat) : pr n 2 = (0, 1) ∨ pr n 2 = (1, 2) := by
  rcases Nat.mod_two_eq_zero_or_one n with h | h
  · left; unfold pr; rw [h]; rfl
  · right; unfold pr; rw [h]; rfl
theorem T01 : Turn 0 1 := ⟨by omega, by omega, rfl⟩
theorem T12 : Turn 1 2 := ⟨by omega, by omega, rfl⟩
theorem mir {N a b : Nat} (hN : 10000000 ≤ N) (h : (a, b) = (0, 1) ∨ (a, b) = (1, 2)) : Turn a b ∧ zq16.g N a b = some ((a : Int), (b : Int)) ∧ zq59.g N a b = some ((a : Int), (b : Int)) := by
  rcases h with h | h
  · obtain ⟨rfl, rfl⟩ : a = 0 ∧ b = 1 := ⟨congrArg Prod.fst h, congrArg Prod.snd h⟩
    have := mirror_eq hN T01
    rw [show pr (1 - 0) 1 = (0, 1) from pr_one 1] at this
    exact ⟨T01, this⟩
  · obtain ⟨rfl, rfl⟩ : a = 1 ∧ b = 2 := ⟨congrArg Prod.fst h, congrArg Prod.snd h⟩
    have := mirror_eq hN T12
    rw [show pr (2 - 1) 2 = (1, 2) from rfl] at this
    exact ⟨T12, this⟩
theorem half (k : Nat) : (pr (0 * k) 1 = (0, 1)) ∧ (pr (1 * k) 2 = (0, 1) ∨ pr (1 * k) 2 = (1, 2)) := ⟨pr_one _, pr_two _⟩
/-- what is seen at these times -/
theorem glass {N k a b : Nat} (hN : 10000000 ≤ N) (h1 : 2 ≤ k) (h2 : k ≤ 24) (h : (a, b) = (0, 1) ∨ (a, b) = (1, 2)) : ∃ p q : Nat, zq75.g N k a b = some ((a : Int), (b : Int), (p : Int), (q : Int)) ∧ zq74.g N a b p q = some ((a : Int), (b : Int), (p : Int), (q : Int)) ∧ zq11.g N k a b = some ((a : Int), (b : Int), (p : Int), (q : Int), true) ∧ zq9.g N a b p q = some ((a : Int), (b : Int), (p : Int), (q : Int), true) := by
  obtain ⟨m1, m2, m3⟩ := mir hN h
  have hl : ((pr (a * k) b).1, (pr (a * k) b).2) = (0, 1) ∨ ((pr (a * k) b).1, (pr (a * k) b).2) = (1, 2) := by
    rcases h with h | h
    · obtain ⟨rfl, rfl⟩ : a = 0 ∧ b = 1 := ⟨congrArg Prod.fst h, congrArg Prod.snd h⟩
      exact .inl (half k).1
    · obtain ⟨rfl, rfl⟩ : a = 1 ∧ b = 2 := ⟨congrArg Prod.fst h, congrArg Prod.snd h⟩
      exact (half k).2
  obtain ⟨l1, l2, l3⟩ := mir hN hl
  refine ⟨(pr (a * k) b).1, (pr (a * k) b).2, seOf_eq hN m1 h2, ?_, ?_, ?_⟩
  · unfold zq74.g zq74.o0
    rw [m3, Option.bind_some, l3]; rfl
  · rw [(SeenOf_eq hN _ _ _).1]
    unfold sO
    rw [timeB_iff.2 ⟨k, a, b, rfl, h1, h2, rfl, rfl, m1⟩, if_pos rfl, longN]
  · unfold zq9.g zq9.o0
    rw [IsSeen_eq hN, Option.bind_some]
    unfold goodB
    rw [turnB_T m1, turnB_T l1, Bool.and_self, Bool.not_true, cond_false, m2, Option.bind_some, l2]; rfl
def two : List S25 := [⟨0, 1⟩, ⟨1, 2⟩]
def oM (h : Int) : List S25 × Bool := if inB h 2 24 = true then (two, true) else ([], false)
theorem Own_impl {N : Nat} (h : Int) : zq10.g N h = some (oM h) := by
  unfold zq10.g zq10.o0 oM
  rw [isDial_eq, Option.bind_some]
  cases hb : inB h 2 24 with
  | false => rfl
  | true => rfl
theorem rts2 : rts 0 1 2 0 2 = two := by
  unfold rts two
  simp only [List.range'_succ, List.range'_zero, List.map_cons, List.map_nil, rt01]
  rfl
theorem Own_spec {N : Nat} (hN : 10000000 ≤ N) (h : Int) : zq49.g (N + 3) h = some (oM h) := by
  unfold zq49.g zq49.o0 oM
  rw [diHours_eq, Option.bind_some]
  cases hb : inB h 2 24 with
  | false => rfl
  | true =>
    obtain ⟨k, rfl, h1, h2⟩ := dial_iff.1 hb
    rw [Bool.not_true, cond_false, show (2 : Int) = ((2 : Nat) : Int) from rfl, parts_eq (by omega) (by omega) (by omega), rts2, Option.bind_some, if_pos rfl]
    obtain ⟨p, q, t1, t2, _, _⟩ := glass (N := N + 3) (by omega) h1 h2 (a := 0) (b := 1) (.inl rfl)
    obtain ⟨p', q', t3, t4, _, _⟩ := glass (N := N + 3) (by omega) h1 h2 (a := 1) (b := 2) (.inr rfl)
    simp only [Int.natCast_zero, Int.natCast_one, show ((2 : Nat) : Int) = 2 from rfl] at t1 t2 t3 t4
    unfold two zq49.l1 zq49.d1 zq49.o1
    simp only [List.length_cons, List.length_nil, Nat.zero_add, show decide ((0 : Int) < ((1 + 1 : Nat) : Int)) = true from rfl, show decide ((0 : Int) ≤ 0) = true from rfl, cond_true, show (0 : Int).toNat = 0 from rfl, List.getElem?_cons_zero, Option.bind_some, t1, t2, beq_self_eq_true, Bool.and_self, show Nat.blt 1 8796093022208 = true from rfl, List.nil_append]
    unfold zq49.l2 zq49.d2 zq49.o2
    simp only [List.length_cons, List.length_nil, Nat.zero_add, show w64 (0 + 1) = 1 from rfl, show decide ((1 : Int) < ((1 + 1 : Nat) : Int)) = true from rfl, show decide ((0 : Int) ≤ 1) = true from rfl, cond_true, show (1 : Int).toNat = 1 from rfl, List.getElem?_cons_succ, List.getElem?_cons_zero, Option.bind_some, t3, t4, beq_self_eq_true, Bool.and_self, show Nat.blt (1 + 1) 8796093022208 = true from rfl, List.cons_append, List.nil_append]
    rfl
/-! ### lists of one or two -/
theorem has0 {n : Nat} (x : S25) (xs : List S25) (hl : xs.length < 1000) : zq33.g (n + 1) (x :: xs) x.f0 x.f1 = some true := by
  unfold zq33.g zq33.o0 zq33.l1 zq33.d1 zq33.o1
  dsimp only
  rw [dcT (by simp only [List.length_cons]; omega), cond_true, dcT (by omega), cond_true, cond_true]
  simp
theorem has1 {n : Nat} (x y : S25) : zq33.g (n + 2) [x, y] y.f0 y.f1 = some true := by
  unfold zq33.g zq33.o0 zq33.l1 zq33.d1 zq33.o1
  simp only [List.length_cons, List.length_nil, Nat.zero_add, show decide ((0 : Int) < ((1 + 1 : Nat) : Int)) = true from rfl, show decide ((0 : Int) ≤ 0) = true from rfl, cond_true, show (0 : Int).toNat = 0 from rfl, List.getElem?_cons_zero, Option.bind_some]
  cases (x.f0 == y.f0 && (x.f1 == y.f1 && true)) with
  | true => rfl
  | false =>
    rw [cond_false]
    unfold zq33.l1 zq33.d1 zq33.o1
    simp only [List.length_cons, List.length_nil, Nat.zero_add, show w64 (0 + 1) = 1 from rfl, show decide ((1 : Int) < ((1 + 1 : Nat) : Int)) = true from rfl, show decide ((0 : Int) ≤ 1) = true from rfl, cond_true, show (1 : Int).toNat = 1 from rfl, List.getElem?_cons_succ, List.getElem?_cons_zero, Option.bind_some, beq_self_eq_true, Bool.and_self]
theorem rise1 {n : Nat} (x : S25) : zq34.g (n + 1) [x] = some true := rfl
theorem rise2 {n a b c d : Nat} (h1 : Turn a b) (h2 : Turn c d) (h : a * d < c * b) : zq34.g (n + 2) [⟨a, b⟩, ⟨c, d⟩] = some true := by
  have e1 := mulT h1 h2
  have e2 := mulT h2 h1
  unfold zq34.g zq34.o0 zq34.l1 zq34.d1 zq34.o1
  simp only [List.length_cons, List.length_nil, Nat.zero_add, show w64 (1 - 1) = 0 from rfl, show decide ((1 : Int) < ((1 + 1 : Nat) : Int)) = true from rfl, show decide ((0 : Int) < ((1 + 1 : Nat) : Int)) = true from rfl, show decide ((0 : Int) ≤ 1) = true from rfl, show decide ((0 : Int) ≤ 0) = true from rfl, cond_true, show (0 : Int).toNat = 0 from rfl, show (1 : Int).toNat = 1 from rfl, List.getElem?_cons_succ, List.getElem?_cons_zero, Option.bind_some]
  rw [dcF (show ¬ (w64 ((a : Int) * (d : Int)) ≥ w64 ((c : Int) * (b : Int))) by rw [← Int.natCast_mul, ← Int.natCast_mul, w64n (by omega), w64n (by omega)]; omega), cond_false]
  rfl
theorem ord2_ok {n a b c d : Nat} (h1 : Turn a b) (h2 : Turn c d) : zq33.g (n + 2) (ord2 a b c d) a b = some true ∧ zq33.g (n + 2) (ord2 a b c d) c d = some true ∧ zq34.g (n + 2) (ord2 a b c d) = some true ∧ (((c, d) = (a, b) ∧ (ord2 a b c d).length = 1) ∨ ((c, d) ≠ (a, b) ∧ (ord2 a b c d).length = 2)) := by
  unfold ord2
  by_cases c1 : a * d < c * b
  · rw [if_pos c1]
    refine ⟨has0 (n := n + 1) ⟨a, b⟩ _ (by simp), has1 ⟨a, b⟩ ⟨c, d⟩, rise2 h1 h2 c1, .inr ⟨?_, rfl⟩⟩
    intro e
    obtain ⟨rfl, rfl⟩ : c = a ∧ d = b := ⟨congrArg Prod.fst e, congrArg Prod.snd e⟩
    omega
  · rw [if_neg c1]
    by_cases c2 : c * b < a * d
    · rw [if_pos c2]
      refine ⟨has1 ⟨c, d⟩ ⟨a, b⟩, has0 (n := n + 1) ⟨c, d⟩ _ (by simp), rise2 h2 h1 c2, .inr ⟨?_, rfl⟩⟩
      intro e
      obtain ⟨rfl, rfl⟩ : c = a ∧ d = b := ⟨congrArg Prod.fst e, congrArg Prod.snd e⟩
      omega
    · rw [if_neg c2]
      obtain ⟨e1, e2⟩ := turn_eq h1 h2 (by omega)
      subst e1; subst e2
      exact ⟨has0 (n := n + 1) ⟨a, b⟩ [] (by simp), has0 (n := n + 1) ⟨a, b⟩ [] (by simp), rise1 _, .inl ⟨rfl, rfl⟩⟩
/-! ### draws of what is seen -/
theorem make_turn {N x k : Nat} (hN : 10000000 ≤ N) (h1 : 2 ≤ k) (h2 : k ≤ 24) : ∃ a b : Nat, zq58.g N x (w64 (w64 ((k : Int) * (k : Int)) - 1)) = some ((a : Int), (b : Int), true) ∧ Turn a b := by
  obtain ⟨a, b, e1, e2⟩ := sq h1 h2
  have hs := pr_spec (n := x) (d := k * k - 1) (by omega)
  refine ⟨(pr x (k * k - 1)).1, (pr x (k * k - 1)).2, ?_, pr_Turn (by omega) (by omega)⟩
  rw [e2, make_eq (by omega) (by omega) (by omega), mkV_ok (by omega)]
theorem exDraw {N : Nat} (hN : 10000000 ≤ N) {code : List Int} (hc : Bs code) : Tot (zq42.g N code) fun r => True := by
  unfold zq42.g zq42.o0
  refine Tot.bind (hours_tot N hc (by omega) (by omega) 0) ?_
  rintro ⟨h, c, p, s⟩ ⟨hcc, p1, p2⟩
  dsimp only at hcc p1 p2 ⊢
  subst hcc
  rw [diHours_eq, Option.bind_some]
  have turn : ∀ p' s', 0 ≤ p' → p' ≤ 100 → Tot (zq42.d1 N h true 0 0 c p' s') fun r => True := by
    intro p' s' q1 q2
    unfold zq42.d1 zq42.o1
    rw [cond_true]
    refine Tot.bind (turn_tot hN hc q1 (by omega) s') ?_
    rintro r _
    exact Tot.now trivial
  cases hb : inB h 2 24 with
  | false => exact turn p s p1 (by omega)
  | true =>
    obtain ⟨k, rfl, h1, h2⟩ := dial_iff.1 hb
    rw [Bool.not_true, cond_false]
    refine Tot.bind (one_tot N hc 4 p1 (by omega) s) ?_
    rintro ⟨b, c', q, t⟩ ⟨hcc, q1, q2⟩
    dsimp only at hcc q1 q2 ⊢
    subst hcc
    cases b with
    | true => exact turn q t q1 (by omega)
    | false =>
      unfold zq42.d1 zq42.o1
      rw [cond_false]
      refine Tot.bind (pick_tot N hc _ q1 (by omega) t) ?_
      rintro ⟨x, c'', q', t'⟩ ⟨⟨x1, x2⟩, _, _, _⟩
      dsimp only at x1 x2 ⊢
      obtain ⟨x, rfl⟩ := Int.eq_ofNat_of_zero_le x1
      obtain ⟨a, b, e, _⟩ := make_turn (N := N) (x := x) hN h1 h2
      rw [e, Option.bind_some]
      exact Tot.now trivial
theorem seen_d2 {N k a b : Nat} (hN : 10000000 ≤ N) {code : List Int} (hc : Bs code) (h1 : Turn a b) (h2 : k ≤ 24) {p s : Int} (p1 : 0 ≤ p) (p2 : p ≤ 1000) (z1 z2 z3 z4 : Int) :
    Tot (zq66.d2 N k code p s z1 z2 z3 z4 a b) fun r => True := by
  unfold zq66.d2 zq66.o2
  rw [seOf_eq hN h1 h2, Option.bind_some]
  refine Tot.bind (pick_tot N hc 5 p1 (by omega) s) ?_
  rintro ⟨x, c, q, t⟩ _
  dsimp only
  refine Tot.bif (fun _ => ?_) (fun _ => Tot.bif (fun _ => ?_) (fun _ => Tot.now trivial))
  · unfold zq72.g zq72.o0
    exact Tot.now trivial
  · unfold zq74.g zq74.o0
    rw [(mirror_eq hN h1).2, Option.bind_some, (mirror_eq hN (longT h1)).2]
    exact Tot.now trivial
theorem seen_tot {N : Nat} (hN : 10000000 ≤ N) {code : List Int} (hc : Bs code) (h : Int) {pos : Int} (h1 : 0 ≤ pos) (h2 : pos ≤ 100) (seed : Int) :
    Tot (zq66.g N h code pos seed) fun r => True := by
  unfold zq66.g zq66.o0
  refine Tot.bind (turn_tot hN hc h1 (by omega) seed) ?_
  rintro ⟨n, d, c, p, s⟩ ⟨hcc, p1, p2⟩
  dsimp only at hcc p1 p2 ⊢
  subst hcc
  rw [diAsked_eq hN, Option.bind_some]
  have turn : ∀ p' s', 0 ≤ p' → p' ≤ 1000 → Tot (zq66.d1 N h true c p' s' 0 0 0 0 n d) fun r => True := by
    intro p' s' q1 q2
    unfold zq66.d1 zq66.o1
    rw [cond_true]
    refine Tot.bind (turn_tot hN hc q1 (by omega) s') ?_
    rintro r _
    exact Tot.now trivial
  cases hb : timeB h n d with
  | false => exact turn p s p1 (by omega)
  | true =>
    obtain ⟨k, x, y, rfl, k1, k2, rfl, rfl, H⟩ := timeB_iff.1 hb
    rw [Bool.not_true, cond_false]
    refine Tot.bind (one_tot N hc 5 p1 (by omega) s) ?_
    rintro ⟨b, c', q, t⟩ ⟨hcc, q1, q2⟩
    dsimp only at hcc q1 q2 ⊢
    subst hcc
    cases b with
    | true => exact turn q t q1 (by omega)
    | false =>
      unfold zq66.d1 zq66.o1
      rw [cond_false]
      refine Tot.bind (one_tot N hc 3 q1 (by omega) t) ?_
      rintro ⟨b, c'', q', t'⟩ ⟨hcc, q1', q2'⟩
      dsimp only at hcc q1' q2' ⊢
      subst hcc
      cases b with
      | false => exact seen_d2 hN hc H k2 q1' (by omega) ..
      | true =>
        rw [cond_true]
        refine Tot.bind (pick_tot N hc _ q1' (by omega) t') ?_
        rintro ⟨u, c3, q3, t3⟩ ⟨⟨x1, x2⟩, hcc, p3, p4⟩
        dsimp only at x1 x2 hcc p3 p4 ⊢
        subst hcc
        obtain ⟨u, rfl⟩ := Int.eq_ofNat_of_zero_le x1
        obtain ⟨a, b, e, ht⟩ := make_turn (N := N) (x := u) hN k1 k2
        rw [e, Option.bind_some]
        exact seen_d2 hN hc ht k2 p3 (by omega) ..
theorem drawTime {N : Nat} (hN : 10000000 ≤ N) {code : List Int} (hc : Bs code) : Tot (zq44.g N code) fun r => True := by
  unfold zq44.g zq44.o0
  refine Tot.bind (hours_tot N hc (by omega) (by omega) 0) ?_
  rintro ⟨h, c, p, s⟩ ⟨hcc, p1, p2⟩
  dsimp only at hcc p1 p2 ⊢
  subst hcc
  refine Tot.bind (seen_tot hN hc h p1 (by omega) s) ?_
  rintro r _
  exact Tot.now trivial
theorem drawSeen {N : Nat} (hN : 10000000 ≤ N) {code : List Int} (hc : Bs code) : Tot (zq43.g N code) fun r => True := by
  unfold zq43.g zq43.o0
  refine Tot.bind (seen_tot hN hc 12 (by omega) (by omega) 0) ?_
  rintro r _
  exact Tot.now trivial
theorem drawAll {N : Nat} {code : List Int} (hc : Bs code) : Tot (zq41.g N code) fun r => True := by
  unfold zq41.g zq41.o0
  refine Tot.bind (hours_tot N hc (by omega) (by omega) 0) ?_
  rintro r _
  exact Tot.now trivial
/-! ### the law's end -/
theorem ord2_len (a b c d : Nat) : (ord2 a b c d).length ≤ 2 := by
  unfold ord2
  split
  · simp
  · split <;> simp
theorem tA_len (h a b c d : Int) : (tA h a b c d).1.length ≤ 2 := by
  unfold tA al
  split
  · dsimp only
    cases trueB h a b c d <;> cases trueB h c d a b <;> simp only [cond_true, cond_false]
    · simp
    · simp
    · simp
    · exact ord2_len ..
  · simp
theorem law_12 {N : Nat} (hN : 10000000 ≤ N) {code : List Int} (hc : Bs code) : zq31.d12 N code false = some true := by
  obtain ⟨⟨a, b, c, d⟩, e, _⟩ := drawSeen (N := N) hN hc
  unfold zq31.d12 zq31.o12
  rw [cond_false, e, Option.bind_some]
  dsimp only
  rw [(ExchangeSeen_eq hN _ _ _ _).1, (ExchangeSeen_eq hN _ _ _ _).2, IsSeen_eq hN, spec_IsSeen_eq hN]
  unfold eS
  cases hg : goodB a b c d with
  | false => rfl
  | true =>
    rw [if_pos rfl]
    simp only [beq_self_eq_true, Bool.and_self, Bool.not_true, cond_false, Option.bind_some]
    rfl
theorem law_10 {N : Nat} (hN : 10000003 ≤ N) {code : List Int} (hc : Bs code) : zq31.d10 N code = some true := by
  have fin := law_12 (N := N) (by omega) hc
  obtain ⟨M, rfl⟩ : ∃ M, N = M + 3 := ⟨N - 3, by omega⟩
  obtain ⟨⟨g, a, b, c, d⟩, e, _⟩ := drawTime (N := M + 3) (by omega) hc
  have hl := tA_len g a b c d
  unfold zq31.d10 zq31.o10
  rw [e, Option.bind_some]
  dsimp only
  rw [(TimeSeen_eq (by omega) _ _ _ _ _).1, Option.bind_some, (TimeSeen_eq (by omega) _ _ _ _ _).2, Option.bind_some, (IsTrueSeen_eq (by omega) _ _ _ _ _).1, Option.bind_some, (IsTrueSeen_eq (by omega) _ _ _ _ _).2, Option.bind_some, alike_impl (by omega), Option.bind_some, alike_spec (by omega), Option.bind_some, wTurns_self _ (by omega) (by omega)]
  simp only [beq_self_eq_true, Bool.and_self, Bool.not_true, cond_false, Option.bind_some]
  unfold tS iTS tA
  cases hs : seenB g a b c d with
  | false => exact fin
  | true =>
    cases ht : trueB g a b c d with
    | false => exact fin
    | true => exact fin
theorem law_13 {N : Nat} (hN : 10000003 ≤ N) {code : List Int} (hc : Bs code) {k : Nat} (h1 : 2 ≤ k) (h2 : k ≤ 24) : zq31.d11 N code k two false = some true := by
  have fin := law_10 hN hc
  obtain ⟨M, rfl⟩ : ∃ M, N = M + 3 := ⟨N - 3, by omega⟩
  obtain ⟨p, q, _, _, t1, t2⟩ := glass (N := M + 3) (by omega) h1 h2 (a := 0) (b := 1) (.inl rfl)
  obtain ⟨p', q', _, _, t3, t4⟩ := glass (N := M + 3) (by omega) h1 h2 (a := 1) (b := 2) (.inr rfl)
  simp only [Int.natCast_zero, Int.natCast_one, show ((2 : Nat) : Int) = 2 from rfl] at t1 t2 t3 t4
  have hr : zq34.g (M + 3) two = some true := rise2 (n := M + 1) T01 T12 (by decide)
  unfold zq31.d11 zq31.o11 zq31.l13 zq31.d13 zq31.o13
  rw [cond_false]
  simp only [show ((two.length : Nat) : Int) = 2 from rfl, show decide ((0 : Int) < 2) = true from rfl, show decide ((0 : Int) ≤ 0) = true from rfl, cond_true, show (0 : Int).toNat = 0 from rfl, show two[0]? = some ⟨0, 1⟩ from rfl, Option.bind_some, t1, t2, Bool.not_true, cond_false, beq_self_eq_true, Bool.and_self]
  unfold zq31.d15 zq31.o15
  rw [cond_false]
  unfold zq31.l13 zq31.d13 zq31.o13
  simp only [show w64 (0 + 1) = 1 from rfl, show ((two.length : Nat) : Int) = 2 from rfl, show decide ((1 : Int) < 2) = true from rfl, show decide ((0 : Int) ≤ 1) = true from rfl, cond_true, show (1 : Int).toNat = 1 from rfl, show two[1]? = some ⟨1, 2⟩ from rfl, Option.bind_some, t3, t4, Bool.not_true, cond_false, beq_self_eq_true, Bool.and_self]
  unfold zq31.d15 zq31.o15
  rw [cond_false]
  unfold zq31.l13 zq31.d13 zq31.o13
  simp only [show w64 (1 + 1) = 2 from rfl, show decide ((2 : Int) < 2) = false from rfl, cond_false, hr, Option.bind_some, Bool.not_true]
  unfold zq31.d16 zq31.o16
  exact fin
/-- exchanged, an exchanged time of all -/
theorem eT_all {k m i : Nat} (h1 : 2 ≤ k) (h2 : k ≤ 24) (hm : k * k = m + 1) (h3 : m ≤ 1000) (h4 : 3 ≤ m) : eT k (pr i m).1 (pr i m).2 = (((pr (i * k) m).1 : Int), ((pr (i * k) m).2 : Int), true) := by
  have hp : 0 < m := by omega
  have hs := pr_spec (n := i) hp
  have T := pr_Turn (n := i) (d := m) hp (by omega)
  unfold eT
  rw [timeB_iff.2 ⟨k, (pr i m).1, (pr i m).2, rfl, h1, h2, rfl, rfl, T⟩, longN, pr_mul _ _ hp]
  have : trueB k (pr (i * k) m).1 (pr (i * k) m).2 (pr i m).1 (pr i m).2 = true := by
    rw [trueN, pr_mul _ _ hp, all_exch hm]
  dsimp only
  rw [this, Bool.and_self, if_pos rfl]
theorem law_9 {N : Nat} (hN : 10000003 ≤ N) {code : List Int} (hc : Bs code) {k m : Nat} (h1 : 2 ≤ k) (h2 : k ≤ 24) (hm : k * k = m + 1) (h3 : m ≤ 1000) (h4 : 3 ≤ m) : ∀ (j i f : Nat), i + j = m → j < f →
    zq31.l9 N f code k (rts 0 1 m 0 m) ((k * k - k : Nat) : Int) two (cnt k i : Nat) (rts 0 1 m 0 m) (m : Int) i = some true
  | 0, i, f+1, hi, hf => by
    have fin := law_13 hN hc h1 h2
    have he := cnt_end h1 hm
    obtain ⟨_, _, _, e2⟩ := sq h1 h2
    unfold zq31.l9 zq31.d9 zq31.o9
    rw [dcF (by omega), cond_false, e2, rts_len, ineF (by omega), cond_false, rises_eq (by omega) (by omega) (by omega) (by omega) h3 (ok01 (by omega) h3), Option.bind_some, Bool.not_true, cond_false, show i = m by omega, he, bne_self_eq_false]
    exact fin
  | j+1, i, f+1, hi, hf => by
    have hlt : i < (rts 0 1 m 0 m).length := by rw [rts_len]; omega
    have hg : (rts 0 1 m 0 m)[i] = sT (pr i m) := by rw [rts_get, Nat.zero_add, rt01]
    have hs := cnt_step (h := k) (i := i) h1
    have hu := unsure_iff h1 hm (show i < m by omega)
    have hle : cnt k i ≤ i := Nat.sub_le _ _
    unfold zq31.l9 zq31.d9 zq31.o9
    rw [dcT (by omega), cond_true, dcT (by omega), cond_true, dcT (by omega), cond_true, Int.toNat_natCast, getAt hlt, hg]
    show ((zq5.g N k ((pr i m).1 : Int) ((pr i m).2 : Int)).bind _) = _
    rw [(ExchangedTime_eq (by omega) _ _ _).1, eT_all h1 h2 hm h3 h4, Option.bind_some]
    dsimp only
    rw [Bool.not_true, cond_false, w1add (a := i) (by omega)]
    show (bif !((((pr (i * k) m).1 : Int) == ((pr i m).1 : Int)) && ((((pr (i * k) m).2 : Int) == ((pr i m).2 : Int)) && true)) then _ else _) = _
    by_cases e : pr (i * k) m = pr i m
    · rw [e]
      simp only [beq_self_eq_true, Bool.and_self, Bool.not_true, cond_false]
      rw [← hs.1 (hu.1 e)]
      exact law_9 hN hc h1 h2 hm h3 h4 j (i + 1) f (by omega) (by omega)
    · have : ((((pr (i * k) m).1 : Int) == ((pr i m).1 : Int)) && ((((pr (i * k) m).2 : Int) == ((pr i m).2 : Int)) && true)) = false := by
        cases hh : ((((pr (i * k) m).1 : Int) == ((pr i m).1 : Int)) && ((((pr (i * k) m).2 : Int) == ((pr i m).2 : Int)) && true)) with
        | false => rfl
        | true =>
          simp only [Bool.and_eq_true, beq_iff_eq] at hh
          exact absurd (Prod.ext (by omega) (by omega)) e
      rw [this, Bool.not_false, cond_true, w1add (a := cnt k i) (by omega), ← hs.2 (fun h => e (hu.2 h))]
      exact law_9 hN hc h1 h2 hm h3 h4 j (i + 1) f (by omega) (by omega)
  | _, _, 0, _, hf => by omega
theorem law_6 {N : Nat} (hN : 3000000000 < N) {code : List Int} (hc : Bs code) : zq31.d6 N code = some true := by
  have fin := law_10 (N := N) (by omega) hc
  obtain ⟨h, e, _⟩ := drawAll (N := N) hc
  obtain ⟨M, rfl⟩ : ∃ M, N = M + 3 := ⟨N - 3, by omega⟩
  unfold zq31.d6 zq31.o6
  rw [e, Option.bind_some, (All_eq (by omega) _).1, Option.bind_some, (All_eq (by omega) _).2, Option.bind_some, (Count_eq _).1, Option.bind_some, (Count_eq _).2, Option.bind_some, Own_impl, Option.bind_some, Own_spec (by omega), Option.bind_some]
  unfold allE cU oM
  cases hb : inB h 2 24 with
  | false =>
    simp only [Bool.false_eq_true, if_false]
    rw [wTurns_self [] (by simp) (by simp)]
    exact fin
  | true =>
    obtain ⟨k, rfl, h1, h2⟩ := dial_iff.1 hb
    obtain ⟨b1, b2, _, _⟩ := sq h1 h2
    obtain ⟨m, hm⟩ : ∃ m, k * k = m + 1 := ⟨k * k - 1, by omega⟩
    have l9 := law_9 (N := M + 3) (by omega) hc h1 h2 hm (by omega) (by omega) m 0 (M + 3) (by omega) (by omega)
    have hlen := rts_len 0 1 m 0 m
    simp only [if_true, Int.toNat_natCast]
    rw [show k * k - 1 = m by omega, wTurns_self _ (by omega) (by omega), wTurns_self two (by decide) (by show 2 < M + 3; omega)]
    simp only [beq_self_eq_true, Bool.and_self, Bool.not_true, cond_false, Option.bind_some, bne_self_eq_false]
    unfold zq31.d8 zq31.o8
    rw [cond_false, cond_true, hlen]
    have c0 : cnt k 0 = 0 := Nat.zero_sub _
    rw [c0] at l9
    exact l9
/-! ### FnSeenTrue -/
theorem law_3 {N : Nat} (hN : 3000000000 < N) {code : List Int} (hc : Bs code) {k n d : Nat} (h1 : 2 ≤ k) (h2 : k ≤ 24) (T : Turn n d) (he : pr (n * k * k) d = (n, d)) : zq31.d3 N code k true n d (pr (n * k) d).1 (pr (n * k) d).2 = some true := by
  have fin := law_6 hN hc
  have hp : 0 < d := Nat.lt_of_le_of_lt (Nat.zero_le _) T.lt
  have TL := longT (k := k) T
  have hl : longI k ((pr (n * k) d).1 : Int) ((pr (n * k) d).2 : Int) = ((n : Int), (d : Int)) := by
    rw [longN, pr_mul _ _ hp, he]
  have ht : trueB k (n : Int) (d : Int) ((pr (n * k) d).1 : Int) ((pr (n * k) d).2 : Int) = true := trueN.2 rfl
  obtain ⟨_, _, _, e2⟩ := sq h1 h2
  unfold zq31.d3 zq31.o3
  rw [cond_true, (ExchangedTime_eq (by omega) _ _ _).1, Option.bind_some]
  unfold eT
  rw [timeB_iff.2 ⟨k, _, _, rfl, h1, h2, rfl, rfl, TL⟩, hl]
  dsimp only
  rw [ht, Bool.and_self, if_pos rfl]
  dsimp only
  simp only [beq_self_eq_true, Bool.and_self, Bool.not_true, cond_false]
  rw [ieqF (by omega), cond_false, e2, tmodN, exch_dvd T.lt T.cop (by omega) he]
  exact fin
theorem law_2 {N : Nat} (hN : 3000000000 < N) {code : List Int} (hc : Bs code) {k n d : Nat} (h1 : 2 ≤ k) (h2 : k ≤ 24) (T : Turn n d) (q : Bool) (hq : trueB k (pr (n * k) d).1 (pr (n * k) d).2 n d = q) :
    zq31.d2 N code k q (al true q n d (pr (n * k) d).1 (pr (n * k) d).2) false n d (bif q then ((pr (n * k) d).1 : Int) else 0) (bif q then ((pr (n * k) d).2 : Int) else 0) = some true := by
  have hp : 0 < d := Nat.lt_of_le_of_lt (Nat.zero_le _) T.lt
  have TL := longT (k := k) T
  obtain ⟨M, rfl⟩ : ∃ M, N = M + 2 := ⟨N - 2, by omega⟩
  unfold zq31.d2 zq31.o2
  rw [cond_false]
  cases q with
  | false =>
    rw [cond_false]
    exact law_6 hN hc
  | true =>
    have he := (eT_true hp).1 hq
    have l3 := law_3 hN hc h1 h2 T he
    obtain ⟨_, o2, _, o4⟩ := ord2_ok (n := M) T TL
    have fin : ∀ z : Int, ((ord2 n d (pr (n * k) d).1 (pr (n * k) d).2).length : Int) = z → zq31.d4 (M + 2) code k true (ord2 n d (pr (n * k) d).1 (pr (n * k) d).2) z n d (pr (n * k) d).1 (pr (n * k) d).2 = some true := by
      intro z hz
      unfold zq31.d4 zq31.o4
      rw [ineF hz, cond_false, cond_true, o2, Option.bind_some]
      exact l3
    unfold al
    simp only [cond_true]
    rcases o4 with ⟨e, hl⟩ | ⟨e, hl⟩
    · have e1 := congrArg Prod.fst e
      have e2 := congrArg Prod.snd e
      dsimp only at e1 e2
      have : (!((((pr (n * k) d).1 : Int) == (n : Int)) && ((((pr (n * k) d).2 : Int) == (d : Int)) && true))) = false := by rw [e1, e2]; simp
      rw [this, cond_false]
      exact fin 1 (by omega)
    · have : (!((((pr (n * k) d).1 : Int) == (n : Int)) && ((((pr (n * k) d).2 : Int) == (d : Int)) && true))) = true := by
        cases hh : ((((pr (n * k) d).1 : Int) == (n : Int)) && ((((pr (n * k) d).2 : Int) == (d : Int)) && true)) with
        | false => rfl
        | true =>
          simp only [Bool.and_eq_true, beq_iff_eq] at hh
          exact absurd (Prod.ext (by dsimp only; omega) (by dsimp only; omega)) e
      rw [this, cond_true]
      exact fin 2 (by omega)
theorem law_1 {N : Nat} (hN : 3000000000 < N) {code : List Int} (hc : Bs code) {k n d : Nat} (h1 : 2 ≤ k) (h2 : k ≤ 24) (T : Turn n d) (q : Bool) (hq : trueB k (pr (n * k) d).1 (pr (n * k) d).2 n d = q) :
    zq31.d1 N code k q true false n d (bif q then ((pr (n * k) d).1 : Int) else 0) (bif q then ((pr (n * k) d).2 : Int) else 0) n d (pr (n * k) d).1 (pr (n * k) d).2 = some true := by
  have fin := law_2 hN hc h1 h2 T q hq
  have TL := longT (k := k) T
  have S : Seen k n d (pr (n * k) d).1 (pr (n * k) d).2 := ⟨h1, h2, T, TL⟩
  have ht : trueB k (n : Int) (d : Int) ((pr (n * k) d).1 : Int) ((pr (n * k) d).2 : Int) = true := trueN.2 rfl
  obtain ⟨M, rfl⟩ : ∃ M, N = M + 2 := ⟨N - 2, by omega⟩
  have hlist : zq33.g (M + 2) (al true q n d (pr (n * k) d).1 (pr (n * k) d).2) n d = some true ∧ zq34.g (M + 2) (al true q n d (pr (n * k) d).1 (pr (n * k) d).2) = some true := by
    cases q with
    | false => exact ⟨has0 (n := M + 1) ⟨n, d⟩ [] (by simp), rise1 _⟩
    | true =>
      obtain ⟨o1, _, o3, _⟩ := ord2_ok (n := M) T TL
      exact ⟨o1, o3⟩
  have a1 : zq7.g (M + 2) k n d (pr (n * k) d).1 (pr (n * k) d).2 = some (true, true) := by
    rw [(IsTrueSeen_eq (by omega) _ _ _ _ _).1]; unfold iTS; rw [seenB_of S, ht]; rfl
  have a2 : zq13.g (M + 2) k n d (pr (n * k) d).1 (pr (n * k) d).2 = some ((n : Int), (d : Int), true) := by
    rw [(TimeSeen_eq (by omega) _ _ _ _ _).1]; unfold tS; rw [seenB_of S, ht]; rfl
  have hg : goodB (n : Int) (d : Int) ((pr (n * k) d).1 : Int) ((pr (n * k) d).2 : Int) = true := by unfold goodB; rw [turnB_T T, turnB_T TL]; rfl
  have a3 : zq4.g (M + 2) n d (pr (n * k) d).1 (pr (n * k) d).2 = some (((pr (n * k) d).1 : Int), ((pr (n * k) d).2 : Int), (n : Int), (d : Int), true) := by
    rw [(ExchangeSeen_eq (by omega) _ _ _ _).1]; unfold eS; rw [hg]; rfl
  have a4 : zq7.g (M + 2) k (pr (n * k) d).1 (pr (n * k) d).2 n d = some (q, true) := by
    rw [(IsTrueSeen_eq (by omega) _ _ _ _ _).1]; unfold iTS; rw [seenB_of S.ex, hq]; rfl
  have a5 : zq14.g (M + 2) k n d (pr (n * k) d).1 (pr (n * k) d).2 = some (al true q n d (pr (n * k) d).1 (pr (n * k) d).2, true) := by
    rw [alike_impl (by omega), tA_N S, ht, hq]
  unfold zq31.d1 zq31.o1
  rw [cond_false, cond_true, a1, Option.bind_some, a2, Option.bind_some, a3, Option.bind_some]
  dsimp only
  rw [a4, Option.bind_some, a5, Option.bind_some, IsSeen_eq (by omega), hg, Option.bind_some]
  dsimp only
  simp only [beq_self_eq_true, Bool.and_self, Bool.not_true, cond_false]
  rw [hlist.1, Option.bind_some, Bool.not_true, cond_false, hlist.2, Option.bind_some, Bool.not_true]
  exact fin
theorem law_0 {N : Nat} (hN : 3000000000 < N) {z s : List Int} (hc : Bs s) {h n d : Int} (hb : zq32.g N z s = some false) (hd : zq42.g N z = some (h, n, d)) : zq31.g N z s = some true := by
  have fin := law_6 hN hc
  unfold zq31.g zq31.o0
  rw [hb, Option.bind_some, cond_false, hd, Option.bind_some]
  dsimp only
  rw [(ExchangedTime_eq (by omega) _ _ _).1, Option.bind_some, (ExchangedTime_eq (by omega) _ _ _).2, Option.bind_some, (SeenOf_eq (by omega) _ _ _).1, Option.bind_some, (SeenOf_eq (by omega) _ _ _).2, Option.bind_some]
  simp only [beq_self_eq_true, Bool.and_self, Bool.not_true, cond_false]
  unfold eT sO
  cases ht : timeB h n d with
  | false => exact fin
  | true =>
    obtain ⟨k, a, b, rfl, h1, h2, rfl, rfl, T⟩ := timeB_iff.1 ht
    rw [longN]
    cases hq : trueB (k : Int) ((pr (a * k) b).1 : Int) ((pr (a * k) b).2 : Int) (a : Int) (b : Int) with
    | false => exact law_1 hN hc h1 h2 T false hq
    | true => exact law_1 hN hc h1 h2 T true hq
theorem FnSeenTrue.pure : FnSeenTrue.Pure := by
  intro z s hz hs
  refine ⟨4000000000, ?_⟩
  have big : zq32.g 4000000000 z s = some (decide ((z.length : Int) > 1048576 ∨ (s.length : Int) > 1048576 - (z.length : Int))) := by
    unfold zq32.g zq32.o0
    by_cases c : (z.length : Int) > 1048576
    · rw [dcT c, dcT (Or.inl c : (z.length : Int) > 1048576 ∨ (s.length : Int) > 1048576 - (z.length : Int))]; rfl
    · rw [dcF c, w64s (by omega) (by omega), cond_false]
      congr 1
      apply decide_eq_decide.2
      constructor
      · exact .inr
      · intro h; exact h.resolve_left c
  by_cases c : (z.length : Int) > 1048576 ∨ (s.length : Int) > 1048576 - (z.length : Int)
  · unfold zq31.g zq31.o0
    rw [big, dcT c]; rfl
  · rw [dcF c] at big
    have u8 : ∀ x : Int, (Lit.int .u8 x).wf = true → 0 ≤ x ∧ x ≤ 255 := fun x hx => by simpa [Lit.wf, IntKind.min, IntKind.max, IntKind.signed, IntKind.bits] using hx
    have hz' : Bs z := ⟨by omega, fun x hx => u8 x (hz.2.2 x hx)⟩
    have hs' : Bs s := ⟨by omega, fun x hx => u8 x (hs.2.2 x hx)⟩
    obtain ⟨⟨h, n, d⟩, ed, _⟩ := exDraw (N := 4000000000) (by omega) hz'
    exact law_0 (by omega) hs' big ed
end Go.Proofs.Ytehbhinaopdkeaa.M
