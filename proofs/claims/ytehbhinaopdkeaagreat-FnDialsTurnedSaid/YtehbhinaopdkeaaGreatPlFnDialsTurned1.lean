/- Plain lemmas about what the functions compute (part 1). No conditions but those stated. -/
import Derived.Test.YtehbhinaopdkeaaGreatFnFnDialsTurned3
namespace Go.Proofs.YtehbhinaopdkeaaGreat.M
open Go Go.PM Go.Proofs.YtehbhinaopdkeaaGreat.P
set_option linter.unusedVariables false
set_option linter.unusedSimpArgs false
def inB (a lo hi : Int) : Bool := decide (lo ≤ a) && decide (a ≤ hi)
theorem inB_iff {a lo hi : Int} : inB a lo hi = true ↔ lo ≤ a ∧ a ≤ hi := by simp [inB]
theorem inB_not {a lo hi : Int} : inB a lo hi = false ↔ ¬ (lo ≤ a ∧ a ≤ hi) := by rw [← inB_iff]; simp
theorem within_eq (N : Nat) (a b c : Int) : impl_within.g N a b c = some (inB a b c) := by
  unfold impl_within.g impl_within.o0 inB
  by_cases h : b ≤ a
  · rw [dcT (show a ≥ b from h)]; rfl
  · rw [dcF (show ¬ a ≥ b from h)]; rfl
theorem l1In_eq (N : Nat) (a b c : Int) : spec_l1In.g N a b c = some (inB a b c) := by
  unfold spec_l1In.g spec_l1In.o0 inB
  by_cases h : b ≤ a
  · rw [dcT (show a ≥ b from h)]; rfl
  · rw [dcF (show ¬ a ≥ b from h)]; rfl
theorem isDial_eq (N : Nat) (a : Int) : impl_isDial.g N a = some (inB a 2 24) := by
  unfold impl_isDial.g impl_isDial.o0; rw [within_eq]; rfl
theorem diHours_eq (N : Nat) (a : Int) : spec_diHours.g N a = some (inB a 2 24) := by
  unfold spec_diHours.g spec_diHours.o0; rw [l1In_eq]; rfl
theorem tmodN (a b : Nat) : Int.tmod (a : Int) (b : Int) = ((a % b : Nat) : Int) := (Int.ofNat_tmod a b).symm
theorem tdivN (a b : Nat) : Int.tdiv (a : Int) (b : Int) = ((a / b : Nat) : Int) := (Int.ofNat_tdiv a b).symm
theorem w2add {a b : Nat} (h : a + b < 9000000000000000000) : w64 ((a : Int) + (b : Int)) = ((a + b : Nat) : Int) := by rw [w64s (by omega) (by omega)]; omega
theorem w1add {a : Nat} (h : a < 9000000000000000000) : w64 ((a : Int) + 1) = ((a + 1 : Nat) : Int) := by rw [w64s (by omega) (by omega)]; omega
end Go.Proofs.YtehbhinaopdkeaaGreat.M

namespace Go.Proofs.YtehbhinaopdkeaaGreat.M
open Go Go.PM
set_option linter.unusedVariables false
set_option linter.unusedSimpArgs false
/-! ### parts of a turn in lowest terms -/
def pr (n d : Nat) : Nat × Nat := (n % d / Nat.gcd (n % d) d, d / Nat.gcd (n % d) d)
theorem pr_scale {k n d : Nat} (hk : 0 < k) : pr (k * n) (k * d) = pr n d := by
  unfold pr
  rw [Nat.mul_mod_mul_left, Nat.gcd_mul_left, Nat.mul_div_mul_left _ _ hk, Nat.mul_div_mul_left _ _ hk]
theorem pr_add (n k d : Nat) : pr (n + k * d) d = pr n d := by
  unfold pr; rw [Nat.add_mul_mod_self_right]
theorem pr_mod (n d : Nat) : pr (n % d) d = pr n d := by
  unfold pr; rw [Nat.mod_mod]
theorem pr_eq {n d n' d' : Nat} (j k : Nat) (hd : 0 < d) (hd' : 0 < d') (h : n * d' + j * (d * d') = n' * d + k * (d * d')) : pr n d = pr n' d' := by
  have h1 : pr n d = pr (d' * n) (d' * d) := (pr_scale hd').symm
  have h2 : pr n' d' = pr (d * n') (d * d') := (pr_scale hd).symm
  rw [h1, h2, Nat.mul_comm d' d, ← pr_add (d' * n) j (d * d'), ← pr_add (d * n') k (d * d'), Nat.mul_comm d' n, Nat.mul_comm d n', h]
theorem pr_eq0 {n d n' d' : Nat} (hd : 0 < d) (hd' : 0 < d') (h : n * d' = n' * d) : pr n d = pr n' d' := pr_eq 0 0 hd hd' (by omega)
theorem pr_low {n d : Nat} (h : n < d) (hg : Nat.gcd n d = 1) : pr n d = (n, d) := by
  unfold pr; rw [Nat.mod_eq_of_lt h, hg, Nat.div_one, Nat.div_one]
theorem pr_spec {n d : Nat} (hd : 0 < d) : (pr n d).1 < (pr n d).2 ∧ (pr n d).2 ≤ d ∧ Nat.gcd (pr n d).1 (pr n d).2 = 1 ∧ (pr n d).1 * d = n % d * (pr n d).2 := by
  have hlt : n % d < d := Nat.mod_lt _ hd
  unfold pr
  generalize n % d = a at *
  have hg : 0 < Nat.gcd a d := Nat.gcd_pos_of_pos_right _ hd
  have hc := Nat.coprime_div_gcd_div_gcd hg
  obtain ⟨x, hx⟩ := Nat.gcd_dvd_left a d
  obtain ⟨y, hy⟩ := Nat.gcd_dvd_right a d
  have ex : a / Nat.gcd a d = x := Nat.div_eq_of_eq_mul_right hg hx
  have ey : d / Nat.gcd a d = y := Nat.div_eq_of_eq_mul_right hg hy
  have hle : d / Nat.gcd a d ≤ d := Nat.div_le_self _ _
  refine ⟨?_, hle, hc, ?_⟩
  · rw [ex, ey]
    refine Nat.lt_of_mul_lt_mul_left (a := Nat.gcd a d) ?_
    rw [← hx, ← hy]; exact hlt
  · show a / Nat.gcd a d * d = a * (d / Nat.gcd a d)
    rw [ex, ey]
    generalize Nat.gcd a d = g at *
    subst hx hy
    simp only [Nat.mul_assoc, Nat.mul_comm, Nat.mul_left_comm]
theorem pr_lt {n d : Nat} (hd : 0 < d) (h : n < d) : (pr n d).1 * d = n * (pr n d).2 := by
  have := (pr_spec (n := n) hd).2.2.2
  rw [Nat.mod_eq_of_lt h] at this
  exact this
theorem pr_pos {n d : Nat} (hd : 0 < d) : 0 < (pr n d).2 := Nat.lt_of_le_of_lt (Nat.zero_le _) (pr_spec (n := n) hd).1
/-- what is in lowest terms and has the same value -/
theorem pr_is {n d p q : Nat} (hd : 0 < d) (hq : p < q) (hg : Nat.gcd p q = 1) (h : n * q = p * d) : pr n d = (p, q) :=
  (pr_eq0 hd (by omega) h).trans (pr_low hq hg)
/-! ### floors -/
theorem div_of {n d q r : Nat} (hr : r < d) (h : n = q * d + r) : n / d = q := by
  subst h
  rw [Nat.mul_comm, Nat.mul_add_div (by omega), Nat.div_eq_of_lt hr]; omega
theorem mod_of {n d q r : Nat} (hr : r < d) (h : n = q * d + r) : n % d = r := by
  subst h
  rw [Nat.add_comm, Nat.add_mul_mod_self_right, Nat.mod_eq_of_lt hr]
theorem div_mul_self' {n k d : Nat} (hk : 0 < k) : (n * k) / (d * k) = n / d := Nat.mul_div_mul_right _ _ hk
/-! ### hours, minutes and seconds of a time; M: minutes times d -/
theorem sec_eq {M d : Nat} (hd : 0 < d) : (pr M d).1 * 60 / (pr M d).2 = 60 * (M % d) / d := by
  have h := (pr_spec (n := M) hd).2.2.2
  have hy := pr_pos (n := M) hd
  rw [← div_mul_self' (n := (pr M d).1 * 60) hd, ← div_mul_self' (n := 60 * (M % d)) hy, Nat.mul_comm d (pr M d).2]
  congr 1
  rw [Nat.mul_right_comm, h, Nat.mul_assoc 60, Nat.mul_comm 60]
theorem more_eq {M d : Nat} (hd : 0 < d) : pr ((pr M d).1 * 60) (pr M d).2 = pr (60 * M) d := by
  have h := (pr_spec (n := M) hd).2.2.2
  have hy := pr_pos (n := M) hd
  have h1 : pr (60 * M) d = pr (60 * (M % d)) d := by
    have : 60 * M = 60 * (M % d) + 60 * (M / d) * d := by
      have := Nat.mod_add_div M d
      rw [Nat.mul_assoc, Nat.mul_comm (M / d) d, ← Nat.mul_add, this]
    rw [this, pr_add]
  rw [h1]
  refine pr_eq0 hy hd ?_
  rw [Nat.mul_right_comm, h, Nat.mul_assoc 60, Nat.mul_comm 60]
theorem S_eq {M d : Nat} (hd : 0 < d) : 60 * M / d = 60 * (M / d) + 60 * (M % d) / d ∧ 60 * (M % d) / d < 60 := by
  have hlt : M % d < d := Nat.mod_lt _ hd
  have h2 : 60 * (M % d) / d < 60 := Nat.div_lt_of_lt_mul (by omega)
  refine ⟨?_, h2⟩
  have : 60 * M = 60 * (M % d) + d * (60 * (M / d)) := by
    have := Nat.mod_add_div M d
    have e : d * (60 * (M / d)) = 60 * (d * (M / d)) := by rw [Nat.mul_left_comm]
    omega
  rw [this, Nat.add_mul_div_left _ _ hd]; omega
/-- the time that is told by its text -/
theorem tell {n d h num den S : Nat} (hd : n < d) (hg : Nat.gcd n d = 1) (hh : 0 < h) (e1 : S = 3600 * (n * h) / d) (e2 : (num, den) = pr (3600 * (n * h)) d) : pr (S * den + num) (h * 3600 * den) = (n, d) := by
  have hp : 0 < d := by omega
  have h1 := (pr_spec (n := 3600 * (n * h)) hp).2.2.2
  have h2 := pr_pos (n := 3600 * (n * h)) hp
  rw [← e2] at h1 h2
  dsimp only at h1 h2
  have h3 := Nat.mod_add_div (3600 * (n * h)) d
  rw [← e1] at h3
  refine pr_is (Nat.mul_pos (by omega) h2) hd hg ?_
  have : (S * den + num) * d = (3600 * (n * h) % d + d * S) * den := by
    rw [Nat.add_mul, Nat.add_mul, h1, Nat.mul_right_comm S den d, Nat.mul_comm S d]; omega
  rw [this, h3]
  simp only [Nat.mul_assoc, Nat.mul_comm, Nat.mul_left_comm]
/-- and back -/
theorem told {n d h num den S : Nat} (hh : 0 < h) (hn : num < den) (hg : Nat.gcd num den = 1) (hS : S < 3600 * h) (e : pr (S * den + num) (h * 3600 * den) = (n, d)) : 3600 * (n * h) / d = S ∧ pr (3600 * (n * h)) d = (num, den) := by
  have hden : 0 < den := by omega
  have hD : 0 < h * 3600 * den := Nat.mul_pos (by omega) hden
  have hlt : S * den + num < h * 3600 * den := by
    have : (S + 1) * den ≤ h * 3600 * den := Nat.mul_le_mul_right _ (by omega)
    rw [Nat.add_mul] at this; omega
  have h1 := pr_lt hD hlt
  have h2 := pr_pos (n := S * den + num) hD
  rw [e] at h1 h2
  dsimp only at h1 h2
  have h3 : 3600 * (n * h) * den = (S * den + num) * d := by
    rw [← h1]; simp only [Nat.mul_assoc, Nat.mul_comm, Nat.mul_left_comm]
  have hP : pr (3600 * (n * h)) d = (num, den) := by
    have : pr (3600 * (n * h)) d = pr (S * den + num) den := pr_eq0 h2 hden h3
    rw [this, Nat.add_comm, pr_add, pr_low hn hg]
  refine ⟨?_, hP⟩
  have h4 := (pr_spec (n := 3600 * (n * h)) h2).2.2.2
  rw [hP] at h4
  dsimp only at h4
  have h5 : 3600 * (n * h) * den / (d * den) = S := by
    rw [h3, Nat.mul_comm d den, div_mul_self' h2, Nat.add_comm, Nat.add_mul_div_right _ _ hden, Nat.div_eq_of_lt hn]; omega
  rw [← h5, div_mul_self' hden]
/-- the part of a second has a small number below -/
theorem den_small {X d : Nat} (hd : 0 < d) (h6 : d ≤ 1000000) : (pr (3600 * X) d).2 ≤ 999999 := by
  by_cases e : d = 1000000
  · subst e
    have : pr (3600 * X) 1000000 = pr (9 * X) 2500 := by
      rw [show 3600 * X = 400 * (9 * X) by omega, show (1000000 : Nat) = 400 * 2500 from rfl, pr_scale (by omega)]
    rw [this]
    have := (pr_spec (n := 9 * X) (d := 2500) (by omega)).2.1
    omega
  · have := (pr_spec (n := 3600 * X) hd).2.1
    omega
end Go.Proofs.YtehbhinaopdkeaaGreat.M

namespace Go.Proofs.YtehbhinaopdkeaaGreat.M
open Go Go.PM Go.Proofs.YtehbhinaopdkeaaGreat.P
set_option linter.unusedVariables false
set_option linter.unusedSimpArgs false
set_option maxRecDepth 100000
/-! ### greatest common divisors and parts, as the program counts them -/
theorem w64n {a : Nat} (h : a < 9000000000000000000) : w64 (a : Int) = (a : Int) := w64s (by omega) (by omega)
theorem gcd_l (N : Nat) : ∀ (n a b : Nat), b < n → a ≤ 1000000000000000 → b ≤ 1000000000000000 → impl_gcd.l1 N n a b = some ((Nat.gcd a b : Nat) : Int)
  | n+1, a, b, hb, h1, h2 => by
    unfold impl_gcd.l1 impl_gcd.d1 impl_gcd.o1
    by_cases e : b = 0
    · subst e
      rw [ineF (show ((0 : Nat) : Int) = 0 from rfl), cond_false, w64s (by omega) (by omega), if_neg (by omega), Nat.gcd_zero_right]
    · rw [ineT (by omega), cond_true, ieqF (by omega), cond_false, tmodN]
      have hm : a % b < b := Nat.mod_lt _ (by omega)
      refine (gcd_l N n b (a % b) (by omega) h2 (by omega)).trans ?_
      rw [Nat.gcd_comm b (a % b), ← Nat.gcd_rec, Nat.gcd_comm]
  | 0, _, _, hb, _, _ => by omega
theorem gcd_eq {N a b : Nat} (hb : b < N) (h1 : a ≤ 1000000000000000) (h2 : b ≤ 1000000000000000) : impl_gcd.g N a b = some ((Nat.gcd a b : Nat) : Int) := gcd_l N N a b hb h1 h2
theorem common_l (N : Nat) : ∀ (n a b : Nat), b < n → a ≤ 1000000000000000 → b ≤ 1000000000000000 → spec_diCommon.l1 N n a b = some ((Nat.gcd a b : Nat) : Int)
  | n+1, a, b, hb, h1, h2 => by
    unfold spec_diCommon.l1 spec_diCommon.d1 spec_diCommon.o1
    by_cases e : b = 0
    · subst e
      rw [dcF (by omega), cond_false, Nat.gcd_zero_right]
    · rw [dcT (by omega), cond_true, ieqF (by omega), cond_false, tmodN]
      have hm : a % b < b := Nat.mod_lt _ (by omega)
      refine (common_l N n b (a % b) (by omega) h2 (by omega)).trans ?_
      rw [Nat.gcd_comm b (a % b), ← Nat.gcd_rec, Nat.gcd_comm]
  | 0, _, _, hb, _, _ => by omega
theorem common_eq {N a b : Nat} (hb : b < N) (h1 : a ≤ 1000000000000000) (h2 : b ≤ 1000000000000000) : spec_diCommon.g N a b = some ((Nat.gcd a b : Nat) : Int) := common_l N N a b hb h1 h2
theorem prI {x D : Nat} (hD : 1 ≤ D) (hx : x < D) : pr x D = (x / Nat.gcd x D, D / Nat.gcd x D) := by
  unfold pr; rw [Nat.mod_eq_of_lt hx]
theorem part_eq {N m D : Nat} (hN : D < N) (hD : 1 ≤ D) (h2 : D ≤ 1000000000000000) (h1 : m ≤ 1000000000000000) : impl_part.g N m D = some (((pr m D).1 : Int), ((pr m D).2 : Int)) := by
  have hr : m % D < D := Nat.mod_lt _ (by omega)
  have hp : 0 < Nat.gcd (m % D) D := Nat.gcd_pos_of_pos_right _ (by omega)
  have e1 : m % D / Nat.gcd (m % D) D ≤ m % D := Nat.div_le_self _ _
  have e2 : D / Nat.gcd (m % D) D ≤ D := Nat.div_le_self _ _
  unfold impl_part.g impl_part.o0 impl_floorDiv.g impl_floorDiv.o0 impl_floorDiv.d1 impl_floorDiv.o1 pr
  rw [ieqF (show ¬ (D : Int) = 0 by omega), cond_false, cond_false, tmodN, dcF (by omega), cond_false]
  dsimp only
  rw [Option.bind_some]
  dsimp only
  rw [gcd_eq hN (by omega) h2, Option.bind_some, ieqF (by omega), cond_false, cond_false, tdivN, tdivN]
  generalize m % D / Nat.gcd (m % D) D = x at *
  generalize D / Nat.gcd (m % D) D = y at *
  rw [w64n (by omega), w64n (by omega)]
/-- below nothing: the mirror -/
theorem part_neg {N m D : Nat} (hN : D < N) (h0 : m < D) (h2 : D ≤ 1000000000000000) : impl_part.g N (-(m : Int)) D = some (((pr (D - m) D).1 : Int), ((pr (D - m) D).2 : Int)) := by
  by_cases e : m = 0
  · subst e
    have : pr (D - 0) D = pr 0 D := by
      have := pr_add 0 1 D
      rw [← this]; congr 1; omega
    rw [this]
    exact part_eq (m := 0) hN (by omega) h2 (by omega)
  · have hlt : D - m < D := by omega
    have hp : 0 < Nat.gcd (D - m) D := Nat.gcd_pos_of_pos_right _ (by omega)
    have e1 : (D - m) / Nat.gcd (D - m) D ≤ D - m := Nat.div_le_self _ _
    have e2 : D / Nat.gcd (D - m) D ≤ D := Nat.div_le_self _ _
    have et : Int.tmod (-(m : Int)) (D : Int) = -(m : Int) := by
      rw [Int.neg_tmod, tmodN, Nat.mod_eq_of_lt h0]
    unfold impl_part.g impl_part.o0 impl_floorDiv.g impl_floorDiv.o0 impl_floorDiv.d1 impl_floorDiv.o1
    rw [prI (by omega) hlt, ieqF (show ¬ (D : Int) = 0 by omega), cond_false, cond_false, et, dcT (by omega), cond_true, show w64 (-(m : Int) + (D : Int)) = ((D - m : Nat) : Int) by rw [w64s (by omega) (by omega)]; omega]
    dsimp only
    rw [Option.bind_some]
    dsimp only
    rw [gcd_eq hN (by omega) h2, Option.bind_some, ieqF (by omega), cond_false, cond_false, tdivN, tdivN]
    generalize (D - m) / Nat.gcd (D - m) D = x at *
    generalize D / Nat.gcd (D - m) D = y at *
    rw [w64n (by omega), w64n (by omega)]
def mkV (f : Nat × Nat) : Int × Int × Bool := if f.2 ≤ 1000000 then ((f.1 : Int), (f.2 : Int), true) else (0, 0, false)
theorem make_core {N r D : Nat} (hN : D < N) (hr : r < D) (h2 : D ≤ 1000000000000000) (a : Int) (hm : Int.tmod (w64 ((Int.tmod a D) + D)) D = (r : Int)) : spec_diMake.g N a D = some (mkV (pr r D)) := by
  have hp : 0 < Nat.gcd r D := Nat.gcd_pos_of_pos_right _ (by omega)
  have e1 : r / Nat.gcd r D ≤ r := Nat.div_le_self _ _
  have e2 : D / Nat.gcd r D ≤ D := Nat.div_le_self _ _
  unfold spec_diMake.g spec_diMake.o0
  rw [prI (by omega) hr, ieqF (by omega), cond_false, cond_false, hm, common_eq hN (by omega) h2, Option.bind_some, ieqF (by omega), cond_false, cond_false, tdivN, tdivN]
  unfold mkV
  dsimp only
  generalize r / Nat.gcd r D = x at *
  generalize D / Nat.gcd r D = y at *
  rw [w64n (by omega), w64n (by omega)]
  by_cases c : y ≤ 1000000
  · rw [if_pos c, dcF (by omega), cond_false]
  · rw [if_neg c, dcT (by omega), cond_true]
theorem make_eq {N m D : Nat} (hN : D < N) (hD : 1 ≤ D) (h2 : D ≤ 1000000000000000) : spec_diMake.g N m D = some (mkV (pr m D)) := by
  have hr : m % D < D := Nat.mod_lt _ (by omega)
  rw [← pr_mod]
  refine make_core hN hr h2 _ ?_
  rw [tmodN, show w64 (((m % D : Nat) : Int) + (D : Int)) = ((m % D + D : Nat) : Int) by rw [w64s (by omega) (by omega)]; omega, tmodN, Nat.add_mod_right, Nat.mod_mod]
theorem make_neg {N m D : Nat} (hN : D < N) (h0 : m < D) (h2 : D ≤ 1000000000000000) : spec_diMake.g N (-(m : Int)) D = some (mkV (pr (D - m) D)) := by
  have et : Int.tmod (-(m : Int)) (D : Int) = -(m : Int) := by rw [Int.neg_tmod, tmodN, Nat.mod_eq_of_lt h0]
  have hw : w64 (-(m : Int) + (D : Int)) = ((D - m : Nat) : Int) := by rw [w64s (by omega) (by omega)]; omega
  have hr : (D - m) % D < D := Nat.mod_lt _ (by omega)
  rw [← pr_mod]
  refine make_core hN hr h2 _ ?_
  rw [et, hw, tmodN]
theorem mkV_ok {f : Nat × Nat} (h : f.2 ≤ 1000000) : mkV f = ((f.1 : Int), (f.2 : Int), true) := if_pos h
/-! ### turns -/
structure Turn (n d : Nat) : Prop where
  lt : n < d
  le : d ≤ 1000000
  cop : Nat.gcd n d = 1
def turnB (n d : Int) : Bool := inB d 1 1000000 && (inB n 0 (d - 1) && (((Nat.gcd n.toNat d.toNat : Nat) : Int) == 1))
theorem turnB_iff {n d : Int} : turnB n d = true ↔ ∃ a b : Nat, n = a ∧ d = b ∧ Turn a b := by
  unfold turnB
  rw [Bool.and_eq_true, Bool.and_eq_true, inB_iff, inB_iff, beq_iff_eq]
  constructor
  · rintro ⟨h1, h2, h3⟩
    exact ⟨n.toNat, d.toNat, by omega, by omega, by omega, by omega, by omega⟩
  · rintro ⟨a, b, rfl, rfl, h⟩
    have := h.lt; have := h.le
    exact ⟨by omega, by omega, by rw [Int.toNat_natCast, Int.toNat_natCast, h.cop]; rfl⟩
theorem IsTurn_eq {N : Nat} (hN : 10000000 ≤ N) (n d : Int) : impl_IsTurn.g N n d = some (turnB n d) := by
  unfold impl_IsTurn.g impl_IsTurn.o0 turnB
  rw [within_eq, Option.bind_some]
  cases h1 : inB d 1 1000000 with
  | false => rfl
  | true =>
    have h1' := inB_iff.1 h1
    rw [cond_true, w64s (by omega) (by omega), within_eq, Option.bind_some]
    cases h2 : inB n 0 (d - 1) with
    | false => rfl
    | true =>
      have h2' := inB_iff.1 h2
      obtain ⟨a, rfl⟩ := Int.eq_ofNat_of_zero_le h2'.1
      obtain ⟨b, rfl⟩ := Int.eq_ofNat_of_zero_le (show 0 ≤ d by omega)
      rw [cond_true, gcd_eq (by omega) (by omega) (by omega)]; rfl
theorem diGood_eq {N : Nat} (hN : 10000000 ≤ N) (n d : Int) : spec_diGood.g N n d = some (turnB n d) := by
  unfold spec_diGood.g spec_diGood.o0 turnB
  rw [l1In_eq, Option.bind_some]
  cases h1 : inB d 1 1000000 with
  | false => rfl
  | true =>
    have h1' := inB_iff.1 h1
    rw [cond_true, w64s (by omega) (by omega), l1In_eq, Option.bind_some]
    cases h2 : inB n 0 (d - 1) with
    | false => rfl
    | true =>
      have h2' := inB_iff.1 h2
      obtain ⟨a, rfl⟩ := Int.eq_ofNat_of_zero_le h2'.1
      obtain ⟨b, rfl⟩ := Int.eq_ofNat_of_zero_le (show 0 ≤ d by omega)
      rw [cond_true, common_eq (by omega) (by omega) (by omega)]; rfl
def timeB (h n d : Int) : Bool := inB h 2 24 && turnB n d
theorem timeB_iff {h n d : Int} : timeB h n d = true ↔ ∃ k a b : Nat, h = k ∧ 2 ≤ k ∧ k ≤ 24 ∧ n = a ∧ d = b ∧ Turn a b := by
  unfold timeB
  rw [Bool.and_eq_true, inB_iff, turnB_iff]
  constructor
  · rintro ⟨h1, a, b, rfl, rfl, h2⟩
    exact ⟨h.toNat, a, b, by omega, by omega, by omega, rfl, rfl, h2⟩
  · rintro ⟨k, a, b, rfl, h1, h2, rfl, rfl, h3⟩
    exact ⟨by omega, a, b, rfl, rfl, h3⟩
theorem isTime_eq {N : Nat} (hN : 10000000 ≤ N) (h n d : Int) : impl_isTime.g N h n d = some (timeB h n d) := by
  unfold impl_isTime.g impl_isTime.o0 timeB
  rw [isDial_eq, Option.bind_some]
  cases inB h 2 24 with
  | false => rfl
  | true => rw [cond_true, IsTurn_eq hN, Option.bind_some]; rfl
theorem diAsked_eq {N : Nat} (hN : 10000000 ≤ N) (h n d : Int) : spec_diAsked.g N h n d = some (timeB h n d) := by
  unfold spec_diAsked.g spec_diAsked.o0 timeB
  rw [diHours_eq, Option.bind_some]
  cases inB h 2 24 with
  | false => rfl
  | true => rw [cond_true, diGood_eq hN, Option.bind_some]; rfl
theorem pr_Turn {n d : Nat} (hd : 0 < d) (h6 : d ≤ 1000000) : Turn (pr n d).1 (pr n d).2 := by
  have := pr_spec (n := n) hd
  exact ⟨this.1, by omega, this.2.2.1⟩
theorem times_eq {N n d k : Nat} (hN : 10000000 ≤ N) (ht : Turn n d) (hk : k ≤ 1000000) : impl_Turn_times.g N n d k = some (((pr (n * k) d).1 : Int), ((pr (n * k) d).2 : Int)) := by
  have h1 := ht.lt; have h2 := ht.le
  have h3 : n * k ≤ 1000000 * 1000000 := Nat.mul_le_mul (by omega) hk
  unfold impl_Turn_times.g impl_Turn_times.o0
  rw [← Int.natCast_mul, w64n (by omega), part_eq (by omega) (by omega) (by omega) (by omega)]; rfl
theorem diTimes_eq {N n d k : Nat} (hN : 10000000 ≤ N) (ht : Turn n d) (hk : k ≤ 1000000) : spec_diTimes.g N n d k = some (((pr (n * k) d).1 : Int), ((pr (n * k) d).2 : Int)) := by
  have h1 := ht.lt; have h2 := ht.le
  have h3 : n * k ≤ 1000000 * 1000000 := Nat.mul_le_mul (by omega) hk
  unfold spec_diTimes.g spec_diTimes.o0
  rw [← Int.natCast_mul, w64n (by omega), make_eq (by omega) (by omega) (by omega), mkV_ok (by have := (pr_spec (n := n * k) (d := d) (by omega)).2.1; omega)]; rfl
end Go.Proofs.YtehbhinaopdkeaaGreat.M

namespace Go.Proofs.YtehbhinaopdkeaaGreat.M
open Go Go.PM Go.Proofs.YtehbhinaopdkeaaGreat.P
set_option linter.unusedVariables false
set_option linter.unusedSimpArgs false
set_option maxRecDepth 100000
/-- a dial's time -/
structure Dial (k n d : Nat) : Prop where
  k1 : 2 ≤ k
  k2 : k ≤ 24
  t : Turn n d
theorem Dial.b {k n d : Nat} (h : Dial k n d) : timeB k n d = true := timeB_iff.2 ⟨k, n, d, rfl, h.k1, h.k2, rfl, rfl, h.t⟩
theorem Dial.p {k n d : Nat} (h : Dial k n d) : 0 < d := Nat.lt_of_le_of_lt (Nat.zero_le _) h.t.lt
theorem Dial.nk {k n d : Nat} (h : Dial k n d) : n * k ≤ 24000000 := by
  have := Nat.mul_le_mul (show n ≤ 1000000 by have := h.t.lt; have := h.t.le; omega) h.k2
  omega
def r3 (f : Nat × Nat) : Int × Int × Bool := ((f.1 : Int), (f.2 : Int), true)
/-! ### the mirror and the smaller angle -/
theorem mirror_eq {N p q : Nat} (hN : 10000000 ≤ N) (h : Turn p q) : impl_Turn_mirror.g N p q = some (((pr (q - p) q).1 : Int), ((pr (q - p) q).2 : Int)) ∧ spec_diMirror.g N p q = some (((pr (q - p) q).1 : Int), ((pr (q - p) q).2 : Int)) := by
  have h1 := h.lt; have h2 := h.le
  have e : w64 ((p : Int) * (-1)) = -(p : Int) := by rw [w64s (by omega) (by omega)]; omega
  constructor
  · unfold impl_Turn_mirror.g impl_Turn_mirror.o0 impl_Turn_times.g impl_Turn_times.o0
    rw [e, part_neg (by omega) h1 (by omega)]; rfl
  · unfold spec_diMirror.g spec_diMirror.o0 spec_diTimes.g spec_diTimes.o0
    rw [e, make_neg (by omega) h1 (by omega), mkV_ok (by have := (pr_spec (n := q - p) (d := q) (by omega)).2.1; omega)]; rfl
theorem mulT {a b c d : Nat} (h1 : Turn a b) (h2 : Turn c d) : a * d ≤ 1000000000000 := by
  have := Nat.mul_le_mul (show a ≤ 1000000 by have := h1.lt; have := h1.le; omega) h2.le
  omega
theorem spec_neg {N a b c d : Nat} (h1 : Turn a b) (h2 : Turn c d) : Tot (spec_diCompare.g N a b c d) (fun r => decide (r < 0) = decide (a * d < c * b)) := by
  have e1 := mulT h1 h2
  have e2 := mulT h2 h1
  generalize hx : a * d = x at *
  generalize hy : c * b = y at *
  have w1 : w64 ((a : Int) * (d : Int)) = (x : Int) := by rw [← Int.natCast_mul, hx, w64n (by omega)]
  have w2 : w64 ((c : Int) * (b : Int)) = (y : Int) := by rw [← Int.natCast_mul, hy, w64n (by omega)]
  unfold spec_diCompare.g spec_diCompare.o0 spec_l1Sign.g spec_l1Sign.o0
  rw [w1, w2, w64s (by omega) (by omega)]
  by_cases c : x < y
  · rw [dcF (show ¬ ((x : Int) - y > 0) by omega), cond_false, dcT (show (x : Int) - y < 0 by omega), cond_true]
    exact Tot.now (by simp [c])
  · by_cases c2 : y < x
    · rw [dcT (show ((x : Int) - y > 0) by omega), cond_true]
      exact Tot.now (by simp [c])
    · rw [dcF (show ¬ ((x : Int) - y > 0) by omega), cond_false, dcF (show ¬ ((x : Int) - y < 0) by omega), cond_false]
      exact Tot.now (by simp [c])
/-! ### lists of turns -/
theorem idx_tot {N : Nat} (hN : 10000000 ≤ N) (l : List S25) (hl : l.length ≤ 1000000) : ∀ (j i m : Nat), i + j = l.length → j < m →
    Tot (slices_IndexFunc_impl_Turn_impl_Turn.l1 N m l l.length i) fun r => decide (r ≥ 0) = !((l.drop i).all fun t => turnB t.f0 t.f1)
  | 0, i, m+1, hi, hm => by
    unfold slices_IndexFunc_impl_Turn_impl_Turn.l1 slices_IndexFunc_impl_Turn_impl_Turn.d1 slices_IndexFunc_impl_Turn_impl_Turn.o1
    rw [dcF (by omega), cond_false, List.drop_eq_nil_of_le (by omega)]
    exact Tot.now rfl
  | j+1, i, m+1, hi, hm => by
    have hlt : i < l.length := by omega
    unfold slices_IndexFunc_impl_Turn_impl_Turn.l1 slices_IndexFunc_impl_Turn_impl_Turn.d1 slices_IndexFunc_impl_Turn_impl_Turn.o1 impl_areTurns_1.g impl_areTurns_1.o0
    rw [dcT (by omega), cond_true, dcT (by omega), cond_true, cond_true, Int.toNat_natCast, getAt hlt, IsTurn_eq hN, Option.bind_some, Option.bind_some, List.drop_eq_getElem_cons hlt, List.all_cons]
    cases hb : turnB l[i].f0 l[i].f1 with
    | false =>
      rw [Bool.not_false, cond_true]
      exact Tot.now (by simp)
    | true =>
      rw [Bool.not_true, cond_false, w1add (by omega), Bool.true_and]
      exact idx_tot hN l hl j (i + 1) m (by omega) (by omega)
  | _, _, 0, _, hm => by omega
theorem areTurns_eq {N : Nat} (hN : 10000000 ≤ N) (l : List S25) (hl : l.length ≤ 1000000) : impl_areTurns.g N l = some (l.all fun t => turnB t.f0 t.f1) := by
  obtain ⟨r, h1, h2⟩ := idx_tot hN l hl l.length 0 N (by omega) (by omega)
  unfold impl_areTurns.g impl_areTurns.o0 slices_ContainsFunc_impl_Turn_impl_Turn.g slices_ContainsFunc_impl_Turn_impl_Turn.o0 slices_IndexFunc_impl_Turn_impl_Turn.g slices_IndexFunc_impl_Turn_impl_Turn.o0
  dsimp only
  rw [show (slices_IndexFunc_impl_Turn_impl_Turn.l1 N N l (l.length : Int) 0) = some r from h1, Option.bind_some, h2, Option.bind_some, Bool.not_not, List.drop_zero]
theorem turnB_T {n d : Nat} (h : Turn n d) : turnB n d = true := turnB_iff.2 ⟨n, d, rfl, rfl, h⟩
end Go.Proofs.YtehbhinaopdkeaaGreat.M

namespace Go.Proofs.YtehbhinaopdkeaaGreat.M
open Go Go.PM Go.Proofs.YtehbhinaopdkeaaGreat.P
set_option linter.unusedVariables false
set_option linter.unusedSimpArgs false
set_option maxRecDepth 100000
/-! ### all times with a long hand -/
def sT (f : Nat × Nat) : S25 := ⟨(f.1 : Int), (f.2 : Int)⟩
def rt (n d k i : Nat) : Nat × Nat := pr (n + i * d) (d * k)
def rts (n d k i j : Nat) : List S25 := (List.range' i j).map fun x => sT (rt n d k x)
def okR (n d k i : Nat) : Bool := decide ((rt n d k i).2 ≤ 1000000)
theorem turnB_pr {n D : Nat} (hD : 0 < D) : turnB ((pr n D).1 : Int) ((pr n D).2 : Int) = decide ((pr n D).2 ≤ 1000000) := by
  have h := pr_spec (n := n) hD
  by_cases c : (pr n D).2 ≤ 1000000
  · rw [decide_eq_true c]
    exact turnB_T ⟨h.1, c, h.2.2.1⟩
  · rw [decide_eq_false c]
    cases hb : turnB ((pr n D).1 : Int) ((pr n D).2 : Int) with
    | false => rfl
    | true =>
      obtain ⟨a, b, h1, h2, h3⟩ := turnB_iff.1 hb
      have := h3.le
      omega
theorem rts_all {n d k : Nat} (hD : 0 < d * k) (i j : Nat) : ((rts n d k i j).all fun t => turnB t.f0 t.f1) = (List.range' i j).all (okR n d k) := by
  unfold rts
  rw [List.all_map]
  congr 1
  funext x
  exact turnB_pr hD
theorem rts_len (n d k i j : Nat) : (rts n d k i j).length = j := by unfold rts; rw [List.length_map, List.length_range']
theorem rts_succ (n d k i j : Nat) : rts n d k i (j + 1) = sT (rt n d k i) :: rts n d k (i + 1) j := rfl
theorem root_args {n d k i : Nat} (hd : d ≤ 1000000000000) (hn : n ≤ 1000000000000) (hk : k ≤ 24) (hi : i < k) : w64 ((n : Int) + w64 ((i : Int) * (d : Int))) = ((n + i * d : Nat) : Int) ∧ w64 ((d : Int) * (k : Int)) = ((d * k : Nat) : Int) ∧ n + i * d ≤ 100000000000000 ∧ d * k ≤ 100000000000000 := by
  have h1 := Nat.mul_le_mul (show i ≤ 24 by omega) hd
  have h2 := Nat.mul_le_mul hd hk
  refine ⟨?_, ?_, by omega, by omega⟩
  · rw [← Int.natCast_mul, w64n (by omega), ← Int.natCast_add, w64n (by omega)]
  · rw [← Int.natCast_mul, w64n (by omega)]
theorem roots_l {N : Nat} (hN : 100000000000000 < N) {n d k : Nat} (hd1 : 1 ≤ d) (hd : d ≤ 1000000000000) (hn : n ≤ 1000000000000) (hk : k ≤ 24) : ∀ (j i m : Nat) (acc : List S25), i + j = k → j < m → acc.length = i →
    impl_roots.l1 N m k acc k i n d = some (acc ++ rts n d k i j, (acc ++ rts n d k i j).all fun t => turnB t.f0 t.f1)
  | 0, i, m+1, acc, hi, hm, ha => by
    unfold impl_roots.l1 impl_roots.d1 impl_roots.o1
    rw [dcF (by omega), cond_false, areTurns_eq (by omega) _ (by omega), Option.bind_some]
    show _ = some (acc ++ [], (acc ++ []).all _)
    rw [List.append_nil]
  | j+1, i, m+1, acc, hi, hm, ha => by
    obtain ⟨e1, e2, e3, e4⟩ := root_args (n := n) hd hn hk (show i < k by omega)
    have hp : 1 ≤ d * k := Nat.mul_pos (by omega) (by omega)
    unfold impl_roots.l1 impl_roots.d1 impl_roots.o1
    rw [dcT (by omega), cond_true, e1, e2, part_eq (by omega) hp (by omega) (by omega), Option.bind_some, blT (by simp; omega), cond_true, w1add (by omega)]
    refine (roots_l hN hd1 hd hn hk j (i + 1) m (acc ++ [sT (rt n d k i)]) (by omega) (by omega) (by simp; omega)).trans ?_
    rw [rts_succ, List.append_assoc]; rfl
  | _, _, 0, _, _, hm, _ => by omega
def timesL (n d k : Nat) : List S25 × Bool := if (List.range' 0 k).all (okR n d k) = true then (rts n d k 0 k, true) else ([], false)
theorem ifRoots_eq {N : Nat} (hN : 100000000000000 < N) {n d k : Nat} (hd1 : 1 ≤ d) (hd : d ≤ 1000000000000) (hn : n ≤ 1000000000000) (hk1 : 1 ≤ k) (hk : k ≤ 24) :
    ((impl_roots.g N n d k).bind fun r2 => (impl_ifTurns.g N r2.1 r2.2).bind fun r3 => some (r3.1, r3.2)) = some (timesL n d k) := by
  have hp : 0 < d * k := Nat.mul_pos (by omega) (by omega)
  have h := roots_l hN hd1 hd hn hk k 0 N [] (by omega) (by omega) rfl
  rw [List.nil_append, rts_all hp] at h
  unfold impl_roots.g impl_roots.o0 timesL
  dsimp only
  rw [show (impl_roots.l1 N N k ([] : List S25) k 0 n d) = _ from h, Option.bind_some]
  dsimp only
  unfold impl_ifTurns.g impl_ifTurns.o0 impl_ifTurns.d1 impl_ifTurns.o1
  cases hb : (List.range' 0 k).all (okR n d k) with
  | false => rw [if_neg (by simp)]; rfl
  | true =>
    rw [Bool.not_true, cond_false, areTurns_eq (by omega) _ (by rw [rts_len]; omega), rts_all hp, hb, if_pos rfl]; rfl
end Go.Proofs.YtehbhinaopdkeaaGreat.M

namespace Go.Proofs.YtehbhinaopdkeaaGreat.M
open Go Go.PM
set_option linter.unusedVariables false
set_option linter.unusedSimpArgs false
theorem and255 (x : Int) : 0 ≤ w64 (andK .u64 x 255) ∧ w64 (andK .u64 x 255) ≤ 255 := by
  have e : (BitVec.ofInt IntKind.u64.bits x &&& BitVec.ofInt IntKind.u64.bits 255).toNat ≤ 255 := by
    rw [BitVec.toNat_and]
    exact Nat.le_trans Nat.and_le_right (by decide)
  unfold andK
  generalize (BitVec.ofInt IntKind.u64.bits x &&& BitVec.ofInt IntKind.u64.bits 255).toNat = n at e
  have e1 : IntKind.wrap .u64 (n : Int) = n := by
    unfold IntKind.wrap
    have : (n : Int) % (2 ^ IntKind.u64.bits : Int) = n := by
      show (n : Int) % (18446744073709551616 : Int) = n
      omega
    rw [this]
    rfl
  rw [e1, w64s (by omega) (by omega)]
  omega
/-- bytes -/
def Bs (code : List Int) : Prop := code.length ≤ 1048576 ∧ ∀ x ∈ code, 0 ≤ x ∧ x ≤ 255
theorem next_tot (N : Nat) {code : List Int} (hc : Bs code) {pos : Int} (h1 : 0 ≤ pos) (h2 : pos ≤ 1000000000) (seed : Int) :
    Tot (spec_l1Cur_next.g N code pos seed) fun r => (0 ≤ r.1 ∧ r.1 ≤ 255) ∧ r.2.1 = code ∧ 0 ≤ r.2.2.1 ∧ r.2.2.1 ≤ pos + 1 := by
  have key : ∀ b, 0 ≤ b → b ≤ 255 → Tot (spec_l1Cur_next.d1 N b code pos seed) fun r => (0 ≤ r.1 ∧ r.1 ≤ 255) ∧ r.2.1 = code ∧ 0 ≤ r.2.2.1 ∧ r.2.2.1 ≤ pos + 1 := by
    intro b hb1 hb2
    unfold spec_l1Cur_next.d1 spec_l1Cur_next.o1
    rw [w64s (n := pos + 1) (by omega) (by omega)]
    refine Tot.bif (fun _ => Tot.now ⟨⟨hb1, hb2⟩, rfl, ?_, ?_⟩) (fun _ => Tot.now ⟨and255 _, rfl, ?_, ?_⟩)
    all_goals (dsimp only; omega)
  unfold spec_l1Cur_next.g spec_l1Cur_next.o0
  dsimp only
  refine Tot.dif (fun hlt => ?_) (fun hlt => key 0 (by omega) (by omega))
  have hl : pos.toNat < code.length := by omega
  rw [dcT h1, cond_true, dcT hlt, cond_true, getAt hl]
  have := hc.2 code[pos.toNat] (List.getElem_mem hl)
  rw [w64s (by omega) (by omega)]
  exact key _ this.1 this.2
theorem pick_tot (N : Nat) {code : List Int} (hc : Bs code) (n : Int) {pos : Int} (h1 : 0 ≤ pos) (h2 : pos ≤ 1000000) (seed : Int) :
    Tot (spec_l1Cur_pick.g N n code pos seed) fun r => (0 ≤ r.1 ∧ (r.1 < n ∨ r.1 = 0)) ∧ r.2.1 = code ∧ 0 ≤ r.2.2.1 ∧ r.2.2.1 ≤ pos + 2 := by
  have key : ∀ x p s, 1 < n → 0 ≤ x → 0 ≤ p → p ≤ pos + 2 → Tot (spec_l1Cur_pick.d1 N n x code p s) fun r => (0 ≤ r.1 ∧ (r.1 < n ∨ r.1 = 0)) ∧ r.2.1 = code ∧ 0 ≤ r.2.2.1 ∧ r.2.2.1 ≤ pos + 2 := by
    intro x p s hn hx hp1 hp2
    unfold spec_l1Cur_pick.d1 spec_l1Cur_pick.o1
    rw [ieqF (by omega), cond_false]
    refine Tot.now ⟨⟨Int.tmod_nonneg _ hx, .inl ?_⟩, rfl, hp1, hp2⟩
    exact Int.tmod_lt_of_pos _ (by omega)
  unfold spec_l1Cur_pick.g spec_l1Cur_pick.o0
  dsimp only
  refine Tot.dif (fun hlt => Tot.now ⟨⟨by dsimp only; omega, .inr rfl⟩, rfl, h1, by dsimp only; omega⟩) (fun hlt => ?_)
  refine Tot.bind (next_tot N hc h1 (by omega) seed) ?_
  rintro ⟨x, c, p, s⟩ ⟨⟨x1, x2⟩, rfl, p1, p2⟩
  dsimp only at x1 x2 p1 p2 ⊢
  refine Tot.dif (fun hgt => ?_) (fun hgt => ?_)
  · refine Tot.bind (next_tot N hc p1 (by omega) s) ?_
    rintro ⟨y, c, q, t⟩ ⟨⟨y1, y2⟩, rfl, q1, q2⟩
    dsimp only at y1 y2 q1 q2 ⊢
    rw [w64s (n := x * 256) (by omega) (by omega), w64s (by omega) (by omega)]
    exact key _ _ _ (by omega) (by omega) q1 (by omega)
  · exact key _ _ _ (by omega) x1 p1 (by omega)
theorem one_tot (N : Nat) {code : List Int} (hc : Bs code) (n : Int) {pos : Int} (h1 : 0 ≤ pos) (h2 : pos ≤ 1000000) (seed : Int) :
    Tot (spec_l1Cur_one.g N n code pos seed) fun r => r.2.1 = code ∧ 0 ≤ r.2.2.1 ∧ r.2.2.1 ≤ pos + 2 := by
  unfold spec_l1Cur_one.g spec_l1Cur_one.o0
  refine Tot.bind (pick_tot N hc n h1 h2 seed) ?_
  rintro ⟨x, c, p, s⟩ ⟨⟨x1, x2⟩, rfl, p1, p2⟩
  exact Tot.now ⟨rfl, p1, p2⟩
theorem among_tot (N : Nat) {code : List Int} (hc : Bs code) (l : List Int) (hl : 0 < l.length) {pos : Int} (h1 : 0 ≤ pos) (h2 : pos ≤ 1000000) (seed : Int) :
    Tot (spec_l1Cur_among.g N l code pos seed) fun r => r.1 ∈ l ∧ r.2.1 = code ∧ 0 ≤ r.2.2.1 ∧ r.2.2.1 ≤ pos + 2 := by
  unfold spec_l1Cur_among.g spec_l1Cur_among.o0
  refine Tot.bind (pick_tot N hc _ h1 h2 seed) ?_
  rintro ⟨x, c, p, s⟩ ⟨⟨x1, x2⟩, rfl, p1, p2⟩
  dsimp only at x1 x2 p1 p2 ⊢
  have hx : x.toNat < l.length := by omega
  rw [dcT x1, cond_true, dcT (by omega), cond_true, getAt hx]
  exact Tot.now ⟨List.getElem_mem hx, rfl, p1, p2⟩
end Go.Proofs.YtehbhinaopdkeaaGreat.M

namespace Go.Proofs.YtehbhinaopdkeaaGreat.M
open Go Go.PM Go.Proofs.YtehbhinaopdkeaaGreat.P
set_option linter.unusedVariables false
set_option linter.unusedSimpArgs false
set_option maxRecDepth 100000
/-! ### draws -/
theorem hours_tot (N : Nat) {code : List Int} (hc : Bs code) {pos : Int} (h1 : 0 ≤ pos) (h2 : pos ≤ 1000000) (seed : Int) :
    Tot (spec_l1Cur_hours.g N code pos seed) fun r => r.2.1 = code ∧ 0 ≤ r.2.2.1 ∧ r.2.2.1 ≤ pos + 2 := by
  unfold spec_l1Cur_hours.g spec_l1Cur_hours.o0
  refine Tot.bind (among_tot N hc _ (by simp) h1 h2 seed) ?_
  rintro ⟨x, c, p, s⟩ ⟨_, rfl, p1, p2⟩
  exact Tot.now ⟨rfl, p1, p2⟩
theorem sure_tot {N : Nat} (hN : 10000000 ≤ N) {code : List Int} (hc : Bs code) {pos : Int} (h1 : 0 ≤ pos) (h2 : pos ≤ 100000) (seed : Int) :
    Tot (spec_l1Cur_sureTurn.g N code pos seed) fun r => (∃ a b : Nat, r.1 = a ∧ r.2.1 = b ∧ Turn a b) ∧ r.2.2.1 = code ∧ 0 ≤ r.2.2.2.1 ∧ r.2.2.2.1 ≤ pos + 4 := by
  unfold spec_l1Cur_sureTurn.g spec_l1Cur_sureTurn.o0
  refine Tot.bind (pick_tot N hc _ h1 (by omega) seed) ?_
  rintro ⟨x, c, p, s⟩ ⟨⟨x1, x2⟩, rfl, p1, p2⟩
  dsimp only at x1 x2 p1 p2 ⊢
  have hl : (([1, 2, 3, 4, 6, 8, 11, 12, 13, 24, 60, 143, 720, 719, 7, 5] : List Int).length : Int) = 16 := rfl
  rw [hl] at x2
  have hx : x.toNat < ([1, 2, 3, 4, 6, 8, 11, 12, 13, 24, 60, 143, 720, 719, 7, 5] : List Int).length := by show x.toNat < 16; omega
  rw [dcT x1, cond_true, dcT (by rw [hl]; omega), cond_true, getAt hx]
  have hy := List.getElem_mem hx
  generalize ([1, 2, 3, 4, 6, 8, 11, 12, 13, 24, 60, 143, 720, 719, 7, 5] : List Int)[x.toNat] = y at *
  have hy2 : 1 ≤ y ∧ y ≤ 720 := by
    simp only [List.mem_cons, List.not_mem_nil, or_false] at hy
    omega
  obtain ⟨D, rfl⟩ := Int.eq_ofNat_of_zero_le (show 0 ≤ y by omega)
  refine Tot.bind (pick_tot N hc _ p1 (by omega) s) ?_
  rintro ⟨u, c', q, t⟩ ⟨⟨u1, u2⟩, hcc, q1, q2⟩
  dsimp only at u1 u2 hcc q1 q2 ⊢
  obtain ⟨m, rfl⟩ := Int.eq_ofNat_of_zero_le u1
  have hsp := pr_spec (n := m) (d := D) (by omega)
  rw [make_eq (by omega) (by omega) (by omega), mkV_ok (by omega), Option.bind_some]
  exact Tot.now ⟨⟨(pr m D).1, (pr m D).2, rfl, rfl, hsp.1, by omega, hsp.2.2.1⟩, hcc, q1, by dsimp only; omega⟩
theorem turn_tot {N : Nat} (hN : 10000000 ≤ N) {code : List Int} (hc : Bs code) {pos : Int} (h1 : 0 ≤ pos) (h2 : pos ≤ 10000) (seed : Int) :
    Tot (spec_l1Cur_turn.g N code pos seed) fun r => r.2.2.1 = code ∧ 0 ≤ r.2.2.2.1 ∧ r.2.2.2.1 ≤ pos + 6 := by
  unfold spec_l1Cur_turn.g spec_l1Cur_turn.o0
  refine Tot.bind (pick_tot N hc 16 h1 (by omega) seed) ?_
  rintro ⟨x, c, p, s⟩ ⟨⟨x1, x2⟩, rfl, p1, p2⟩
  dsimp only at x1 x2 p1 p2 ⊢
  refine Tot.bif (fun _ => ?_) (fun _ => Tot.bif (fun _ => ?_) (fun _ => Tot.bif (fun _ => ?_) (fun _ => ?_)))
  · refine Tot.bind (among_tot N hc _ (by simp) p1 (by omega) s) ?_
    rintro ⟨y, c', q, t⟩ ⟨_, hcc, q1, q2⟩
    dsimp only at hcc q1 q2 ⊢
    subst hcc
    refine Tot.bind (among_tot N hc _ (by simp) q1 (by omega) t) ?_
    rintro ⟨z, c'', q', t'⟩ ⟨_, hcc, q1', q2'⟩
    exact Tot.now ⟨hcc, q1', by dsimp only at q2' ⊢; omega⟩
  · refine Tot.bind (among_tot N hc _ (by simp) p1 (by omega) s) ?_
    rintro ⟨y, c', q, t⟩ ⟨_, hcc, q1, q2⟩
    exact Tot.now ⟨hcc, q1, by dsimp only at q2 ⊢; omega⟩
  · refine Tot.bind (pick_tot N hc _ p1 (by omega) s) ?_
    rintro ⟨y, c', q, t⟩ ⟨_, hcc, q1, q2⟩
    exact Tot.now ⟨hcc, q1, by dsimp only at q2 ⊢; omega⟩
  · refine Tot.bind (sure_tot hN hc p1 (by omega) s) ?_
    rintro ⟨y, y', c', q, t⟩ ⟨_, hcc, q1, q2⟩
    exact Tot.now ⟨hcc, q1, by dsimp only at q2 ⊢; omega⟩
/-! ### lists -/
theorem wTurns_l (N : Nat) (l : List S25) (hs : l.length < 1000000000) : ∀ (d i n : Nat), i + d = l.length → d < n → laws_wTurns.l1 N n l l l.length i = some true
  | 0, i, n+1, hi, hn => by
    unfold laws_wTurns.l1 laws_wTurns.d1 laws_wTurns.o1
    rw [dcF (by omega), cond_false]
  | d+1, i, n+1, hi, hn => by
    unfold laws_wTurns.l1 laws_wTurns.d1 laws_wTurns.o1
    have hlt : i < l.length := by omega
    simp (disch := omega) only [dcT, cond_true, Int.toNat_natCast, getAt, beq_self_eq_true, Bool.and_self, Bool.not_true, cond_false, w1add]
    exact wTurns_l N l hs d (i+1) n (by omega) (by omega)
  | _, _, 0, _, hn => by omega
theorem wTurns_self {N : Nat} (l : List S25) (hs : l.length < 1000000000) (hN : l.length < N) : laws_wTurns.g N l l = some true := by
  unfold laws_wTurns.g laws_wTurns.o0
  rw [ineF rfl, cond_false]
  exact wTurns_l N l hs l.length 0 N (by omega) hN
theorem rts_get {n d k i j x : Nat} (h : x < (rts n d k i j).length) : (rts n d k i j)[x] = sT (rt n d k (i + x)) := by
  unfold rts at h ⊢
  rw [List.getElem_map, List.getElem_range', Nat.one_mul]
/-- rising -/
theorem rt_rise {n d k i : Nat} (hn : n < d) (hi : i + 1 < k) : (rt n d k i).1 * (rt n d k (i + 1)).2 < (rt n d k (i + 1)).1 * (rt n d k i).2 := by
  have hp : 0 < d * k := Nat.mul_pos (by omega) (by omega)
  have lt : ∀ x, x < k → n + x * d < d * k := by
    intro x hx
    have : (x + 1) * d ≤ k * d := Nat.mul_le_mul_right _ hx
    rw [Nat.add_mul, Nat.one_mul] at this
    rw [Nat.mul_comm d k]; omega
  have h1 := pr_lt hp (lt i (by omega))
  have h2 := pr_lt hp (lt (i + 1) hi)
  have q1 := pr_pos (n := n + i * d) hp
  have q2 := pr_pos (n := n + (i + 1) * d) hp
  unfold rt
  generalize pr (n + i * d) (d * k) = f at *
  generalize pr (n + (i + 1) * d) (d * k) = g at *
  refine Nat.lt_of_mul_lt_mul_right (a := d * k) ?_
  have e1 : f.1 * g.2 * (d * k) = (n + i * d) * (f.2 * g.2) := by rw [Nat.mul_right_comm, h1, Nat.mul_assoc]
  have e2 : g.1 * f.2 * (d * k) = (n + (i + 1) * d) * (f.2 * g.2) := by rw [Nat.mul_right_comm, h2, Nat.mul_assoc, Nat.mul_comm g.2]
  rw [e1, e2]
  refine Nat.mul_lt_mul_of_pos_right ?_ (Nat.mul_pos q1 q2)
  rw [Nat.add_mul]; omega
theorem rises_l {N : Nat} {n d k : Nat} (hn : n < d) (hk : k ≤ 1000) (hok : (List.range' 0 k).all (okR n d k) = true) : ∀ (j i m : Nat), 1 ≤ i → i + j = k → j < m →
    laws_wRises.l1 N m (rts n d k 0 k) i = some true
  | 0, i, m+1, h1, hi, hm => by
    unfold laws_wRises.l1 laws_wRises.d1 laws_wRises.o1
    rw [dcF (by rw [rts_len]; omega), cond_false]
  | j+1, i, m+1, h1, hi, hm => by
    obtain ⟨i, rfl⟩ : ∃ u, i = u + 1 := ⟨i - 1, by omega⟩
    have hl := rts_len n d k 0 k
    have ok : ∀ x, x < k → (rt n d k x).2 ≤ 1000000 := fun x hx => of_decide_eq_true (List.all_eq_true.1 hok x (by rw [List.mem_range'_1]; omega))
    have lt : ∀ x, x < k → (rt n d k x).1 < (rt n d k x).2 := fun x hx => (pr_spec (Nat.mul_pos (by omega) (by omega))).1
    have g1 : (rts n d k 0 k)[i]'(by omega) = sT (rt n d k i) := by rw [rts_get]; congr 2; omega
    have g2 : (rts n d k 0 k)[i + 1]'(by omega) = sT (rt n d k (i + 1)) := by rw [rts_get]; congr 2; omega
    have hr := rt_rise (k := k) (i := i) hn (by omega)
    have o1 := ok i (by omega); have o2 := ok (i + 1) (by omega)
    have l1 := lt i (by omega); have l2 := lt (i + 1) (by omega)
    unfold laws_wRises.l1 laws_wRises.d1 laws_wRises.o1
    rw [show w64 (((i + 1 : Nat) : Int) - 1) = (i : Int) by rw [w64s (by omega) (by omega)]; omega]
    rw [dcT (show ((i + 1 : Nat) : Int) < ((rts n d k 0 k).length : Int) by omega), dcT (show (0 : Int) ≤ (i : Int) by omega), dcT (show (i : Int) < ((rts n d k 0 k).length : Int) by omega), dcT (show (0 : Int) ≤ ((i + 1 : Nat) : Int) by omega)]
    simp only [cond_true, Int.toNat_natCast]
    rw [getAt (show i < (rts n d k 0 k).length by omega), getAt (show i + 1 < (rts n d k 0 k).length by omega), getAt (show i + 1 < (rts n d k 0 k).length by omega), getAt (show i < (rts n d k 0 k).length by omega), g1, g2]
    have m1 : (rt n d k i).1 * (rt n d k (i + 1)).2 ≤ 1000000 * 1000000 := Nat.mul_le_mul (by omega) o2
    have m2 : (rt n d k (i + 1)).1 * (rt n d k i).2 ≤ 1000000 * 1000000 := Nat.mul_le_mul (by omega) o1
    have w1 : w64 ((sT (rt n d k i)).f0 * (sT (rt n d k (i + 1))).f1) = (((rt n d k i).1 * (rt n d k (i + 1)).2 : Nat) : Int) := by
      show w64 (((rt n d k i).1 : Int) * ((rt n d k (i + 1)).2 : Int)) = _
      rw [← Int.natCast_mul, w64n (by omega)]
    have w2 : w64 ((sT (rt n d k (i + 1))).f0 * (sT (rt n d k i)).f1) = (((rt n d k (i + 1)).1 * (rt n d k i).2 : Nat) : Int) := by
      show w64 (((rt n d k (i + 1)).1 : Int) * ((rt n d k i).2 : Int)) = _
      rw [← Int.natCast_mul, w64n (by omega)]
    rw [w1, w2, dcF (by omega), cond_false, w1add (by omega)]
    exact rises_l hn hk hok j (i + 1 + 1) m (by omega) (by omega) (by omega)
  | _, _, 0, _, _, hm => by omega
theorem rises_eq {N : Nat} (hN : 10000 ≤ N) {n d k : Nat} (hn : n < d) (hk1 : 1 ≤ k) (hk : k ≤ 1000) (hok : (List.range' 0 k).all (okR n d k) = true) : laws_wRises.g N (rts n d k 0 k) = some true := by
  obtain ⟨j, rfl⟩ : ∃ j, k = 1 + j := ⟨k - 1, by omega⟩
  exact rises_l hn hk hok j 1 N (by omega) rfl (by omega)
end Go.Proofs.YtehbhinaopdkeaaGreat.M

namespace Go.Proofs.YtehbhinaopdkeaaGreat.M
open Go Go.PM
set_option linter.unusedVariables false
set_option linter.unusedSimpArgs false
/-! ### exchanged times -/
theorem pr_mul (X k : Nat) {d : Nat} (hd : 0 < d) : pr ((pr X d).1 * k) (pr X d).2 = pr (X * k) d := by
  have hs := (pr_spec (n := X) hd).2.2.2
  have hp := pr_pos (n := X) hd
  have hm := Nat.mod_add_div X d
  generalize pr X d = f at *
  generalize X % d = r at *
  generalize X / d = z at *
  refine pr_eq (z * k) 0 hp hd ?_
  rw [← hm, Nat.mul_right_comm, hs]
  grind
end Go.Proofs.YtehbhinaopdkeaaGreat.M

namespace Go.Proofs.YtehbhinaopdkeaaGreat.M
open Go Go.PM Go.Proofs.YtehbhinaopdkeaaGreat.P
set_option linter.unusedVariables false
set_option linter.unusedSimpArgs false
set_option maxRecDepth 100000
/-! ### what is seen -/
def goodB (a b c d : Int) : Bool := turnB a b && turnB c d
def seenB (h a b c d : Int) : Bool := inB h 2 24 && goodB a b c d
def longI (h a b : Int) : Int × Int := (((pr (a.toNat * h.toNat) b.toNat).1 : Int), ((pr (a.toNat * h.toNat) b.toNat).2 : Int))
def trueB (h a b c d : Int) : Bool := (longI h a b).1 == c && (longI h a b).2 == d
theorem IsSeen_eq {N : Nat} (hN : 10000000 ≤ N) (a b c d : Int) : impl_IsSeen.g N a b c d = some (goodB a b c d) := by
  unfold impl_IsSeen.g impl_IsSeen.o0
  rw [areTurns_eq hN _ (by simp), Option.bind_some]
  unfold goodB
  simp
theorem seGood_eq {N : Nat} (hN : 10000000 ≤ N) (a b c d : Int) : spec_seGood.g N a b c d = some (goodB a b c d) := by
  unfold spec_seGood.g spec_seGood.o0 goodB
  rw [diGood_eq hN, Option.bind_some]
  cases turnB a b with
  | false => rfl
  | true => rw [cond_true, diGood_eq hN, Option.bind_some]; rfl
theorem isSeenOf_eq {N : Nat} (hN : 10000000 ≤ N) (h a b c d : Int) : impl_isSeenOf.g N h a b c d = some (seenB h a b c d) := by
  unfold impl_isSeenOf.g impl_isSeenOf.o0 seenB
  rw [isDial_eq, Option.bind_some]
  cases inB h 2 24 with
  | false => rfl
  | true => rw [cond_true, IsSeen_eq hN, Option.bind_some]; rfl
theorem seAsked_eq {N : Nat} (hN : 10000000 ≤ N) (h a b c d : Int) : spec_seAsked.g N h a b c d = some (seenB h a b c d) := by
  unfold spec_seAsked.g spec_seAsked.o0 seenB
  rw [diHours_eq, Option.bind_some]
  cases inB h 2 24 with
  | false => rfl
  | true => rw [cond_true, seGood_eq hN, Option.bind_some]; rfl
/-- a dial and what is seen -/
structure Seen (k a b c d : Nat) : Prop where
  k1 : 2 ≤ k
  k2 : k ≤ 24
  s : Turn a b
  l : Turn c d
theorem seenB_iff {h a b c d : Int} : seenB h a b c d = true ↔ ∃ k x y z u : Nat, h = k ∧ a = x ∧ b = y ∧ c = z ∧ d = u ∧ Seen k x y z u := by
  unfold seenB goodB
  rw [Bool.and_eq_true, Bool.and_eq_true, inB_iff, turnB_iff, turnB_iff]
  constructor
  · rintro ⟨h1, ⟨x, y, rfl, rfl, h2⟩, ⟨z, u, rfl, rfl, h3⟩⟩
    exact ⟨h.toNat, x, y, z, u, by omega, rfl, rfl, rfl, rfl, by omega, by omega, h2, h3⟩
  · rintro ⟨k, x, y, z, u, rfl, rfl, rfl, rfl, rfl, h1, h2, h3, h4⟩
    exact ⟨by omega, ⟨x, y, rfl, rfl, h3⟩, ⟨z, u, rfl, rfl, h4⟩⟩
theorem Seen.ex {k a b c d : Nat} (h : Seen k a b c d) : Seen k c d a b := ⟨h.k1, h.k2, h.l, h.s⟩
theorem longN (k a b : Nat) : longI k a b = (((pr (a * k) b).1 : Int), ((pr (a * k) b).2 : Int)) := by
  unfold longI
  simp only [Int.toNat_natCast]
theorem isTrue_eq {N k a b : Nat} (hN : 10000000 ≤ N) (h : Turn a b) (hk : k ≤ 24) (c d : Int) : impl_isTrue.g N k a b c d = some (trueB k a b c d) ∧ spec_seTrue.g N k a b c d = some (trueB k a b c d) := by
  unfold trueB
  rw [longN]
  constructor
  · unfold impl_isTrue.g impl_isTrue.o0
    rw [times_eq hN h (by omega), Option.bind_some, Bool.and_true]
  · unfold spec_seTrue.g spec_seTrue.o0
    rw [diTimes_eq hN h (by omega), Option.bind_some, Bool.and_true]
theorem trueN {k a b c d : Nat} : trueB k a b c d = true ↔ pr (a * k) b = (c, d) := by
  unfold trueB
  rw [longN]
  simp only [Bool.and_eq_true, beq_iff_eq, Prod.ext_iff]
  omega
def iTS (h a b c d : Int) : Bool × Bool := if seenB h a b c d = true then (trueB h a b c d, true) else (false, false)
theorem IsTrueSeen_eq {N : Nat} (hN : 10000000 ≤ N) (h a b c d : Int) : impl_IsTrueSeen.g N h a b c d = some (iTS h a b c d) := by
  unfold iTS impl_IsTrueSeen.g impl_IsTrueSeen.o0
  rw [isSeenOf_eq hN, Option.bind_some]
  cases hs : seenB h a b c d with
  | false => rfl
  | true =>
    obtain ⟨k, x, y, z, u, rfl, rfl, rfl, rfl, rfl, H⟩ := seenB_iff.1 hs
    rw [cond_true, (isTrue_eq hN H.s H.k2 _ _).1]
    rfl
def sO (h n d : Int) : Int × Int × Int × Int × Bool := if timeB h n d = true then (n, d, (longI h n d).1, (longI h n d).2, true) else (0, 0, 0, 0, false)
theorem seOf_eq {N k a b : Nat} (hN : 10000000 ≤ N) (h : Turn a b) (hk : k ≤ 24) : spec_seOf.g N k a b = some ((a : Int), (b : Int), ((pr (a * k) b).1 : Int), ((pr (a * k) b).2 : Int)) := by
  unfold spec_seOf.g spec_seOf.o0
  rw [diTimes_eq hN h (by omega)]; rfl
theorem SeenOf_eq {N : Nat} (hN : 10000000 ≤ N) (h n d : Int) : impl_SeenOf.g N h n d = some (sO h n d) := by
  unfold sO impl_SeenOf.g impl_SeenOf.o0
  rw [isTime_eq hN, Option.bind_some]
  cases hb : timeB h n d with
  | false => rfl
  | true =>
    obtain ⟨k, x, y, rfl, h1, h2, rfl, rfl, H⟩ := timeB_iff.1 hb
    rw [Bool.not_true, cond_false, times_eq hN H (by omega), longN]
    rfl
theorem longT {k a b : Nat} (h : Turn a b) : Turn (pr (a * k) b).1 (pr (a * k) b).2 := pr_Turn (Nat.lt_of_le_of_lt (Nat.zero_le _) h.lt) h.le
theorem seenB_of {k a b c d : Nat} (h : Seen k a b c d) : seenB k a b c d = true := seenB_iff.2 ⟨k, a, b, c, d, rfl, rfl, rfl, rfl, rfl, h⟩
end Go.Proofs.YtehbhinaopdkeaaGreat.M

namespace Go.Proofs.YtehbhinaopdkeaaGreat.M
open Go Go.PM Go.Proofs.YtehbhinaopdkeaaGreat.P
set_option linter.unusedVariables false
set_option linter.unusedSimpArgs false
set_option maxRecDepth 100000
/-! ### times alike -/
theorem turn_eq {a b c d : Nat} (h1 : Turn a b) (h2 : Turn c d) (h : a * d = c * b) : a = c ∧ b = d := by
  have p1 : 0 < b := Nat.lt_of_le_of_lt (Nat.zero_le _) h1.lt
  have p2 : 0 < d := Nat.lt_of_le_of_lt (Nat.zero_le _) h2.lt
  have := pr_eq0 p1 p2 h
  rw [pr_low h1.lt h1.cop, pr_low h2.lt h2.cop] at this
  exact ⟨congrArg Prod.fst this, congrArg Prod.snd this⟩
theorem cf_neg {a b c d : Nat} (h1 : Turn a b) (h2 : Turn c d) : decide (impl_sorted.cf ⟨a, b⟩ ⟨c, d⟩ < 0) = decide (a * d < c * b) := by
  have e1 := mulT h1 h2
  have e2 := mulT h2 h1
  unfold impl_sorted.cf Lib.compareInt
  dsimp only
  rw [← Int.natCast_mul, ← Int.natCast_mul, w64n (by omega), w64n (by omega)]
  generalize a * d = x at *
  generalize c * b = y at *
  apply decide_eq_decide.2
  by_cases c1 : (x : Int) < y
  · rw [if_pos c1]; omega
  · rw [if_neg c1]
    by_cases c2 : (x : Int) > y
    · rw [if_pos c2]; omega
    · rw [if_neg c2]; omega
/-- two times in order, each once -/
def ord2 (a b c d : Nat) : List S25 := if a * d < c * b then [⟨a, b⟩, ⟨c, d⟩] else if c * b < a * d then [⟨c, d⟩, ⟨a, b⟩] else [⟨a, b⟩]
theorem s2_eq {a b c d : Nat} (h1 : Turn a b) (h2 : Turn c d) : impl_sorted.s2 [⟨a, b⟩, ⟨c, d⟩] = ord2 a b c d := by
  unfold impl_sorted.s2 ord2 impl_sorted.c2
  dsimp only
  rw [cf_neg h2 h1]
  by_cases c1 : c * b < a * d
  · rw [dcT c1, cond_true, if_neg (by omega), if_pos c1]
    have : ((a : Int) == (c : Int) && (b : Int) == (d : Int)) = false := by
      cases e : ((a : Int) == (c : Int) && (b : Int) == (d : Int)) with
      | false => rfl
      | true =>
        simp only [Bool.and_eq_true, beq_iff_eq] at e
        obtain ⟨e1, e2⟩ : a = c ∧ b = d := by omega
        subst e1; subst e2; omega
    rw [this, cond_false]
  · rw [dcF c1, cond_false]
    by_cases c2 : a * d < c * b
    · rw [if_pos c2]
      have : ((c : Int) == (a : Int) && (d : Int) == (b : Int)) = false := by
        cases e : ((c : Int) == (a : Int) && (d : Int) == (b : Int)) with
        | false => rfl
        | true =>
          simp only [Bool.and_eq_true, beq_iff_eq] at e
          obtain ⟨e1, e2⟩ : a = c ∧ b = d := by omega
          subst e1; subst e2; omega
      rw [this, cond_false]
    · rw [if_neg c2, if_neg c1]
      obtain ⟨e1, e2⟩ := turn_eq h1 h2 (by omega)
      subst e1; subst e2
      simp
theorem put0 (n : Nat) (c d : Int) : spec_sePut.g (n + 2) [] c d = some [⟨c, d⟩] := rfl
theorem put1 {n a b c d : Nat} (h1 : Turn a b) (h2 : Turn c d) : spec_sePut.g (n + 2) [⟨a, b⟩] c d = some (ord2 a b c d) := by
  obtain ⟨r, er, hr⟩ := spec_neg (N := n + 2) h1 h2
  unfold spec_sePut.g spec_sePut.o0 spec_sePut.l1 spec_sePut.d1 spec_sePut.o1
  simp only [List.length_cons, List.length_nil, Nat.zero_add, Int.natCast_one, show decide ((0 : Int) < 1) = true from rfl, show decide ((0 : Int) ≤ 0) = true from rfl, cond_true, show (0 : Int).toNat = 0 from rfl, List.getElem?_cons_zero, Option.bind_some, er, hr]
  unfold ord2
  by_cases c1 : a * d < c * b
  · rw [dcT c1, cond_true, if_pos c1]
    unfold spec_sePut.d2 spec_sePut.o2 spec_sePut.l1 spec_sePut.d1 spec_sePut.o1
    rfl
  · rw [dcF c1, cond_false, if_neg c1]
    by_cases c2 : c * b < a * d
    · rw [if_pos c2]
      have : ((a : Int) == (c : Int) && ((b : Int) == (d : Int) && true)) = false := by
        cases e : ((a : Int) == (c : Int) && ((b : Int) == (d : Int) && true)) with
        | false => rfl
        | true =>
          simp only [Bool.and_eq_true, beq_iff_eq] at e
          obtain ⟨e1, e2⟩ : a = c ∧ b = d := by omega
          subst e1; subst e2; omega
      rw [this]
      rfl
    · rw [if_neg c2]
      obtain ⟨e1, e2⟩ := turn_eq h1 h2 (by omega)
      subst e1; subst e2
      simp only [beq_self_eq_true, Bool.and_self]
      rfl
theorem has0 {n : Nat} (x : S25) (xs : List S25) (hl : xs.length < 1000) : laws_wHas.g (n + 1) (x :: xs) x.f0 x.f1 = some true := by
  unfold laws_wHas.g laws_wHas.o0 laws_wHas.l1 laws_wHas.d1 laws_wHas.o1
  dsimp only
  rw [dcT (by simp only [List.length_cons]; omega), cond_true, dcT (by omega), cond_true, cond_true]
  simp
theorem has1 {n : Nat} (x y : S25) : laws_wHas.g (n + 2) [x, y] y.f0 y.f1 = some true := by
  unfold laws_wHas.g laws_wHas.o0 laws_wHas.l1 laws_wHas.d1 laws_wHas.o1
  simp only [List.length_cons, List.length_nil, Nat.zero_add, show decide ((0 : Int) < ((1 + 1 : Nat) : Int)) = true from rfl, show decide ((0 : Int) ≤ 0) = true from rfl, cond_true, show (0 : Int).toNat = 0 from rfl, List.getElem?_cons_zero, Option.bind_some]
  cases (x.f0 == y.f0 && (x.f1 == y.f1 && true)) with
  | true => rfl
  | false =>
    rw [cond_false]
    unfold laws_wHas.l1 laws_wHas.d1 laws_wHas.o1
    simp only [List.length_cons, List.length_nil, Nat.zero_add, show w64 (0 + 1) = 1 from rfl, show decide ((1 : Int) < ((1 + 1 : Nat) : Int)) = true from rfl, show decide ((0 : Int) ≤ 1) = true from rfl, cond_true, show (1 : Int).toNat = 1 from rfl, List.getElem?_cons_succ, List.getElem?_cons_zero, Option.bind_some, beq_self_eq_true, Bool.and_self]
theorem rise1 {n : Nat} (x : S25) : laws_wRises.g (n + 1) [x] = some true := rfl
theorem rise2 {n a b c d : Nat} (h1 : Turn a b) (h2 : Turn c d) (h : a * d < c * b) : laws_wRises.g (n + 2) [⟨a, b⟩, ⟨c, d⟩] = some true := by
  have e1 := mulT h1 h2
  have e2 := mulT h2 h1
  unfold laws_wRises.g laws_wRises.o0 laws_wRises.l1 laws_wRises.d1 laws_wRises.o1
  simp only [List.length_cons, List.length_nil, Nat.zero_add, show w64 (1 - 1) = 0 from rfl, show decide ((1 : Int) < ((1 + 1 : Nat) : Int)) = true from rfl, show decide ((0 : Int) < ((1 + 1 : Nat) : Int)) = true from rfl, show decide ((0 : Int) ≤ 1) = true from rfl, show decide ((0 : Int) ≤ 0) = true from rfl, cond_true, show (0 : Int).toNat = 0 from rfl, show (1 : Int).toNat = 1 from rfl, List.getElem?_cons_succ, List.getElem?_cons_zero, Option.bind_some]
  rw [dcF (show ¬ (w64 ((a : Int) * (d : Int)) ≥ w64 ((c : Int) * (b : Int))) by rw [← Int.natCast_mul, ← Int.natCast_mul, w64n (by omega), w64n (by omega)]; omega), cond_false]
  rfl
theorem ord2_ok {n a b c d : Nat} (h1 : Turn a b) (h2 : Turn c d) : laws_wHas.g (n + 2) (ord2 a b c d) a b = some true ∧ laws_wHas.g (n + 2) (ord2 a b c d) c d = some true ∧ laws_wRises.g (n + 2) (ord2 a b c d) = some true ∧ (((c, d) = (a, b) ∧ (ord2 a b c d).length = 1) ∨ ((c, d) ≠ (a, b) ∧ (ord2 a b c d).length = 2)) := by
  unfold ord2
  by_cases c1 : a * d < c * b
  · rw [if_pos c1]
    refine ⟨has0 (n := n + 1) ⟨a, b⟩ _ (by simp), has1 ⟨a, b⟩ ⟨c, d⟩, rise2 h1 h2 c1, .inr ⟨?_, rfl⟩⟩
    intro e
    obtain ⟨rfl, rfl⟩ : c = a ∧ d = b := ⟨congrArg Prod.fst e, congrArg Prod.snd e⟩
    omega
  · rw [if_neg c1]
    by_cases c2 : c * b < a * d
    · rw [if_pos c2]
      refine ⟨has1 ⟨c, d⟩ ⟨a, b⟩, has0 (n := n + 1) ⟨c, d⟩ _ (by simp), rise2 h2 h1 c2, .inr ⟨?_, rfl⟩⟩
      intro e
      obtain ⟨rfl, rfl⟩ : c = a ∧ d = b := ⟨congrArg Prod.fst e, congrArg Prod.snd e⟩
      omega
    · rw [if_neg c2]
      obtain ⟨e1, e2⟩ := turn_eq h1 h2 (by omega)
      subst e1; subst e2
      exact ⟨has0 (n := n + 1) ⟨a, b⟩ [] (by simp), has0 (n := n + 1) ⟨a, b⟩ [] (by simp), rise1 _, .inl ⟨rfl, rfl⟩⟩
end Go.Proofs.YtehbhinaopdkeaaGreat.M

namespace Go.Proofs.YtehbhinaopdkeaaGreat.M
open Go Go.PM
set_option linter.unusedVariables false
set_option linter.unusedSimpArgs false
/-! ### sums of parts of a turn -/
theorem pr_congr {n d n' d' : Nat} (hd : 0 < d) (hd' : 0 < d') (z : Int) (h : (n : Int) * d' - n' * d = z * (d * d')) : pr n d = pr n' d' := by
  rcases Int.le_total 0 z with c | c
  · obtain ⟨k, rfl⟩ := Int.eq_ofNat_of_zero_le c
    refine pr_eq 0 k hd hd' ?_
    have : ((n * d' : Nat) : Int) = ((n' * d + k * (d * d') : Nat) : Int) := by
      simp only [Int.natCast_mul, Int.natCast_add]; omega
    have := Int.ofNat.inj this
    omega
  · obtain ⟨k, hk⟩ := Int.eq_ofNat_of_zero_le (show 0 ≤ -z by omega)
    obtain rfl : z = -(k : Int) := by omega
    refine pr_eq k 0 hd hd' ?_
    have : ((n * d' + k * (d * d') : Nat) : Int) = ((n' * d : Nat) : Int) := by
      simp only [Int.natCast_mul, Int.natCast_add]
      rw [Int.neg_mul] at h; omega
    have := Int.ofNat.inj this
    omega
theorem pr_val {n d : Nat} (hd : 0 < d) : ∃ z : Int, ((pr n d).1 : Int) * d - n * (pr n d).2 = z * (d * (pr n d).2) := by
  have h := (pr_spec (n := n) hd).2.2.2
  have hm := Nat.mod_add_div n d
  refine ⟨-((n / d : Nat) : Int), ?_⟩
  generalize pr n d = f at *
  have h1 : ((f.1 * d : Nat) : Int) = ((n % d * f.2 : Nat) : Int) := congrArg _ h
  have h2 : ((n % d + d * (n / d) : Nat) : Int) = (n : Int) := congrArg _ hm
  simp only [Int.natCast_mul, Int.natCast_add] at h1 h2
  generalize ((n % d : Nat) : Int) = r at *
  generalize ((n / d : Nat) : Int) = q at *
  grind
def fadd (f g : Nat × Nat) : Nat × Nat := pr (f.1 * g.2 + g.1 * f.2) (f.2 * g.2)
def fsub (f g : Nat × Nat) : Nat × Nat := pr (f.1 * g.2 + (f.2 * g.2 - g.1 * f.2)) (f.2 * g.2)
def fmul (k : Nat) (f : Nat × Nat) : Nat × Nat := pr (f.1 * k) f.2
def fmir (f : Nat × Nat) : Nat × Nat := pr (f.2 - f.1) f.2
/-- in lowest terms -/
structure Low (f : Nat × Nat) : Prop where
  lt : f.1 < f.2
  cop : Nat.gcd f.1 f.2 = 1
theorem Low.eq {f : Nat × Nat} (h : Low f) : pr f.1 f.2 = f := pr_low h.lt h.cop
theorem Low.pos {f : Nat × Nat} (h : Low f) : 0 < f.2 := Nat.lt_of_le_of_lt (Nat.zero_le _) h.lt
theorem pr_Low {n d : Nat} (hd : 0 < d) : Low (pr n d) := ⟨(pr_spec hd).1, (pr_spec hd).2.2.1⟩
theorem fadd_pp {X D Y E : Nat} (hD : 0 < D) (hE : 0 < E) : fadd (pr X D) (pr Y E) = pr (X * E + Y * D) (D * E) := by
  obtain ⟨z, hz⟩ := pr_val (n := X) hD
  obtain ⟨y, hy⟩ := pr_val (n := Y) hE
  have p1 := pr_pos (n := X) hD
  have p2 := pr_pos (n := Y) hE
  unfold fadd
  generalize pr X D = f at *
  generalize pr Y E = g at *
  refine pr_congr (Nat.mul_pos p1 p2) (Nat.mul_pos hD hE) (z + y) ?_
  simp only [Int.natCast_mul, Int.natCast_add]
  generalize (f.1 : Int) = f1 at *
  generalize (f.2 : Int) = f2 at *
  generalize (g.1 : Int) = g1 at *
  generalize (g.2 : Int) = g2 at *
  grind
theorem fsub_num {f g : Nat × Nat} (h : g.1 < g.2) : ((f.1 * g.2 + (f.2 * g.2 - g.1 * f.2) : Nat) : Int) = (f.1 : Int) * g.2 + f.2 * g.2 - g.1 * f.2 := by
  have : g.1 * f.2 ≤ f.2 * g.2 := by rw [Nat.mul_comm f.2]; exact Nat.mul_le_mul_right _ (by omega)
  rw [Int.natCast_add, Int.natCast_sub this]
  simp only [Int.natCast_mul]; omega
/-- to it what it lacks -/
theorem fadd_fsub {S t : Nat × Nat} (hS : Low S) (ht : Low t) : fadd t (fsub S t) = S := by
  have p1 := hS.pos
  have p2 := ht.pos
  conv => lhs; arg 1; rw [← ht.eq]
  unfold fsub
  rw [fadd_pp p2 (Nat.mul_pos p1 p2)]
  conv => rhs; rw [← hS.eq]
  refine pr_congr (Nat.mul_pos p2 (Nat.mul_pos p1 p2)) p1 1 ?_
  have hn := fsub_num (f := S) ht.lt
  generalize (S.1 * t.2 + (S.2 * t.2 - t.1 * S.2)) = X at *
  simp only [Int.natCast_mul, Int.natCast_add, hn]
  grind
theorem fadd_sub {S L : Nat × Nat} (hS : Low S) (hL : Low L) : fadd (fsub L S) S = L := by
  have p1 := hS.pos
  have p2 := hL.pos
  conv => lhs; arg 2; rw [← hS.eq]
  unfold fsub
  rw [fadd_pp (Nat.mul_pos p2 p1) p1]
  conv => rhs; rw [← hL.eq]
  refine pr_congr (Nat.mul_pos (Nat.mul_pos p2 p1) p1) p2 1 ?_
  have hn := fsub_num (f := L) hS.lt
  generalize (L.1 * S.2 + (L.2 * S.2 - S.1 * L.2)) = X at *
  simp only [Int.natCast_mul, Int.natCast_add, hn]
  grind
theorem fmul_sub {m : Nat} {S t : Nat × Nat} (hS : Low S) (ht : Low t) : fadd (fmul (m + 1) t) (fsub S t) = fadd (fmul m t) S := by
  have p1 := hS.pos
  have p2 := ht.pos
  conv => rhs; arg 2; rw [← hS.eq]
  unfold fsub fmul
  rw [fadd_pp p2 (Nat.mul_pos p1 p2), fadd_pp p2 p1]
  refine pr_congr (Nat.mul_pos p2 (Nat.mul_pos p1 p2)) (Nat.mul_pos p2 p1) 1 ?_
  have hn := fsub_num (f := S) ht.lt
  generalize (S.1 * t.2 + (S.2 * t.2 - t.1 * S.2)) = X at *
  simp only [Int.natCast_mul, Int.natCast_add, hn, Int.natCast_one]
  grind
/-- a root of a turn is a turn's part -/
theorem fmul_root {m a d i : Nat} (hm : 0 < m) (hA : Low (a, d)) : fmul m (pr (a + i * d) (d * m)) = (a, d) := by
  have p := hA.pos
  dsimp only at p
  unfold fmul
  rw [pr_mul _ _ (Nat.mul_pos p hm), Nat.mul_comm _ m, Nat.mul_comm d m, pr_scale hm, pr_add]
  exact hA.eq
/-- the long hand at a time of a turned dial -/
theorem turned_long {m i : Nat} (hm : 0 < m) {S L t : Nat × Nat} (hS : Low S) (hL : Low L) (ht : t = pr ((fsub L S).1 + i * (fsub L S).2) ((fsub L S).2 * m)) : fadd (fmul (m + 1) t) (fsub S t) = L := by
  have hA : Low (fsub L S) := pr_Low (Nat.mul_pos hL.pos hS.pos)
  have hT : Low t := by rw [ht]; exact pr_Low (Nat.mul_pos hA.pos hm)
  rw [fmul_sub hS hT, ht, fmul_root (a := (fsub L S).1) (d := (fsub L S).2) hm hA]
  exact fadd_sub hS hL
theorem fsub_long {m : Nat} {S : Nat × Nat} (hS : Low S) : fsub (fmul (m + 1) S) S = fmul m S := by
  have p := hS.pos
  obtain ⟨z, hz⟩ := pr_val (n := S.1 * (m + 1)) p
  have p1 := pr_pos (n := S.1 * (m + 1)) p
  unfold fsub fmul
  generalize pr (S.1 * (m + 1)) S.2 = L at *
  refine pr_congr (Nat.mul_pos p1 p) p (z + 1) ?_
  have hn := fsub_num (f := L) hS.lt
  generalize (L.1 * S.2 + (L.2 * S.2 - S.1 * L.2)) = X at *
  simp only [Int.natCast_mul, Int.natCast_add, hn, Int.natCast_one] at hz ⊢
  generalize (L.1 : Int) = l1 at *
  generalize (L.2 : Int) = l2 at *
  grind
/-- the time itself is among the roots -/
theorem root_self {m : Nat} {S : Nat × Nat} (hm : 0 < m) (hS : Low S) : ∃ i, i < m ∧ pr ((fmul m S).1 + i * (fmul m S).2) ((fmul m S).2 * m) = S := by
  have p := hS.pos
  have hs := (pr_spec (n := S.1 * m) p).2.2.2
  have hp := pr_pos (n := S.1 * m) p
  have hd := Nat.mod_add_div (S.1 * m) S.2
  refine ⟨S.1 * m / S.2, ?_, ?_⟩
  · refine Nat.div_lt_of_lt_mul ?_
    exact Nat.mul_lt_mul_of_pos_right hS.lt hm
  · unfold fmul
    generalize pr (S.1 * m) S.2 = A at *
    generalize S.1 * m % S.2 = r at *
    generalize hq : S.1 * m / S.2 = q at *
    refine pr_is (Nat.mul_pos hp hm) hS.lt hS.cop ?_
    have e1 : S.1 * (A.2 * m) = (S.1 * m) * A.2 := by simp only [Nat.mul_assoc, Nat.mul_comm, Nat.mul_left_comm]
    rw [e1, Nat.add_mul, hs, ← hd, Nat.add_mul]
    simp only [Nat.mul_assoc, Nat.mul_comm, Nat.mul_left_comm]
/-! ### mirrors -/
theorem fmir_num {f : Nat × Nat} (h : f.1 < f.2) : ((f.2 - f.1 : Nat) : Int) = (f.2 : Int) - f.1 := Int.natCast_sub (by omega)
theorem fmir_fmir {f : Nat × Nat} (h : Low f) : fmir (fmir f) = f := by
  have p := h.pos
  obtain ⟨z, hz⟩ := pr_val (n := f.2 - f.1) p
  have hl := (pr_spec (n := f.2 - f.1) p).1
  have hp := pr_pos (n := f.2 - f.1) p
  conv => rhs; rw [← h.eq]
  unfold fmir
  generalize pr (f.2 - f.1) f.2 = g at *
  refine pr_congr hp p (-z) ?_
  rw [fmir_num h.lt] at hz
  rw [fmir_num hl]
  generalize (g.1 : Int) = g1 at *
  generalize (g.2 : Int) = g2 at *
  grind
theorem fmul_fmir {k : Nat} {S : Nat × Nat} (h : Low S) : fmul k (fmir S) = fmir (fmul k S) := by
  have p := h.pos
  obtain ⟨z, hz⟩ := pr_val (n := S.1 * k) p
  have hl := (pr_spec (n := S.1 * k) p).1
  have hp := pr_pos (n := S.1 * k) p
  unfold fmir fmul
  rw [pr_mul _ _ p]
  generalize pr (S.1 * k) S.2 = g at *
  refine pr_congr p hp ((k : Int) - 1 + z) ?_
  rw [fmir_num hl, Int.natCast_mul, fmir_num h.lt]
  simp only [Int.natCast_mul] at hz
  generalize (g.1 : Int) = g1 at *
  generalize (g.2 : Int) = g2 at *
  grind
theorem fmir_Low {f : Nat × Nat} (h : Low f) : Low (fmir f) := pr_Low h.pos
theorem fadd_fmir {S b : Nat × Nat} (h : Low S) (k : Low b) : fadd (fadd S b) (fmir b) = S := by
  have p := h.pos
  have q := k.pos
  conv => rhs; rw [← h.eq]
  unfold fmir
  conv => lhs; arg 1; unfold fadd
  rw [fadd_pp (Nat.mul_pos p q) q]
  refine pr_congr (Nat.mul_pos (Nat.mul_pos p q) q) p 1 ?_
  have hn := fmir_num k.lt
  generalize b.2 - b.1 = X at *
  simp only [Int.natCast_mul, Int.natCast_add, hn]
  grind
end Go.Proofs.YtehbhinaopdkeaaGreat.M

namespace Go.Proofs.YtehbhinaopdkeaaGreat.M
open Go Go.PM Go.Proofs.YtehbhinaopdkeaaGreat.P
set_option linter.unusedVariables false
set_option linter.unusedSimpArgs false
set_option maxRecDepth 100000
/-! ### sums and differences, as the program counts them -/
theorem pr_sub {x y D : Nat} (hy : y < D) (h : y ≤ x) : pr (x - y) D = pr (x + (D - y)) D := by
  rw [← pr_add (x - y) 1 D]; congr 1; omega
theorem part_sub {N x y D : Nat} (hN : D < N) (hx : x < D) (hy : y < D) (h2 : D ≤ 1000000000000000) : impl_part.g N ((x : Int) - (y : Int)) D = some (((pr (x + (D - y)) D).1 : Int), ((pr (x + (D - y)) D).2 : Int)) := by
  by_cases c : y ≤ x
  · rw [← pr_sub hy c, show (x : Int) - (y : Int) = ((x - y : Nat) : Int) by omega]
    exact part_eq hN (by omega) h2 (by omega)
  · rw [show (x : Int) - (y : Int) = -((y - x : Nat) : Int) by omega, part_neg hN (by omega) h2, show D - (y - x) = x + (D - y) by omega]
theorem make_sub {N x y D : Nat} (hN : D < N) (hx : x < D) (hy : y < D) (h2 : D ≤ 1000000000000000) : spec_diMake.g N ((x : Int) - (y : Int)) D = some (mkV (pr (x + (D - y)) D)) := by
  by_cases c : y ≤ x
  · rw [← pr_sub hy c, show (x : Int) - (y : Int) = ((x - y : Nat) : Int) by omega]
    exact make_eq hN (by omega) h2
  · rw [show (x : Int) - (y : Int) = -((y - x : Nat) : Int) by omega, make_neg hN (by omega) h2, show D - (y - x) = x + (D - y) by omega]
theorem Turn.p {n d : Nat} (h : Turn n d) : 0 < d := Nat.lt_of_le_of_lt (Nat.zero_le _) h.lt
theorem Turn.low {n d : Nat} (h : Turn n d) : Low (n, d) := ⟨h.lt, h.cop⟩
/-- products of two turns' numbers -/
theorem prods {a b c d : Nat} (h1 : Turn a b) (h2 : Turn c d) : a * d < b * d ∧ c * b < b * d ∧ b * d ≤ 1000000000000 ∧ w64 ((a : Int) * (d : Int)) = ((a * d : Nat) : Int) ∧ w64 ((c : Int) * (b : Int)) = ((c * b : Nat) : Int) ∧ w64 ((b : Int) * (d : Int)) = ((b * d : Nat) : Int) := by
  have e := Nat.mul_le_mul h1.le h2.le
  have e1 : a * d < b * d := Nat.mul_lt_mul_of_pos_right h1.lt h2.p
  have e2 : c * b < b * d := by rw [Nat.mul_comm b d]; exact Nat.mul_lt_mul_of_pos_right h2.lt h1.p
  refine ⟨e1, e2, by omega, ?_, ?_, ?_⟩
  all_goals rw [← Int.natCast_mul, w64n (by omega)]
theorem minus_eq {N a b c d : Nat} (hN : 1000000000000 < N) (h1 : Turn a b) (h2 : Turn c d) : impl_Turn_minus.g N a b c d = some (((fsub (a, b) (c, d)).1 : Int), ((fsub (a, b) (c, d)).2 : Int)) := by
  obtain ⟨p1, p2, p3, e1, e2, e3⟩ := prods h1 h2
  unfold impl_Turn_minus.g impl_Turn_minus.o0
  rw [e1, e2, e3, w64s (by omega) (by omega), part_sub (by omega) p1 p2 (by omega)]; rfl
theorem plus_eq {N a b c d : Nat} (hN : 1000000000000 < N) (h1 : Turn a b) (h2 : Turn c d) : impl_Turn_plus.g N a b c d = some (((fadd (a, b) (c, d)).1 : Int), ((fadd (a, b) (c, d)).2 : Int)) := by
  obtain ⟨p1, p2, p3, e1, e2, e3⟩ := prods h1 h2
  unfold impl_Turn_plus.g impl_Turn_plus.o0
  rw [e1, e2, e3, w2add (by omega), part_eq (by omega) (by omega) (by omega) (by omega)]; rfl
theorem diAdd_plus {N a b c d : Nat} (hN : 1000000000000 < N) (h1 : Turn a b) (h2 : Turn c d) : spec_diAdd.g N a b c d 1 = some (mkV (fadd (a, b) (c, d))) := by
  obtain ⟨p1, p2, p3, e1, e2, e3⟩ := prods h1 h2
  have := h2.lt; have := h2.le
  unfold spec_diAdd.g spec_diAdd.o0
  rw [Int.one_mul, w64n (a := c) (by omega), e1, e2, e3, w2add (by omega), make_eq (by omega) (by omega) (by omega)]; rfl
theorem diAdd_minus {N a b c d : Nat} (hN : 1000000000000 < N) (h1 : Turn a b) (h2 : Turn c d) : spec_diAdd.g N a b c d (-1) = some (mkV (fsub (a, b) (c, d))) := by
  obtain ⟨p1, p2, p3, e1, e2, e3⟩ := prods h1 h2
  have := h2.lt; have := h2.le
  have e4 : w64 (w64 ((-1 : Int) * (c : Int)) * (b : Int)) = -((c * b : Nat) : Int) := by
    have : (-1 : Int) * (c : Int) = -(c : Int) := by omega
    rw [this, w64s (n := -(c : Int)) (by omega) (by omega), Int.neg_mul, ← Int.natCast_mul, w64s (by omega) (by omega)]
  unfold spec_diAdd.g spec_diAdd.o0
  rw [e1, e4, e3, show ((a * d : Nat) : Int) + -((c * b : Nat) : Int) = ((a * d : Nat) : Int) - ((c * b : Nat) : Int) by omega, w64s (by omega) (by omega), make_sub (by omega) p1 p2 (by omega)]; rfl
theorem apart_eq {N a b c d : Nat} (hN : 1000000000000 < N) (h1 : Turn a b) (h2 : Turn c d) : spec_seApart.g N a b c d = some (((fsub (c, d) (a, b)).1 : Int), ((fsub (c, d) (a, b)).2 : Int)) := by
  obtain ⟨p1, p2, p3, e1, e2, e3⟩ := prods h2 h1
  unfold spec_seApart.g spec_seApart.o0
  rw [e1, e2, e3, w64s (n := ((c * b : Nat) : Int) - ((a * d : Nat) : Int)) (by omega) (by omega), show ((c * b : Nat) : Int) - ((a * d : Nat) : Int) + ((d * b : Nat) : Int) = ((c * b + (d * b - a * d) : Nat) : Int) by omega, w64n (by omega), tmodN, ieqF (by omega), cond_false]
  have hr : (c * b + (d * b - a * d)) % (d * b) < d * b := Nat.mod_lt _ (by omega)
  have hp : 0 < Nat.gcd ((c * b + (d * b - a * d)) % (d * b)) (d * b) := Nat.gcd_pos_of_pos_right _ (by omega)
  have q1 : (c * b + (d * b - a * d)) % (d * b) / Nat.gcd ((c * b + (d * b - a * d)) % (d * b)) (d * b) ≤ (c * b + (d * b - a * d)) % (d * b) := Nat.div_le_self _ _
  have q2 : d * b / Nat.gcd ((c * b + (d * b - a * d)) % (d * b)) (d * b) ≤ d * b := Nat.div_le_self _ _
  rw [common_eq (by omega) (by omega) (by omega), Option.bind_some, ieqF (by omega), cond_false, cond_false, tdivN, tdivN, w64n (by omega), w64n (by omega)]
  rfl
/-! ### all times with an angle -/
theorem angle_l {N : Nat} (hN : 100000000000000 < N) {n d k m : Nat} (hk : k = m + 1) (hd1 : 1 ≤ d) (hd : d ≤ 1000000000000) (hn : n ≤ 1000000000000) (hm : m ≤ 24) : ∀ (j i f : Nat) (acc : List S25), i + j = m → j < f → acc.length = i →
    spec_seAngle.l2 N f k n d acc i = some (if (List.range' i j).all (okR n d m) = true then (acc ++ rts n d m i j, true) else ([], false))
  | 0, i, f+1, acc, hi, hf, ha => by
    unfold spec_seAngle.l2 spec_seAngle.d2 spec_seAngle.o2
    rw [show w64 ((k : Int) - 1) = (m : Int) by rw [w64s (by omega) (by omega)]; omega, dcF (by omega), cond_false]
    show _ = some (acc ++ [], true)
    rw [List.append_nil]
  | j+1, i, f+1, acc, hi, hf, ha => by
    obtain ⟨e1, e2, e3, e4⟩ := root_args (n := n) hd hn hm (show i < m by omega)
    have hp : 1 ≤ d * m := Nat.mul_pos (by omega) (by omega)
    unfold spec_seAngle.l2 spec_seAngle.d2 spec_seAngle.o2
    rw [show w64 ((k : Int) - 1) = (m : Int) by rw [w64s (by omega) (by omega)]; omega, dcT (by omega), cond_true, e1, e2, make_eq (by omega) hp (by omega), Option.bind_some, List.range'_succ, List.all_cons]
    have ho : okR n d m i = decide ((pr (n + i * d) (d * m)).2 ≤ 1000000) := rfl
    rw [ho]
    by_cases c : (pr (n + i * d) (d * m)).2 ≤ 1000000
    · rw [mkV_ok c, dcT c, Bool.not_true, cond_false, blT (by simp; omega), cond_true, w1add (by omega), Bool.true_and]
      refine (angle_l hN hk hd1 hd hn hm j (i + 1) f (acc ++ [sT (rt n d m i)]) (by omega) (by omega) (by simp; omega)).trans ?_
      rw [rts_succ, List.append_assoc]; rfl
    · unfold mkV
      rw [if_neg c, dcF c, Bool.not_false, cond_true, Bool.false_and, if_neg (by simp)]
  | _, _, 0, _, _, hf, _ => by omega
theorem angle_eq {N : Nat} (hN : 100000000000000 < N) {n d m : Nat} (hd1 : 1 ≤ d) (hd : d ≤ 1000000000000) (hn : n ≤ 1000000000000) (hm : m ≤ 24) : spec_seAngle.g N ((m + 1 : Nat) : Int) n d = some (timesL n d m) := by
  have e : spec_seAngle.g N ((m + 1 : Nat) : Int) n d = spec_seAngle.l2 N N ((m + 1 : Nat) : Int) n d [] 0 := by
    obtain ⟨M, rfl⟩ : ∃ M, N = M + 1 := ⟨N - 1, by omega⟩
    rfl
  rw [e]
  exact angle_l hN rfl hd1 hd hn hm m 0 N [] (by omega) (by omega) rfl
theorem fsub_b {a b c d : Nat} (h1 : Turn a b) (h2 : Turn c d) : 1 ≤ (fsub (a, b) (c, d)).2 ∧ (fsub (a, b) (c, d)).2 ≤ 1000000000000 ∧ (fsub (a, b) (c, d)).1 < (fsub (a, b) (c, d)).2 := by
  obtain ⟨p1, p2, p3, _⟩ := prods h1 h2
  have hp : 0 < b * d := by omega
  have := pr_spec (n := a * d + (b * d - c * b)) hp
  unfold fsub
  dsimp only
  omega
def apN (a b c d : Int) : Nat × Nat := fsub (c.toNat, d.toNat) (a.toNat, b.toNat)
theorem apN_n (a b c d : Nat) : apN a b c d = fsub (c, d) (a, b) := by unfold apN; simp only [Int.toNat_natCast]
def tT (h a b c d : Int) : List S25 × Bool := if seenB h a b c d = true then timesL (apN a b c d).1 (apN a b c d).2 (h.toNat - 1) else ([], false)
theorem Turned_eq {N : Nat} (hN : 100000000000000 < N) (h a b c d : Int) : impl_TimesTurned.g N h a b c d = some (tT h a b c d) ∧ spec_TimesTurned.g N h a b c d = some (tT h a b c d) := by
  unfold tT impl_TimesTurned.g impl_TimesTurned.o0 spec_TimesTurned.g spec_TimesTurned.o0
  rw [isSeenOf_eq (by omega), seAsked_eq (by omega), Option.bind_some, Option.bind_some]
  cases hs : seenB h a b c d with
  | false => exact ⟨rfl, rfl⟩
  | true =>
    obtain ⟨k, x, y, z, u, rfl, rfl, rfl, rfl, rfl, H⟩ := seenB_iff.1 hs
    have h1 := H.k1; have h2 := H.k2
    obtain ⟨m, rfl⟩ : ∃ m, k = m + 1 := ⟨k - 1, by omega⟩
    obtain ⟨q1, q2, q3⟩ := fsub_b H.l H.s
    rw [Bool.not_true, cond_false, cond_false, minus_eq (by omega) H.l H.s, apart_eq (by omega) H.s H.l, apN_n, if_pos rfl, Option.bind_some, Option.bind_some, Int.toNat_natCast, Nat.add_sub_cancel, show w64 (((m + 1 : Nat) : Int) - 1) = (m : Int) by rw [w64s (by omega) (by omega)]; omega]
    constructor
    · exact ifRoots_eq hN q1 q2 (by omega) (by omega) (by omega)
    · dsimp only
      rw [angle_eq hN q1 q2 (by omega) (by omega)]; rfl
def tW (h n d : Int) : List S25 × Bool := if timeB h n d = true then timesL n.toNat d.toNat (h.toNat - 1) else ([], false)
theorem With_eq {N : Nat} (hN : 100000000000000 < N) (h n d : Int) : impl_TimesWithAngle.g N h n d = some (tW h n d) ∧ spec_TimesWithAngle.g N h n d = some (tW h n d) := by
  unfold tW impl_TimesWithAngle.g impl_TimesWithAngle.o0 spec_TimesWithAngle.g spec_TimesWithAngle.o0
  rw [isTime_eq (by omega), diAsked_eq (by omega), Option.bind_some, Option.bind_some]
  cases hb : timeB h n d with
  | false => exact ⟨rfl, rfl⟩
  | true =>
    obtain ⟨k, x, y, rfl, h1, h2, rfl, rfl, H⟩ := timeB_iff.1 hb
    have := H.lt; have := H.le
    obtain ⟨m, rfl⟩ : ∃ m, k = m + 1 := ⟨k - 1, by omega⟩
    rw [Bool.not_true, cond_false, cond_false, if_pos rfl]
    simp only [Int.toNat_natCast, Nat.add_sub_cancel]
    rw [show w64 (((m + 1 : Nat) : Int) - 1) = (m : Int) by rw [w64s (by omega) (by omega)]; omega]
    constructor
    · exact ifRoots_eq hN (by omega) (by omega) (by omega) (by omega) (by omega)
    · rw [angle_eq hN (by omega) (by omega) (by omega) (by omega)]; rfl
/-! ### by how much the dial is turned -/
def rl (n d k j i : Nat) : List (Nat × Nat) := (List.range' i j).map (rt n d k)
theorem rts_map (n d k i j : Nat) : rts n d k i j = (rl n d k j i).map sT := by unfold rts rl; rw [List.map_map]; rfl
def okS (S t : Nat × Nat) : Bool := decide ((fsub S t).2 ≤ 1000000)
def tS (S : Nat × Nat) (l : List (Nat × Nat)) : List S25 := l.map fun t => sT (fsub S t)
theorem turns_all {S : Nat × Nat} (hS : Turn S.1 S.2) {l : List (Nat × Nat)} (hl : ∀ t ∈ l, Turn t.1 t.2) : ((tS S l).all fun t => turnB t.f0 t.f1) = l.all (okS S) := by
  unfold tS
  rw [List.all_map]
  induction l with
  | nil => rfl
  | cons t l ih =>
    rw [List.all_cons, List.all_cons, ih fun t h => hl t (List.mem_cons_of_mem _ h)]
    congr 1
    exact turnB_pr (Nat.mul_pos hS.p (hl t (List.mem_cons_self ..)).p)
theorem turns_impl {N : Nat} (hN : 100000000000000 < N) {a b c d : Nat} (hS : Turn a b) {l : List (Nat × Nat)} (hl : ∀ t ∈ l, Turn t.1 t.2) (h24 : l.length ≤ 24) : ∀ (j i f : Nat), i + j = l.length → j < f →
    impl_TurnsOfDial.l1 N f (tS (a, b) (l.take i)) (l.map sT) l.length i a b c d = some (if l.all (okS (a, b)) = true then (tS (a, b) l, true) else ([], false))
  | 0, i, f+1, hi, hf => by
    unfold impl_TurnsOfDial.l1 impl_TurnsOfDial.d1 impl_TurnsOfDial.o1
    rw [dcF (by omega), cond_false, List.take_of_length_le (by omega)]
    unfold impl_ifTurns.g impl_ifTurns.o0 impl_ifTurns.d1 impl_ifTurns.o1
    rw [Bool.not_true, cond_false, areTurns_eq (by omega) _ (by unfold tS; rw [List.length_map]; omega), turns_all hS hl]
    cases l.all (okS (a, b)) with
    | false => rfl
    | true => rfl
  | j+1, i, f+1, hi, hf => by
    have hlt : i < l.length := by omega
    have hm : i < (l.map sT).length := by rw [List.length_map]; exact hlt
    have ht := hl l[i] (List.getElem_mem hlt)
    have e : (l.map sT)[i] = sT l[i] := List.getElem_map ..
    unfold impl_TurnsOfDial.l1 impl_TurnsOfDial.d1 impl_TurnsOfDial.o1
    rw [dcT (by omega), cond_true, dcT (by omega), cond_true, dcT (by omega), cond_true, Int.toNat_natCast, getAt hm, e]
    show ((impl_Turn_minus.g N a b (l[i].1 : Int) (l[i].2 : Int)).bind _) = _
    rw [minus_eq (by omega) hS ht, Option.bind_some, blT (by unfold tS; simp; omega), cond_true, w1add (by omega)]
    have e2 : tS (a, b) (l.take i) ++ [sT (fsub (a, b) l[i])] = tS (a, b) (l.take (i + 1)) := by
      unfold tS
      rw [List.take_succ_eq_append_getElem hlt, List.map_append]; rfl
    have ih := turns_impl hN (c := c) (d := d) hS hl h24 j (i + 1) f (by omega) (by omega)
    rw [← e2] at ih
    exact ih
  | _, _, 0, _, hf => by omega
theorem turns_spec {N : Nat} (hN : 100000000000000 < N) {a b c d : Nat} (hS : Turn a b) {l : List (Nat × Nat)} (hl : ∀ t ∈ l, Turn t.1 t.2) (h24 : l.length ≤ 24) : ∀ (j i f : Nat), i + j = l.length → j < f → (l.take i).all (okS (a, b)) = true →
    spec_TurnsOfDial.l2 N f (tS (a, b) (l.take i)) (l.map sT) l.length i a b c d = some (if l.all (okS (a, b)) = true then (tS (a, b) l, true) else ([], false))
  | 0, i, f+1, hi, hf, ha => by
    unfold spec_TurnsOfDial.l2 spec_TurnsOfDial.d2 spec_TurnsOfDial.o2
    rw [List.take_of_length_le (by omega)] at ha
    rw [dcF (by omega), cond_false, List.take_of_length_le (by omega), if_pos ha]
  | j+1, i, f+1, hi, hf, ha => by
    have hlt : i < l.length := by omega
    have hm : i < (l.map sT).length := by rw [List.length_map]; exact hlt
    have ht := hl l[i] (List.getElem_mem hlt)
    have e : (l.map sT)[i] = sT l[i] := List.getElem_map ..
    unfold spec_TurnsOfDial.l2 spec_TurnsOfDial.d2 spec_TurnsOfDial.o2
    rw [dcT (by omega), cond_true, dcT (by omega), cond_true, dcT (by omega), cond_true, Int.toNat_natCast, getAt hm, e]
    show ((spec_diAdd.g N a b (l[i].1 : Int) (l[i].2 : Int) (-1)).bind _) = _
    rw [diAdd_minus (by omega) hS ht, Option.bind_some]
    by_cases cc : (fsub (a, b) (l[i].1, l[i].2)).2 ≤ 1000000
    · rw [mkV_ok cc]
      dsimp only
      rw [Bool.not_true, cond_false, blT (by unfold tS; simp; omega), cond_true, w1add (by omega)]
      have e2 : tS (a, b) (l.take i) ++ [sT (fsub (a, b) l[i])] = tS (a, b) (l.take (i + 1)) := by
        unfold tS
        rw [List.take_succ_eq_append_getElem hlt, List.map_append]; rfl
      have ih := turns_spec hN (c := c) (d := d) hS hl h24 j (i + 1) f (by omega) (by omega) (by
        rw [List.take_succ_eq_append_getElem hlt, List.all_append, ha, Bool.true_and, List.all_cons, List.all_nil, Bool.and_true]
        exact decide_eq_true cc)
      rw [← e2] at ih
      exact ih
    · unfold mkV
      rw [if_neg cc, Bool.not_false, cond_true, if_neg]
      intro h
      exact cc (of_decide_eq_true (List.all_eq_true.1 h l[i] (List.getElem_mem hlt)))
  | _, _, 0, _, hf, _ => by omega
end Go.Proofs.YtehbhinaopdkeaaGreat.M

namespace Go.Proofs.YtehbhinaopdkeaaGreat.M
open Go Go.PM Go.Proofs.YtehbhinaopdkeaaGreat.P
set_option linter.unusedVariables false
set_option linter.unusedSimpArgs false
set_option maxRecDepth 100000
/-! ### TurnsOfDial -/
def tD (h a b c d : Int) : List S25 × Bool :=
  if (seenB h a b c d && (List.range' 0 (h.toNat - 1)).all (okR (apN a b c d).1 (apN a b c d).2 (h.toNat - 1))) = true then
    (if (rl (apN a b c d).1 (apN a b c d).2 (h.toNat - 1) (h.toNat - 1) 0).all (okS (a.toNat, b.toNat)) = true then (tS (a.toNat, b.toNat) (rl (apN a b c d).1 (apN a b c d).2 (h.toNat - 1) (h.toNat - 1) 0), true) else ([], false))
  else ([], false)
theorem rl_len (n d k j i : Nat) : (rl n d k j i).length = j := by unfold rl; rw [List.length_map, List.length_range']
theorem rl_turn {n d k j i : Nat} (hp : 0 < d * k) (h : (List.range' i j).all (okR n d k) = true) : ∀ t ∈ rl n d k j i, Turn t.1 t.2 := by
  intro t ht
  unfold rl at ht
  obtain ⟨x, hx, rfl⟩ := List.mem_map.1 ht
  have := of_decide_eq_true (List.all_eq_true.1 h x hx)
  have hs := pr_spec (n := n + x * d) hp
  exact ⟨hs.1, this, hs.2.2.1⟩
theorem Dial_eq {N : Nat} (hN : 100000000000000 < N) (h a b c d : Int) : impl_TurnsOfDial.g N h a b c d = some (tD h a b c d) ∧ spec_TurnsOfDial.g N h a b c d = some (tD h a b c d) := by
  unfold impl_TurnsOfDial.g impl_TurnsOfDial.o0 spec_TurnsOfDial.g spec_TurnsOfDial.o0
  rw [(Turned_eq hN _ _ _ _ _).1, (Turned_eq hN _ _ _ _ _).2, Option.bind_some, Option.bind_some]
  unfold tD tT
  cases hs : seenB h a b c d with
  | false => exact ⟨rfl, rfl⟩
  | true =>
    obtain ⟨k, x, y, z, u, rfl, rfl, rfl, rfl, rfl, H⟩ := seenB_iff.1 hs
    have h1 := H.k1; have h2 := H.k2
    obtain ⟨m, rfl⟩ : ∃ m, k = m + 1 := ⟨k - 1, by omega⟩
    obtain ⟨q1, q2, q3⟩ := fsub_b H.l H.s
    rw [apN_n]
    simp only [Int.toNat_natCast, Nat.add_sub_cancel, Bool.true_and, if_true]
    unfold timesL
    cases hok : (List.range' 0 m).all (okR (fsub (z, u) (x, y)).1 (fsub (z, u) (x, y)).2 m) with
    | false => exact ⟨rfl, rfl⟩
    | true =>
      have hp : 0 < (fsub (z, u) (x, y)).2 * m := Nat.mul_pos (by omega) (by omega)
      have hl := rl_turn hp hok
      have hlen := rl_len (fsub (z, u) (x, y)).1 (fsub (z, u) (x, y)).2 m m 0
      rw [if_pos rfl, if_pos rfl]
      dsimp only
      rw [Bool.not_true, cond_false, cond_false, rts_map]
      generalize rl (fsub (z, u) (x, y)).1 (fsub (z, u) (x, y)).2 m m 0 = l at *
      constructor
      · have := turns_impl hN (c := z) (d := u) H.s hl (by omega) m 0 N (by omega) (by omega)
        rw [List.length_map]
        exact this
      · have := turns_spec hN (c := z) (d := u) H.s hl (by omega) m 0 N (by omega) (by omega) rfl
        have e : ∀ len : Int, spec_TurnsOfDial.l1 N N (l.map sT) len 0 x y z u = spec_TurnsOfDial.l2 N N [] (l.map sT) len 0 x y z u := by
          intro len
          obtain ⟨M, rfl⟩ : ∃ M, N = M + 1 := ⟨N - 1, by omega⟩
          rfl
        rw [List.length_map, e]
        exact this
/-! ### TurnSeen -/
def sum6 (f : Nat × Nat) (g : Nat × Nat) : Int × Int × Int × Int × Bool := if (decide (f.2 ≤ 1000000) && decide (g.2 ≤ 1000000)) = true then ((f.1 : Int), (f.2 : Int), (g.1 : Int), (g.2 : Int), true) else (0, 0, 0, 0, false)
def uS (a b c d e f : Int) : Int × Int × Int × Int × Bool := if (goodB a b c d && turnB e f) = true then sum6 (fadd (a.toNat, b.toNat) (e.toNat, f.toNat)) (fadd (c.toNat, d.toNat) (e.toNat, f.toNat)) else (0, 0, 0, 0, false)
theorem goodB_iff {a b c d : Int} : goodB a b c d = true ↔ ∃ x y z u : Nat, a = x ∧ b = y ∧ c = z ∧ d = u ∧ Turn x y ∧ Turn z u := by
  unfold goodB
  rw [Bool.and_eq_true, turnB_iff, turnB_iff]
  constructor
  · rintro ⟨⟨x, y, rfl, rfl, h2⟩, ⟨z, u, rfl, rfl, h3⟩⟩
    exact ⟨x, y, z, u, rfl, rfl, rfl, rfl, h2, h3⟩
  · rintro ⟨x, y, z, u, rfl, rfl, rfl, rfl, h3, h4⟩
    exact ⟨⟨x, y, rfl, rfl, h3⟩, ⟨z, u, rfl, rfl, h4⟩⟩
theorem turnB_fadd {a b e f : Nat} (h1 : Turn a b) (h2 : Turn e f) : turnB ((fadd (a, b) (e, f)).1 : Int) ((fadd (a, b) (e, f)).2 : Int) = decide ((fadd (a, b) (e, f)).2 ≤ 1000000) := turnB_pr (Nat.mul_pos h1.p h2.p)
theorem TurnSeen_eq {N : Nat} (hN : 1000000000000 < N) (a b c d e f : Int) : impl_TurnSeen.g N a b c d e f = some (uS a b c d e f) ∧ spec_TurnSeen.g N a b c d e f = some (uS a b c d e f) := by
  unfold uS impl_TurnSeen.g impl_TurnSeen.o0 spec_TurnSeen.g spec_TurnSeen.o0
  rw [IsSeen_eq (by omega), seGood_eq (by omega), Option.bind_some, Option.bind_some]
  cases hg : goodB a b c d with
  | false => exact ⟨rfl, rfl⟩
  | true =>
    rw [Bool.not_true, cond_false, cond_false, IsTurn_eq (by omega), diGood_eq (by omega), Option.bind_some, Option.bind_some]
    cases ht : turnB e f with
    | false => exact ⟨rfl, rfl⟩
    | true =>
      obtain ⟨x, y, z, u, rfl, rfl, rfl, rfl, g1, g2⟩ := goodB_iff.1 hg
      obtain ⟨p, q, rfl, rfl, g3⟩ := turnB_iff.1 ht
      rw [if_pos (by rfl)]
      simp only [Int.toNat_natCast]
      unfold impl_TurnSeen.d1 impl_TurnSeen.o1 spec_TurnSeen.d1 spec_TurnSeen.o1
      rw [Bool.not_true, cond_false, cond_false, plus_eq (by omega) g1 g3, Option.bind_some, plus_eq (by omega) g2 g3, Option.bind_some, diAdd_plus (by omega) g1 g3, Option.bind_some, diAdd_plus (by omega) g2 g3, Option.bind_some, IsSeen_eq (by omega), Option.bind_some]
      unfold goodB
      rw [turnB_fadd g1 g3, turnB_fadd g2 g3]
      unfold sum6 mkV
      generalize fadd (x, y) (p, q) = s
      generalize fadd (z, u) (p, q) = t
      by_cases c1 : s.2 ≤ 1000000
      · rw [dcT c1, if_pos c1]
        by_cases c2 : t.2 ≤ 1000000
        · rw [dcT c2, if_pos c2]; exact ⟨rfl, rfl⟩
        · rw [dcF c2, if_neg c2]; exact ⟨rfl, rfl⟩
      · rw [dcF c1, if_neg c1]; exact ⟨rfl, rfl⟩
/-! ### mirrors -/
theorem mirT {a b : Nat} (h : Turn a b) : Turn (fmir (a, b)).1 (fmir (a, b)).2 := pr_Turn h.p h.le
theorem mirror_f {N a b : Nat} (hN : 10000000 ≤ N) (h : Turn a b) : impl_Turn_mirror.g N a b = some (((fmir (a, b)).1 : Int), ((fmir (a, b)).2 : Int)) ∧ spec_diMirror.g N a b = some (((fmir (a, b)).1 : Int), ((fmir (a, b)).2 : Int)) := mirror_eq hN h
theorem seMirror_f {N a b c d : Nat} (hN : 10000000 ≤ N) (h1 : Turn a b) (h2 : Turn c d) : spec_seMirror.g N a b c d = some (((fmir (a, b)).1 : Int), ((fmir (a, b)).2 : Int), ((fmir (c, d)).1 : Int), ((fmir (c, d)).2 : Int)) := by
  unfold spec_seMirror.g spec_seMirror.o0
  rw [(mirror_f hN h1).2, Option.bind_some, (mirror_f hN h2).2]; rfl
def mS (a b c d : Int) : Int × Int × Int × Int × Bool := if goodB a b c d = true then (((fmir (a.toNat, b.toNat)).1 : Int), ((fmir (a.toNat, b.toNat)).2 : Int), ((fmir (c.toNat, d.toNat)).1 : Int), ((fmir (c.toNat, d.toNat)).2 : Int), true) else (0, 0, 0, 0, false)
theorem MirrorSeen_eq {N : Nat} (hN : 10000000 ≤ N) (a b c d : Int) : impl_MirrorSeen.g N a b c d = some (mS a b c d) ∧ spec_MirrorSeen.g N a b c d = some (mS a b c d) := by
  unfold mS impl_MirrorSeen.g impl_MirrorSeen.o0 spec_MirrorSeen.g spec_MirrorSeen.o0
  rw [IsSeen_eq hN, seGood_eq hN, Option.bind_some, Option.bind_some]
  cases hg : goodB a b c d with
  | false => exact ⟨rfl, rfl⟩
  | true =>
    obtain ⟨x, y, z, u, rfl, rfl, rfl, rfl, g1, g2⟩ := goodB_iff.1 hg
    simp only [Int.toNat_natCast]
    rw [Bool.not_true, cond_false, cond_false, (mirror_f hN g1).1, Option.bind_some, (mirror_f hN g2).1, Option.bind_some, seMirror_f hN g1 g2, Option.bind_some]
    exact ⟨rfl, rfl⟩
theorem MirrorTurn_eq {N a b : Nat} (hN : 10000000 ≤ N) (h : Turn a b) : impl_MirrorTurn.g N a b = some (((fmir (a, b)).1 : Int), ((fmir (a, b)).2 : Int), true) := by
  unfold impl_MirrorTurn.g impl_MirrorTurn.o0
  rw [IsTurn_eq hN, turnB_T h, Option.bind_some, Bool.not_true, cond_false, (mirror_f hN h).1]; rfl
theorem Angle_eq {N k a b : Nat} (hN : 10000000 ≤ N) (h1 : 2 ≤ k + 1) (h2 : k + 1 ≤ 24) (h : Turn a b) : impl_AngleOf.g N ((k + 1 : Nat) : Int) a b = some (((fmul k (a, b)).1 : Int), ((fmul k (a, b)).2 : Int), true) := by
  unfold impl_AngleOf.g impl_AngleOf.o0
  rw [isTime_eq hN, timeB_iff.2 ⟨k + 1, a, b, rfl, h1, h2, rfl, rfl, h⟩, Option.bind_some, Bool.not_true, cond_false, show w64 (((k + 1 : Nat) : Int) - 1) = (k : Int) by rw [w64s (by omega) (by omega)]; omega, times_eq hN h (by omega)]; rfl
/-- what is true is true in the mirror -/
theorem mir_true {k a b c d : Nat} (h1 : Turn a b) (h2 : Turn c d) : trueB k (fmir (a, b)).1 (fmir (a, b)).2 (fmir (c, d)).1 (fmir (c, d)).2 = trueB k a b c d := by
  have e : fmul k (fmir (a, b)) = fmir (fmul k (a, b)) := fmul_fmir h1.low
  have key : pr ((fmir (a, b)).1 * k) (fmir (a, b)).2 = ((fmir (c, d)).1, (fmir (c, d)).2) ↔ pr (a * k) b = (c, d) := by
    constructor
    · intro h
      have h' : fmir (fmul k (a, b)) = fmir (c, d) := e ▸ h
      have := congrArg fmir h'
      have hL : Low (fmul k (a, b)) := pr_Low h1.p
      rwa [fmir_fmir hL, fmir_fmir h2.low] at this
    · intro h
      have h' : fmul k (a, b) = (c, d) := h
      show fmul k (fmir (a, b)) = fmir (c, d)
      rw [e, h']
  cases hx : trueB k a b c d with
  | true => exact trueN.2 (key.2 (trueN.1 hx))
  | false =>
    cases hy : trueB k (fmir (a, b)).1 (fmir (a, b)).2 (fmir (c, d)).1 (fmir (c, d)).2 with
    | false => rfl
    | true => rw [trueN.2 (key.1 (trueN.1 hy))] at hx; cases hx
/-! ### TimesInGlass -/
def gl (p : Bool) (a b : Nat) : List S25 := bif p then ord2 a b (fmir (a, b)).1 (fmir (a, b)).2 else []
def tG (h a b c d : Int) : List S25 × Bool := if seenB h a b c d = true then (gl (trueB h a b c d) a.toNat b.toNat, true) else ([], false)
theorem tG_N {k a b c d : Nat} (h : Seen k a b c d) : tG k a b c d = (gl (trueB k a b c d) a b, true) := by
  unfold tG
  rw [seenB_of h, if_pos rfl]
  simp only [Int.toNat_natCast]
theorem glass_impl {N : Nat} (hN : 10000000 ≤ N) (h a b c d : Int) : impl_TimesInGlass.g N h a b c d = some (tG h a b c d) := by
  unfold impl_TimesInGlass.g impl_TimesInGlass.o0
  rw [isSeenOf_eq hN, Option.bind_some]
  cases hs : seenB h a b c d with
  | false => unfold tG; rw [hs]; rfl
  | true =>
    obtain ⟨k, x, y, z, u, rfl, rfl, rfl, rfl, rfl, H⟩ := seenB_iff.1 hs
    rw [Bool.not_true, cond_false, (isTrue_eq hN H.s H.k2 _ _).1, Option.bind_some, tG_N H]
    cases trueB k x y z u with
    | false => rfl
    | true =>
      rw [Bool.not_true, cond_false, (mirror_f hN H.s).1, Option.bind_some]
      unfold impl_sorted.g
      rw [show Nat.ble ([(⟨(x : Int), (y : Int)⟩ : S25), (⟨((fmir (x, y)).1 : Int), ((fmir (x, y)).2 : Int)⟩ : S25)] : List S25).length 2 = true from rfl, cond_true, s2_eq H.s (mirT H.s)]; rfl
theorem glass_spec {N : Nat} (hN : 10000000 ≤ N) (h a b c d : Int) : spec_TimesInGlass.g (N + 3) h a b c d = some (tG h a b c d) := by
  unfold spec_TimesInGlass.g spec_TimesInGlass.o0
  rw [seAsked_eq (by omega), Option.bind_some]
  cases hs : seenB h a b c d with
  | false => unfold tG; rw [hs]; rfl
  | true =>
    obtain ⟨k, x, y, z, u, rfl, rfl, rfl, rfl, rfl, H⟩ := seenB_iff.1 hs
    rw [Bool.not_true, cond_false, seMirror_f (by omega) H.s H.l, Option.bind_some, tG_N H]
    have t1 := (isTrue_eq (N := N + 3) (by omega) H.s H.k2 z u).2
    have t2 := (isTrue_eq (N := N + 3) (by omega) (mirT H.s) H.k2 (fmir (z, u)).1 (fmir (z, u)).2).2
    rw [mir_true H.s H.l] at t2
    have p0 := put0 (N + 1)
    have p1 := put1 (n := N + 1) H.s (mirT H.s)
    unfold spec_TimesInGlass.l1 spec_TimesInGlass.d1 spec_TimesInGlass.o1
    simp only [List.length_cons, List.length_nil, Nat.zero_add, show decide ((0 : Int) < ((1 + 1 : Nat) : Int)) = true from rfl, show decide ((0 : Int) ≤ 0) = true from rfl, cond_true, show (0 : Int).toNat = 0 from rfl, List.getElem?_cons_zero, Option.bind_some, t1]
    cases hp : trueB k x y z u with
    | false =>
      rw [hp] at t2
      rw [cond_false]
      unfold spec_TimesInGlass.l1 spec_TimesInGlass.d1 spec_TimesInGlass.o1
      simp only [List.length_cons, List.length_nil, Nat.zero_add, show w64 (0 + 1) = 1 from rfl, show decide ((1 : Int) < ((1 + 1 : Nat) : Int)) = true from rfl, show decide ((0 : Int) ≤ 1) = true from rfl, cond_true, show (1 : Int).toNat = 1 from rfl, List.getElem?_cons_succ, List.getElem?_cons_zero, Option.bind_some, t2]
      rfl
    | true =>
      rw [hp] at t2
      rw [cond_true, p0, Option.bind_some]
      unfold spec_TimesInGlass.l2 spec_TimesInGlass.d2 spec_TimesInGlass.o2
      simp only [List.length_cons, List.length_nil, Nat.zero_add, show w64 (0 + 1) = 1 from rfl, show decide ((1 : Int) < ((1 + 1 : Nat) : Int)) = true from rfl, show decide ((0 : Int) ≤ 1) = true from rfl, cond_true, show (1 : Int).toNat = 1 from rfl, List.getElem?_cons_succ, List.getElem?_cons_zero, Option.bind_some, t2, p1]
      rfl
end Go.Proofs.YtehbhinaopdkeaaGreat.M

namespace Go.Proofs.YtehbhinaopdkeaaGreat.M
open Go Go.PM Go.Proofs.YtehbhinaopdkeaaGreat.P
set_option linter.unusedVariables false
set_option linter.unusedSimpArgs false
set_option maxRecDepth 100000
/-! ### draws -/
theorem sqr {k : Nat} (h1 : 2 ≤ k) (h2 : k ≤ 24) : 4 ≤ k * k ∧ k * k ≤ 576 ∧ w64 (w64 ((k : Int) * (k : Int)) - 1) = ((k * k - 1 : Nat) : Int) := by
  have e1 : 2 * 2 ≤ k * k := Nat.mul_le_mul h1 h1
  have e2 : k * k ≤ 24 * 24 := Nat.mul_le_mul h2 h2
  refine ⟨e1, e2, ?_⟩
  rw [← Int.natCast_mul, w64n (by omega), w64s (by omega) (by omega)]
  omega
theorem make_turn {N x k : Nat} (hN : 10000000 ≤ N) (h1 : 2 ≤ k) (h2 : k ≤ 24) : ∃ a b : Nat, spec_diMake.g N x (w64 (w64 ((k : Int) * (k : Int)) - 1)) = some ((a : Int), (b : Int), true) ∧ Turn a b := by
  obtain ⟨a, b, e2⟩ := sqr h1 h2
  have hs := pr_spec (n := x) (d := k * k - 1) (by omega)
  refine ⟨(pr x (k * k - 1)).1, (pr x (k * k - 1)).2, ?_, pr_Turn (by omega) (by omega)⟩
  rw [e2, make_eq (by omega) (by omega) (by omega), mkV_ok (by omega)]
/-- the cursor behind a draw -/
def At (code : List Int) (m : Int) (c : List Int) (p : Int) : Prop := c = code ∧ 0 ≤ p ∧ p ≤ m
theorem seen_d2 {N k a b : Nat} (hN : 10000000 ≤ N) {code : List Int} (hc : Bs code) (h1 : Turn a b) (h2 : k ≤ 24) {p s : Int} (p1 : 0 ≤ p) (p2 : p ≤ 1000) (z1 z2 z3 z4 : Int) :
    Tot (spec_l1Cur_seen.d2 N k code p s z1 z2 z3 z4 a b) fun r => At code 1002 r.2.2.2.2.1 r.2.2.2.2.2.1 := by
  unfold spec_l1Cur_seen.d2 spec_l1Cur_seen.o2
  rw [seOf_eq hN h1 h2, Option.bind_some]
  refine Tot.bind (pick_tot N hc 5 p1 (by omega) s) ?_
  rintro ⟨x, c, q, t⟩ ⟨_, hcc, q1, q2⟩
  dsimp only at hcc q1 q2 ⊢
  have A : At code 1002 c q := ⟨hcc, q1, by omega⟩
  refine Tot.bif (fun _ => ?_) (fun _ => Tot.bif (fun _ => ?_) (fun _ => Tot.now A))
  · unfold spec_seExchange.g spec_seExchange.o0
    exact Tot.now A
  · rw [seMirror_f hN h1 (longT h1)]
    exact Tot.now A
theorem seen_tot {N : Nat} (hN : 10000000 ≤ N) {code : List Int} (hc : Bs code) (h : Int) {pos : Int} (h1 : 0 ≤ pos) (h2 : pos ≤ 100) (seed : Int) :
    Tot (spec_l1Cur_seen.g N h code pos seed) fun r => At code 1002 r.2.2.2.2.1 r.2.2.2.2.2.1 := by
  unfold spec_l1Cur_seen.g spec_l1Cur_seen.o0
  refine Tot.bind (turn_tot hN hc h1 (by omega) seed) ?_
  rintro ⟨n, d, c, p, s⟩ ⟨hcc, p1, p2⟩
  dsimp only at hcc p1 p2 ⊢
  subst hcc
  rw [diAsked_eq hN, Option.bind_some]
  have turn : ∀ p' s', 0 ≤ p' → p' ≤ 900 → Tot (spec_l1Cur_seen.d1 N h true c p' s' 0 0 0 0 n d) fun r => At c 1002 r.2.2.2.2.1 r.2.2.2.2.2.1 := by
    intro p' s' q1 q2
    unfold spec_l1Cur_seen.d1 spec_l1Cur_seen.o1
    rw [cond_true]
    refine Tot.bind (turn_tot hN hc q1 (by omega) s') ?_
    rintro ⟨n', d', c', p'', s''⟩ ⟨hcc, x1, x2⟩
    exact Tot.now ⟨hcc, x1, by dsimp only at x2 ⊢; omega⟩
  cases hb : timeB h n d with
  | false => exact turn p s p1 (by omega)
  | true =>
    obtain ⟨k, x, y, rfl, k1, k2, rfl, rfl, H⟩ := timeB_iff.1 hb
    rw [Bool.not_true, cond_false]
    refine Tot.bind (one_tot N hc 5 p1 (by omega) s) ?_
    rintro ⟨b, c', q, t⟩ ⟨hcc, q1, q2⟩
    dsimp only at hcc q1 q2 ⊢
    subst hcc
    cases b with
    | true => exact turn q t q1 (by omega)
    | false =>
      unfold spec_l1Cur_seen.d1 spec_l1Cur_seen.o1
      rw [cond_false]
      refine Tot.bind (one_tot N hc 3 q1 (by omega) t) ?_
      rintro ⟨b, c'', q', t'⟩ ⟨hcc, q1', q2'⟩
      dsimp only at hcc q1' q2' ⊢
      subst hcc
      cases b with
      | false => exact seen_d2 hN hc H k2 q1' (by omega) ..
      | true =>
        rw [cond_true]
        refine Tot.bind (pick_tot N hc _ q1' (by omega) t') ?_
        rintro ⟨u, c3, q3, t3⟩ ⟨⟨x1, x2⟩, hcc, p3, p4⟩
        dsimp only at x1 x2 hcc p3 p4 ⊢
        subst hcc
        obtain ⟨u, rfl⟩ := Int.eq_ofNat_of_zero_le x1
        obtain ⟨a, b, e, ht⟩ := make_turn (N := N) (x := u) hN k1 k2
        rw [e, Option.bind_some]
        exact seen_d2 hN hc ht k2 p3 (by omega) ..
theorem drawTime {N : Nat} (hN : 10000000 ≤ N) {code : List Int} (hc : Bs code) : Tot (spec_DrawTimeSeen.g N code) fun r => True := by
  unfold spec_DrawTimeSeen.g spec_DrawTimeSeen.o0
  refine Tot.bind (hours_tot N hc (by omega) (by omega) 0) ?_
  rintro ⟨h, c, p, s⟩ ⟨hcc, p1, p2⟩
  dsimp only at hcc p1 p2 ⊢
  subst hcc
  refine Tot.bind (seen_tot hN hc h p1 (by omega) s) ?_
  rintro r _
  exact Tot.now trivial
theorem drawTurned {N : Nat} (hN : 10000000 ≤ N) {code : List Int} (hc : Bs code) : Tot (spec_DrawTimesTurned.g N code) fun r => True := by
  unfold spec_DrawTimesTurned.g spec_DrawTimesTurned.o0
  exact Tot.bind (drawTime hN hc) fun r _ => Tot.now trivial
theorem drawGlass {N : Nat} (hN : 10000000 ≤ N) {code : List Int} (hc : Bs code) : Tot (spec_DrawTimesInGlass.g N code) fun r => True := by
  unfold spec_DrawTimesInGlass.g spec_DrawTimesInGlass.o0
  exact Tot.bind (drawTime hN hc) fun r _ => Tot.now trivial
theorem drawMir {N : Nat} (hN : 10000000 ≤ N) {code : List Int} (hc : Bs code) : Tot (spec_DrawMirrorSeen.g N code) fun r => True := by
  unfold spec_DrawMirrorSeen.g spec_DrawMirrorSeen.o0 spec_DrawIsSeen.g spec_DrawIsSeen.o0
  refine Tot.bind (P := fun _ => True) (Tot.bind (seen_tot hN hc 12 (by omega) (by omega) 0) fun r _ => Tot.now trivial) fun r _ => Tot.now trivial
theorem drawWith {N : Nat} (hN : 10000000 ≤ N) {code : List Int} (hc : Bs code) : Tot (spec_DrawTimesWithAngle.g N code) fun r => True := by
  unfold spec_DrawTimesWithAngle.g spec_DrawTimesWithAngle.o0 spec_DrawLongHand.g spec_DrawLongHand.o0
  refine Tot.bind (P := fun _ => True) (Tot.bind (hours_tot N hc (by omega) (by omega) 0) ?_) fun r _ => Tot.now trivial
  rintro ⟨h, c, p, s⟩ ⟨hcc, p1, p2⟩
  dsimp only at hcc p1 p2 ⊢
  subst hcc
  exact Tot.bind (turn_tot hN hc p1 (by omega) s) fun r _ => Tot.now trivial
theorem drawTS {N : Nat} (hN : 10000000 ≤ N) {code : List Int} (hc : Bs code) : Tot (spec_DrawTurnSeen.g N code) fun r => True := by
  unfold spec_DrawTurnSeen.g spec_DrawTurnSeen.o0
  refine Tot.bind (seen_tot hN hc 12 (by omega) (by omega) 0) ?_
  rintro ⟨x, y, z, u, c, p, s⟩ ⟨hcc, p1, p2⟩
  dsimp only at hcc p1 p2 ⊢
  subst hcc
  exact Tot.bind (turn_tot hN hc p1 (by omega) s) fun r _ => Tot.now trivial
end Go.Proofs.YtehbhinaopdkeaaGreat.M

namespace Go.Proofs.YtehbhinaopdkeaaGreat.M
open Go Go.PM Go.Proofs.YtehbhinaopdkeaaGreat.P
set_option linter.unusedVariables false
set_option linter.unusedSimpArgs false
set_option maxRecDepth 100000
/-! ### the law's end -/
theorem sum6_ok {f g : Nat × Nat} (h1 : f.2 ≤ 1000000) (h2 : g.2 ≤ 1000000) : sum6 f g = ((f.1 : Int), (f.2 : Int), (g.1 : Int), (g.2 : Int), true) := by
  unfold sum6
  rw [dcT h1, dcT h2]; rfl
theorem uS_T {x y z u p q : Nat} (g1 : Turn x y) (g2 : Turn z u) (g3 : Turn p q) : uS x y z u p q = sum6 (fadd (x, y) (p, q)) (fadd (z, u) (p, q)) := by
  unfold uS goodB
  rw [turnB_T g1, turnB_T g2, turnB_T g3, if_pos (by rfl)]
  simp only [Int.toNat_natCast]
theorem fadd_T {x y p q : Nat} (g1 : Turn x y) (g3 : Turn p q) (h : (fadd (x, y) (p, q)).2 ≤ 1000000) : Turn (fadd (x, y) (p, q)).1 (fadd (x, y) (p, q)).2 := by
  have hs := pr_spec (n := x * q + p * y) (Nat.mul_pos g1.p g3.p)
  exact ⟨hs.1, h, hs.2.2.1⟩
theorem law_16 {N : Nat} (hN : 1000000000000 < N) (a b c d e f : Int) : laws_FnDialsTurned.d16 N (uS a b c d e f).2.2.2.2 a b c d e f (uS a b c d e f).1 (uS a b c d e f).2.1 (uS a b c d e f).2.2.1 (uS a b c d e f).2.2.2.1 = some true := by
  unfold laws_FnDialsTurned.d16 laws_FnDialsTurned.o16
  cases hg : (goodB a b c d && turnB e f) with
  | false =>
    have : uS a b c d e f = (0, 0, 0, 0, false) := by unfold uS; rw [hg]; rfl
    rw [this]; rfl
  | true =>
    rw [Bool.and_eq_true] at hg
    obtain ⟨x, y, z, u, rfl, rfl, rfl, rfl, g1, g2⟩ := goodB_iff.1 hg.1
    obtain ⟨p, q, rfl, rfl, g3⟩ := turnB_iff.1 hg.2
    rw [uS_T g1 g2 g3]
    by_cases h1 : (fadd (x, y) (p, q)).2 ≤ 1000000
    · by_cases h2 : (fadd (z, u) (p, q)).2 ≤ 1000000
      · have T1 := fadd_T g1 g3 h1
        have T2 := fadd_T g2 g3 h2
        have f1 : fadd ((fadd (x, y) (p, q)).1, (fadd (x, y) (p, q)).2) ((fmir (p, q)).1, (fmir (p, q)).2) = (x, y) := fadd_fmir g1.low g3.low
        have f2 : fadd ((fadd (z, u) (p, q)).1, (fadd (z, u) (p, q)).2) ((fmir (p, q)).1, (fmir (p, q)).2) = (z, u) := fadd_fmir g2.low g3.low
        rw [sum6_ok h1 h2]
        dsimp only
        rw [cond_true, MirrorTurn_eq (by omega) g3, Option.bind_some]
        dsimp only
        rw [Bool.not_true, cond_false, (TurnSeen_eq hN _ _ _ _ _ _).1, uS_T T1 T2 (mirT g3), f1, f2, sum6_ok g1.le g2.le, Option.bind_some]
        simp only [beq_self_eq_true, Bool.and_self, Bool.not_true, cond_true]
        rfl
      · have : sum6 (fadd (x, y) (p, q)) (fadd (z, u) (p, q)) = (0, 0, 0, 0, false) := by unfold sum6; rw [dcF h2, Bool.and_false]; rfl
        rw [this]; rfl
    · have : sum6 (fadd (x, y) (p, q)) (fadd (z, u) (p, q)) = (0, 0, 0, 0, false) := by unfold sum6; rw [dcF h1, Bool.false_and]; rfl
      rw [this]; rfl
theorem mS_T {x y z u : Nat} (g1 : Turn x y) (g2 : Turn z u) : mS x y z u = (((fmir (x, y)).1 : Int), ((fmir (x, y)).2 : Int), ((fmir (z, u)).1 : Int), ((fmir (z, u)).2 : Int), true) := by
  unfold mS goodB
  rw [turnB_T g1, turnB_T g2, if_pos (by rfl)]
  simp only [Int.toNat_natCast]
theorem fmir2 {x y : Nat} (h : Turn x y) : fmir ((fmir (x, y)).1, (fmir (x, y)).2) = (x, y) := fmir_fmir h.low
theorem law_12 {N : Nat} (hN : 10000000 ≤ N) (nine : Bool) (x9 x10 x11 x12 x13 x14 x15 x16 x17 x18 : Int) (fin : laws_FnDialsTurned.d16 N nine x9 x10 x11 x12 x13 x14 x15 x16 x17 x18 = some true) (a b c d : Int) : laws_FnDialsTurned.d12 N (mS a b c d).2.2.2.2 nine a b c d (mS a b c d).1 (mS a b c d).2.1 (mS a b c d).2.2.1 (mS a b c d).2.2.2.1 x9 x10 x11 x12 x13 x14 x15 x16 x17 x18 = some true := by
  unfold laws_FnDialsTurned.d12 laws_FnDialsTurned.o12
  cases hg : goodB a b c d with
  | false =>
    have : mS a b c d = (0, 0, 0, 0, false) := by unfold mS; rw [hg]; rfl
    rw [this]
    exact fin
  | true =>
    obtain ⟨x, y, z, u, rfl, rfl, rfl, rfl, g1, g2⟩ := goodB_iff.1 hg
    rw [mS_T g1 g2]
    dsimp only
    rw [cond_true, (MirrorSeen_eq hN _ _ _ _).1, mS_T (mirT g1) (mirT g2), fmir2 g1, fmir2 g2, Option.bind_some]
    simp only [beq_self_eq_true, Bool.and_self, Bool.not_true, cond_false]
    unfold laws_FnDialsTurned.d15 laws_FnDialsTurned.o15
    exact fin
theorem law_14 {N : Nat} (hN : 10000000 ≤ N) (seven nine : Bool) (x1 x2 x3 x4 x5 x6 x7 x8 x9 x10 x11 x12 x13 x14 x15 x16 x17 x18 : Int) (fin : laws_FnDialsTurned.d12 N seven nine x1 x2 x3 x4 x5 x6 x7 x8 x9 x10 x11 x12 x13 x14 x15 x16 x17 x18 = some true) (l : List S25) (hl : l.length ≤ 2) (hall : ∀ t ∈ l, ∃ p q : Nat, t = ⟨p, q⟩ ∧ Turn p q ∧ laws_wHas.g N l (fmir (p, q)).1 (fmir (p, q)).2 = some true) : ∀ (j i f : Nat), i + j = l.length → j < f →
    laws_FnDialsTurned.l14 N f l seven nine l l.length i x1 x2 x3 x4 x5 x6 x7 x8 x9 x10 x11 x12 x13 x14 x15 x16 x17 x18 = some true
  | 0, i, f+1, hi, hf => by
    unfold laws_FnDialsTurned.l14 laws_FnDialsTurned.d14 laws_FnDialsTurned.o14
    rw [dcF (by omega), cond_false]
    exact fin
  | j+1, i, f+1, hi, hf => by
    have hlt : i < l.length := by omega
    have ih := law_14 hN seven nine x1 x2 x3 x4 x5 x6 x7 x8 x9 x10 x11 x12 x13 x14 x15 x16 x17 x18 fin l hl hall j (i + 1) f (by omega) (by omega)
    obtain ⟨p, q, e, T, hh⟩ := hall l[i] (List.getElem_mem hlt)
    unfold laws_FnDialsTurned.l14 laws_FnDialsTurned.d14 laws_FnDialsTurned.o14
    rw [dcT (show (i : Int) < (l.length : Int) by omega), cond_true, dcT (show (0 : Int) ≤ (i : Int) by omega), cond_true, cond_true, Int.toNat_natCast, getAt hlt, e]
    dsimp only
    rw [MirrorTurn_eq hN T, Option.bind_some]
    dsimp only
    rw [Bool.not_true, cond_false, hh, Option.bind_some, Bool.not_true]
    unfold laws_FnDialsTurned.d17 laws_FnDialsTurned.o17
    rw [cond_false, w1add (by omega)]
    exact ih
  | _, _, 0, _, hf => by omega
theorem ord2_len {a b c d : Nat} (h1 : Turn a b) (h2 : Turn c d) : (ord2 a b c d).length = (ord2 c d a b).length ∧ (ord2 a b c d).length ≤ 2 := by
  obtain ⟨_, _, _, o⟩ := ord2_ok (n := 0) h1 h2
  obtain ⟨_, _, _, o'⟩ := ord2_ok (n := 0) h2 h1
  rcases o with ⟨e, hl⟩ | ⟨e, hl⟩ <;> rcases o' with ⟨e', hl'⟩ | ⟨e', hl'⟩
  · omega
  · exact absurd e.symm e'
  · exact absurd e'.symm e
  · omega
theorem ord2_mem {a b c d : Nat} {t : S25} (h : t ∈ ord2 a b c d) : t = ⟨a, b⟩ ∨ t = ⟨c, d⟩ := by
  unfold ord2 at h
  split at h
  · simpa using h
  · split at h
    · simp only [List.mem_cons, List.not_mem_nil, or_false] at h
      exact h.symm
    · simp only [List.mem_cons, List.not_mem_nil, or_false] at h
      exact .inl h
theorem law_11 {N : Nat} (hN : 10000000 ≤ N) (seven nine : Bool) (x1 x2 x3 x4 x5 x6 x7 x8 x9 x10 x11 x12 x13 x14 x15 x16 x17 x18 : Int) (fin : laws_FnDialsTurned.d12 N seven nine x1 x2 x3 x4 x5 x6 x7 x8 x9 x10 x11 x12 x13 x14 x15 x16 x17 x18 = some true) (l : List S25) (hl : l.length ≤ 2) (hall : ∀ t ∈ l, ∃ p q : Nat, t = ⟨p, q⟩ ∧ Turn p q ∧ laws_wHas.g N l (fmir (p, q)).1 (fmir (p, q)).2 = some true) : laws_FnDialsTurned.d11 N l seven nine false x1 x2 x3 x4 x5 x6 x7 x8 x9 x10 x11 x12 x13 x14 x15 x16 x17 x18 = some true := by
  unfold laws_FnDialsTurned.d11 laws_FnDialsTurned.o11
  rw [cond_false]
  exact law_14 hN seven nine x1 x2 x3 x4 x5 x6 x7 x8 x9 x10 x11 x12 x13 x14 x15 x16 x17 x18 fin l hl hall l.length 0 N (by omega) (by omega)
theorem law_9 {N : Nat} (hN : 10000000 ≤ N) (seven nine : Bool) (x1 x2 x3 x4 x5 x6 x7 x8 x9 x10 x11 x12 x13 x14 x15 x16 x17 x18 : Int) (fin : laws_FnDialsTurned.d12 N seven nine x1 x2 x3 x4 x5 x6 x7 x8 x9 x10 x11 x12 x13 x14 x15 x16 x17 x18 = some true) (k a b c d : Int) :
    laws_FnDialsTurned.d9 N k (tG k a b c d).1 (tG k a b c d).2 seven nine a b c d x1 x2 x3 x4 x5 x6 x7 x8 x9 x10 x11 x12 x13 x14 x15 x16 x17 x18 = some true := by
  unfold laws_FnDialsTurned.d9 laws_FnDialsTurned.o9
  cases hs : seenB k a b c d with
  | false =>
    have : tG k a b c d = ([], false) := by unfold tG; rw [hs]; rfl
    rw [this]
    exact fin
  | true =>
    obtain ⟨h, x, y, z, u, rfl, rfl, rfl, rfl, rfl, H⟩ := seenB_iff.1 hs
    have H' : Seen h (fmir (x, y)).1 (fmir (x, y)).2 (fmir (z, u)).1 (fmir (z, u)).2 := ⟨H.k1, H.k2, mirT H.s, mirT H.l⟩
    rw [tG_N H]
    dsimp only
    rw [cond_true, (MirrorSeen_eq hN _ _ _ _).1, mS_T H.s H.l, Option.bind_some]
    dsimp only
    rw [glass_impl hN, tG_N H', mir_true H.s H.l, Option.bind_some]
    dsimp only
    rw [Bool.not_true, cond_false, cond_false]
    obtain ⟨M, rfl⟩ : ∃ M, N = M + 2 := ⟨N - 2, by omega⟩
    unfold gl
    rw [fmir2 H.s]
    cases trueB h x y z u with
    | false =>
      rw [cond_false, cond_false]
      have fin' := law_11 hN seven nine x1 x2 x3 x4 x5 x6 x7 x8 x9 x10 x11 x12 x13 x14 x15 x16 x17 x18 fin [] (by simp) (by simp)
      have hr : laws_wRises.g (M + 2) [] = some true := rfl
      rw [bne_self_eq_false, cond_false, dcF (by simp), cond_false, hr, Option.bind_some, Bool.not_true]
      exact fin'
    | true =>
      rw [cond_true, cond_true]
      obtain ⟨o1, o2, o3, _⟩ := ord2_ok (n := M) H.s (mirT H.s)
      obtain ⟨l1, l2⟩ := ord2_len H.s (mirT H.s)
      have fin' := law_11 hN seven nine x1 x2 x3 x4 x5 x6 x7 x8 x9 x10 x11 x12 x13 x14 x15 x16 x17 x18 fin (ord2 x y (fmir (x, y)).1 (fmir (x, y)).2) l2 (by
        intro t ht
        rcases ord2_mem ht with rfl | rfl
        · exact ⟨x, y, rfl, H.s, o2⟩
        · refine ⟨_, _, rfl, mirT H.s, ?_⟩
          rw [fmir2 H.s]; exact o1)
      rw [← l1, bne_self_eq_false, cond_false, dcF (by omega), cond_false, o3, Option.bind_some, Bool.not_true]
      exact fin'
theorem law_10 {N : Nat} (hN : 100000000000000 < N) (kk : Int) (gls : List S25) (five seven nine : Bool) (q1 q2 q3 q4 x1 x2 x3 x4 x5 x6 x7 x8 x9 x10 x11 x12 x13 x14 x15 x16 x17 x18 : Int) (fin : laws_FnDialsTurned.d9 N kk gls five seven nine q1 q2 q3 q4 x1 x2 x3 x4 x5 x6 x7 x8 x9 x10 x11 x12 x13 x14 x15 x16 x17 x18 = some true) {m n d : Nat} (h1 : 1 ≤ m) (h2 : m + 1 ≤ 24) (T : Turn n d) (hok : (List.range' 0 m).all (okR n d m) = true) : ∀ (j i f : Nat), i + j = m → j < f →
    laws_FnDialsTurned.l10 N f ((m + 1 : Nat) : Int) kk gls five seven nine (rts n d m 0 m) m i n d q1 q2 q3 q4 x1 x2 x3 x4 x5 x6 x7 x8 x9 x10 x11 x12 x13 x14 x15 x16 x17 x18 = some true
  | 0, i, f+1, hi, hf => by
    unfold laws_FnDialsTurned.l10 laws_FnDialsTurned.d10 laws_FnDialsTurned.o10
    rw [dcF (by omega), cond_false]
    exact fin
  | j+1, i, f+1, hi, hf => by
    have hlt : i < (rts n d m 0 m).length := by rw [rts_len]; omega
    have ih := law_10 hN kk gls five seven nine q1 q2 q3 q4 x1 x2 x3 x4 x5 x6 x7 x8 x9 x10 x11 x12 x13 x14 x15 x16 x17 x18 fin h1 h2 T hok j (i + 1) f (by omega) (by omega)
    have hg : (rts n d m 0 m)[i] = sT (pr (n + i * d) (d * m)) := by rw [rts_get, Nat.zero_add]; rfl
    have hR : Turn (pr (n + i * d) (d * m)).1 (pr (n + i * d) (d * m)).2 := by
      have := of_decide_eq_true (List.all_eq_true.1 hok i (by simp; omega))
      have hs := pr_spec (n := n + i * d) (Nat.mul_pos T.p h1)
      exact ⟨hs.1, this, hs.2.2.1⟩
    have hA := fmul_root (m := m) (i := i) h1 T.low
    unfold laws_FnDialsTurned.l10 laws_FnDialsTurned.d10 laws_FnDialsTurned.o10
    rw [dcT (by omega), cond_true, dcT (by omega), cond_true, dcT (by omega), cond_true, Int.toNat_natCast, getAt hlt, hg]
    dsimp only [sT]
    rw [Angle_eq (by omega) (by omega) h2 hR, Option.bind_some]
    dsimp only
    rw [show fmul m ((pr (n + i * d) (d * m)).1, (pr (n + i * d) (d * m)).2) = (n, d) from hA, Bool.not_true, cond_false]
    simp only [beq_self_eq_true, Bool.and_self, Bool.not_true]
    unfold laws_FnDialsTurned.d13 laws_FnDialsTurned.o13
    rw [cond_false, w1add (by omega)]
    exact ih
  | _, _, 0, _, hf => by omega
theorem tW_T {m n d : Nat} (h1 : 2 ≤ m + 1) (h2 : m + 1 ≤ 24) (T : Turn n d) : tW ((m + 1 : Nat) : Int) n d = timesL n d m := by
  unfold tW
  rw [timeB_iff.2 ⟨m + 1, n, d, rfl, h1, h2, rfl, rfl, T⟩, if_pos rfl]
  simp only [Int.toNat_natCast, Nat.add_sub_cancel]
theorem law_7 {N : Nat} (hN : 100000000000000 < N) (kk : Int) (gls : List S25) (five seven nine : Bool) (q1 q2 q3 q4 x1 x2 x3 x4 x5 x6 x7 x8 x9 x10 x11 x12 x13 x14 x15 x16 x17 x18 : Int) (fin : laws_FnDialsTurned.d9 N kk gls five seven nine q1 q2 q3 q4 x1 x2 x3 x4 x5 x6 x7 x8 x9 x10 x11 x12 x13 x14 x15 x16 x17 x18 = some true) (g n d : Int) :
    laws_FnDialsTurned.d7 N g (tW g n d).1 (tW g n d).2 kk gls five seven nine false n d q1 q2 q3 q4 x1 x2 x3 x4 x5 x6 x7 x8 x9 x10 x11 x12 x13 x14 x15 x16 x17 x18 = some true := by
  unfold laws_FnDialsTurned.d7 laws_FnDialsTurned.o7
  rw [cond_false]
  cases ht : timeB g n d with
  | false =>
    have : tW g n d = ([], false) := by unfold tW; rw [ht]; rfl
    rw [this]
    exact fin
  | true =>
    obtain ⟨k, a, b, rfl, h1, h2, rfl, rfl, T⟩ := timeB_iff.1 ht
    obtain ⟨m, rfl⟩ : ∃ m, k = m + 1 := ⟨k - 1, by omega⟩
    rw [tW_T h1 h2 T]
    unfold timesL
    cases hok : (List.range' 0 m).all (okR a b m) with
    | false => exact fin
    | true =>
      have l10 := law_10 hN kk gls five seven nine q1 q2 q3 q4 x1 x2 x3 x4 x5 x6 x7 x8 x9 x10 x11 x12 x13 x14 x15 x16 x17 x18 fin (by omega) h2 T hok m 0 N (by omega) (by omega)
      rw [if_pos rfl]
      dsimp only
      rw [cond_true, rts_len, show w64 (((m + 1 : Nat) : Int) - 1) = (m : Int) by rw [w64s (by omega) (by omega)]; omega, bne_self_eq_false, cond_false, rises_eq (by omega) T.lt (by omega) (by omega) hok, Option.bind_some, Bool.not_true]
      unfold laws_FnDialsTurned.d8 laws_FnDialsTurned.o8
      rw [cond_false, rts_len]
      exact l10
theorem tW_len (g n d : Int) (h : (tW g n d).2 = true) : (tW g n d).1.length ≤ 24 := by
  cases ht : timeB g n d with
  | false => unfold tW at h; rw [ht] at h; cases h
  | true =>
    obtain ⟨k, a, b, rfl, h1, h2, rfl, rfl, T⟩ := timeB_iff.1 ht
    obtain ⟨m, rfl⟩ : ∃ m, k = m + 1 := ⟨k - 1, by omega⟩
    rw [tW_T h1 h2 T]
    unfold timesL
    split
    · dsimp only; rw [rts_len]; omega
    · simp
end Go.Proofs.YtehbhinaopdkeaaGreat.M

namespace Go.Proofs.YtehbhinaopdkeaaGreat.M
open Go Go.PM Go.Proofs.YtehbhinaopdkeaaGreat.P
set_option linter.unusedVariables false
set_option linter.unusedSimpArgs false
set_option maxRecDepth 100000
/-! ### FnDialsTurned -/
theorem mS_ok (a b c d : Int) : (mS a b c d).2.2.2.2 = goodB a b c d := by
  unfold mS
  cases goodB a b c d <;> rfl
theorem tG_len (k a b c d : Int) : (tG k a b c d).1.length ≤ 2 := by
  cases hs : seenB k a b c d with
  | false => unfold tG; rw [hs]; simp
  | true =>
    obtain ⟨h, x, y, z, u, rfl, rfl, rfl, rfl, rfl, H⟩ := seenB_iff.1 hs
    rw [tG_N H]
    unfold gl
    cases trueB h x y z u with
    | false => simp
    | true => exact (ord2_len H.s (mirT H.s)).2
theorem tW_len2 (g n d : Int) : (tW g n d).1.length ≤ 24 := by
  cases h : (tW g n d).2 with
  | true => exact tW_len g n d h
  | false =>
    unfold tW timesL at h ⊢
    split at h
    · split at h
      · cases h
      · rename_i h1 h2; rw [if_pos h1, if_neg h2]; simp
    · rename_i h1; rw [if_neg h1]; simp
theorem law_4 {N : Nat} (hN : 100000000000000 < N) {code : List Int} (hc : Bs code) : laws_FnDialsTurned.d4 N code = some true := by
  obtain ⟨⟨g, n, d⟩, e1, _⟩ := drawWith (N := N) (by omega) hc
  obtain ⟨⟨k, a, b, c, f⟩, e2, _⟩ := drawGlass (N := N) (by omega) hc
  obtain ⟨⟨m1, m2, m3, m4⟩, e3, _⟩ := drawMir (N := N) (by omega) hc
  obtain ⟨⟨r1, r2, r3, r4, y1, y2⟩, e4, _⟩ := drawTS (N := N) (by omega) hc
  have f16 := law_16 (N := N) (by omega) r1 r2 r3 r4 y1 y2
  have f12 := law_12 (N := N) (by omega) _ _ _ _ _ _ _ _ _ _ _ f16 m1 m2 m3 m4
  have f9 := law_9 (N := N) (by omega) _ _ _ _ _ _ _ _ _ _ _ _ _ _ _ _ _ _ _ _ f12 k a b c f
  have f7 := law_7 (N := N) (by omega) _ _ _ _ _ _ _ _ _ _ _ _ _ _ _ _ _ _ _ _ _ _ _ _ _ _ _ f9 g n d
  have l1 := tG_len k a b c f
  have l2 := tW_len2 g n d
  obtain ⟨M, rfl⟩ : ∃ M, N = M + 3 := ⟨N - 3, by omega⟩
  unfold laws_FnDialsTurned.d4 laws_FnDialsTurned.o4
  rw [e1, Option.bind_some]
  dsimp only
  rw [(With_eq (by omega) _ _ _).1, Option.bind_some, (With_eq (by omega) _ _ _).2, Option.bind_some, e2, Option.bind_some]
  dsimp only
  rw [glass_impl (by omega), Option.bind_some, glass_spec (by omega), Option.bind_some, e3, Option.bind_some]
  dsimp only
  rw [(MirrorSeen_eq (by omega) _ _ _ _).1, Option.bind_some, (MirrorSeen_eq (by omega) _ _ _ _).2, Option.bind_some, e4, Option.bind_some]
  dsimp only
  rw [(TurnSeen_eq (by omega) _ _ _ _ _ _).1, Option.bind_some, (TurnSeen_eq (by omega) _ _ _ _ _ _).2, Option.bind_some, wTurns_self _ (by omega) (by omega), wTurns_self _ (by omega) (by omega), IsSeen_eq (by omega)]
  simp only [beq_self_eq_true, Bool.and_self, Bool.not_true, cond_false, Option.bind_some, ← mS_ok m1 m2 m3 m4]
  exact f7
theorem has_l {N : Nat} (l : List S25) (hl : l.length ≤ 1000) (x : S25) : ∀ (j i f : Nat), i + j = l.length → j < f → x ∈ l.drop i → laws_wHas.l1 N f l l.length i x.f0 x.f1 = some true
  | 0, i, f+1, hi, hf, hm => by
    rw [List.drop_eq_nil_of_le (by omega)] at hm
    cases hm
  | j+1, i, f+1, hi, hf, hm => by
    have hlt : i < l.length := by omega
    rw [List.drop_eq_getElem_cons hlt] at hm
    unfold laws_wHas.l1 laws_wHas.d1 laws_wHas.o1
    rw [dcT (show (i : Int) < (l.length : Int) by omega), cond_true, dcT (show (0 : Int) ≤ (i : Int) by omega), cond_true, cond_true, Int.toNat_natCast, getAt hlt]
    cases hq : (l[i].f0 == x.f0 && (l[i].f1 == x.f1 && true)) with
    | true => rfl
    | false =>
      rcases List.mem_cons.1 hm with rfl | hm'
      · simp at hq
      · rw [cond_false, w1add (by omega)]
        exact has_l l hl x j (i + 1) f (by omega) (by omega) hm'
  | _, _, 0, _, hf, _ => by omega
theorem has_mem {N : Nat} {l : List S25} (hl : l.length ≤ 1000) (hN : l.length < N) {x : S25} (h : x ∈ l) : laws_wHas.g N l x.f0 x.f1 = some true :=
  has_l l hl x l.length 0 N (by omega) hN h
theorem law_6 {N : Nat} {code : List Int} (fin : laws_FnDialsTurned.d4 N code = some true) : laws_FnDialsTurned.d6 N code false = some true := by
  unfold laws_FnDialsTurned.d6 laws_FnDialsTurned.o6
  exact fin
theorem law_3 {N : Nat} (hN : 1000000000000 < N) {code : List Int} (fin : laws_FnDialsTurned.d4 N code = some true) {m a b c d : Nat} (h1 : 1 ≤ m) (h2 : m + 1 ≤ 24) (hS : Turn a b) (hL : Turn c d) (l : List (Nat × Nat)) (hl : l.length ≤ 24)
    (hall : ∀ t ∈ l, Turn t.1 t.2 ∧ (fsub (a, b) t).2 ≤ 1000000 ∧ fadd (fmul (m + 1) t) (fsub (a, b) t) = (c, d)) (hhas : trueB ((m + 1 : Nat) : Int) a b c d = true → laws_wHas.g N (l.map sT) a b = some true) : ∀ (j i f : Nat), i + j = l.length → j < f →
    laws_FnDialsTurned.l3 N f code ((m + 1 : Nat) : Int) (l.map sT) (tS (a, b) l) (l.map sT) l.length i a b c d = some true
  | 0, i, f+1, hi, hf => by
    unfold laws_FnDialsTurned.l3 laws_FnDialsTurned.d3 laws_FnDialsTurned.o3
    rw [dcF (by omega), cond_false, IsTrueSeen_eq (by omega), Option.bind_some]
    unfold iTS
    rw [seenB_of ⟨by omega, h2, hS, hL⟩, if_pos rfl]
    dsimp only
    rw [Bool.not_true, cond_false]
    cases hq : trueB ((m + 1 : Nat) : Int) a b c d with
    | false => exact law_6 fin
    | true =>
      rw [cond_true, hhas hq, Option.bind_some, Bool.not_true]
      exact law_6 fin
  | j+1, i, f+1, hi, hf => by
    have hlt : i < l.length := by omega
    have ih := law_3 hN fin h1 h2 hS hL l hl hall hhas j (i + 1) f (by omega) (by omega)
    obtain ⟨T, ok, eq⟩ := hall l[i] (List.getElem_mem hlt)
    have hm : i < (l.map sT).length := by rw [List.length_map]; exact hlt
    have hm2 : i < (tS (a, b) l).length := by unfold tS; rw [List.length_map]; exact hlt
    have e : (l.map sT)[i] = sT l[i] := List.getElem_map ..
    have e2 : (tS (a, b) l)[i] = sT (fsub (a, b) l[i]) := by unfold tS; exact List.getElem_map ..
    unfold laws_FnDialsTurned.l3 laws_FnDialsTurned.d3 laws_FnDialsTurned.o3
    rw [dcT (show (i : Int) < (l.length : Int) by omega), cond_true, dcT (show (0 : Int) ≤ (i : Int) by omega), cond_true, dcT (show (i : Int) < ((l.map sT).length : Int) by omega), cond_true, Int.toNat_natCast, getAt hm, e]
    have g2 : (tS (a, b) l)[i]? = some (sT (fsub (a, b) l[i])) := by rw [List.getElem?_eq_getElem hm2, e2]
    clear e2
    generalize l[i] = t at *
    obtain ⟨x, y⟩ := t
    have T3 : Turn (fsub (a, b) (x, y)).1 (fsub (a, b) (x, y)).2 := by
      have hs := pr_spec (n := a * y + (b * y - x * b)) (Nat.mul_pos hS.p T.p)
      exact ⟨hs.1, ok, hs.2.2.1⟩
    dsimp only [sT] at T ⊢
    have f1 : fadd (x, y) ((fsub (a, b) (x, y)).1, (fsub (a, b) (x, y)).2) = (a, b) := fadd_fsub hS.low T.low
    have f2 : fadd ((pr (x * (m + 1)) y).1, (pr (x * (m + 1)) y).2) ((fsub (a, b) (x, y)).1, (fsub (a, b) (x, y)).2) = (c, d) := eq
    rw [SeenOf_eq (by omega)]
    unfold sO
    rw [timeB_iff.2 ⟨m + 1, x, y, rfl, by omega, h2, rfl, rfl, T⟩, if_pos rfl, longN, Option.bind_some, cond_true, dcT (show (i : Int) < ((tS (a, b) l).length : Int) by omega), cond_true, g2, Option.bind_some]
    dsimp only [sT]
    rw [(TurnSeen_eq hN _ _ _ _ _ _).1, uS_T T (longT T) T3, f1, f2, sum6_ok hS.le hL.le, Option.bind_some]
    simp only [beq_self_eq_true, Bool.and_self, Bool.not_true, cond_true, cond_false]
    unfold laws_FnDialsTurned.d5 laws_FnDialsTurned.o5
    rw [cond_false, w1add (by omega)]
    exact ih
  | _, _, 0, _, hf => by omega
theorem law_1 {N : Nat} {code : List Int} (fin : laws_FnDialsTurned.d4 N code = some true) (h a b c d : Int) (l : List S25) : laws_FnDialsTurned.d1 N code h [] false l false false a b c d = some true := by
  unfold laws_FnDialsTurned.d1 laws_FnDialsTurned.o1 laws_FnDialsTurned.d2 laws_FnDialsTurned.o2
  exact fin
theorem tT_F {h a b c d : Int} (hs : seenB h a b c d = false) : tT h a b c d = ([], false) ∧ tD h a b c d = ([], false) := by
  unfold tT tD
  rw [hs]
  exact ⟨rfl, rfl⟩
theorem law_0 {N : Nat} (hN : 100000000000000 < N) {z s : List Int} (hc : Bs s) {h a b c d : Int} (hb : laws_big.g N z s = some false) (hd : spec_DrawTimesTurned.g N z = some (h, a, b, c, d)) : laws_FnDialsTurned.g N z s = some true := by
  have fin := law_4 hN hc
  have w0 : laws_wTurns.g N [] [] = some true := wTurns_self [] (by simp) (by simp; omega)
  unfold laws_FnDialsTurned.g laws_FnDialsTurned.o0
  rw [hb, Option.bind_some, cond_false, hd, Option.bind_some]
  dsimp only
  rw [(Turned_eq hN _ _ _ _ _).1, Option.bind_some, (Turned_eq hN _ _ _ _ _).2, Option.bind_some, (Dial_eq hN _ _ _ _ _).1, Option.bind_some, (Dial_eq hN _ _ _ _ _).2, Option.bind_some]
  cases hs : seenB h a b c d with
  | false =>
    rw [(tT_F hs).1, (tT_F hs).2]
    simp only [beq_self_eq_true, Bool.not_true, cond_false, w0, Option.bind_some]
    exact law_1 fin ..
  | true =>
    obtain ⟨k, x, y, z', u, rfl, rfl, rfl, rfl, rfl, H⟩ := seenB_iff.1 hs
    have h1 := H.k1; have h2 := H.k2
    obtain ⟨m, rfl⟩ : ∃ m, k = m + 1 := ⟨k - 1, by omega⟩
    obtain ⟨q1, q2, q3⟩ := fsub_b H.l H.s
    unfold tT tD
    rw [hs, apN_n]
    simp only [if_true, Bool.true_and, Int.toNat_natCast, Nat.add_sub_cancel]
    unfold timesL
    cases hok : (List.range' 0 m).all (okR (fsub (z', u) (x, y)).1 (fsub (z', u) (x, y)).2 m) with
    | false =>
      simp only [Bool.false_eq_true, if_false, beq_self_eq_true, Bool.not_true, cond_false, w0, Option.bind_some]
      exact law_1 fin ..
    | true =>
      have hp : 0 < (fsub (z', u) (x, y)).2 * m := Nat.mul_pos (by omega) (by omega)
      have hl := rl_turn hp hok
      have hlen := rl_len (fsub (z', u) (x, y)).1 (fsub (z', u) (x, y)).2 m m 0
      have hlen2 := rts_len (fsub (z', u) (x, y)).1 (fsub (z', u) (x, y)).2 m 0 m
      have hr := rises_eq (N := N) (by omega) q3 (by omega) (by omega) hok
      have w1 := wTurns_self (N := N) (rts (fsub (z', u) (x, y)).1 (fsub (z', u) (x, y)).2 m 0 m) (by omega) (by omega)
      have hw : w64 (((m + 1 : Nat) : Int) - 1) = (m : Int) := by rw [w64s (by omega) (by omega)]; omega
      simp only [if_true, beq_self_eq_true, Bool.not_true, cond_false, w1, Option.bind_some]
      cases hS : (rl (fsub (z', u) (x, y)).1 (fsub (z', u) (x, y)).2 m m 0).all (okS (x, y)) with
      | false =>
        simp only [Bool.false_eq_true, if_false, beq_self_eq_true, Bool.not_true, cond_false, w0, Option.bind_some]
        unfold laws_FnDialsTurned.d1 laws_FnDialsTurned.o1
        rw [cond_false, cond_true, hlen2, hw, bne_self_eq_false, cond_false, hr, Option.bind_some, Bool.not_true]
        unfold laws_FnDialsTurned.d2 laws_FnDialsTurned.o2
        exact fin
      | true =>
        have lS : (tS (x, y) (rl (fsub (z', u) (x, y)).1 (fsub (z', u) (x, y)).2 m m 0)).length = m := by unfold tS; rw [List.length_map, hlen]
        have w2 := wTurns_self (N := N) (tS (x, y) (rl (fsub (z', u) (x, y)).1 (fsub (z', u) (x, y)).2 m m 0)) (by omega) (by omega)
        simp only [if_true, beq_self_eq_true, Bool.not_true, cond_false, cond_true, w2, Option.bind_some]
        have l3 := law_3 (N := N) (by omega) fin (show 1 ≤ m by omega) h2 H.s H.l (rl (fsub (z', u) (x, y)).1 (fsub (z', u) (x, y)).2 m m 0) (by omega) (by
          intro t ht
          refine ⟨hl t ht, of_decide_eq_true (List.all_eq_true.1 hS t ht), ?_⟩
          unfold rl at ht
          obtain ⟨i, _, rfl⟩ := List.mem_map.1 ht
          exact turned_long (m := m) (i := i) (by omega) H.s.low H.l.low rfl) (by
          intro hq
          have hq' : fmul (m + 1) (x, y) = (z', u) := trueN.1 hq
          obtain ⟨i, hi, he⟩ := root_self (m := m) (by omega) H.s.low
          have hmem : sT (x, y) ∈ (rl (fsub (z', u) (x, y)).1 (fsub (z', u) (x, y)).2 m m 0).map sT := by
            refine List.mem_map_of_mem ?_
            unfold rl
            refine List.mem_map.2 ⟨i, by simp; omega, ?_⟩
            rw [← hq', fsub_long H.s.low]
            exact he
          exact has_mem (by rw [List.length_map]; omega) (by rw [List.length_map]; omega) hmem) m 0 N (by omega) (by omega)
        unfold laws_FnDialsTurned.d1 laws_FnDialsTurned.o1
        rw [cond_false, cond_true, hlen2, hw, bne_self_eq_false, cond_false, hr, Option.bind_some, Bool.not_true]
        unfold laws_FnDialsTurned.d2 laws_FnDialsTurned.o2
        show laws_FnDialsTurned.l3 N N s ((m + 1 : Nat) : Int) (rts (fsub (z', u) (x, y)).1 (fsub (z', u) (x, y)).2 m 0 m) (tS (x, y) (rl (fsub (z', u) (x, y)).1 (fsub (z', u) (x, y)).2 m m 0)) (rts (fsub (z', u) (x, y)).1 (fsub (z', u) (x, y)).2 m 0 m) ((rts (fsub (z', u) (x, y)).1 (fsub (z', u) (x, y)).2 m 0 m).length : Int) 0 x y z' u = some true
        rw [hlen2, rts_map]
        rw [hlen] at l3
        exact l3
theorem FnDialsTurned.pure : FnDialsTurned.Pure := by
  intro z s hz hs
  refine ⟨200000000000000, ?_⟩
  have big : laws_big.g 200000000000000 z s = some (decide ((z.length : Int) > 1048576 ∨ (s.length : Int) > 1048576 - (z.length : Int))) := by
    unfold laws_big.g laws_big.o0
    by_cases c : (z.length : Int) > 1048576
    · rw [dcT c, dcT (Or.inl c : (z.length : Int) > 1048576 ∨ (s.length : Int) > 1048576 - (z.length : Int))]; rfl
    · rw [dcF c, w64s (by omega) (by omega), cond_false]
      congr 1
      apply decide_eq_decide.2
      constructor
      · exact .inr
      · intro h; exact h.resolve_left c
  by_cases c : (z.length : Int) > 1048576 ∨ (s.length : Int) > 1048576 - (z.length : Int)
  · unfold laws_FnDialsTurned.g laws_FnDialsTurned.o0
    rw [big, dcT c]; rfl
  · rw [dcF c] at big
    have u8 : ∀ x : Int, (Lit.int .u8 x).wf = true → 0 ≤ x ∧ x ≤ 255 := fun x hx => by simpa [Lit.wf, IntKind.min, IntKind.max, IntKind.signed, IntKind.bits] using hx
    have hz' : Bs z := ⟨by omega, fun x hx => u8 x (hz.2.2 x hx)⟩
    have hs' : Bs s := ⟨by omega, fun x hx => u8 x (hs.2.2 x hx)⟩
    obtain ⟨⟨h, a, b, c, d⟩, ed, _⟩ := drawTurned (N := 200000000000000) (by omega) hz'
    exact law_0 (by omega) hs' big ed
end Go.Proofs.YtehbhinaopdkeaaGreat.M
