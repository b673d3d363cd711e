/- The program's and the reference's greatest common divisors are Lean's own, wherever sizes stay small. -/
import Derived.Test.YtjnmecjbhfinmaaDoorLNum
import Derived.Test.YtjnmecjbhfinmaaDoorFImplGcd
import Derived.Test.YtjnmecjbhfinmaaDoorFSpecDiCommon
namespace Go.Proofs.YtjnmecjbhfinmaaDoor.P
open Go.RowKit Go.Proofs.YtjnmecjbhfinmaaDoorW.PrintWords Go.Proofs.YtjnmecjbhfinmaaDoorW.PrintLast
set_option linter.unusedVariables false
set_option linter.unusedSimpArgs false

theorem gcd_step (x y : Int) : Int.gcd y (Int.tmod x y) = Int.gcd x y := by
  unfold Int.gcd
  rw [Int.natAbs_tmod, Nat.gcd_comm y.natAbs, ← Nat.gcd_rec, Nat.gcd_comm]
theorem gcd_k : ∀ (n : Nat) (x y : Int), y.natAbs ≤ n → -9223372036854775807 ≤ x → x ≤ 9223372036854775807 → -9223372036854775807 ≤ y → y ≤ 9223372036854775807 → ∀ k, n < k →
    impl_gcd.l0 k x y = some (Int.gcd x y : Int) := by
  intro n
  induction n with
  | zero =>
    intro x y hy h1 h2 h3 h4 k hk
    obtain ⟨k, rfl⟩ : ∃ m, k = m + 1 := ⟨k - 1, by omega⟩
    have : y = 0 := by omega
    subst this
    simp only [impl_gcd.l0, if_true, Int.gcd_zero_right]
    congr 1
    rw [wsm (by omega) (by omega)]
    unfold mx
    split <;> omega
  | succ n ih =>
    intro x y hy h1 h2 h3 h4 k hk
    obtain ⟨k, rfl⟩ : ∃ m, k = m + 1 := ⟨k - 1, by omega⟩
    by_cases h0 : y = 0
    · subst h0
      simp only [impl_gcd.l0, if_true, Int.gcd_zero_right]
      congr 1
      rw [wsm (by omega) (by omega)]
      unfold mx
      split <;> omega
    · simp only [impl_gcd.l0, if_neg h0]
      have hlt : (Int.tmod x y).natAbs < y.natAbs := by rw [Int.natAbs_tmod]; exact Nat.mod_lt _ (by omega)
      rw [ih y (Int.tmod x y) (by omega) h3 h4 (by omega) (by omega) k (by omega), gcd_step]
theorem gcd_ev {x y : Int} (h1 : -9223372036854775807 ≤ x) (h2 : x ≤ 9223372036854775807) (h3 : -9223372036854775807 ≤ y) (h4 : y ≤ 9223372036854775807) : Ev (fun k => impl_gcd.f k x y) (Int.gcd x y : Int) :=
  ⟨y.natAbs + 1, fun k hk => gcd_k _ x y (Nat.le_refl _) h1 h2 h3 h4 k (by omega)⟩
theorem common_k : ∀ (n : Nat) (x y : Int), y.natAbs ≤ n → 0 ≤ x → 0 ≤ y → ∀ k, n < k → spec_diCommon.l0 k x y = some (Int.gcd x y : Int) := by
  intro n
  induction n with
  | zero =>
    intro x y hy h1 h2 k hk
    obtain ⟨k, rfl⟩ : ∃ m, k = m + 1 := ⟨k - 1, by omega⟩
    have : y = 0 := by omega
    subst this
    simp only [spec_diCommon.l0, Int.gcd_zero_right]
    rw [if_neg (by omega)]
    congr 1
    omega
  | succ n ih =>
    intro x y hy h1 h2 k hk
    obtain ⟨k, rfl⟩ : ∃ m, k = m + 1 := ⟨k - 1, by omega⟩
    by_cases h0 : y = 0
    · subst h0
      simp only [spec_diCommon.l0, Int.gcd_zero_right]
      rw [if_neg (by omega)]
      congr 1
      omega
    · simp only [spec_diCommon.l0]
      rw [if_pos (by omega), if_neg h0]
      have hlt : (Int.tmod x y).natAbs < y.natAbs := by rw [Int.natAbs_tmod]; exact Nat.mod_lt _ (by omega)
      have hnn : 0 ≤ Int.tmod x y := Int.tmod_nonneg _ h1
      rw [ih y (Int.tmod x y) (by omega) h2 hnn k (by omega), gcd_step]
theorem common_ev {x y : Int} (h1 : 0 ≤ x) (h2 : 0 ≤ y) : Ev (fun k => spec_diCommon.f k x y) (Int.gcd x y : Int) :=
  ⟨y.natAbs + 1, fun k hk => common_k _ x y (Nat.le_refl _) h1 h2 k (by omega)⟩

end Go.Proofs.YtjnmecjbhfinmaaDoor.P
