/- Marks that are laid into a list of numbers are found again; lists are equal to themselves. -/
import Derived.Test.YtjnmecjbhfinmaaLText
import Derived.Test.YtjnmecjbhfinmaaFLawsMarkIntS
import Derived.Test.YtjnmecjbhfinmaaFLawsHeldIntS
import Derived.Test.YtjnmecjbhfinmaaFLawsEqIntS
namespace Go.Proofs.Ytjnmecjbhfinmaa.P
open Go.RowKit Go.Proofs.YtjnmecjbhfinmaaW.PrintWords Go.Proofs.YtjnmecjbhfinmaaW.PrintLast
set_option linter.unusedVariables false
set_option linter.unusedSimpArgs false

def marksI (n : Nat) : List Int := (List.range n).map fun i => (1 + (i : Nat) : Int)
theorem marksI_length (n : Nat) : (marksI n).length = n := by simp [marksI]
theorem marksI_succ (n : Nat) : marksI (n + 1) = marksI n ++ [(1 + (n : Nat) : Int)] := by simp [marksI, List.range_succ]
theorem markIntS_l (l : List Int) (hn : l.length ≤ 9223372036854775806) : ∀ (d i : Nat), i + d = l.length → ∀ k, d < k →
    laws_markIntS.l0 k (marksI i ++ l.drop i) (1 + (i : Nat) : Int) i = some ((1 + (l.length : Nat) : Int), marksI l.length) := by
  intro d
  induction d with
  | zero =>
    intro i hi k hk
    obtain ⟨k, rfl⟩ : ∃ m, k = m + 1 := ⟨k - 1, by omega⟩
    simp only [laws_markIntS.l0]
    have : i = l.length := by omega
    subst this
    rw [if_neg (by simp [marksI_length])]
    simp
  | succ d ih =>
    intro i hi k hk
    obtain ⟨k, rfl⟩ : ∃ m, k = m + 1 := ⟨k - 1, by omega⟩
    simp only [laws_markIntS.l0]
    rw [if_pos (by simp [marksI_length]; omega), if_pos (by omega), Int.toNat_natCast, set_midS _ _ i _ (marksI_length i) (by simp; omega), ← marksI_succ, List.drop_drop, wsm (n := 1 + (i : Int)) (by omega) (by omega) |> fun _ => wsm (n := 1 + (i : Int) + 1) (by omega) (by omega), wrap_succ (n := l.length) (by omega) (by omega)]
    have := ih (i + 1) (by omega) k (by omega)
    rw [show (1 + ((i + 1 : Nat) : Int)) = 1 + (i : Int) + 1 by omega] at this
    exact this
theorem markIntS_ev (l : List Int) (hn : l.length ≤ 9223372036854775806) : Ev (fun k => laws_markIntS.f k l 1) ((1 + (l.length : Nat) : Int), marksI l.length) :=
  ⟨l.length + 1, fun k hk => by
    have := markIntS_l l hn l.length 0 (by omega) k (by omega)
    simpa [laws_markIntS.f, marksI] using this⟩
theorem heldIntS_l (n : Nat) (hn : n ≤ 9223372036854775806) : ∀ (d i : Nat), i + d = n → ∀ k, d < k → laws_heldIntS.l0 k (marksI n) (1 + (i : Nat) : Int) i = some (1 + (n : Nat) : Int) := by
  intro d
  induction d with
  | zero =>
    intro i hi k hk
    obtain ⟨k, rfl⟩ : ∃ m, k = m + 1 := ⟨k - 1, by omega⟩
    have : i = n := by omega
    subst this
    simp only [laws_heldIntS.l0]
    rw [if_neg (by simp [marksI_length])]
  | succ d ih =>
    intro i hi k hk
    obtain ⟨k, rfl⟩ : ∃ m, k = m + 1 := ⟨k - 1, by omega⟩
    have hlt : i < (marksI n).length := by rw [marksI_length]; omega
    have hr : rd (marksI n) i = 1 + (i : Nat) := by rw [rdI _ _ hlt]; simp [marksI]
    simp only [laws_heldIntS.l0]
    rw [if_pos (by omega), if_pos (by omega), hr, if_pos rfl, wsm (n := 1 + (i : Int) + 1) (by omega) (by omega), wrap_succ (n := n) (by omega) (by omega)]
    have := ih (i + 1) (by omega) k (by omega)
    rw [show (1 + ((i + 1 : Nat) : Int)) = 1 + (i : Int) + 1 by omega] at this
    exact this
theorem heldIntS_ev (n : Nat) (hn : n ≤ 9223372036854775806) : Ev (fun k => laws_heldIntS.f k (marksI n) 1) (1 + (n : Nat) : Int) :=
  ⟨n + 1, fun k hk => by
    have := heldIntS_l n hn n 0 (by omega) k (by omega)
    simpa [laws_heldIntS.f] using this⟩
theorem eqIntS_l (l : List Int) (hn : l.length ≤ 9223372036854775807) : ∀ (d i : Nat), i + d = l.length → ∀ k, d < k → laws_eqIntS.l0 k l l i = some true := by
  intro d
  induction d with
  | zero =>
    intro i hi k hk
    obtain ⟨k, rfl⟩ : ∃ m, k = m + 1 := ⟨k - 1, by omega⟩
    simp only [laws_eqIntS.l0]
    rw [if_neg (by omega)]
  | succ d ih =>
    intro i hi k hk
    obtain ⟨k, rfl⟩ : ∃ m, k = m + 1 := ⟨k - 1, by omega⟩
    simp only [laws_eqIntS.l0]
    rw [if_pos (by omega), if_pos (by omega), if_pos (by omega), if_pos trivial, wrap_succ (n := l.length) (by omega) hn]
    exact ih (i + 1) (by omega) k (by omega)
theorem eqIntS_self (l : List Int) (hn : l.length ≤ 9223372036854775807) : Ev (fun k => laws_eqIntS.f k l l) true :=
  ⟨l.length + 1, fun k hk => by
    have := eqIntS_l l hn l.length 0 (by omega) k (by omega)
    simpa [laws_eqIntS.f] using this⟩

end Go.Proofs.Ytjnmecjbhfinmaa.P
