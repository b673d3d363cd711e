/- Marks that are laid into puzzles are found again. -/
import Derived.Test.YtpeleommbipeaaaLPuzzle0
import Derived.Test.YtpeleommbipeaaaFLawsMarkPuzzle
import Derived.Test.YtpeleommbipeaaaFLawsHeldPuzzle
namespace Go.Proofs.Ytpeleommbipeaaa.P
open Go.RowKit Go.Proofs.YtpeleommbipeaaaW.PrintWords Go.Proofs.YtpeleommbipeaaaW.PrintLast
set_option linter.unusedVariables false
set_option linter.unusedSimpArgs false

theorem set_mid {α : Type} (a : List α) (b : List α) (i : Nat) (v : α) (ha : a.length = i) (hb : 0 < b.length) : (a ++ b).set i v = (a ++ [v]) ++ b.drop 1 := by
  subst ha
  cases b with
  | nil => simp at hb
  | cons x b => simp
def marksC (n : Nat) : List IClue := (List.range n).map fun i => ⟨1 + 3 * (i : Nat), 2 + 3 * (i : Nat), 3 + 3 * (i : Nat)⟩
theorem marksC_length (n : Nat) : (marksC n).length = n := by simp [marksC]
theorem marksC_succ (n : Nat) : marksC (n + 1) = marksC n ++ [⟨1 + 3 * (n : Nat), 2 + 3 * (n : Nat), 3 + 3 * (n : Nat)⟩] := by simp [marksC, List.range_succ]
theorem rd_set (l : List IClue) (i : Nat) (v : IClue) (h : i < l.length) : rd_T38 (l.set i v) i = v := by
  rw [rd_get _ _ (by simpa using h)]
  simp
theorem markClueS_l (l : List IClue) (hn : l.length ≤ 3000000000000000000) : ∀ (d i : Nat), i + d = l.length → ∀ k, d < k →
    laws_markClueS.l0 k (marksC i ++ l.drop i) (1 + 3 * (i : Nat) : Int) i = some ((1 + 3 * (l.length : Nat) : Int), marksC l.length) := by
  intro d
  induction d with
  | zero =>
    intro i hi k hk
    obtain ⟨k, rfl⟩ : ∃ m, k = m + 1 := ⟨k - 1, by omega⟩
    simp only [laws_markClueS.l0]
    have : i = l.length := by omega
    subst this
    rw [if_neg (by simp [marksC_length])]
    simp
  | succ d ih =>
    intro i hi k hk
    obtain ⟨k, rfl⟩ : ∃ m, k = m + 1 := ⟨k - 1, by omega⟩
    have hlen : i < (marksC i ++ l.drop i).length := by simp [marksC_length]; omega
    simp only [laws_markClueS.l0]
    rw [if_pos (by omega), if_pos (by omega)]
    simp only [Option.bind_some, Int.toNat_natCast]
    rw [rd_set _ _ _ hlen, rd_set _ _ _ (by simpa using hlen)]
    simp only [List.set_set]
    rw [wsm (n := 1 + 3 * (i : Int) + 1) (by omega) (by omega), wsm (n := 1 + 3 * (i : Int) + 1 + 1) (by omega) (by omega), wsm (n := 1 + 3 * (i : Int) + 1 + 1 + 1) (by omega) (by omega), wrap_succ (n := l.length) (by omega) (by omega)]
    rw [set_mid _ _ i _ (marksC_length i) (by simp; omega), List.drop_drop]
    have := ih (i + 1) (by omega) k (by omega)
    rw [marksC_succ, show (1 + 3 * ((i + 1 : Nat) : Int)) = 1 + 3 * (i : Int) + 1 + 1 + 1 by omega] at this
    rw [show (1 + 3 * (i : Int) + 1) = 2 + 3 * (i : Int) by omega, show (2 + 3 * (i : Int) + 1) = 3 + 3 * (i : Int) by omega]
    rw [show (1 + 3 * (i : Int) + 1 + 1 + 1) = 3 + 3 * (i : Int) + 1 by omega] at this
    exact this
theorem markPuzzle_ev (h : Int) (l : List IClue) (hn : l.length ≤ 3000000000000000000) : Ev (fun k => laws_markPuzzle.f k h l 1) ((1 + 3 * (l.length : Nat) : Int), marksC l.length) := by
  unfold laws_markPuzzle.f
  refine Ev.bind (a := ((1 + 3 * (l.length : Nat) : Int), marksC l.length)) ⟨l.length + 1, fun k hk => ?_⟩ (Ev.now _)
  have := markClueS_l l hn l.length 0 (by omega) k (by omega)
  simpa [laws_markClueS.f, marksC] using this
theorem heldClueS_l (n : Nat) (hn : n ≤ 3000000000000000000) : ∀ (d i : Nat), i + d = n → ∀ k, d < k → laws_heldClueS.l0 k (marksC n) (1 + 3 * (i : Nat) : Int) i = some (1 + 3 * (n : Nat) : Int) := by
  intro d
  induction d with
  | zero =>
    intro i hi k hk
    obtain ⟨k, rfl⟩ : ∃ m, k = m + 1 := ⟨k - 1, by omega⟩
    have : i = n := by omega
    subst this
    simp only [laws_heldClueS.l0]
    rw [if_neg (by simp [marksC_length])]
  | succ d ih =>
    intro i hi k hk
    obtain ⟨k, rfl⟩ : ∃ m, k = m + 1 := ⟨k - 1, by omega⟩
    have hlt : i < (marksC n).length := by rw [marksC_length]; omega
    have hr : rd_T38 (marksC n) i = ⟨1 + 3 * (i : Nat), 2 + 3 * (i : Nat), 3 + 3 * (i : Nat)⟩ := by rw [rd_get _ _ hlt]; simp [marksC]
    simp only [laws_heldClueS.l0]
    rw [hr]
    dsimp only
    rw [if_pos (by omega), if_pos (by omega), if_pos rfl, wsm (n := 1 + 3 * (i : Int) + 1) (by omega) (by omega), if_pos (by omega), wsm (n := 1 + 3 * (i : Int) + 1 + 1) (by omega) (by omega), if_pos (by omega), wsm (n := 1 + 3 * (i : Int) + 1 + 1 + 1) (by omega) (by omega), wrap_succ (n := n) (by omega) (by omega)]
    have := ih (i + 1) (by omega) k (by omega)
    rw [show (1 + 3 * ((i + 1 : Nat) : Int)) = 1 + 3 * (i : Int) + 1 + 1 + 1 by omega] at this
    exact this
theorem heldPuzzle_ev (h : Int) (n : Nat) (hn : n ≤ 3000000000000000000) : Ev (fun k => laws_heldPuzzle.f k h (marksC n) 1) (1 + 3 * (n : Nat) : Int) := by
  unfold laws_heldPuzzle.f
  refine Ev.bind (a := (1 + 3 * (n : Nat) : Int)) ⟨n + 1, fun k hk => ?_⟩ ?_
  · have := heldClueS_l n hn n 0 (by omega) k (by omega)
    simpa [laws_heldClueS.f] using this
  · rw [if_neg (by omega)]
    exact Ev.now _

end Go.Proofs.Ytpeleommbipeaaa.P
