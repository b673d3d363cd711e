/- Part 6 of 6 of the texts behind the law FnExactDropClue: what the program's functions compute, and the plain lemmas. -/
import Derived.Test.YtjkkkinfclaikaaBFnExactDropClue5
import Derived.Test.YtjkkkinfclaikaaBFnExactDropClue2
import Derived.Test.YtjkkkinfclaikaaBFnExactDropClue1
import Derived.Test.YtjkkkinfclaikaaBFnExactDropClue3
import Derived.SizedLaws
import Derived.DataReads
import Derived.DataElems
import Derived.ChangeOld
import Derived.ChangeSlices
import Derived.ChangeArms
import Derived.Test.YtjkkkinfclaikaaZ1
/- Marks that are laid into a result are found again: at whole numbers, clues and turns; lists are equal to themselves. -/
namespace Go.Proofs.Ytjkkkinfclaikaa.P
open Go.RowKit Go.Proofs.YtjkkkinfclaikaaW.PrintWords Go.Proofs.YtjkkkinfclaikaaW.PrintLast
set_option linter.unusedVariables false
set_option linter.unusedSimpArgs false

def marksI (n : Nat) : List Int := (List.range n).map fun i => (1 + (i : Nat) : Int)
theorem marksI_length (n : Nat) : (marksI n).length = n := by simp [marksI]
theorem marksI_succ (n : Nat) : marksI (n + 1) = marksI n ++ [(1 + (n : Nat) : Int)] := by simp [marksI, List.range_succ]
theorem rd_at (l : List Int) (i : Nat) (h : i < l.length) : rd l i = l[i] := by
  show l.getD (i : Int).toNat _ = _
  rw [Int.toNat_natCast, List.getD_eq_getElem?_getD, List.getElem?_eq_getElem h]; rfl
theorem set_mid {α : Type} (a : List α) (b : List α) (i : Nat) (v : α) (ha : a.length = i) (hb : 0 < b.length) : (a ++ b).set i v = (a ++ [v]) ++ b.drop 1 := by
  subst ha
  cases b with
  | nil => simp at hb
  | cons x b => simp
theorem markIntS_l (l : List Int) (hn : l.length ≤ 9223372036854775806) : ∀ (d i : Nat), i + d = l.length → ∀ k, d < k →
    laws_markIntS.l0 k (marksI i ++ l.drop i) (1 + (i : Nat) : Int) i = some ((1 + (l.length : Nat) : Int), marksI l.length) := by
  intro d
  induction d with
  | zero =>
    intro i hi k hk
    obtain ⟨k, rfl⟩ : ∃ m, k = m + 1 := ⟨k - 1, by omega⟩
    simp only [laws_markIntS.l0]
    have : i = l.length := by omega
    subst this
    rw [if_neg (by simp [marksI_length])]
    simp
  | succ d ih =>
    intro i hi k hk
    obtain ⟨k, rfl⟩ : ∃ m, k = m + 1 := ⟨k - 1, by omega⟩
    simp only [laws_markIntS.l0]
    rw [if_pos (by simp [marksI_length]; omega), if_pos (by omega), Int.toNat_natCast, set_mid _ _ i _ (marksI_length i) (by simp; omega), ← marksI_succ, List.drop_drop, wsm (n := 1 + (i : Int)) (by omega) (by omega) |> fun _ => wsm (n := 1 + (i : Int) + 1) (by omega) (by omega), wrap_succ (n := l.length) (by omega) (by omega)]
    have := ih (i + 1) (by omega) k (by omega)
    rw [show (1 + ((i + 1 : Nat) : Int)) = 1 + (i : Int) + 1 by omega] at this
    exact this
theorem markIntS_ev (l : List Int) (hn : l.length ≤ 9223372036854775806) : Ev (fun k => laws_markIntS.f k l 1) ((1 + (l.length : Nat) : Int), marksI l.length) :=
  ⟨l.length + 1, fun k hk => by
    have := markIntS_l l hn l.length 0 (by omega) k (by omega)
    simpa [laws_markIntS.f, marksI] using this⟩
theorem heldIntS_l (n : Nat) (hn : n ≤ 9223372036854775806) : ∀ (d i : Nat), i + d = n → ∀ k, d < k → laws_heldIntS.l0 k (marksI n) (1 + (i : Nat) : Int) i = some (1 + (n : Nat) : Int) := by
  intro d
  induction d with
  | zero =>
    intro i hi k hk
    obtain ⟨k, rfl⟩ : ∃ m, k = m + 1 := ⟨k - 1, by omega⟩
    have : i = n := by omega
    subst this
    simp only [laws_heldIntS.l0]
    rw [if_neg (by simp [marksI_length])]
  | succ d ih =>
    intro i hi k hk
    obtain ⟨k, rfl⟩ : ∃ m, k = m + 1 := ⟨k - 1, by omega⟩
    have hlt : i < (marksI n).length := by rw [marksI_length]; omega
    have hr : rd (marksI n) i = 1 + (i : Nat) := by rw [rd_at _ _ hlt]; simp [marksI]
    simp only [laws_heldIntS.l0]
    rw [if_pos (by omega), if_pos (by omega), hr, if_pos rfl, wsm (n := 1 + (i : Int) + 1) (by omega) (by omega), wrap_succ (n := n) (by omega) (by omega)]
    have := ih (i + 1) (by omega) k (by omega)
    rw [show (1 + ((i + 1 : Nat) : Int)) = 1 + (i : Int) + 1 by omega] at this
    exact this
theorem heldIntS_ev (n : Nat) (hn : n ≤ 9223372036854775806) : Ev (fun k => laws_heldIntS.f k (marksI n) 1) (1 + (n : Nat) : Int) :=
  ⟨n + 1, fun k hk => by
    have := heldIntS_l n hn n 0 (by omega) k (by omega)
    simpa [laws_heldIntS.f] using this⟩
theorem eqIntS_l (l : List Int) (hn : l.length ≤ 9223372036854775807) : ∀ (d i : Nat), i + d = l.length → ∀ k, d < k → laws_eqIntS.l0 k l l i = some true := by
  intro d
  induction d with
  | zero =>
    intro i hi k hk
    obtain ⟨k, rfl⟩ : ∃ m, k = m + 1 := ⟨k - 1, by omega⟩
    simp only [laws_eqIntS.l0]
    rw [if_neg (by omega)]
  | succ d ih =>
    intro i hi k hk
    obtain ⟨k, rfl⟩ : ∃ m, k = m + 1 := ⟨k - 1, by omega⟩
    simp only [laws_eqIntS.l0]
    rw [if_pos (by omega), if_pos (by omega), if_pos (by omega), if_pos trivial, wrap_succ (n := l.length) (by omega) hn]
    exact ih (i + 1) (by omega) k (by omega)
theorem eqIntS_self (l : List Int) (hn : l.length ≤ 9223372036854775807) : Ev (fun k => laws_eqIntS.f k l l) true :=
  ⟨l.length + 1, fun k hk => by
    have := eqIntS_l l hn l.length 0 (by omega) k (by omega)
    simpa [laws_eqIntS.f] using this⟩

def marksC (n : Nat) : List IClue := (List.range n).map fun i => ⟨1 + 3 * (i : Nat), 2 + 3 * (i : Nat), 3 + 3 * (i : Nat)⟩
theorem marksC_length (n : Nat) : (marksC n).length = n := by simp [marksC]
theorem marksC_succ (n : Nat) : marksC (n + 1) = marksC n ++ [⟨1 + 3 * (n : Nat), 2 + 3 * (n : Nat), 3 + 3 * (n : Nat)⟩] := by simp [marksC, List.range_succ]
theorem rd_set (l : List IClue) (i : Nat) (v : IClue) (h : i < l.length) : rd_T38 (l.set i v) i = v := by
  rw [rd_get _ _ (by simpa using h)]
  simp
theorem markClueS_l (l : List IClue) (hn : l.length ≤ 3000000000000000000) : ∀ (d i : Nat), i + d = l.length → ∀ k, d < k →
    laws_markClueS.l0 k (marksC i ++ l.drop i) (1 + 3 * (i : Nat) : Int) i = some ((1 + 3 * (l.length : Nat) : Int), marksC l.length) := by
  intro d
  induction d with
  | zero =>
    intro i hi k hk
    obtain ⟨k, rfl⟩ : ∃ m, k = m + 1 := ⟨k - 1, by omega⟩
    simp only [laws_markClueS.l0]
    have : i = l.length := by omega
    subst this
    rw [if_neg (by simp [marksC_length])]
    simp
  | succ d ih =>
    intro i hi k hk
    obtain ⟨k, rfl⟩ : ∃ m, k = m + 1 := ⟨k - 1, by omega⟩
    have hlen : i < (marksC i ++ l.drop i).length := by simp [marksC_length]; omega
    simp only [laws_markClueS.l0]
    rw [if_pos (by omega), if_pos (by omega)]
    simp only [Option.bind_some, Int.toNat_natCast]
    rw [rd_set _ _ _ hlen, rd_set _ _ _ (by simpa using hlen)]
    simp only [List.set_set]
    rw [wsm (n := 1 + 3 * (i : Int) + 1) (by omega) (by omega), wsm (n := 1 + 3 * (i : Int) + 1 + 1) (by omega) (by omega), wsm (n := 1 + 3 * (i : Int) + 1 + 1 + 1) (by omega) (by omega), wrap_succ (n := l.length) (by omega) (by omega)]
    rw [set_mid _ _ i _ (marksC_length i) (by simp; omega), List.drop_drop]
    have := ih (i + 1) (by omega) k (by omega)
    rw [marksC_succ, show (1 + 3 * ((i + 1 : Nat) : Int)) = 1 + 3 * (i : Int) + 1 + 1 + 1 by omega] at this
    rw [show (1 + 3 * (i : Int) + 1) = 2 + 3 * (i : Int) by omega, show (2 + 3 * (i : Int) + 1) = 3 + 3 * (i : Int) by omega]
    rw [show (1 + 3 * (i : Int) + 1 + 1 + 1) = 3 + 3 * (i : Int) + 1 by omega] at this
    exact this
theorem markPuzzle_ev (h : Int) (l : List IClue) (hn : l.length ≤ 3000000000000000000) : Ev (fun k => laws_markPuzzle.f k h l 1) ((1 + 3 * (l.length : Nat) : Int), marksC l.length) := by
  unfold laws_markPuzzle.f
  refine Ev.bind (a := ((1 + 3 * (l.length : Nat) : Int), marksC l.length)) ⟨l.length + 1, fun k hk => ?_⟩ (Ev.now _)
  have := markClueS_l l hn l.length 0 (by omega) k (by omega)
  simpa [laws_markClueS.f, marksC] using this
theorem heldClueS_l (n : Nat) (hn : n ≤ 3000000000000000000) : ∀ (d i : Nat), i + d = n → ∀ k, d < k → laws_heldClueS.l0 k (marksC n) (1 + 3 * (i : Nat) : Int) i = some (1 + 3 * (n : Nat) : Int) := by
  intro d
  induction d with
  | zero =>
    intro i hi k hk
    obtain ⟨k, rfl⟩ : ∃ m, k = m + 1 := ⟨k - 1, by omega⟩
    have : i = n := by omega
    subst this
    simp only [laws_heldClueS.l0]
    rw [if_neg (by simp [marksC_length])]
  | succ d ih =>
    intro i hi k hk
    obtain ⟨k, rfl⟩ : ∃ m, k = m + 1 := ⟨k - 1, by omega⟩
    have hlt : i < (marksC n).length := by rw [marksC_length]; omega
    have hr : rd_T38 (marksC n) i = ⟨1 + 3 * (i : Nat), 2 + 3 * (i : Nat), 3 + 3 * (i : Nat)⟩ := by rw [rd_get _ _ hlt]; simp [marksC]
    simp only [laws_heldClueS.l0]
    rw [hr]
    dsimp only
    rw [if_pos (by omega), if_pos (by omega), if_pos rfl, wsm (n := 1 + 3 * (i : Int) + 1) (by omega) (by omega), if_pos (by omega), wsm (n := 1 + 3 * (i : Int) + 1 + 1) (by omega) (by omega), if_pos (by omega), wsm (n := 1 + 3 * (i : Int) + 1 + 1 + 1) (by omega) (by omega), wrap_succ (n := n) (by omega) (by omega)]
    have := ih (i + 1) (by omega) k (by omega)
    rw [show (1 + 3 * ((i + 1 : Nat) : Int)) = 1 + 3 * (i : Int) + 1 + 1 + 1 by omega] at this
    exact this
theorem heldPuzzle_ev (h : Int) (n : Nat) (hn : n ≤ 3000000000000000000) : Ev (fun k => laws_heldPuzzle.f k h (marksC n) 1) (1 + 3 * (n : Nat) : Int) := by
  unfold laws_heldPuzzle.f
  refine Ev.bind (a := (1 + 3 * (n : Nat) : Int)) ⟨n + 1, fun k hk => ?_⟩ ?_
  · have := heldClueS_l n hn n 0 (by omega) k (by omega)
    simpa [laws_heldClueS.f] using this
  · rw [if_neg (by omega)]
    exact Ev.now _

end Go.Proofs.Ytjkkkinfclaikaa.P

-- written by wip/gen.py (this session's) with the kit's printer; Lean checks it.
namespace Go.Proofs.Ytjkkkinfclaikaa.P
open Go.RowKit Go.Proofs.YtjkkkinfclaikaaW.PrintWords Go.Proofs.YtjkkkinfclaikaaW.PrintLast Go.Proofs.YtjkkkinfclaikaaW.PrintMore
attribute [local go_sem] max2_int min2_int max_two min_two max_three min_three max_four min_four
set_option linter.unusedVariables false
set_option linter.unusedSimpArgs false

/-! ### spec_l1Same: function 72 -/
def spec_l1Same.l0 : Nat → List Int → List Int → Int → Int → Option (Bool)
  | 0, _, _, _, _ => none
  | k + 1, x0, x1, x12, x13 => if x13 < x12 then (if 0 ≤ x13 then (if x13 < (x0.length : Int) then (if x13 < (x1.length : Int) then (if (rd x0 x13) = (rd x1 x13) then (spec_l1Same.l0 k x0 x1 x12 (wrap64 (x13 + 1))) else (some false)) else (none)) else (none)) else (none)) else (some true)
def spec_l1Same.f (k : Nat) (l0 : List Int) (l1 : List Int) : Option (Bool) := if (l0.length : Int) = (l1.length : Int) then (spec_l1Same.l0 k l0 l1 (l0.length : Int) 0) else (some false)
theorem spec_l1Same.mono_l : ∀ k, (∀ y0 y1 y2 y3, LeO (spec_l1Same.l0 k y0 y1 y2 y3) (spec_l1Same.l0 (k + 1) y0 y1 y2 y3))
  | 0 => fun _ _ _ _ r h => by simp [spec_l1Same.l0] at h
  | k + 1 => by
    have ih0 := spec_l1Same.mono_l k
    · intro y0 y1 y2 y3
      unfold spec_l1Same.l0
      repeat' first
      | (with_reducible exact ih0 _ _ _ _)
      | (with_reducible exact LeO.refl _)
      | (with_reducible exact LeO.none _)
      | (with_reducible refine LeO.ite ?_ ?_)
      | (with_reducible refine LeO.bind ?_ (fun _ => ?_))
      | exact ih0 _ _ _ _
      | exact LeO.none _
      | refine LeO.ite ?_ ?_
      | refine LeO.bind ?_ (fun _ => ?_)
theorem spec_l1Same.mono : ∀ a0 a1 k, LeO (spec_l1Same.f k a0 a1) (spec_l1Same.f (k + 1) a0 a1) := by
  intro a0 a1 k
  have ih0 := spec_l1Same.mono_l k
  unfold spec_l1Same.f
  repeat' first
      | (with_reducible exact ih0 _ _ _ _)
      | (with_reducible exact LeO.refl _)
      | (with_reducible exact LeO.none _)
      | (with_reducible refine LeO.ite ?_ ?_)
      | (with_reducible refine LeO.bind ?_ (fun _ => ?_))
      | exact ih0 _ _ _ _
      | exact LeO.none _
      | refine LeO.ite ?_ ?_
      | refine LeO.bind ?_ (fun _ => ?_)
set_option maxHeartbeats 8000000 in
set_option maxRecDepth 100000 in
theorem spec_l1Same.calls (k : Nat) (A0 : Option Addr) (c0 : Nat) (l0 : List Int) (A1 : Option Addr) (c1 : Nat) (l1 : List Int) (r : Bool) (w : World) (hr0 : Kd.C (Kd.int .i64) w A0 l0.length l0) (hc0 : l0.length ≤ c0) (hr1 : Kd.C (Kd.int .i64) w A1 l1.length l1) (hc1 : l1.length ≤ c1) (h : spec_l1Same.f k l0 l1 = some r) :
    Calls Try.prog 72 #[.slice A0 l0.length c0, .slice A1 l1.length c1] w fun e w' => e = .returned (.bool r) ∧ Drawn0 w w' := by
  have HR0 := Aside0.mk hr0
  have HC0 := Aside0.mk hc0
  clear hr0 hc0
  have HR1 := Aside0.mk hr1
  have HC1 := Aside0.mk hc1
  clear hr1 hc1
  have H : (if (l0.length : Int) = (l1.length : Int) then (spec_l1Same.l0 k l0 l1 (l0.length : Int) 0) else (some false)) = some r := h
  clear h
  by_cases c3 : (l0.length : Int) = (l1.length : Int)
  · rw [if_pos c3] at H
    have c3b0 : ((l0.length : Int) == (l1.length : Int)) = true := beq_iff_eq.mpr c3
    have c3b1 : ((l0.length : Int) != (l1.length : Int)) = false := bne_eq_false_iff_eq.mpr c3
    have c3b2 : (l0.length == l1.length) = true := by first | simpa using c3 | (simp at c3 ⊢; omega)
    clear c3
    have H' := Aside0.mk H
    clear H
    go_enter Try.func72, Try.ntmps72
    go_wp2
    repeat (go_quiet (fail); try go_wp2)
    go_loopg [13] k (fun kq v13 w' => ∃ (x13_1 : Int), v13 = .int .i64 x13_1 ∧ Aside0 (spec_l1Same.l0 kq l0 l1 (l0.length : Int) x13_1 = some r) ∧ Aside0 (kq ≤ k) ∧ Drawn0 w w')
    case atStart => exact ⟨(0), (by first | rfl | (simp; done) | (simp [*]; done)), H', ⟨Nat.le_refl _⟩, by repeat (first | exact Drawn0.refl _ | apply Drawn0.step)⟩
    case round =>
      clear H'
      try clear c1
      try clear p2
      try clear c3
      try clear c3b0
      try clear c3b1
      try clear c3b2
      obtain ⟨x13_1, rfl, HA, HK1, ⟨m1, rfl⟩⟩ := hrel
      cases gk with
      | zero => exact absurd HA.out (by simp [spec_l1Same.l0])
      | succ k1 =>
        have H := HA.out
        clear HA
        simp only [spec_l1Same.l0] at H
        by_cases c4 : x13_1 < (l0.length : Int)
        · rw [if_pos c4] at H
          have c4b0 : decide (x13_1 < (l0.length : Int)) = true := decide_eq_true c4
          clear c4
          by_cases c5 : 0 ≤ x13_1
          · rw [if_pos c5] at H
            have c5b0 : decide (0 ≤ x13_1) = true := decide_eq_true c5
            clear c5
            by_cases c6 : x13_1 < (l0.length : Int)
            · rw [if_pos c6] at H
              have c6b0 : decide (x13_1 < (l0.length : Int)) = true := decide_eq_true c6
              clear c6
              by_cases c7 : x13_1 < (l1.length : Int)
              · rw [if_pos c7] at H
                have c7b0 : decide (x13_1 < (l1.length : Int)) = true := decide_eq_true c7
                clear c7
                by_cases c8 : (rd l0 x13_1) = (rd l1 x13_1)
                · rw [if_pos c8] at H
                  have c8b0 : ((rd l0 x13_1) == (rd l1 x13_1)) = true := beq_iff_eq.mpr c8
                  have c8b1 : ((rd l0 x13_1) != (rd l1 x13_1)) = false := bne_eq_false_iff_eq.mpr c8
                  clear c8
                  have H' := Aside0.mk H
                  clear H
                  have p101 : 0 ≤ (x13_1 : Int) := of_decide_eq_true (by first | (with_reducible assumption) | assumption)
                  have q101 : x13_1 < (l0.length : Int) := of_decide_eq_true (by first | (with_reducible assumption) | assumption)
                  obtain ⟨ad101, e101, hx101_0⟩ := Kd.at_int HR0.out x13_1 p101 q101
                  cases e101
                  replace p101 := eq_true p101
                  replace q101 := eq_true q101
                  have p102 : 0 ≤ (x13_1 : Int) := of_decide_eq_true (by first | (with_reducible assumption) | assumption)
                  have q102 : x13_1 < (l1.length : Int) := of_decide_eq_true (by first | (with_reducible assumption) | assumption)
                  obtain ⟨ad102, e102, hx102_0⟩ := Kd.at_int HR1.out x13_1 p102 q102
                  cases e102
                  replace p102 := eq_true p102
                  replace q102 := eq_true q102
                  go_wp2
                  repeat (go_quiet (fail); try go_wp2)
                  go_roundg k1
                  case measure => have := HK1.out; omega
                  case rel => exact ⟨(wrap64 (x13_1 + 1)), (by first | rfl | (simp; done) | (simp [*]; done)), H', ⟨by have := HK1.out; omega⟩, by repeat (first | exact Drawn0.refl _ | apply Drawn0.step)⟩
                · rw [if_neg c8] at H
                  have c8b0 : ((rd l0 x13_1) == (rd l1 x13_1)) = false := beq_eq_false_iff_ne.mpr c8
                  have c8b1 : ((rd l0 x13_1) != (rd l1 x13_1)) = true := bne_iff_ne.mpr c8
                  obtain rfl := Option.some.inj H
                  have p101 : 0 ≤ (x13_1 : Int) := of_decide_eq_true (by first | (with_reducible assumption) | assumption)
                  have q101 : x13_1 < (l0.length : Int) := of_decide_eq_true (by first | (with_reducible assumption) | assumption)
                  obtain ⟨ad101, e101, hx101_0⟩ := Kd.at_int HR0.out x13_1 p101 q101
                  cases e101
                  replace p101 := eq_true p101
                  replace q101 := eq_true q101
                  have p102 : 0 ≤ (x13_1 : Int) := of_decide_eq_true (by first | (with_reducible assumption) | assumption)
                  have q102 : x13_1 < (l1.length : Int) := of_decide_eq_true (by first | (with_reducible assumption) | assumption)
                  obtain ⟨ad102, e102, hx102_0⟩ := Kd.at_int HR1.out x13_1 p102 q102
                  cases e102
                  replace p102 := eq_true p102
                  replace q102 := eq_true q102
                  go_wp2
                  repeat (go_quiet (fail); try go_wp2)
                  go_ret
                  exact ⟨by first | rfl | (simp; done) | (simp [*]; done), by repeat (first | exact Drawn0.refl _ | apply Drawn0.step)⟩
              · rw [if_neg c7] at H
                exact absurd H (by simp)
            · rw [if_neg c6] at H
              exact absurd H (by simp)
          · rw [if_neg c5] at H
            exact absurd H (by simp)
        · rw [if_neg c4] at H
          have c4b0 : decide (x13_1 < (l0.length : Int)) = false := decide_eq_false c4
          clear c4
          obtain rfl := Option.some.inj H
          go_wp2
          repeat (go_quiet (fail); try go_wp2)
          go_ret
          exact ⟨by first | rfl | (simp; done) | (simp [*]; done), by repeat (first | exact Drawn0.refl _ | apply Drawn0.step)⟩
  · rw [if_neg c3] at H
    have c3b0 : ((l0.length : Int) == (l1.length : Int)) = false := beq_eq_false_iff_ne.mpr c3
    have c3b1 : ((l0.length : Int) != (l1.length : Int)) = true := bne_iff_ne.mpr c3
    have c3b2 : (l0.length == l1.length) = false := by first | simpa using c3 | (simp at c3 ⊢; omega)
    obtain rfl := Option.some.inj H
    go_enter Try.func72, Try.ntmps72
    go_wp2
    repeat (go_quiet (fail); try go_wp2)
    go_ret
    exact ⟨by first | rfl | (simp; done) | (simp [*]; done), by repeat (first | exact Drawn0.refl _ | apply Drawn0.step)⟩

end Go.Proofs.Ytjkkkinfclaikaa.P

/- Clues without one of them: the program's way and the reference's are one; fewer clues leave no fewer minutes. -/
namespace Go.Proofs.Ytjkkkinfclaikaa.P
open Go.RowKit Go.Proofs.YtjkkkinfclaikaaW.PrintWords Go.Proofs.YtjkkkinfclaikaaW.PrintLast
set_option linter.unusedVariables false
set_option linter.unusedSimpArgs false

theorem clone_eq (l : List IClue) (hn : l.length ≤ 1048576) : slices_Clone_impl_Clue.f l = some l := by
  unfold slices_Clone_impl_Clue.f
  simp only [Option.bind_some, List.length_nil, Nat.zero_add, List.nil_append]
  rw [if_pos (by omega)]
theorem without_eq (l : List IClue) (i : Nat) (hi : i < l.length) (hn : l.length ≤ 1048576) : impl_without.f l i = some (l.eraseIdx i) := by
  unfold impl_without.f
  rw [clone_eq l hn]
  simp only [Option.bind_some]
  rw [if_pos (by omega), if_pos (by omega), Int.toNat_natCast]
theorem pzWithout_eq (l : List IClue) (i : Nat) (hi : i < l.length) (hn : l.length ≤ 1048576) : spec_pzWithout.f l i = some (l.eraseIdx i) := by
  unfold spec_pzWithout.f
  have hw : wrap64 ((i : Int) + 1) = ((i + 1 : Nat) : Int) := wrap_succ (n := 2000000) (by omega) (by omega)
  simp only [Option.bind_some, List.length_nil, List.nil_append, hw, Int.toNat_natCast]
  rw [if_pos (by omega), if_pos (by omega), if_pos (by simp; omega), if_pos (by omega), if_pos (by omega), if_pos (by simp; omega), List.eraseIdx_eq_take_drop_succ]
theorem all_erase (f : IClue → Bool) (l : List IClue) (hl : l.all f = true) (i : Nat) : (l.eraseIdx i).all f = true := by
  rw [List.all_eq_true] at *
  intro x hx
  exact hl x (List.mem_of_mem_eraseIdx hx)
theorem solsFrom_sub (h : Int) (l l' : List IClue) (hs : ∀ m, l.all (fit' h m) = true → l'.all (fit' h m) = true) : ∀ d m, (solsFrom h l d m).Sublist (solsFrom h l' d m)
  | 0, _ => List.Sublist.refl _
  | d + 1, m => by
    have ih := solsFrom_sub h l l' hs d (m + 1)
    simp only [solsFrom]
    by_cases e : l.all (fit' h m) = true
    · rw [if_pos e, if_pos (hs m e)]
      exact ih.cons_cons m
    · rw [if_neg e]
      split
      · exact ih.cons m
      · exact ih
theorem sols_erase (h : Int) (l : List IClue) (i : Nat) : (sols h l).Sublist (sols h (l.eraseIdx i)) := solsFrom_sub h l _ (fun m hm => all_erase _ l hm i) _ _
theorem l1Same_l (a b : List Int) (hab : a.length = b.length) (hn : a.length ≤ 9223372036854775807) : ∀ (d i : Nat), i + d = a.length → ∀ k, d < k → spec_l1Same.l0 k a b a.length i = some (decide (a.drop i = b.drop i)) := by
  intro d
  induction d with
  | zero =>
    intro i hi k hk
    obtain ⟨k, rfl⟩ : ∃ m, k = m + 1 := ⟨k - 1, by omega⟩
    simp only [spec_l1Same.l0]
    rw [if_neg (by omega), List.drop_eq_nil_of_le (by omega), List.drop_eq_nil_of_le (by omega)]
    rfl
  | succ d ih =>
    intro i hi k hk
    obtain ⟨k, rfl⟩ : ∃ m, k = m + 1 := ⟨k - 1, by omega⟩
    have ra : rd a i = a[i] := by
      show a.getD (i : Int).toNat _ = _
      rw [Int.toNat_natCast, List.getD_eq_getElem?_getD, List.getElem?_eq_getElem (by omega)]; rfl
    have rb : rd b i = b[i] := by
      show b.getD (i : Int).toNat _ = _
      rw [Int.toNat_natCast, List.getD_eq_getElem?_getD, List.getElem?_eq_getElem (by omega)]; rfl
    simp only [spec_l1Same.l0]
    rw [if_pos (by omega), if_pos (by omega), if_pos (by omega), if_pos (by omega), ra, rb, wrap_succ (n := a.length) (by omega) hn]
    have ea : a.drop i = a[i] :: a.drop (i + 1) := List.drop_eq_getElem_cons (by omega)
    have eb : b.drop i = b[i] :: b.drop (i + 1) := List.drop_eq_getElem_cons (by omega)
    rw [ea, eb]
    by_cases e : a[i] = b[i]
    · rw [if_pos e, ih (i + 1) (by omega) k (by omega), e]
      simp only [List.cons.injEq, true_and]
    · rw [if_neg e]
      simp only [List.cons.injEq, e, false_and, decide_false]
theorem l1Same_ev (a b : List Int) (hn : a.length ≤ 9223372036854775807) : Ev (fun k => spec_l1Same.f k a b) (decide (a = b)) := by
  refine ⟨a.length + 1, fun k hk => ?_⟩
  simp only [spec_l1Same.f]
  by_cases e : a.length = b.length
  · rw [if_pos (by omega)]
    have := l1Same_l a b e hn a.length 0 (by omega) k (by omega)
    simpa using this
  · rw [if_neg (by omega), decide_eq_false (fun z => e (by rw [z]))]

end Go.Proofs.Ytjkkkinfclaikaa.P

/- The pure law of DropClue: for all puzzles of at most 1048576 clues the program's answer is the reference's, the argument stays, and the answer is new memory. -/
namespace Go.Proofs.Ytjkkkinfclaikaa.Pure
open Go.RowKit Go.Proofs.Ytjkkkinfclaikaa.P Go.Proofs.YtjkkkinfclaikaaW.PrintWords Go.Proofs.YtjkkkinfclaikaaW.PrintLast
set_option linter.unusedVariables false
set_option linter.unusedSimpArgs false

def dropB (h : Int) (l : List IClue) (j : Int) : Int × List IClue × Bool := if puzzleOk h l = true then (if wi j 0 ((l.length : Int) - 1) = true then (h, l.eraseIdx j.toNat, true) else (0, [], false)) else (0, [], false)
theorem DropClue_len (h : Int) (l : List IClue) (j : Int) (hn : l.length ≤ 1048576) : (dropB h l j).2.1.length ≤ 1048576 := by
  unfold dropB
  split
  · split
    · exact Nat.le_trans (List.length_eraseIdx_le ..) hn
    · simp
  · simp
theorem spec_DropClue_ev (h : Int) (l : List IClue) (j : Int) (hn : l.length ≤ 1048576) : Ev (fun k => spec_DropClue.f k h l j) (dropB h l j) := by
  unfold spec_DropClue.f dropB
  refine pz_ev h l hn (fun h1 h2 h3 h4 => ?_)
  rw [wsm (n := (l.length : Int) - 1) (by omega) (by omega), l1In_eq]
  simp only [Option.bind_some]
  by_cases hj : wi j 0 ((l.length : Int) - 1) = true
  · simp only [hj, if_true]
    rw [wi_true] at hj
    obtain ⟨i, rfl⟩ : ∃ i : Nat, j = i := ⟨j.toNat, by omega⟩
    rw [pzWithout_eq l i (by omega) hn]
    exact Ev.now _
  · simp only [Bool.not_eq_true] at hj
    simp only [hj, Bool.false_eq_true, if_false]
    exact Ev.now _
theorem impl_DropClue_ev (h : Int) (l : List IClue) (j : Int) (hn : l.length ≤ 1048576) : Ev (fun k => impl_DropClue.f k h l j) (dropB h l j) := by
  unfold impl_DropClue.f dropB
  refine Ev.bind (isPuzzle_ev h l) ?_
  by_cases hp : puzzleOk h l = true
  · simp only [hp, if_true]
    rw [wsm (n := (l.length : Int) - 1) (by omega) (by omega), within_eq]
    simp only [Option.bind_some]
    by_cases hj : wi j 0 ((l.length : Int) - 1) = true
    · simp only [hj, if_true]
      rw [wi_true] at hj
      obtain ⟨i, rfl⟩ : ∃ i : Nat, j = i := ⟨j.toNat, by omega⟩
      rw [without_eq l i (by omega) hn]
      exact Ev.now _
    · simp only [Bool.not_eq_true] at hj
      simp only [hj, Bool.false_eq_true, if_false]
      exact Ev.now _
  · simp only [Bool.not_eq_true] at hp
    simp only [hp, Bool.false_eq_true, if_false]
    exact Ev.now _
theorem FnExactDropClue : FnExactDropClue.Pure := by
  rintro ⟨h, l⟩ j ⟨_, hl, hs, _⟩ _
  have hs : l.length * 24 ≤ 140737488351232 := hs
  refine Ev.rounds ?_
  simp only [laws_FnExactDropClue.f]
  refine sz_law hs (fun hlen => ?_)
  have hm := cv_length l hlen
  have hr := DropClue_len h (l.map cv) j hm
  refine Ev.bind (toPuzzle_ev h l hs) ?_
  refine Ev.bind (spec_DropClue_ev h _ j hm) ?_
  refine Ev.bind (toPuzzle_ev h l hs) ?_
  refine Ev.bind (impl_DropClue_ev h _ j hm) ?_
  refine Ev.bind (eqPuzzle_self _ (dropB h (l.map cv) j).2.1 (by omega)) ?_
  simp only [if_true, bne_self_eq_false]
  refine ev_succ ?_
  simp only [laws_FnExactDropClue.j0, Bool.false_eq_true, if_false]
  refine Ev.bind (toPuzzle_ev h l hs) ?_
  refine Ev.bind (eqPuzzle_self h _ (by omega)) ?_
  simp only [if_true]
  refine Ev.bind (markPuzzle_ev h _ (by omega)) ?_
  refine ev_neg (by first | omega | (dsimp only; omega)) ?_
  refine Ev.bind (eqPuzzle_self _ (dropB h (l.map cv) j).2.1 (by omega)) ?_
  simp only [if_true, bne_self_eq_false]
  refine ev_succ ?_
  simp only [laws_FnExactDropClue.j1, Bool.false_eq_true, if_false]
  refine Ev.bind (markPuzzle_ev _ (dropB h (l.map cv) j).2.1 (by omega)) ?_
  refine Ev.bind (heldPuzzle_ev _ (dropB h (l.map cv) j).2.1.length (by omega)) ?_
  refine ev_neg (by first | omega | (dsimp only; omega)) ?_
  refine ev_pos rfl ?_
  refine Ev.bind (toPuzzle_ev h l hs) ?_
  refine Ev.bind (impl_DropClue_ev h _ j hm) ?_
  refine Ev.bind (eqPuzzle_self _ (dropB h (l.map cv) j).2.1 (by omega)) ?_
  simp only [if_true, bne_self_eq_false]
  refine ev_succ ?_
  simp only [laws_FnExactDropClue.j2, Bool.false_eq_true, if_false]
  refine Ev.bind (heldPuzzle_ev _ (dropB h (l.map cv) j).2.1.length (by omega)) ?_
  refine ev_neg (by first | omega | (dsimp only; omega)) ?_
  refine ev_pos rfl ?_
  exact Ev.now _

end Go.Proofs.Ytjkkkinfclaikaa.Pure

/- What can be read as data at a type is a value of that type's kind: for parameters that are structs, slices of structs and slices of texts; no conditions of its own. -/
namespace Go.Proofs.Ytjkkkinfclaikaa.Opn
open Go.ChangeShapes Go.WideShapes Go.Proofs.YtjkkkinfclaikaaW.PrintWords
set_option linter.unusedVariables false
set_option linter.unusedSimpArgs false

def Opn {α : Type} (P : Program) (t : TypeId) (d : Kd α) (Q : α → Prop) : Prop :=
  d.sz = P.cellsOf t ∧ ∀ (H : Type) (enc : TypeId × Value → H) (W : World) (fuel : Nat) (cs : List Value) (x : DataW H × List MemPlace),
    DataW.trod enc P W 0 (fun _ => true) true fuel t cs = some x → (x.1.weights P t).all (· ≤ reachBytes) = true → ∃ y, d.K W y cs ∧ Q y

def OpnFs {α : Type} (P : Program) (fs : List Field) (o : Nat) (d : Kd α) (Q : α → Prop) : Prop :=
  ∀ (H : Type) (enc : TypeId × Value → H) (W : World) (fuel : Nat) (cs : List Value) (xs : List (DataW H × List MemPlace)),
    xs.length = fs.length → (∀ (i : Nat) (f : Field), fs[i]? = some f → DataW.trod enc P W 0 (fun _ => true) true fuel f.type ((cs.drop f.offset).take (P.cellsOf f.type)) = xs[i]?) →
    (DataW.weightsEach P (fs.map (·.type)) (xs.map (·.1))).all (· ≤ reachBytes) = true → cs.length = o + d.sz → ∃ y, d.K W y (cs.drop o) ∧ Q y

theorem opn_int {P : Program} {t : TypeId} {k : IntKind} (hu : P.underlying t = some (.int k)) (hc : P.cellsOf t = 1) : Opn P t (Kd.int k) (fun n => (Lit.int k n).wf = true) := by
  refine ⟨hc.symm, ?_⟩
  intro H enc W fuel cs x h _
  obtain ⟨n, rfl, _, hw⟩ := DataW.trod_int hu h
  exact ⟨n, rfl, hw⟩

theorem opn_bool {P : Program} {t : TypeId} (hu : P.underlying t = some .bool) (hc : P.cellsOf t = 1) : Opn P t Kd.bool (fun _ => True) := by
  refine ⟨hc.symm, ?_⟩
  intro H enc W fuel cs x h _
  obtain ⟨b, rfl, _⟩ := DataW.trod_bool hu h
  exact ⟨b, rfl, trivial⟩

theorem opn_string {P : Program} {t : TypeId} (hu : P.underlying t = some .string) (hc : P.cellsOf t = 1) : Opn P t Kd.string (fun s => s.size ≤ 140737488351232) := by
  refine ⟨hc.symm, ?_⟩
  intro H enc W fuel cs x h hw
  obtain ⟨s, rfl, rfl, _⟩ := DataW.trod_string hu h
  refine ⟨s, rfl, ?_⟩
  simp [DataW.weights, reachBytes] at hw
  exact of_decide_eq_true hw

theorem weightsAll_mem {H : Type} {P : Program} {e : TypeId} : ∀ {ds : List (DataW H)} {d : DataW H}, d ∈ ds → ∀ n ∈ d.weights P e, n ∈ DataW.weightsAll P e ds
  | d0 :: ds, d, hd, n, hn => by
    simp only [DataW.weightsAll, List.mem_append]
    rcases List.mem_cons.1 hd with rfl | h
    · exact .inl hn
    · exact .inr (weightsAll_mem h n hn)

theorem cells_get {w : World} {a : Addr} : ∀ (n : Nat) {cs : List Value}, w.cells? 0 a n = some cs → cs.length = n ∧ ∀ i u, cs[i]? = some u → w.cell? (a.add i) = some u := by
  intro n cs h
  unfold World.cells? at h
  rw [if_pos (Nat.zero_le _)] at h
  have hl := mapM_some_length h
  simp only [List.length_range] at hl
  refine ⟨hl, fun i u hu => ?_⟩
  have hi : i < n := by
    rcases Nat.lt_or_ge i n with h' | h'
    · exact h'
    · rw [List.getElem?_eq_none (by omega)] at hu; cases hu
  have := mapM_some_get h i i (List.getElem?_range hi)
  rw [this, hu]

theorem opn_slice {α : Type} {P : Program} {t e : TypeId} {d : Kd α} {Q : α → Prop} (hu : P.underlying t = some (.slice e)) (hc : P.cellsOf t = 1) (hd : Opn P e d Q) :
    Opn P t (Kd.slice e d) (fun xs => xs.length ≤ maxLen ∧ xs.length * P.bytesOf e ≤ 140737488351232 ∧ ∀ x ∈ xs, Q x) := by
  refine ⟨hc.symm, ?_⟩
  intro H enc W fuel cs x h hw
  rcases DataW.trod_slice hu h with ⟨rfl, rfl⟩ | ⟨a, len, cap, elems, rest, n, _, rfl, rfl, _, hl, hm, hlen, hel, _, _⟩
  · exact ⟨[], ⟨none, 0, rfl, Nat.le_refl _, ⟨rfl, by simp, fun h0 => absurd h0 (by simp)⟩⟩, by simp, by simp, by simp⟩
  · simp only [DataW.weights, hu, List.all_cons, Bool.and_eq_true, decide_eq_true_eq, List.length_map] at hw
    obtain ⟨hw1, hw2⟩ := hw
    have hall : ∀ i, i < len → ∃ (c : List Value) (y : α), (c.length = d.sz ∧ d.K W y c ∧ ∀ j u, c[j]? = some u → W.cell? (a.add (i * d.sz + j)) = some u) ∧ Q y := by
      intro i hi
      have h1 := hel i hi
      obtain ⟨z, hz⟩ : ∃ z, elems[i]? = some z := ⟨_, List.getElem?_eq_getElem (by omega)⟩
      rw [hz] at h1
      obtain ⟨c, hcs, ht⟩ := Option.bind_eq_some_iff.1 h1
      obtain ⟨hcl, hcg⟩ := cells_get _ hcs
      have hzw : (z.1.weights P e).all (· ≤ reachBytes) = true := by
        rw [List.all_eq_true]
        intro m hm'
        have := List.all_eq_true.1 hw2 m (List.mem_append.2 (.inl (weightsAll_mem (List.mem_map_of_mem (List.mem_of_getElem? hz)) m hm')))
        simpa using this
      obtain ⟨y, hk, hq⟩ := hd.2 H enc W n c z ht hzw
      refine ⟨c, y, ⟨by rw [hcl, hd.1], hk, fun j u hj => ?_⟩, hq⟩
      have := hcg j u hj
      rw [hd.1]
      rw [Addr.add_add] at this
      exact this
    obtain ⟨ys, hyl, hys⟩ : ∃ ys : List α, ys.length = len ∧ ∀ i, (hi : i < ys.length) → ∃ c : List Value, (c.length = d.sz ∧ d.K W ys[i] c ∧ ∀ j u, c[j]? = some u → W.cell? (a.add (i * d.sz + j)) = some u) ∧ Q ys[i] := by
      clear hel hw1 hw2 hlen hl h hm
      revert hall
      generalize len = L
      intro hall
      induction L with
      | zero => exact ⟨[], rfl, fun i hi => absurd hi (by simp)⟩
      | succ k ih =>
        obtain ⟨ys, hyl, hys⟩ := ih (fun i hi => hall i (by omega))
        obtain ⟨c, y, hy⟩ := hall k (by omega)
        refine ⟨ys ++ [y], by simp [hyl], fun i hi => ?_⟩
        by_cases hik : i < ys.length
        · rw [List.getElem_append_left hik]
          exact hys i hik
        · have : i = k := by simp at hi; omega
          subst this
          rw [List.getElem_append_right (by omega)]
          simp only [hyl, Nat.sub_self, List.getElem_cons_zero]
          exact ⟨c, hy⟩
    refine ⟨ys, ⟨some a, cap, by rw [hyl], by omega, ⟨rfl, by rw [hyl]; unfold maxLen at hm; omega, fun _ => ⟨a, rfl, fun j p hj => ?_⟩⟩⟩, by rw [hyl]; omega, ?_, ?_⟩
    · have hjl : j < ys.length := by
        rcases Nat.lt_or_ge j ys.length with h' | h'
        · exact h'
        · rw [List.getElem?_eq_none h'] at hj; cases hj
      obtain ⟨c, ⟨h1, h2, h3⟩, _⟩ := hys j hjl
      rw [List.getElem?_eq_getElem hjl] at hj
      cases hj
      exact ⟨c, h1, h2, h3⟩
    · have : len * P.bytesOf e ≤ reachBytes := Nat.le_trans (Nat.mul_le_mul_right _ (by omega)) hw1
      rw [hyl]
      exact this
    · intro y hy
      obtain ⟨i, hi, rfl⟩ := List.getElem_of_mem hy
      obtain ⟨_, _, hq⟩ := hys i hi
      exact hq

theorem opnFs_one {α : Type} {P : Program} {f : Field} {o : Nat} {d : Kd α} {Q : α → Prop} (ho : f.offset = o) (h : Opn P f.type d Q) : OpnFs P [f] o d Q := by
  intro H enc W fuel cs xs hl hx hw hc
  obtain ⟨x, rfl⟩ : ∃ x, xs = [x] := by
    match xs, hl with
    | [x], _ => exact ⟨x, rfl⟩
  have h1 := hx 0 f rfl
  simp only [List.getElem?_cons_zero] at h1
  rw [ho, List.take_of_length_le (by rw [List.length_drop, ← h.1]; omega)] at h1
  exact h.2 H enc W fuel _ x h1 (by simpa [DataW.weightsEach] using hw)

theorem opnFs_cons {α β : Type} {P : Program} {f : Field} {fs : List Field} {o : Nat} {a : Kd α} {b : Kd β} {Q1 : α → Prop} {Q2 : β → Prop} (ho : f.offset = o) (h1 : Opn P f.type a Q1) (h2 : OpnFs P fs (o + a.sz) b Q2) :
    OpnFs P (f :: fs) o (Kd.pair a b) (fun y => Q1 y.1 ∧ Q2 y.2) := by
  intro H enc W fuel cs xs hl hx hw hc
  obtain ⟨x, xs, rfl⟩ : ∃ x r, xs = x :: r := by
    cases xs with
    | nil => simp at hl
    | cons x r => exact ⟨x, r, rfl⟩
  have hc' : cs.length = o + (a.sz + b.sz) := hc
  have e1 := hx 0 f rfl
  simp only [List.getElem?_cons_zero] at e1
  simp only [List.map_cons, DataW.weightsEach, List.all_append, Bool.and_eq_true] at hw
  rw [ho, ← h1.1] at e1
  obtain ⟨y1, k1, q1⟩ := h1.2 H enc W fuel _ x e1 hw.1
  obtain ⟨y2, k2, q2⟩ := h2 H enc W fuel cs xs (by simpa using hl) (fun i g hg => by
    have := hx (i + 1) g (by simpa using hg)
    simpa using this) hw.2 (by omega)
  refine ⟨(y1, y2), ⟨(cs.drop o).take a.sz, cs.drop (o + a.sz), ?_, k1, k2⟩, q1, q2⟩
  rw [← List.drop_drop, List.take_append_drop]

theorem opn_struct {α : Type} {P : Program} {t : TypeId} {fs : Array Field} {d : Kd α} {Q : α → Prop} (hu : P.underlying t = some (.struct fs)) (hc : d.sz = P.cellsOf t) (h : OpnFs P fs.toList 0 d Q) : Opn P t d Q := by
  refine ⟨hc, ?_⟩
  intro H enc W fuel cs x hx hw
  obtain ⟨xs, n, _, rfl, hl, hlen, hf⟩ := DataW.trod_struct hu hx
  have := h H enc W n cs xs (by simpa using hlen) (fun i f hi => hf i f (by simpa using hi)) (by simpa [DataW.weights, hu] using hw) (by omega)
  simpa using this

theorem opn_iso {α β : Type} {P : Program} {t : TypeId} {d : Kd α} {Q : α → Prop} {f : β → α} (g : α → β) (hg : ∀ y, f (g y) = y) (h : Opn P t d Q) : Opn P t (Kd.iso d f) (fun x => Q (f x)) := by
  refine ⟨h.1, ?_⟩
  intro H enc W fuel cs x hx hw
  obtain ⟨y, hk, hq⟩ := h.2 H enc W fuel cs x hx hw
  exact ⟨g y, by show d.K W (f (g y)) cs; rw [hg]; exact hk, by show Q (f (g y)); rw [hg]; exact hq⟩

theorem opn_use {α : Type} {P : Program} {t : TypeId} {d : Kd α} {Q : α → Prop} (h : Opn P t d Q) {H : Type} {enc : TypeId × Value → H} {W : World} {v : Value} {D : DataW H} {ps : List MemPlace} {ts : List TypeId} {ds : List (DataW H)} {j : Nat}
    (hsz : (DataW.weightsEach P ts ds).all (· ≤ reachBytes) = true) (ht : ts[j]? = some t) (hd : ds[j]? = some D) (hx : DataW.Trod enc P W 0 (fun _ => true) true t v D ps) : ∃ y, d.K W y v.cells.toList ∧ Q y := by
  obtain ⟨fuel, hf⟩ := hx
  refine h.2 H enc W fuel _ (D, ps) hf ?_
  rw [List.all_eq_true]
  intro n hn
  exact List.all_eq_true.1 hsz n (DataW.weights_mem_each ht hd n hn)

theorem trod_places {P : Program} {H : Type} {enc : TypeId × Value → H} {W : World} {t : TypeId} {v : Value} {D : DataW H} {ps : List MemPlace} (h : DataW.Trod enc P W 0 (fun _ => true) true t v D ps) : ∀ x ∈ ps, x.block < W.heap.size := by
  obtain ⟨m, hm⟩ := h
  exact DataW.trod_lt m _ _ _ hm

end Go.Proofs.Ytjkkkinfclaikaa.Opn
