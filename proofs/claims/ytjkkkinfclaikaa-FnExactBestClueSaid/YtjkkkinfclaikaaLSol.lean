/- The minutes that fit clues: the program's list and the reference's are one, for a dial and clues of it. -/
import Derived.Test.YtjkkkinfclaikaaLFits
import Derived.Test.YtjkkkinfclaikaaLPuzzle
import Derived.Test.YtjkkkinfclaikaaFImplSolutionsLc
import Derived.Test.YtjkkkinfclaikaaFSpecPzAll
namespace Go.Proofs.Ytjkkkinfclaikaa.P
open Go.RowKit Go.Proofs.YtjkkkinfclaikaaW.PrintWords Go.Proofs.YtjkkkinfclaikaaW.PrintLast
set_option linter.unusedVariables false
set_option linter.unusedSimpArgs false

def fit' (h m : Int) (c : IClue) : Bool := fitB h c.f0 c.f1 c.f2 m
def solsFrom (h : Int) (l : List IClue) : Nat → Int → List Int
  | 0, _ => []
  | d + 1, m => if l.all (fit' h m) = true then m :: solsFrom h l d (m + 1) else solsFrom h l d (m + 1)
def sols (h : Int) (l : List IClue) : List Int := solsFrom h l (60 * h).toNat 0
theorem solsFrom_length (h : Int) (l : List IClue) : ∀ d m, (solsFrom h l d m).length ≤ d
  | 0, _ => Nat.le_refl _
  | d + 1, m => by
    have := solsFrom_length h l d (m + 1)
    simp only [solsFrom]
    split
    · simp only [List.length_cons]; omega
    · omega
theorem sols_length {h : Int} (h2 : h ≤ 24) (l : List IClue) : (sols h l).length ≤ 1440 := by
  have := solsFrom_length h l (60 * h).toNat 0
  unfold sols
  omega
theorem solutions_l {h : Int} (h1 : 2 ≤ h) (h2 : h ≤ 24) (l : List IClue) (hl : l.all (clueOk' h) = true) : ∀ (d : Nat) (m : Int) (out : List Int), 0 ≤ m → m + d = 60 * h → out.length ≤ 2000 - d → ∀ k, d < k →
    impl_solutions.l0 k h l out m = some (out ++ solsFrom h l d m) := by
  intro d
  induction d with
  | zero =>
    intro m out m0 hm ho k hk
    obtain ⟨k, rfl⟩ : ∃ j, k = j + 1 := ⟨k - 1, by omega⟩
    simp only [impl_solutions.l0]
    rw [wsm (by omega) (by omega), if_neg (by omega)]
    simp [solsFrom]
  | succ d ih =>
    intro m out m0 hm ho k hk
    obtain ⟨k, rfl⟩ : ∃ j, k = j + 1 := ⟨k - 1, by omega⟩
    have hq := anyO_some (q := impl_solutions.q h m) (p := fun c => !fit' h m c) l (fun c hc => by
      have hok := List.all_eq_true.1 hl c hc
      unfold impl_solutions.q fit'
      rw [fits_eq h1 h2 m0 (by omega) hok]
      rfl)
    have hall : (l.any fun c => !fit' h m c) = !l.all (fit' h m) := by
      clear hq hl ih
      induction l with
      | nil => rfl
      | cons c l ih => simp only [List.any_cons, List.all_cons, ih, Bool.not_and]
    simp only [impl_solutions.l0]
    rw [wsm (n := 60 * h) (by omega) (by omega), if_pos (by omega), hq, hall]
    simp only [Option.bind_some]
    have hw : wrap64 (m + 1) = m + 1 := wsm (by omega) (by omega)
    rw [hw]
    by_cases ha : l.all (fit' h m) = true
    · rw [ha]
      simp only [Bool.not_true, Bool.false_eq_true, if_false]
      rw [if_pos (by omega), ih (m + 1) (out ++ [m]) (by omega) (by omega) (by simp; omega) k (by omega)]
      simp [solsFrom, ha]
    · simp only [Bool.not_eq_true] at ha
      rw [ha]
      simp only [Bool.not_false, if_true]
      rw [ih (m + 1) out (by omega) (by omega) (by omega) k (by omega)]
      simp [solsFrom, ha]
theorem solutions_ev {h : Int} (h1 : 2 ≤ h) (h2 : h ≤ 24) (l : List IClue) (hl : l.all (clueOk' h) = true) : Ev (fun k => impl_solutions.f k h l) (sols h l) :=
  ⟨(60 * h).toNat + 1, fun k hk => by
    have := solutions_l h1 h2 l hl (60 * h).toNat 0 [] (by omega) (by omega) (by simp) k (by omega)
    simpa [impl_solutions.f, sols] using this⟩
theorem pzAll_inner {h : Int} (h1 : 2 ≤ h) (h2 : h ≤ 24) (l : List IClue) (hn : l.length ≤ 9223372036854775807) (hl : l.all (clueOk' h) = true) (m : Int) (m0 : 0 ≤ m) (m1 : m < 60 * h) (out : List Int) (ho : out.length < 17592186044416) (r : List Int) : ∀ (d i : Nat) (b : Bool), i + d = l.length →
    Ev (fun k => if (b && (l.drop i).all (fit' h m)) = true then spec_pzAll.l0 k h l (out ++ [m]) (m + 1) else spec_pzAll.l0 k h l out (m + 1)) r →
    Ev (fun k => spec_pzAll.l1 k h l out m b l l.length i) r := by
  intro d
  induction d with
  | zero =>
    intro i b hi hr
    refine Ev.step (f := fun k => if b = true then spec_pzAll.l0 k h l (out ++ [m]) (m + 1) else spec_pzAll.l0 k h l out (m + 1)) (fun k => ?_) ?_
    · simp only [spec_pzAll.l1]
      rw [if_neg (by omega), if_pos ho, wsm (n := m + 1) (by omega) (by omega)]
    · rw [List.drop_eq_nil_of_le (by omega)] at hr
      simpa using hr
  | succ d ih =>
    intro i b hi hr
    have hlt : i < l.length := by omega
    refine Ev.step (f := fun k => spec_pzAll.l1 k h l out m (b && fit' h m l[i]) l l.length ((i + 1 : Nat) : Int)) (fun k => ?_) ?_
    · have hok := List.all_eq_true.1 hl l[i] (List.getElem_mem hlt)
      simp only [spec_pzAll.l1]
      rw [if_pos (by omega), if_pos (by omega), if_pos (by omega), rd_get l i hlt, wrap_succ hlt hn]
      cases b
      · rfl
      · simp only [if_true, Bool.true_and]
        rw [pzFits_eq h1 h2 m0 m1 hok]
        rfl
    · refine ih (i + 1) _ (by omega) ?_
      rw [List.drop_eq_getElem_cons hlt, List.all_cons, ← Bool.and_assoc] at hr
      exact hr
theorem pzAll_l {h : Int} (h1 : 2 ≤ h) (h2 : h ≤ 24) (l : List IClue) (hn : l.length ≤ 9223372036854775807) (hl : l.all (clueOk' h) = true) : ∀ (d : Nat) (m : Int) (out : List Int), 0 ≤ m → m + d = 60 * h → out.length ≤ 2000 - d →
    Ev (fun k => spec_pzAll.l0 k h l out m) (out ++ solsFrom h l d m) := by
  intro d
  induction d with
  | zero =>
    intro m out m0 hm ho
    refine ev_later (fun k => ?_)
    simp only [spec_pzAll.l0]
    rw [wsm (by omega) (by omega), if_neg (by omega)]
    simp [solsFrom]
  | succ d ih =>
    intro m out m0 hm ho
    refine Ev.step (f := fun k => spec_pzAll.l1 k h l out m true l l.length ((0 : Nat) : Int)) (fun k => ?_) ?_
    · simp only [spec_pzAll.l0]
      rw [wsm (by omega) (by omega), if_pos (by omega)]
      rfl
    · refine pzAll_inner h1 h2 l hn hl m m0 (by omega) out (by omega) _ l.length 0 true (by omega) ?_
      simp only [List.drop_zero, Bool.true_and]
      by_cases ha : l.all (fit' h m) = true
      · simp only [ha, if_true, solsFrom]
        have := ih (m + 1) (out ++ [m]) (by omega) (by omega) (by simp; omega)
        simpa using this
      · simp only [ha, solsFrom]
        exact ih (m + 1) out (by omega) (by omega) (by omega)
theorem pzAll_ev {h : Int} (h1 : 2 ≤ h) (h2 : h ≤ 24) (l : List IClue) (hn : l.length ≤ 9223372036854775807) (hl : l.all (clueOk' h) = true) : Ev (fun k => spec_pzAll.f k h l) (sols h l) := by
  have := pzAll_l h1 h2 l hn hl (60 * h).toNat 0 [] (by omega) (by omega) (by simp)
  simpa [spec_pzAll.f, sols] using this

end Go.Proofs.Ytjkkkinfclaikaa.P
