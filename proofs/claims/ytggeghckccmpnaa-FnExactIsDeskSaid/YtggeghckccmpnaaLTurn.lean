/- What is a turn: the program's test and the reference's are one; no conditions. -/
import Derived.Test.YtggeghckccmpnaaLGcd
import Derived.Test.YtggeghckccmpnaaFImplIsTurn
import Derived.Test.YtggeghckccmpnaaFSpecDiGood
namespace Go.Proofs.Ytggeghckccmpnaa.P
open Go.RowKit Go.Proofs.YtggeghckccmpnaaW.PrintWords Go.Proofs.YtggeghckccmpnaaW.PrintLast

def turnOk (n d : Int) : Bool := wi d 1 1000000 && (wi n 0 (d - 1) && decide (Int.gcd n d = 1))
theorem turnOk_true {n d : Int} : turnOk n d = true ↔ 1 ≤ d ∧ d ≤ 1000000 ∧ 0 ≤ n ∧ n < d ∧ Int.gcd n d = 1 := by
  simp only [turnOk, Bool.and_eq_true, wi_true, decide_eq_true_eq]
  constructor
  · rintro ⟨⟨a, b⟩, ⟨c, e⟩, f⟩
    exact ⟨a, b, c, by omega, f⟩
  · rintro ⟨a, b, c, e, f⟩
    exact ⟨⟨a, b⟩, ⟨c, by omega⟩, f⟩
theorem eq_one_cast (g : Nat) : ((g : Int) == 1) = decide (g = 1) := by
  by_cases h : g = 1
  · subst h; rfl
  · rw [decide_eq_false h]
    exact beq_eq_false_iff_ne.mpr (by omega)
theorem isTurn_ev (n d : Int) : Ev (fun k => impl_IsTurn.f k n d) (turnOk n d) := by
  simp only [impl_IsTurn.f, within_eq, Option.bind_some, turnOk]
  by_cases h1 : wi d 1 1000000 = true
  · simp only [h1, if_true, Bool.true_and]
    rw [wi_true] at h1
    rw [wrap_small (by omega) (by omega)]
    by_cases h2 : wi n 0 (d - 1) = true
    · simp only [h2, if_true, Bool.true_and]
      rw [wi_true] at h2
      exact Ev.bind (gcd_ev (by omega) (by omega) (by omega) (by omega)) (Ev.const (congrArg some (eq_one_cast _)))
    · simp only [Bool.not_eq_true] at h2; simp only [h2, Bool.false_eq_true, if_false, Bool.false_and]; exact Ev.now _
  · simp only [Bool.not_eq_true] at h1; simp only [h1, Bool.false_eq_true, if_false, Bool.false_and]; exact Ev.now _
theorem diGood_ev (n d : Int) : Ev (fun k => spec_diGood.f k n d) (turnOk n d) := by
  simp only [spec_diGood.f, l1In_eq, Option.bind_some, turnOk]
  by_cases h1 : wi d 1 1000000 = true
  · simp only [h1, if_true, Bool.true_and]
    rw [wi_true] at h1
    rw [wrap_small (by omega) (by omega)]
    by_cases h2 : wi n 0 (d - 1) = true
    · simp only [h2, if_true, Bool.true_and]
      rw [wi_true] at h2
      exact Ev.bind (common_ev (by omega) (by omega)) (Ev.const (congrArg some (eq_one_cast _)))
    · simp only [Bool.not_eq_true] at h2; simp only [h2, Bool.false_eq_true, if_false, Bool.false_and]; exact Ev.now _
  · simp only [Bool.not_eq_true] at h1; simp only [h1, Bool.false_eq_true, if_false, Bool.false_and]; exact Ev.now _
/-- A test behind a test. -/
theorem Ev.both {g f : Nat → Option Bool} {a b : Bool} (h : Ev g a) (k : a = true → Ev f b) : Ev (fun n => (g n).bind fun t => if t = true then f n else some false) (a && b) := by
  refine Ev.bind h ?_
  cases a
  · simp only [Bool.false_eq_true, if_false, Bool.false_and]; exact Ev.now _
  · simp only [if_true, Bool.true_and]; exact k rfl
theorem Ev.last {g : Nat → Option Bool} {a : Bool} (h : Ev g a) : Ev (fun n => (g n).bind fun t => some t) a := Ev.bind h (Ev.now _)

end Go.Proofs.Ytggeghckccmpnaa.P
