/- What is a desk: the program's test and the reference's are one; no conditions. -/
import Derived.Test.YtggeghckccmpnaaLTurn
import Derived.Test.YtggeghckccmpnaaFImplIsDesk
import Derived.Test.YtggeghckccmpnaaFSpecCoGood
namespace Go.Proofs.Ytggeghckccmpnaa.P
open Go.RowKit Go.Proofs.YtggeghckccmpnaaW.PrintWords Go.Proofs.YtggeghckccmpnaaW.PrintLast

def clockOk (a b c d : Int) : Bool := turnOk a b && (decide (b ≤ 1000) && (wi c 1 1000 && (wi d 1 1000 && decide (Int.gcd c d = 1))))
def timeOk (h n d : Int) : Bool := wi h 2 24 && turnOk n d
def deskOk (h n d a b c e : Int) : Bool := timeOk h n d && clockOk a b c e
theorem isClock_ev (a b c d : Int) : Ev (fun k => impl_IsClock.f k a b c d) (clockOk a b c d) := by
  simp only [impl_IsClock.f, within_eq, Option.bind_some, clockOk]
  refine Ev.both (isTurn_ev a b) fun _ => ?_
  by_cases h1 : b ≤ 1000
  · simp only [h1, if_true, decide_true, Bool.true_and]
    by_cases h2 : wi c 1 1000 = true
    · simp only [h2, if_true, Bool.true_and]
      by_cases h3 : wi d 1 1000 = true
      · simp only [h3, if_true, Bool.true_and]
        rw [wi_true] at h2 h3
        exact Ev.bind (gcd_ev (by omega) (by omega) (by omega) (by omega)) (Ev.const (congrArg some (eq_one_cast _)))
      · simp only [Bool.not_eq_true] at h3; simp only [h3, Bool.false_eq_true, if_false, Bool.false_and]; exact Ev.now _
    · simp only [Bool.not_eq_true] at h2; simp only [h2, Bool.false_eq_true, if_false, Bool.false_and]; exact Ev.now _
  · simp only [h1, if_false, decide_false, Bool.false_and]; exact Ev.now _
theorem drClock_ev (a b c d : Int) : Ev (fun k => spec_drClock.f k a b c d) (clockOk a b c d) := by
  simp only [spec_drClock.f, l1In_eq, Option.bind_some, clockOk]
  refine Ev.both (diGood_ev a b) fun _ => ?_
  by_cases h1 : b ≤ 1000
  · simp only [h1, if_true, decide_true, Bool.true_and]
    by_cases h2 : wi c 1 1000 = true
    · simp only [h2, if_true, Bool.true_and]
      by_cases h3 : wi d 1 1000 = true
      · simp only [h3, if_true, Bool.true_and]
        rw [wi_true] at h2 h3
        exact Ev.bind (common_ev (by omega) (by omega)) (Ev.const (congrArg some (eq_one_cast _)))
      · simp only [Bool.not_eq_true] at h3; simp only [h3, Bool.false_eq_true, if_false, Bool.false_and]; exact Ev.now _
    · simp only [Bool.not_eq_true] at h2; simp only [h2, Bool.false_eq_true, if_false, Bool.false_and]; exact Ev.now _
  · simp only [h1, if_false, decide_false, Bool.false_and]; exact Ev.now _
theorem isTime_ev (h n d : Int) : Ev (fun k => impl_isTime.f k h n d) (timeOk h n d) := by
  simp only [impl_isTime.f, isDial_eq, Option.bind_some, timeOk]
  by_cases h1 : wi h 2 24 = true
  · simp only [h1, if_true, Bool.true_and]; exact Ev.last (isTurn_ev n d)
  · simp only [Bool.not_eq_true] at h1; simp only [h1, Bool.false_eq_true, if_false, Bool.false_and]; exact Ev.now _
theorem diAsked_ev (h n d : Int) : Ev (fun k => spec_diAsked.f k h n d) (timeOk h n d) := by
  simp only [spec_diAsked.f, diHours_eq, Option.bind_some, timeOk]
  by_cases h1 : wi h 2 24 = true
  · simp only [h1, if_true, Bool.true_and]; exact Ev.last (diGood_ev n d)
  · simp only [Bool.not_eq_true] at h1; simp only [h1, Bool.false_eq_true, if_false, Bool.false_and]; exact Ev.now _
theorem isDesk_ev (h n d a b c e : Int) : Ev (fun k => impl_IsDesk.f k h n d a b c e) (deskOk h n d a b c e) := by
  unfold impl_IsDesk.f deskOk
  exact Ev.both (isTime_ev h n d) fun _ => Ev.last (isClock_ev a b c e)
theorem coGood_ev (h n d a b c e : Int) : Ev (fun k => spec_coGood.f k h n d a b c e) (deskOk h n d a b c e) := by
  unfold spec_coGood.f deskOk
  exact Ev.both (diAsked_ev h n d) fun _ => Ev.last (drClock_ev a b c e)

end Go.Proofs.Ytggeghckccmpnaa.P
