/- The pure law of BestClue: for all puzzles of at most 1048576 clues the program's answer is the reference's, and the argument stays. -/
import Derived.Test.YtjkkkinfclaikaaStFnExactBestClue
import Derived.Test.YtjkkkinfclaikaaLSols
import Derived.Test.YtjkkkinfclaikaaFSpecBestClue
import Derived.Test.YtjkkkinfclaikaaFImplBestClue
namespace Go.Proofs.Ytjkkkinfclaikaa.Pure
open Go.RowKit Go.Proofs.Ytjkkkinfclaikaa.P Go.Proofs.YtjkkkinfclaikaaW.PrintWords Go.Proofs.YtjkkkinfclaikaaW.PrintLast
set_option linter.unusedVariables false
set_option linter.unusedSimpArgs false

def oneOf (h : Int) (l : List IClue) (i : Nat) : Int := ((sols h ((l.take (i + 1)).drop i)).length : Int)
def bestF (h : Int) (l : List IClue) : Nat → Int → Int → Nat → Int
  | 0, best, _, _ => best
  | d + 1, best, least, i => if oneOf h l i < least then bestF h l d i (oneOf h l i) (i + 1) else bestF h l d best least (i + 1)
def bestB (h : Int) (l : List IClue) : Int × Bool := if puzzleOk h l = true then (if l.length = 0 then (0, false) else (bestF h l (l.length - 1) 0 (oneOf h l 0) 1, true)) else (0, false)
theorem all_mid (f : IClue → Bool) (l : List IClue) (hl : l.all f = true) (i j : Nat) : ((l.take i).drop j).all f = true := by
  rw [List.all_eq_true] at *
  intro x hx
  exact hl x (List.mem_of_mem_take (List.mem_of_mem_drop hx))
theorem impl_best_l {h : Int} (h1 : 2 ≤ h) (h2 : h ≤ 24) (l : List IClue) (hn : l.length ≤ 6) (hl : l.all (clueOk' h) = true) : ∀ (d i : Nat) (best least : Int), i + d = l.length → 0 ≤ least → Ev (fun k => impl_BestClue.l0 k best least (l.length : Int) i h l) (bestF h l d best least i, true) := by
  intro d
  induction d with
  | zero =>
    intro i best least hi h0
    refine ev_succ ?_
    simp only [impl_BestClue.l0]
    exact ev_neg (by omega) (Ev.now _)
  | succ d ih =>
    intro i best least hi h0
    refine ev_succ ?_
    simp only [impl_BestClue.l0]
    rw [wrap_succ (n := 10) (by omega) (by omega)]
    refine ev_pos (by omega) (ev_pos (by omega) (ev_pos (by omega) (ev_pos (by omega) ?_)))
    simp only [Int.toNat_natCast]
    refine Ev.bind (solutions_ev h1 h2 _ (all_mid _ l hl _ _)) ?_
    refine ev_neg (by omega) ?_
    simp only [bestF]
    by_cases e : oneOf h l i < least
    · rw [if_pos e]
      exact ev_pos e (ih (i + 1) i _ (by omega) (by omega))
    · rw [if_neg e]
      exact ev_neg e (ih (i + 1) best least (by omega) h0)
theorem spec_best_l {h : Int} (h1 : 2 ≤ h) (h2 : h ≤ 24) (l : List IClue) (hn : l.length ≤ 6) (hl : l.all (clueOk' h) = true) : ∀ (d i : Nat) (best least : Int), i + d = l.length → 0 < i → Ev (fun k => spec_BestClue.l0 k best least (l.length : Int) i h l) (bestF h l d best least i, true) := by
  intro d
  induction d with
  | zero =>
    intro i best least hi h0
    refine ev_succ ?_
    simp only [spec_BestClue.l0]
    exact ev_neg (by omega) (Ev.now _)
  | succ d ih =>
    intro i best least hi h0
    refine ev_succ ?_
    simp only [spec_BestClue.l0]
    rw [wrap_succ (n := 10) (by omega) (by omega)]
    refine ev_pos (by omega) (ev_pos (by omega) (ev_pos (by omega) (ev_pos (by omega) ?_)))
    simp only [Int.toNat_natCast]
    refine Ev.bind (pzAll_ev h1 h2 _ (by simp; omega) (all_mid _ l hl _ _)) ?_
    refine ev_neg (by omega) ?_
    simp only [bestF]
    by_cases e : oneOf h l i < least
    · rw [if_pos e]
      exact ev_pos e (ih (i + 1) i _ (by omega) (by omega))
    · rw [if_neg e]
      exact ev_neg e (ih (i + 1) best least (by omega) (by omega))
theorem spec_BestClue_ev (h : Int) (l : List IClue) (hn : l.length ≤ 1048576) : Ev (fun k => spec_BestClue.f k h l) (bestB h l) := by
  unfold spec_BestClue.f bestB
  refine Ev.bind (pzGood_ev h l (by omega)) ?_
  by_cases hp : puzzleOk h l = true
  · simp only [hp, if_true]
    obtain ⟨h1, h2, h3, h4⟩ := puzzleOk_facts hp
    refine ev_succ ?_
    simp only [spec_BestClue.j0]
    by_cases h0 : l.length = 0
    · simp only [h0, if_true]
      exact Ev.now _
    · rw [if_neg h0]
      refine ev_neg (by simpa using h0) ?_
      refine ev_succ ?_
      simp only [spec_BestClue.l0]
      rw [show wrap64 ((0 : Int) + 1) = ((1 : Nat) : Int) from wsm (by omega) (by omega)]
      refine ev_pos (by omega) (ev_pos (by omega) (ev_pos (by omega) (ev_pos (by omega) ?_)))
      refine Ev.bind (pzAll_ev h1 h2 _ (by simp; omega) (all_mid _ l h4 _ _)) ?_
      exact ev_pos trivial (spec_best_l h1 h2 l h3 h4 (l.length - 1) 1 0 _ (by omega) (by omega))
  · simp only [Bool.not_eq_true] at hp
    simp only [hp, Bool.false_eq_true, if_false]
    refine ev_succ ?_
    simp only [spec_BestClue.j0, if_true]
    exact Ev.now _
theorem impl_BestClue_ev (h : Int) (l : List IClue) : Ev (fun k => impl_BestClue.f k h l) (bestB h l) := by
  unfold impl_BestClue.f bestB
  refine Ev.bind (isPuzzle_ev h l) ?_
  by_cases hp : puzzleOk h l = true
  · simp only [hp, if_true]
    obtain ⟨h1, h2, h3, h4⟩ := puzzleOk_facts hp
    refine ev_succ ?_
    simp only [impl_BestClue.j0]
    by_cases h0 : l.length = 0
    · simp only [h0, if_true]
      exact Ev.now _
    · rw [if_neg h0]
      refine ev_neg (by simpa using h0) ?_
      refine ev_succ ?_
      simp only [impl_BestClue.l0]
      rw [show wrap64 ((0 : Int) + 1) = ((1 : Nat) : Int) from wsm (by omega) (by omega)]
      refine ev_pos (by omega) (ev_pos (by omega) (ev_pos (by omega) (ev_pos (by omega) ?_)))
      refine Ev.bind (solutions_ev h1 h2 _ (all_mid _ l h4 _ _)) ?_
      exact ev_pos (by omega) (impl_best_l h1 h2 l h3 h4 (l.length - 1) 1 0 _ (by omega) (by omega))
  · simp only [Bool.not_eq_true] at hp
    simp only [hp, Bool.false_eq_true, if_false]
    refine ev_succ ?_
    simp only [impl_BestClue.j0, if_true]
    exact Ev.now _
theorem FnExactBestClue : FnExactBestClue.Pure := by
  rintro ⟨h, l⟩ ⟨_, hl, hs, _⟩
  have hs : l.length * 24 ≤ 140737488351232 := hs
  refine Ev.rounds ?_
  simp only [laws_FnExactBestClue.f]
  refine sz_law hs (fun hlen => ?_)
  have hm := cv_length l hlen
  refine Ev.bind (toPuzzle_ev h l hs) ?_
  refine Ev.bind (spec_BestClue_ev h _ hm) ?_
  refine Ev.bind (toPuzzle_ev h l hs) ?_
  refine Ev.bind (impl_BestClue_ev h _) ?_
  simp only [if_true, bne_self_eq_false, Bool.false_eq_true, if_false]
  refine ev_succ ?_
  simp only [laws_FnExactBestClue.j0, Bool.false_eq_true, if_false]
  refine Ev.bind (toPuzzle_ev h l hs) ?_
  refine Ev.bind (eqPuzzle_self h _ (by omega)) ?_
  simp only [if_true]
  exact Ev.now _

end Go.Proofs.Ytjkkkinfclaikaa.Pure
