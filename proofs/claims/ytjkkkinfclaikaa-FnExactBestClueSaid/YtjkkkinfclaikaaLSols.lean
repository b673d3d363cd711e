/- Solutions, told by the program and by the reference alike. -/
import Derived.Test.YtjkkkinfclaikaaLSol
import Derived.Test.YtjkkkinfclaikaaFImplSolutions
namespace Go.Proofs.Ytjkkkinfclaikaa.P
open Go.RowKit Go.Proofs.YtjkkkinfclaikaaW.PrintWords Go.Proofs.YtjkkkinfclaikaaW.PrintLast
set_option linter.unusedVariables false
set_option linter.unusedSimpArgs false

def solsB (h : Int) (l : List IClue) : List Int × Bool := if puzzleOk h l = true then (sols h l, true) else ([], false)
theorem implSolutions_ev (h : Int) (l : List IClue) : Ev (fun k => impl_Solutions.f k h l) (solsB h l) := by
  unfold impl_Solutions.f solsB
  refine Ev.bind (isPuzzle_ev h l) ?_
  by_cases hp : puzzleOk h l = true
  · simp only [hp, if_true]
    obtain ⟨h1, h2, h3, h4⟩ := puzzleOk_facts hp
    exact Ev.bind (solutions_ev h1 h2 l h4) (Ev.now _)
  · simp only [Bool.not_eq_true] at hp
    simp only [hp, Bool.false_eq_true, if_false]
    exact Ev.now _
/-- What the reference does behind its test of a puzzle. -/
theorem pz_ev {α : Type} (h : Int) (l : List IClue) (hn : l.length ≤ 1048576) {F : Nat → Option α} {a b : α} (hF : 2 ≤ h → h ≤ 24 → l.length ≤ 6 → l.all (clueOk' h) = true → Ev F a) :
    Ev (fun k => (spec_pzGood.f k h l).bind fun t => if t = true then F k else some b) (if puzzleOk h l = true then a else b) := by
  refine Ev.bind (pzGood_ev h l (by omega)) ?_
  by_cases hp : puzzleOk h l = true
  · simp only [hp, if_true]
    obtain ⟨h1, h2, h3, h4⟩ := puzzleOk_facts hp
    exact hF h1 h2 h3 h4
  · simp only [Bool.not_eq_true] at hp
    simp only [hp, Bool.false_eq_true, if_false]
    exact Ev.now _

end Go.Proofs.Ytjkkkinfclaikaa.P
