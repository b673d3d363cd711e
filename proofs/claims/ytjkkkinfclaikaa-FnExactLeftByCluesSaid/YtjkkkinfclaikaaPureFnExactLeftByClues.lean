/- The pure law of LeftByClues: for all puzzles of at most 1048576 clues the program's answer is the reference's, the argument stays, and the answer is new memory. -/
import Derived.Test.YtjkkkinfclaikaaStFnExactLeftByClues
import Derived.Test.YtjkkkinfclaikaaLSols
import Derived.Test.YtjkkkinfclaikaaLMark
import Derived.Test.YtjkkkinfclaikaaFSpecLeftByClues
import Derived.Test.YtjkkkinfclaikaaFImplLeftByClues
namespace Go.Proofs.Ytjkkkinfclaikaa.Pure
open Go.RowKit Go.Proofs.Ytjkkkinfclaikaa.P Go.Proofs.YtjkkkinfclaikaaW.PrintWords Go.Proofs.YtjkkkinfclaikaaW.PrintLast
set_option linter.unusedVariables false
set_option linter.unusedSimpArgs false

def lefts (h : Int) (l : List IClue) (n : Nat) : List Int := (List.range n).map fun i => ((sols h (l.take i)).length : Int)
def leftB (h : Int) (l : List IClue) : List Int × Bool := if puzzleOk h l = true then (lefts h l (l.length + 1), true) else ([], false)
theorem lefts_length (h : Int) (l : List IClue) (n : Nat) : (lefts h l n).length = n := by simp [lefts]
theorem lefts_succ (h : Int) (l : List IClue) (n : Nat) : lefts h l (n + 1) = lefts h l n ++ [((sols h (l.take n)).length : Int)] := by simp [lefts, List.range_succ]
theorem LeftByClues_len (h : Int) (l : List IClue) : (leftB h l).1.length ≤ 1440 := by
  unfold leftB
  split
  · next hp => have := (puzzleOk_facts hp).2.2.1; simp only [lefts_length]; omega
  · simp
theorem all_take (f : IClue → Bool) (l : List IClue) (hl : l.all f = true) (i : Nat) : (l.take i).all f = true := by
  rw [List.all_eq_true] at *
  intro x hx
  exact hl x (List.mem_of_mem_take hx)
theorem impl_left_l {h : Int} (h1 : 2 ≤ h) (h2 : h ≤ 24) (l : List IClue) (hn : l.length ≤ 6) (hl : l.all (clueOk' h) = true) : ∀ (d i : Nat), i + d = l.length + 1 → Ev (fun k => impl_LeftByClues.l0 k (lefts h l i) ((l.length + 1 : Nat) : Int) i h l) (lefts h l (l.length + 1), true) := by
  intro d
  induction d with
  | zero =>
    intro i hi
    refine ev_later (fun k => ?_)
    have : i = l.length + 1 := by omega
    subst this
    simp only [impl_LeftByClues.l0]
    rw [if_neg (by omega)]
  | succ d ih =>
    intro i hi
    refine ev_succ ?_
    simp only [impl_LeftByClues.l0]
    refine ev_pos (by omega) (ev_pos (by omega) (ev_pos (by omega) ?_))
    simp only [Int.toNat_natCast]
    refine Ev.bind (solutions_ev h1 h2 (l.take i) (all_take _ l hl i)) ?_
    refine ev_pos (by rw [lefts_length]; omega) ?_
    rw [wrap_succ (n := 10) (by omega) (by omega), ← lefts_succ]
    exact ih (i + 1) (by omega)
theorem spec_left_l {h : Int} (h1 : 2 ≤ h) (h2 : h ≤ 24) (l : List IClue) (hn : l.length ≤ 6) (hl : l.all (clueOk' h) = true) : ∀ (d i : Nat), i + d = l.length + 1 → Ev (fun k => spec_LeftByClues.l0 k (lefts h l i) i h l) (lefts h l (l.length + 1), true) := by
  intro d
  induction d with
  | zero =>
    intro i hi
    refine ev_later (fun k => ?_)
    have : i = l.length + 1 := by omega
    subst this
    simp only [spec_LeftByClues.l0]
    rw [if_neg (by omega)]
  | succ d ih =>
    intro i hi
    refine ev_succ ?_
    simp only [spec_LeftByClues.l0]
    refine ev_pos (by omega) (ev_pos (by omega) ?_)
    simp only [Int.toNat_natCast]
    refine Ev.bind (pzAll_ev h1 h2 (l.take i) (by simp; omega) (all_take _ l hl i)) ?_
    refine ev_pos (by rw [lefts_length]; omega) ?_
    rw [wrap_succ (n := 10) (by omega) (by omega), ← lefts_succ]
    exact ih (i + 1) (by omega)
theorem spec_LeftByClues_ev (h : Int) (l : List IClue) (hn : l.length ≤ 1048576) : Ev (fun k => spec_LeftByClues.f k h l) (leftB h l) := by
  unfold spec_LeftByClues.f leftB
  exact pz_ev h l hn (fun h1 h2 h3 h4 => spec_left_l h1 h2 l h3 h4 (l.length + 1) 0 (by omega))
theorem impl_LeftByClues_ev (h : Int) (l : List IClue) (hn : l.length ≤ 1048576) : Ev (fun k => impl_LeftByClues.f k h l) (leftB h l) := by
  unfold impl_LeftByClues.f leftB
  refine Ev.bind (isPuzzle_ev h l) ?_
  by_cases hp : puzzleOk h l = true
  · simp only [hp, if_true]
    obtain ⟨h1, h2, h3, h4⟩ := puzzleOk_facts hp
    rw [wrap_succ (n := 10) (by omega) (by omega)]
    exact impl_left_l h1 h2 l h3 h4 (l.length + 1) 0 (by omega)
  · simp only [Bool.not_eq_true] at hp
    simp only [hp, Bool.false_eq_true, if_false]
    exact Ev.now _
theorem FnExactLeftByClues : FnExactLeftByClues.Pure := by
  rintro ⟨h, l⟩ ⟨_, hl, hs, _⟩
  have hs : l.length * 24 ≤ 140737488351232 := hs
  refine Ev.rounds ?_
  simp only [laws_FnExactLeftByClues.f]
  refine sz_law hs (fun hlen => ?_)
  have hm := cv_length l hlen
  have hr := LeftByClues_len h (l.map cv)
  refine Ev.bind (toPuzzle_ev h l hs) ?_
  refine Ev.bind (spec_LeftByClues_ev h _ hm) ?_
  refine Ev.bind (toPuzzle_ev h l hs) ?_
  refine Ev.bind (impl_LeftByClues_ev h _ hm) ?_
  refine Ev.bind (eqIntS_self (leftB h (l.map cv)).1 (by omega)) ?_
  simp only [if_true, bne_self_eq_false]
  refine ev_succ ?_
  simp only [laws_FnExactLeftByClues.j0, Bool.false_eq_true, if_false]
  refine Ev.bind (toPuzzle_ev h l hs) ?_
  refine Ev.bind (eqPuzzle_self h _ (by omega)) ?_
  simp only [if_true]
  refine Ev.bind (markPuzzle_ev h _ (by omega)) ?_
  refine ev_neg (by first | omega | (dsimp only; omega)) ?_
  refine Ev.bind (eqIntS_self (leftB h (l.map cv)).1 (by omega)) ?_
  simp only [if_true, bne_self_eq_false]
  refine ev_succ ?_
  simp only [laws_FnExactLeftByClues.j1, Bool.false_eq_true, if_false]
  refine Ev.bind (markIntS_ev (leftB h (l.map cv)).1 (by omega)) ?_
  refine Ev.bind (heldIntS_ev (leftB h (l.map cv)).1.length (by omega)) ?_
  refine ev_neg (by first | omega | (dsimp only; omega)) ?_
  refine ev_pos rfl ?_
  refine Ev.bind (toPuzzle_ev h l hs) ?_
  refine Ev.bind (impl_LeftByClues_ev h _ hm) ?_
  refine Ev.bind (eqIntS_self (leftB h (l.map cv)).1 (by omega)) ?_
  simp only [if_true, bne_self_eq_false]
  refine ev_succ ?_
  simp only [laws_FnExactLeftByClues.j2, Bool.false_eq_true, if_false]
  refine Ev.bind (heldIntS_ev (leftB h (l.map cv)).1.length (by omega)) ?_
  refine ev_neg (by first | omega | (dsimp only; omega)) ?_
  refine ev_pos rfl ?_
  exact Ev.now _

end Go.Proofs.Ytjkkkinfclaikaa.Pure
