/- The pure law of AddClue: for all puzzles of at most 1048576 clues the program's answer is the reference's, the argument stays, and the answer is new memory. -/
import Derived.Test.YtpeleommbipeaaaStFnExactAddClue
import Derived.Test.YtpeleommbipeaaaLPuzzle
import Derived.Test.YtpeleommbipeaaaLMarkP
import Derived.Test.YtpeleommbipeaaaFImplAddClue
import Derived.Test.YtpeleommbipeaaaFSpecAddClue
namespace Go.Proofs.Ytpeleommbipeaaa.Pure
open Go.RowKit Go.Proofs.Ytpeleommbipeaaa.P Go.Proofs.YtpeleommbipeaaaW.PrintWords Go.Proofs.YtpeleommbipeaaaW.PrintLast
set_option linter.unusedVariables false
set_option linter.unusedSimpArgs false

def addB (h : Int) (l : List IClue) (c : IClue) : Int × List IClue × Bool := if puzzleOk h l = true then (if puzzleOk h (l ++ [c]) = true then (h, l ++ [c], true) else (0, [], false)) else (0, [], false)
theorem AddClue_len (h : Int) (l : List IClue) (c : IClue) (hn : l.length ≤ 1048576) : (addB h l c).2.1.length ≤ 1048577 := by
  unfold addB
  split
  · split
    · show (l ++ [c]).length ≤ _
      rw [List.length_append, List.length_singleton]; omega
    · exact Nat.zero_le _
  · exact Nat.zero_le _
theorem puzzleOk_append (h : Int) (l : List IClue) (c : IClue) (hp : puzzleOk h l = true) : puzzleOk h (l ++ [c]) = (clueOk' h c && !decide ((l.length : Int) = 6)) := by
  obtain ⟨h1, h2, h3, h4⟩ := puzzleOk_facts hp
  have e0 : wi h 2 24 = true := by rw [wi_true]; omega
  unfold puzzleOk
  rw [e0, List.all_append, h4, Bool.true_and, Bool.true_and, List.length_append, List.length_singleton, List.all_cons, List.all_nil, Bool.and_true, Bool.and_comm]
  congr 1
  by_cases e : (l.length : Int) = 6
  · rw [decide_eq_true e, decide_eq_false (by omega)]; rfl
  · rw [decide_eq_false e, decide_eq_true (by omega)]; rfl
theorem impl_AddClue_ev (h : Int) (l : List IClue) (a b c : Int) (hn : l.length ≤ 1048576) : Ev (fun k => impl_AddClue.f k h l a b c) (addB h l ⟨a, b, c⟩) := by
  have hc : slices_Clone_impl_Clue.f l = some l := by
    simp only [slices_Clone_impl_Clue.f, Option.bind_some, List.nil_append, List.length_nil, Nat.zero_add]
    rw [if_pos (by omega)]
  unfold impl_AddClue.f addB
  simp only [hc, Option.bind_some, List.length_singleton]
  refine ev_pos (by omega) ?_
  refine Ev.bind (isPuzzle_ev h l) ?_
  by_cases hp : puzzleOk h l = true
  · simp only [hp, if_true]
    refine Ev.bind (isPuzzle_ev h (l ++ [⟨a, b, c⟩])) ?_
    by_cases hq : puzzleOk h (l ++ [⟨a, b, c⟩]) = true
    · simp only [hq, if_true]; exact Ev.now _
    · simp only [Bool.not_eq_true] at hq
      simp only [hq, Bool.false_eq_true, if_false]; exact Ev.now _
  · simp only [Bool.not_eq_true] at hp
    simp only [hp, Bool.false_eq_true, if_false]; exact Ev.now _
theorem spec_AddClue_ev (h : Int) (l : List IClue) (a b c : Int) (hn : l.length ≤ 1048576) : Ev (fun k => spec_AddClue.f k h l a b c) (addB h l ⟨a, b, c⟩) := by
  unfold spec_AddClue.f addB
  refine Ev.bind (pzGood_ev h l (by omega)) ?_
  by_cases hp : puzzleOk h l = true
  · simp only [hp, if_true, puzzleOk_append h l _ hp]
    refine Ev.bind (ev_later (fun k => pzClue_eq k h a b c)) ?_
    have e : clueOk' h ⟨a, b, c⟩ = clueOk h a b c := rfl
    rw [e]
    by_cases hq : clueOk h a b c = true
    · simp only [hq, if_true, Bool.true_and]
      by_cases h6 : (l.length : Int) = 6
      · simp only [h6, if_true, decide_true, Bool.not_true, Bool.false_eq_true, if_false]
        exact Ev.now _
      · simp only [h6, if_false, decide_false, Bool.not_false, if_true, Option.bind_some, List.nil_append, List.length_nil, Nat.zero_add, List.length_singleton]
        exact ev_pos (by omega) (ev_pos (by omega) (Ev.now _))
    · simp only [Bool.not_eq_true] at hq
      simp only [hq, Bool.false_eq_true, if_false, Bool.false_and]
      exact Ev.now _
  · simp only [Bool.not_eq_true] at hp
    simp only [hp, Bool.false_eq_true, if_false]; exact Ev.now _
theorem FnExactAddClue : FnExactAddClue.Pure := by
  rintro ⟨h, l⟩ ⟨a, b, c⟩ ⟨_, hl, hs, _⟩ _
  have hs : l.length * 24 ≤ 140737488351232 := hs
  refine Ev.rounds ?_
  simp only [laws_FnExactAddClue.f, laws_toClue.f, Option.bind_some]
  refine sz_law hs (fun hlen => ?_)
  have hm := cv_length l hlen
  have hr := AddClue_len h (l.map cv) ⟨a, b, c⟩ hm
  refine Ev.bind (toPuzzle_ev h l hs) ?_
  refine Ev.bind (spec_AddClue_ev h _ a b c hm) ?_
  refine Ev.bind (toPuzzle_ev h l hs) ?_
  refine Ev.bind (impl_AddClue_ev h _ a b c hm) ?_
  refine Ev.bind (eqPuzzle_self _ (addB h (l.map cv) ⟨a, b, c⟩).2.1 (by omega)) ?_
  simp only [if_true, bne_self_eq_false]
  refine ev_succ ?_
  simp only [laws_FnExactAddClue.j0, Bool.false_eq_true, if_false]
  refine Ev.bind (toPuzzle_ev h l hs) ?_
  refine Ev.bind (eqPuzzle_self h _ (by omega)) ?_
  simp only [if_true]
  refine Ev.bind (markPuzzle_ev h _ (by omega)) ?_
  refine ev_neg (by first | omega | (dsimp only; omega)) ?_
  refine Ev.bind (eqPuzzle_self _ (addB h (l.map cv) ⟨a, b, c⟩).2.1 (by omega)) ?_
  simp only [if_true, bne_self_eq_false]
  refine ev_succ ?_
  simp only [laws_FnExactAddClue.j1, laws_toClue.f, Option.bind_some, Bool.false_eq_true, if_false]
  refine Ev.bind (markPuzzle_ev _ (addB h (l.map cv) ⟨a, b, c⟩).2.1 (by omega)) ?_
  refine Ev.bind (heldPuzzle_ev _ (addB h (l.map cv) ⟨a, b, c⟩).2.1.length (by omega)) ?_
  refine ev_neg (by first | omega | (dsimp only; omega)) ?_
  refine ev_pos rfl ?_
  refine Ev.bind (toPuzzle_ev h l hs) ?_
  refine Ev.bind (impl_AddClue_ev h _ a b c hm) ?_
  refine Ev.bind (eqPuzzle_self _ (addB h (l.map cv) ⟨a, b, c⟩).2.1 (by omega)) ?_
  simp only [if_true, bne_self_eq_false]
  refine ev_succ ?_
  simp only [laws_FnExactAddClue.j2, Bool.false_eq_true, if_false]
  refine Ev.bind (heldPuzzle_ev _ (addB h (l.map cv) ⟨a, b, c⟩).2.1.length (by omega)) ?_
  refine ev_neg (by first | omega | (dsimp only; omega)) ?_
  refine ev_pos rfl ?_
  exact Ev.now _

end Go.Proofs.Ytpeleommbipeaaa.Pure
