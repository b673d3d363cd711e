/- The text of a puzzle is read back, by the program and by the reference; and nothing else is read. -/
import Derived.Test.YtpeleommbipeaaaDoorLParsePz
namespace Go.Proofs.YtpeleommbipeaaaDoor.P
open Go.RowKit Go.Proofs.YtpeleommbipeaaaDoorW.PrintWords Go.Proofs.YtpeleommbipeaaaDoorW.PrintLast
set_option linter.unusedVariables false
set_option linter.unusedSimpArgs false

theorem splitL_none (c : UInt8) : ∀ a : List UInt8, c ∉ a → splitL c a = [a]
  | [], _ => rfl
  | b :: a, h => by
    simp only [List.mem_cons, not_or] at h
    unfold splitL
    rw [if_neg (fun e => h.1 e.symm), splitL_none c a h.2]
    rfl
theorem splitL_sep (c : UInt8) (r : List UInt8) : ∀ a : List UInt8, c ∉ a → splitL c (a ++ c :: r) = a :: splitL c r
  | [], _ => by simp [splitL]
  | b :: a, h => by
    simp only [List.mem_cons, not_or] at h
    rw [List.cons_append]
    show (if b = c then [] :: splitL c (a ++ c :: r) else onHead [b] (splitL c (a ++ c :: r))) = _
    rw [if_neg (fun e => h.1 e.symm), splitL_sep c r a h.2]
    rfl
theorem splitL_join (a : List UInt8) (r : List (List UInt8)) (ha : 44 ∉ a) (hr : ∀ y ∈ r, (44 : UInt8) ∉ y) : splitL 44 (a ++ Lib.joinTail [44] r) = a :: r := by
  induction r generalizing a with
  | nil => simp only [Lib.joinTail, List.map_nil, List.flatten_nil, List.append_nil]; exact splitL_none 44 a ha
  | cons y r ih =>
    have e : a ++ Lib.joinTail [44] (y :: r) = a ++ 44 :: (y ++ Lib.joinTail [44] r) := by simp [Lib.joinTail]
    rw [e, splitL_sep 44 _ a ha, ih y (hr y List.mem_cons_self) (fun z hz => hr z (List.mem_cons_of_mem _ hz))]
theorem indexByte_sep (c : UInt8) (r : List UInt8) : ∀ a : List UInt8, c ∉ a → Lib.indexByte (a ++ c :: r) c = (a.length : Int)
  | [], _ => by simp [Lib.indexByte]
  | b :: a, h => by
    simp only [List.mem_cons, not_or] at h
    have hb : (b == c) = false := by simpa using fun e => h.1 e.symm
    have ih := indexByte_sep c r a h.2
    rw [List.cons_append]
    unfold Lib.indexByte
    rw [ih]
    have h2 : ((a.length : Int) == -1) = false := by rw [beq_eq_false_iff_ne]; omega
    simp only [hb, h2, Bool.false_eq_true, if_false, List.length_cons]
    omega
theorem nodig {a : List UInt8} (ha : ∀ x ∈ a, 48 ≤ x.toNat ∧ x.toNat ≤ 57) {c : UInt8} (hc : c.toNat < 48 ∨ 57 < c.toNat) : c ∉ a := fun h => by have := ha c h; omega
theorem clueL_mem {c : IClue} (h : clueSm c) : ∀ x ∈ clueL c, (48 ≤ x.toNat ∧ x.toNat ≤ 57) ∨ x = 46 := by
  intro x hx
  simp only [clueL, List.mem_append, List.mem_singleton] at hx
  rcases hx with (((hx | hx) | hx) | hx) | hx
  · exact .inl (dn_digits h.1.1 h.1.2 x hx)
  · exact .inr hx
  · exact .inl (dn_digits h.2.1.1 h.2.1.2 x hx)
  · exact .inr hx
  · exact .inl (dn_digits h.2.2.1 h.2.2.2 x hx)
theorem clueL_no44 {c : IClue} (h : clueSm c) : (44 : UInt8) ∉ clueL c := fun hx => by
  rcases clueL_mem h 44 hx with z | z
  · revert z; decide
  · revert z; decide
theorem join_mem : ∀ (l : List IClue), (∀ c ∈ l, clueSm c) → ∀ x ∈ Lib.joinTail [44] (l.map clueL), (48 ≤ x.toNat ∧ x.toNat ≤ 57) ∨ x = 46 ∨ x = 44
  | [], _, x, hx => by simp [Lib.joinTail] at hx
  | c :: l, h, x, hx => by
    rw [List.map_cons, joinTail_cons] at hx
    simp only [List.mem_append, List.mem_singleton] at hx
    rcases hx with (hx | hx) | hx
    · exact .inr (.inr hx)
    · rcases clueL_mem (h c List.mem_cons_self) x hx with z | z
      · exact .inl z
      · exact .inr (.inl z)
    · exact join_mem l (fun y hy => h y (List.mem_cons_of_mem _ hy)) x hx
theorem join_no58 (l : List IClue) (h : ∀ c ∈ l, clueSm c) : (58 : UInt8) ∉ Lib.join (l.map clueL) [44] := by
  cases l with
  | nil => simp [Lib.join_nil]
  | cons c l =>
    rw [List.map_cons, Lib.join_cons]
    intro hx
    rcases List.mem_append.1 hx with hx | hx
    · rcases clueL_mem (h c List.mem_cons_self) _ hx with z | z
      · revert z; decide
      · revert z; decide
    · rcases join_mem l (fun y hy => h y (List.mem_cons_of_mem _ hy)) _ hx with z | z | z
      · revert z; decide
      · revert z; decide
      · revert z; decide
theorem pieces_join (l : List IClue) (hne : l ≠ []) (h : ∀ c ∈ l, clueSm c) : pieces 44 (bsOf (Lib.join (l.map clueL) [44])) = l.map fun c => bsOf (clueL c) := by
  cases l with
  | nil => exact absurd rfl hne
  | cons c l =>
    unfold pieces
    rw [bsOf_list, List.map_cons, Lib.join_cons, splitL_join _ _ (clueL_no44 (h c List.mem_cons_self)) (fun y hy => by
      obtain ⟨z, hz, rfl⟩ := List.mem_map.1 hy
      exact clueL_no44 (h z (List.mem_cons_of_mem _ hz)))]
    rw [List.map_cons, List.map_cons, List.map_map]
    rfl
theorem join_ne (l : List IClue) (hne : l ≠ []) : Lib.join (l.map clueL) [44] ≠ [] := by
  cases l with
  | nil => exact absurd rfl hne
  | cons c l =>
    rw [List.map_cons, Lib.join_cons]
    simp [clueL]
theorem pieces_clue {c : IClue} (h : clueSm c) : pieces 46 (bsOf (clueL c)) = [bsOf (dn c.f0), bsOf (dn c.f1), bsOf (dn c.f2)] := by
  unfold pieces
  have h0 : (46 : UInt8) ∉ dn c.f0 := nodig (dn_digits h.1.1 h.1.2) (by decide)
  have h1 : (46 : UInt8) ∉ dn c.f1 := nodig (dn_digits h.2.1.1 h.2.1.2) (by decide)
  have h2 : (46 : UInt8) ∉ dn c.f2 := nodig (dn_digits h.2.2.1 h.2.2.2) (by decide)
  have e : clueL c = dn c.f0 ++ 46 :: (dn c.f1 ++ 46 :: dn c.f2) := by simp [clueL]
  rw [bsOf_list, e, splitL_sep 46 _ _ h0, splitL_sep 46 _ _ h1, splitL_none 46 _ h2]
  rfl
theorem words_clue {c : IClue} (h : clueSm c) : wordsI (pieces 46 (bsOf (clueL c))) true [] = (true, [c.f0, c.f1, c.f2]) := by
  rw [pieces_clue h]
  simp only [wordsI]
  rw [rn_dn h.1.1 h.1.2 (by have := h.1.2; omega), rn_dn h.2.1.1 h.2.1.2 (by have := h.2.1.2; omega), rn_dn h.2.2.1 h.2.2.2 (by have := h.2.2.2; omega)]
  rfl
theorem piecesI_rt : ∀ (l : List IClue) (acc : List IClue), (∀ c ∈ l, clueSm c) → piecesI (l.map fun c => bsOf (clueL c)) true acc = some (true, acc ++ l)
  | [], acc, _ => by simp [piecesI]
  | c :: l, acc, h => by
    have ih := piecesI_rt l (acc ++ [c]) (fun y hy => h y (List.mem_cons_of_mem _ hy))
    rw [List.map_cons, piecesI, words_clue (h c List.mem_cons_self), if_pos (by rfl)]
    rw [List.append_assoc] at ih
    exact ih
theorem piecesS_rt : ∀ (l : List IClue) (acc : List IClue), (∀ c ∈ l, clueSm c) → piecesS (l.map fun c => bsOf (clueL c)) acc = some (acc ++ l)
  | [], acc, _ => by simp [piecesS]
  | c :: l, acc, h => by
    have hc := h c List.mem_cons_self
    have ih := piecesS_rt l (acc ++ [c]) (fun y hy => h y (List.mem_cons_of_mem _ hy))
    rw [List.map_cons, piecesS, pieces_clue hc, if_pos (by rfl)]
    have e0 : readL (rdOf ByteArray.empty [bsOf (dn c.f0), bsOf (dn c.f1), bsOf (dn c.f2)] 0) = c.f0 := read_dn hc.1.1 hc.1.2
    have e1 : readL (rdOf ByteArray.empty [bsOf (dn c.f0), bsOf (dn c.f1), bsOf (dn c.f2)] 1) = c.f1 := read_dn hc.2.1.1 hc.2.1.2
    have e2 : readL (rdOf ByteArray.empty [bsOf (dn c.f0), bsOf (dn c.f1), bsOf (dn c.f2)] 2) = c.f2 := read_dn hc.2.2.1 hc.2.2.2
    rw [e0, e1, e2]
    rw [List.append_assoc] at ih
    exact ih
/-- The text of a puzzle. -/
def isText (s : ByteArray) (h : Int) (l : List IClue) : Prop := puzzleOk h l = true ∧ bsOf (puzL h l) = s
theorem cut_text {h : Int} (h0 : 0 ≤ h) (h1 : h < 100) (J : List UInt8) : cutB (bsOf (dn h ++ [58] ++ J)) = (bsOf (dn h), bsOf J) := by
  have hn : (58 : UInt8) ∉ dn h := nodig (dn_digits h0 h1) (by decide)
  have hi : Lib.indexByte (bsOf (dn h ++ [58] ++ J)).data.toList 58 = ((dn h).length : Int) := by
    rw [bsOf_list, List.append_assoc, List.singleton_append]
    exact indexByte_sep 58 J _ hn
  unfold cutB
  rw [hi, if_neg (by omega), Int.toNat_natCast]
  have hz : (bsOf (dn h ++ [58] ++ J)).size = (dn h).length + 1 + J.length := by rw [bsOf_size]; simp; omega
  congr 1
  · apply bs_ext
    rw [extract_list, bsOf_list, bsOf_list, List.drop_zero, List.append_assoc, List.take_left]
  · apply bs_ext
    rw [extract_list, bsOf_list, bsOf_list, hz, List.take_of_length_le (by simp; omega)]
    rw [show (dn h).length + 1 = (dn h ++ [58]).length by simp, List.drop_left]
theorem resI_rt {s : ByteArray} {h : Int} {l : List IClue} (ht : isText s h l) : resI s = (h, l, true) := by
  obtain ⟨hp, rfl⟩ := ht
  obtain ⟨⟨a, b⟩, hl, hs⟩ := puz_sm hp
  obtain ⟨g1, g2, _, _⟩ := puzzleOk_facts hp
  unfold resI
  have hc : cutB (bsOf (puzL h l)) = (bsOf (dn h), bsOf (Lib.join (l.map clueL) [44])) := cut_text a b _
  have hr : rn (bsOf (dn h)) 24 = (h, true) := rn_dn a b g2
  rw [hc]
  show (if (bsOf (Lib.join (l.map clueL) [44])).data.toList = [] then endI (bsOf (puzL h l)) (rn (bsOf (dn h)) 24).2 (rn (bsOf (dn h)) 24).1 [] else outI (bsOf (puzL h l)) (rn (bsOf (dn h)) 24).1 (piecesI (pieces 44 (bsOf (Lib.join (l.map clueL) [44]))) (rn (bsOf (dn h)) 24).2 [])) = _
  rw [hr, bsOf_list]
  by_cases e : l = []
  · subst e
    rw [if_pos (by simp [Lib.join_nil])]
    unfold endI
    rw [if_pos ⟨rfl, hp, rfl⟩]
  · rw [if_neg (join_ne l e), pieces_join l e hs, piecesI_rt l [] hs]
    show endI (bsOf (puzL h l)) true h ([] ++ l) = _
    rw [List.nil_append]
    unfold endI
    rw [if_pos ⟨rfl, hp, rfl⟩]
theorem resS_rt {s : ByteArray} {h : Int} {l : List IClue} (ht : isText s h l) : resS s = (h, l, true) := by
  obtain ⟨hp, rfl⟩ := ht
  obtain ⟨⟨a, b⟩, hl, hs⟩ := puz_sm hp
  have hn : (58 : UInt8) ∉ dn h := nodig (dn_digits a b) (by decide)
  have hd := dn_len2 b
  have hj := joinAll_len l hs
  have hsz : (bsOf (puzL h l)).size ≤ 100 := by
    rw [bsOf_size]
    unfold puzL
    simp only [List.length_append, List.length_singleton]
    omega
  have hpc : pieces 58 (bsOf (puzL h l)) = [bsOf (dn h), bsOf (Lib.join (l.map clueL) [44])] := by
    unfold pieces puzL
    rw [bsOf_list, List.append_assoc, List.singleton_append, splitL_sep 58 _ _ hn, splitL_none 58 _ (join_no58 l hs)]
    rfl
  unfold resS
  rw [if_neg (by omega), hpc, if_pos (by rfl)]
  have e0 : readL (rdOf ByteArray.empty [bsOf (dn h), bsOf (Lib.join (l.map clueL) [44])] 0) = h := read_dn a b
  have e1 : rdOf ByteArray.empty [bsOf (dn h), bsOf (Lib.join (l.map clueL) [44])] 1 = bsOf (Lib.join (l.map clueL) [44]) := rfl
  rw [e0, e1]
  by_cases e : l = []
  · subst e
    rw [if_neg (by rw [bsOf_size]; simp [Lib.join_nil])]
    unfold endS
    rw [if_pos hp, decide_eq_true rfl]
  · have hne := join_ne l e
    have : 0 < (Lib.join (l.map clueL) [44]).length := by
      rcases Nat.eq_zero_or_pos (Lib.join (l.map clueL) [44]).length with z | z
      · exact absurd (List.eq_nil_of_length_eq_zero z) hne
      · exact z
    rw [if_pos (by rw [bsOf_size]; omega), pieces_join l e hs, piecesS_rt l [] hs]
    show endS (bsOf (puzL h l)) h ([] ++ l) = _
    rw [List.nil_append]
    unfold endS
    rw [if_pos hp, decide_eq_true rfl]
def okI (s : ByteArray) (r : PRes) : Prop := r = (0, [], false) ∨ (r.2.2 = true ∧ isText s r.1 r.2.1)
theorem endI_ok (s : ByteArray) (ok : Bool) (h : Int) (l : List IClue) : okI s (endI s ok h l) := by
  unfold endI
  split
  · next c => exact .inr ⟨rfl, c.2.1, c.2.2⟩
  · exact .inl rfl
theorem resI_ok (s : ByteArray) : okI s (resI s) := by
  unfold resI
  split
  · exact endI_ok _ _ _ _
  · cases piecesI (pieces 44 (cutB s).2) (rn (cutB s).1 24).2 [] with
    | none => exact .inl rfl
    | some p => exact endI_ok _ _ _ _
theorem endS_ok (s : ByteArray) (h : Int) (l : List IClue) (ht : (endS s h l).2.2 = true) : isText s (endS s h l).1 (endS s h l).2.1 := by
  unfold endS at ht ⊢
  by_cases c : puzzleOk h l = true
  · rw [if_pos c] at ht ⊢
    exact ⟨c, of_decide_eq_true ht⟩
  · rw [if_neg c] at ht
    cases ht
theorem resS_ok (s : ByteArray) (ht : (resS s).2.2 = true) : isText s (resS s).1 (resS s).2.1 := by
  unfold resS at ht ⊢
  split at ht
  · cases ht
  · next c1 =>
    rw [if_neg c1]
    split at ht
    · next c2 =>
      rw [if_pos c2]
      split at ht
      · next c3 =>
        rw [if_pos c3]
        revert ht
        cases piecesS (pieces 44 (rdOf ByteArray.empty (pieces 58 s) 1)) [] with
        | none => intro ht; cases ht
        | some p => intro ht; exact endS_ok _ _ _ ht
      · next c3 =>
        rw [if_neg c3]
        exact endS_ok _ _ _ ht
    · cases ht
/-- What both say. -/
theorem both_pp (s : ByteArray) : (if (resS s).2.2 = true then ((resS s).1, (resS s).2.1, true) else ((0 : Int), ([] : List IClue), false)) = resI s := by
  by_cases c : (resS s).2.2 = true
  · rw [if_pos c, resI_rt (resS_ok s c)]
  · rw [if_neg c]
    rcases resI_ok s with h | ⟨_, h⟩
    · exact h.symm
    · have := resS_rt h
      rw [this] at c
      exact absurd rfl c
theorem spec_ParsePuzzle_ev (s : ByteArray) (hs : s.size ≤ 1048576) : Ev (fun k => spec_ParsePuzzle.f k s) (resI s) := by
  rw [← both_pp s]
  unfold spec_ParsePuzzle.f
  refine Ev.bind (spec_pp_ev s hs) ?_
  by_cases c : (resS s).2.2 = true
  · refine ev_pos c ?_
    rw [if_pos c]
    exact Ev.now _
  · refine ev_neg c ?_
    rw [if_neg c]
    exact Ev.now _
theorem resI_len (s : ByteArray) : (resI s).2.1.length ≤ 6 := by
  rcases resI_ok s with h | ⟨_, h⟩
  · rw [h]; simp
  · exact (puzzleOk_facts h.1).2.2.1

end Go.Proofs.YtpeleommbipeaaaDoor.P
