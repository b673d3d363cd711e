/- The text of a puzzle, as the program and the reference write it. -/
import Derived.Test.YtpeleommbipeaaaDoorLPuzzle0
import Derived.Test.YtpeleommbipeaaaDoorLDec
import Derived.Test.YtpeleommbipeaaaDoorFImplPuzzleText
import Derived.Test.YtpeleommbipeaaaDoorFSpecPzText
namespace Go.Proofs.YtpeleommbipeaaaDoor.P
open Go.RowKit Go.Proofs.YtpeleommbipeaaaDoorW.PrintWords Go.Proofs.YtpeleommbipeaaaDoorW.PrintLast
set_option linter.unusedVariables false
set_option linter.unusedSimpArgs false

def clueL (c : IClue) : List UInt8 := dn c.f0 ++ [46] ++ dn c.f1 ++ [46] ++ dn c.f2
def puzL (h : Int) (l : List IClue) : List UInt8 := dn h ++ [58] ++ Lib.join (l.map clueL) [44]
theorem clueOk_bounds {h : Int} (h1 : 2 ≤ h) (h2 : h ≤ 24) {c : IClue} (hc : clueOk' h c = true) : (0 ≤ c.f0 ∧ c.f0 ≤ 5) ∧ (0 ≤ c.f1 ∧ c.f1 ≤ 60) ∧ (0 ≤ c.f2 ∧ c.f2 ≤ 59) := by
  unfold clueOk' clueOk kindOk at hc
  rw [wsm (n := h - 1) (by omega) (by omega)] at hc
  simp only [Bool.and_eq_true, Bool.or_eq_true, decide_eq_true_eq] at hc
  obtain ⟨ha, hb⟩ := hc
  by_cases c0 : c.f0 = 0
  · rw [if_pos c0, wi_true] at hb; omega
  rw [if_neg c0] at hb
  by_cases c1 : c.f0 = 1
  · rw [if_pos c1, Bool.and_eq_true, wi_true] at hb
    obtain ⟨hb1, hb2⟩ := hb
    rw [wsm (n := c.f1 - 1) (by omega) (by omega), wi_true] at hb2
    omega
  rw [if_neg c1] at hb
  by_cases c2 : c.f0 = 2
  · rw [if_pos c2, wi_true] at hb; omega
  rw [if_neg c2] at hb
  by_cases c3 : c.f0 = 3
  · rw [if_pos c3, wi_true] at hb; omega
  rw [if_neg c3] at hb
  by_cases c4 : c.f0 = 4
  · rw [if_pos c4, wi_true] at hb; omega
  rw [if_neg c4] at hb
  by_cases c5 : c.f0 = 5
  · rw [if_pos c5, wi_true] at hb; omega
  rw [if_neg c5] at hb
  cases hb
def clueSm (c : IClue) : Prop := (0 ≤ c.f0 ∧ c.f0 < 100) ∧ (0 ≤ c.f1 ∧ c.f1 < 100) ∧ (0 ≤ c.f2 ∧ c.f2 < 100)
theorem clueSm_of {h : Int} (h1 : 2 ≤ h) (h2 : h ≤ 24) {c : IClue} (hc : clueOk' h c = true) : clueSm c := by
  have := clueOk_bounds h1 h2 hc
  unfold clueSm; omega
theorem clueL_len {c : IClue} (h : clueSm c) : (clueL c).length ≤ 8 := by
  have a := dn_len2 h.1.2
  have b := dn_len2 h.2.1.2
  have d := dn_len2 h.2.2.2
  simp only [clueL, List.length_append, List.length_singleton]
  omega
theorem join_len : ∀ l : List IClue, (∀ c ∈ l, clueSm c) → (Lib.joinTail [44] (l.map clueL)).length ≤ 9 * l.length
  | [], _ => by simp [Lib.joinTail]
  | x :: l, h => by
    have ih := join_len l (fun c hc => h c (List.mem_cons_of_mem _ hc))
    have := clueL_len (h x List.mem_cons_self)
    unfold Lib.joinTail at ih ⊢
    simp only [List.map_cons, List.flatten_cons, List.length_append, List.length_cons, List.length_nil]
    omega
theorem joinAll_len (l : List IClue) (h : ∀ c ∈ l, clueSm c) : (Lib.join (l.map clueL) [44]).length ≤ 9 * l.length := by
  cases l with
  | nil => simp [Lib.join_nil]
  | cons x l =>
    have := join_len l (fun c hc => h c (List.mem_cons_of_mem _ hc))
    have := clueL_len (h x List.mem_cons_self)
    rw [List.map_cons, Lib.join_cons, List.length_append, List.length_cons]
    omega
theorem joinTail_cons (x : List UInt8) (r : List (List UInt8)) : Lib.joinTail [44] (x :: r) = [44] ++ x ++ Lib.joinTail [44] r := by simp [Lib.joinTail]
theorem itoa_eq {n : Int} (h0 : 0 ≤ n) (h1 : n < 100) : strconv_Itoa_25.f n = some (bsOf (dn n)) := if_pos ⟨h0, h1⟩
theorem dot : (⟨#[46]⟩ : ByteArray) = bsOf [46] := rfl
theorem comma : (⟨#[44]⟩ : ByteArray) = bsOf [44] := rfl
theorem colon : (⟨#[58]⟩ : ByteArray) = bsOf [58] := rfl
theorem impl_pt_l (h : Int) (h1 : 0 ≤ h) (h2 : h < 100) (l : List IClue) (hl : l.length ≤ 100000) (hc : ∀ c ∈ l, clueSm c) (L : List IClue) : ∀ (d i : Nat), i + d = l.length →
    Ev (fun k => impl_puzzleText.l0 k ((l.take i).map fun c => bsOf (clueL c)) l l.length i h L) (bsOf (puzL h l)) := by
  intro d
  induction d with
  | zero =>
    intro i hi
    refine ev_succ ?_
    simp only [impl_puzzleText.l0]
    refine ev_neg (by omega) ?_
    rw [itoa_eq h1 h2, List.take_of_length_le (by omega)]
    simp only [Option.bind_some]
    have a := dn_len2 h2
    have b := joinAll_len l hc
    refine ev_pos (by rw [bsOf_size]; omega) ?_
    have e : ((l.map fun c => bsOf (clueL c)).map (·.data.toList)) = l.map clueL := by
      rw [List.map_map]; exact List.map_congr_left (fun c _ => bsOf_list _)
    have hj : strings_Join.f (l.map fun c => bsOf (clueL c)) (⟨#[44]⟩ : ByteArray) = some (bsOf (Lib.join (l.map clueL) [44])) := by
      unfold strings_Join.f
      rw [e, if_pos ⟨by show (Lib.join (l.map clueL) [44]).length ≤ _; omega, by rw [List.length_map]; omega⟩]
      rfl
    rw [hj]
    simp only [Option.bind_some, colon, bsOf_append]
    refine ev_pos (by simp only [bsOf_size, List.length_append, List.length_singleton]; omega) ?_
    exact Ev.now _
  | succ d ih =>
    intro i hi
    have hlt : i < l.length := by omega
    have hs := hc _ (List.getElem_mem hlt)
    obtain ⟨⟨a0, a1⟩, ⟨b0, b1⟩, ⟨c0, c1⟩⟩ := hs
    have x0 := dn_len2 a1
    have x1 := dn_len2 b1
    have x2 := dn_len2 c1
    refine ev_succ ?_
    simp only [impl_puzzleText.l0]
    refine ev_pos (by omega) (ev_pos (by omega) (ev_pos (by omega) ?_))
    rw [rd_get l i hlt, itoa_eq a0 a1, itoa_eq b0 b1, itoa_eq c0 c1]
    simp only [Option.bind_some, dot, bsOf_append]
    refine ev_pos (by rw [bsOf_size]; omega) ?_
    refine ev_pos (by simp only [bsOf_size, List.length_append, List.length_singleton]; omega) ?_
    refine ev_pos (by simp only [bsOf_size, List.length_append, List.length_singleton]; omega) ?_
    refine ev_pos (by simp only [bsOf_size, List.length_append, List.length_singleton]; omega) ?_
    refine ev_pos (by rw [List.length_map, List.length_take]; omega) ?_
    rw [wrap_succ (n := 100000) (by omega) (by omega)]
    have := ih (i + 1) (by omega)
    rw [List.take_succ_eq_append_getElem hlt, List.map_append] at this
    exact this
theorem impl_pt_ev (h : Int) (h1 : 0 ≤ h) (h2 : h < 100) (l : List IClue) (hl : l.length ≤ 100000) (hc : ∀ c ∈ l, clueSm c) : Ev (fun k => impl_puzzleText.f k h l) (bsOf (puzL h l)) := by
  have := impl_pt_l h h1 h2 l hl hc l l.length 0 (by omega)
  simpa [impl_puzzleText.f] using this
theorem spec_pt_l (l : List IClue) (hl : l.length ≤ 100000) (hc : ∀ c ∈ l, clueSm c) : ∀ (d i : Nat) (acc : List UInt8), i + d = l.length → 1 ≤ i → acc.length ≤ 100 + 9 * i →
    Ev (fun k => spec_pzText.l0 k (bsOf acc) l l.length i) (bsOf (acc ++ Lib.joinTail [44] ((l.drop i).map clueL))) := by
  intro d
  induction d with
  | zero =>
    intro i acc hi h1 ha
    refine ev_succ ?_
    simp only [spec_pzText.l0]
    refine ev_neg (by omega) ?_
    rw [List.drop_eq_nil_of_le (by omega)]
    simp only [List.map_nil, Lib.joinTail, List.flatten_nil, List.append_nil]
    exact Ev.now _
  | succ d ih =>
    intro i acc hi h1 ha
    have hlt : i < l.length := by omega
    have hs := hc _ (List.getElem_mem hlt)
    have hcl := clueL_len hs
    obtain ⟨⟨a0, a1⟩, ⟨b0, b1⟩, ⟨c0, c1⟩⟩ := hs
    have x0 := dn_len2 a1
    have x1 := dn_len2 b1
    have x2 := dn_len2 c1
    refine ev_succ ?_
    simp only [spec_pzText.l0]
    refine ev_pos (by omega) (ev_pos (by omega) (ev_pos (by omega) (ev_pos (by omega) (ev_pos (by rw [bsOf_size]; omega) ?_))))
    rw [rd_get l i hlt]
    refine Ev.bind (num_ev a0 (by omega)) ?_
    refine ev_pos (by rw [bsOf_size]; omega) ?_
    refine Ev.bind (num_ev b0 (by omega)) ?_
    simp only [dot, comma, bsOf_append]
    refine ev_pos (by simp only [bsOf_size, List.length_append, List.length_singleton]; omega) ?_
    refine ev_pos (by simp only [bsOf_size, List.length_append, List.length_singleton]; omega) ?_
    refine Ev.bind (num_ev c0 (by omega)) ?_
    simp only [bsOf_append]
    refine ev_pos (by simp only [bsOf_size, List.length_append, List.length_singleton]; omega) ?_
    refine ev_pos (by simp only [bsOf_size, List.length_append, List.length_singleton]; omega) ?_
    rw [wrap_succ (n := 100000) (by omega) (by omega)]
    have := ih (i + 1) (acc ++ [44] ++ clueL l[i]) (by omega) (by omega) (by simp only [List.length_append, List.length_singleton]; omega)
    rw [List.drop_eq_getElem_cons hlt]
    have e : acc ++ Lib.joinTail [44] ((l[i] :: l.drop (i + 1)).map clueL) = acc ++ [44] ++ clueL l[i] ++ Lib.joinTail [44] ((l.drop (i + 1)).map clueL) := by
      rw [List.map_cons, joinTail_cons]; simp only [List.append_assoc]
    rw [e]
    exact this
theorem spec_pt_ev (h : Int) (h1 : 0 ≤ h) (h2 : h < 100) (l : List IClue) (hl : l.length ≤ 100000) (hc : ∀ c ∈ l, clueSm c) : Ev (fun k => spec_pzText.f k h l) (bsOf (puzL h l)) := by
  have a := dn_len2 h2
  unfold spec_pzText.f
  refine Ev.bind (num_ev h1 (by omega)) ?_
  refine ev_pos (by rw [bsOf_size]; omega) ?_
  simp only [colon, bsOf_append]
  unfold puzL
  cases l with
  | nil =>
    refine ev_succ ?_
    simp only [spec_pzText.l0, List.map_nil, Lib.join_nil, List.append_nil]
    exact ev_neg (by simp) (Ev.now _)
  | cons x l =>
    have hs := hc x List.mem_cons_self
    have hcl := clueL_len hs
    obtain ⟨⟨a0, a1⟩, ⟨b0, b1⟩, ⟨c0, c1⟩⟩ := hs
    have x0 := dn_len2 a1
    have x1 := dn_len2 b1
    have x2 := dn_len2 c1
    have hlt : 0 < (x :: l).length := by simp
    have hrd : rd_T38 (x :: l) 0 = x := rd_get (x :: l) 0 hlt
    refine ev_succ ?_
    simp only [spec_pzText.l0]
    refine ev_pos (by omega) (ev_pos (by omega) (ev_pos (by omega) (ev_neg (by omega) ?_)))
    rw [hrd]
    refine Ev.bind (num_ev a0 (by omega)) ?_
    refine ev_pos (by rw [bsOf_size]; omega) ?_
    refine Ev.bind (num_ev b0 (by omega)) ?_
    simp only [dot, comma, bsOf_append]
    refine ev_pos (by simp only [bsOf_size, List.length_append, List.length_singleton]; omega) ?_
    refine ev_pos (by simp only [bsOf_size, List.length_append, List.length_singleton]; omega) ?_
    refine Ev.bind (num_ev c0 (by omega)) ?_
    simp only [bsOf_append]
    refine ev_pos (by simp only [bsOf_size, List.length_append, List.length_singleton]; omega) ?_
    refine ev_pos (by simp only [bsOf_size, List.length_append, List.length_singleton]; omega) ?_
    have e : wrap64 (0 + 1) = ((1 : Nat) : Int) := wrap_succ (i := 0) (n := 10) (by omega) (by omega)
    rw [e, List.map_cons, Lib.join_cons, show dn h ++ [58] ++ (clueL x ++ Lib.joinTail [44] (l.map clueL)) = dn h ++ [58] ++ clueL x ++ Lib.joinTail [44] (l.map clueL) from (List.append_assoc ..).symm]
    exact spec_pt_l (x :: l) hl hc l.length 1 (dn h ++ [58] ++ clueL x) (by simp; omega) (by omega) (by simp only [List.length_append, List.length_singleton]; omega)
theorem puz_sm {h : Int} {l : List IClue} (hp : puzzleOk h l = true) : (0 ≤ h ∧ h < 100) ∧ l.length ≤ 6 ∧ ∀ c ∈ l, clueSm c := by
  obtain ⟨h1, h2, h3, h4⟩ := puzzleOk_facts hp
  exact ⟨by omega, h3, fun c hc => clueSm_of h1 h2 (List.all_eq_true.1 h4 c hc)⟩

end Go.Proofs.YtpeleommbipeaaaDoor.P
