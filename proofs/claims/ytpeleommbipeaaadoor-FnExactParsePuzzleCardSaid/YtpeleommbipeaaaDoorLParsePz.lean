/- The puzzle with a text: what the program reads, and what the reference reads. -/
import Derived.Test.YtpeleommbipeaaaDoorLPuzTxt
import Derived.Test.YtpeleommbipeaaaDoorLSplit
import Derived.Test.YtpeleommbipeaaaDoorFImplParsePuzzle
import Derived.Test.YtpeleommbipeaaaDoorFSpecParsePuzzle
namespace Go.Proofs.YtpeleommbipeaaaDoor.P
open Go.RowKit Go.Proofs.YtpeleommbipeaaaDoorW.PrintWords Go.Proofs.YtpeleommbipeaaaDoorW.PrintLast
set_option linter.unusedVariables false
set_option linter.unusedSimpArgs false

/-! Numbers in texts. -/
def d2 (n : Nat) : List UInt8 := if n < 10 then [UInt8.ofNat (48 + n)] else [UInt8.ofNat (48 + n / 10), UInt8.ofNat (48 + n % 10)]
theorem dn_d2 {n : Int} (h0 : 0 ≤ n) (h1 : n < 100) : dn n = d2 n.toNat := by
  unfold dn d2
  by_cases c : n.toNat < 10
  · rw [dec_small c, if_pos c]
  · rw [dec_big (by omega), dec_small (by omega), if_neg c]; rfl
theorem d2_atoi : ((List.range 100).all fun n => match Lib.atoiAll (d2 n) with | .ok v => v == (n : Int) | _ => false) = true := by decide +kernel
theorem d2_digits : ((List.range 100).all fun n => (d2 n).all fun c => decide (48 ≤ c.toNat) && decide (c.toNat ≤ 57)) = true := by decide +kernel
theorem atoi_dn {n : Int} (h0 : 0 ≤ n) (h1 : n < 100) : Lib.atoiAll (dn n) = .ok n := by
  rw [dn_d2 h0 h1]
  have := List.all_eq_true.1 d2_atoi n.toNat (List.mem_range.2 (by omega))
  revert this
  rcases Lib.atoiAll (d2 n.toNat) with v | _ | _
  · intro h; simp only [beq_iff_eq] at h; congr 1; omega
  · intro h; cases h
  · intro h; cases h
theorem dn_digits {n : Int} (h0 : 0 ≤ n) (h1 : n < 100) : ∀ c ∈ dn n, 48 ≤ c.toNat ∧ c.toNat ≤ 57 := by
  intro c hc
  rw [dn_d2 h0 h1] at hc
  have := List.all_eq_true.1 (List.all_eq_true.1 d2_digits n.toNat (List.mem_range.2 (by omega))) c hc
  simpa using this
theorem bs_toList (a : ByteArray) : a.toList = a.data.toList := Lib.toList_data a
def rn (s : ByteArray) (m : Int) : Int × Bool := impl_readNumber.v s m
theorem rn_eq (s : ByteArray) (m : Int) (hs : s.size ≤ 281474976710656) (hm : m ≤ 1000) : impl_readNumber.f s m = some (rn s m) := if_pos ⟨hs, by omega⟩
theorem rn_dn {n m : Int} (h0 : 0 ≤ n) (h1 : n < 100) (hm : n ≤ m) : rn (bsOf (dn n)) m = (n, true) := by
  unfold rn impl_readNumber.v
  rw [bsOf_list, atoi_dn h0 h1]
  show (if 0 ≤ n ∧ n ≤ m then (if Lib.itoa n = (bsOf (dn n)).toList then (n, true) else (0, false)) else (0, false)) = _
  rw [if_pos ⟨h0, hm⟩, if_pos]
  rw [bs_toList, bsOf_list]
  unfold Lib.itoa dn
  rw [if_neg (by omega)]
def readGo : List UInt8 → Int → Int
  | [], n => n
  | c :: cs, n => if (c.toNat : Int) < 48 then -1 else if (c.toNat : Int) > 57 then -1 else readGo cs (wrap64 (wrap64 (10 * n) + ((c.toNat : Int) - 48) % 256))
def readL (s : ByteArray) : Int := if wi s.size 1 6 = true then (if bt s 0 = 48 ∧ (s.size : Int) > 1 then -1 else readGo s.data.toList 0) else -1
theorem l1Read_l (s : ByteArray) (hs : s.size ≤ 6) : ∀ (d i : Nat) (n : Int), i + d = s.size → Ev (fun k => spec_l1Read.l0 k s n i) (readGo (s.data.toList.drop i) n) := by
  have hl : s.data.toList.length = s.size := Array.length_toList
  intro d
  induction d with
  | zero =>
    intro i n hi
    refine ev_succ ?_
    simp only [spec_l1Read.l0]
    rw [List.drop_eq_nil_of_le (by omega)]
    exact ev_neg (by omega) (Ev.now _)
  | succ d ih =>
    intro i n hi
    have hlt : i < s.data.toList.length := by omega
    refine ev_succ ?_
    simp only [spec_l1Read.l0]
    refine ev_pos (by omega) (ev_pos (by omega) ?_)
    rw [bt_at s i hlt, wrap_succ (n := 10) (by omega) (by omega), List.drop_eq_getElem_cons hlt]
    simp only [readGo]
    by_cases c1 : (s.data.toList[i].toNat : Int) < 48
    · refine ev_pos c1 ?_; rw [if_pos c1]; exact Ev.now _
    · refine ev_neg c1 ?_
      rw [if_neg c1]
      by_cases c2 : (s.data.toList[i].toNat : Int) > 57
      · refine ev_pos c2 ?_; rw [if_pos c2]; exact Ev.now _
      · refine ev_neg c2 ?_
        rw [if_neg c2]
        exact ih (i + 1) _ (by omega)
theorem l1Read_ev (s : ByteArray) : Ev (fun k => spec_l1Read.f k s) (readL s) := by
  unfold spec_l1Read.f readL
  rw [l1In_eq]
  simp only [Option.bind_some]
  by_cases h : wi s.size 1 6 = true
  · refine ev_pos h ?_
    rw [if_pos h]
    rw [wi_true] at h
    have hg : Ev (fun k => spec_l1Read.l0 k s 0 0) (readGo s.data.toList 0) := by
      have := l1Read_l s (by omega) s.size 0 0 (by omega)
      rw [List.drop_zero] at this
      exact this
    refine ev_pos (by omega) ?_
    by_cases c : bt s 0 = 48
    · refine ev_pos c (ev_succ ?_)
      simp only [spec_l1Read.j0]
      by_cases e : (s.size : Int) > 1
      · rw [if_pos ⟨c, e⟩]
        exact ev_pos (decide_eq_true e) (Ev.now _)
      · rw [if_neg (fun z => e z.2)]
        exact ev_neg (by simpa using e) hg
    · refine ev_neg c (ev_succ ?_)
      rw [if_neg (fun z => c z.1)]
      simp only [spec_l1Read.j0, Bool.false_eq_true, if_false]
      exact hg
  · refine ev_neg h (ev_succ ?_)
    rw [if_neg h]
    simp only [spec_l1Read.j0, if_true]
    exact Ev.now _
theorem d2_read : ((List.range 100).all fun n => decide (readL (bsOf (d2 n)) = (n : Int))) = true := by decide +kernel
theorem read_dn {n : Int} (h0 : 0 ≤ n) (h1 : n < 100) : readL (bsOf (dn n)) = n := by
  rw [dn_d2 h0 h1]
  have := List.all_eq_true.1 d2_read n.toNat (List.mem_range.2 (by omega))
  have := of_decide_eq_true this
  omega
/-! What the program reads. -/
abbrev PRes := Int × List IClue × Bool
def endI (s : ByteArray) (ok : Bool) (h : Int) (cl : List IClue) : PRes := if ok = true ∧ puzzleOk h cl = true ∧ bsOf (puzL h cl) = s then (h, cl, true) else (0, [], false)
theorem bs_eq_iff (a b : ByteArray) : a.toList = b.toList ↔ a = b := ⟨fun h => bs_ext (by rw [← bs_toList, ← bs_toList]; exact h), fun h => by rw [h]⟩
theorem j2_ev (s : ByteArray) (ok : Bool) (h : Int) (cl : List IClue) : Ev (fun k => impl_ParsePuzzle.j2 k s ok h cl) (endI s ok h cl) := by
  refine ev_succ ?_
  unfold endI
  simp only [impl_ParsePuzzle.j2]
  cases ok with
  | false =>
    refine ev_neg (by decide) ?_
    rw [if_neg (fun z => by cases z.1)]
    exact Ev.now _
  | true =>
    refine ev_pos rfl ?_
    refine Ev.bind (isPuzzle_ev h cl) ?_
    by_cases hp : puzzleOk h cl = true
    · refine ev_pos hp ?_
      obtain ⟨a, b, c⟩ := puz_sm hp
      refine Ev.bind (impl_pt_ev h a.1 a.2 cl (by omega) c) ?_
      by_cases e : bsOf (puzL h cl) = s
      · refine ev_pos ((bs_eq_iff _ _).2 e) ?_
        rw [if_pos ⟨rfl, hp, e⟩]
        exact Ev.now _
      · refine ev_neg (fun z => e ((bs_eq_iff _ _).1 z)) ?_
        rw [if_neg (fun z => e z.2.2)]
        exact Ev.now _
    · refine ev_neg hp ?_
      rw [if_neg (fun z => hp z.2.1)]
      exact Ev.now _
def wordsI : List ByteArray → Bool → List Int → Bool × List Int
  | [], ok, acc => (ok, acc)
  | w :: ws, ok, acc => wordsI ws (ok && (rn w 99).2) (acc ++ [(rn w 99).1])
theorem wordsI_len : ∀ (ws : List ByteArray) (ok : Bool) (acc : List Int), (wordsI ws ok acc).2.length = acc.length + ws.length
  | [], _, _ => rfl
  | w :: ws, ok, acc => by
    rw [wordsI, wordsI_len ws]
    simp only [List.length_append, List.length_cons, List.length_nil]
    omega
def piecesI : List ByteArray → Bool → List IClue → Option (Bool × List IClue)
  | [], ok, cl => some (ok, cl)
  | p :: ps, ok, cl => if ((wordsI (pieces 46 p) ok []).2.length : Int) = 3 then piecesI ps (wordsI (pieces 46 p) ok []).1 (cl ++ [⟨rd (wordsI (pieces 46 p) ok []).2 0, rd (wordsI (pieces 46 p) ok []).2 1, rd (wordsI (pieces 46 p) ok []).2 2⟩]) else none
theorem l1_l (s : ByteArray) (P : List ByteArray) (n pi h : Int) (cl : List IClue) (ws : List ByteArray) (hws : ∀ w ∈ ws, w.size ≤ 1048576) (hn : ws.length ≤ 2000000) (r : PRes) : ∀ (d i : Nat) (ok : Bool) (acc : List Int), i + d = ws.length → acc.length = i →
    Ev (fun k => if ((wordsI (ws.drop i) ok acc).2.length : Int) = 3 then (if 0 < ((wordsI (ws.drop i) ok acc).2.length : Int) then (if 1 < ((wordsI (ws.drop i) ok acc).2.length : Int) then (if 2 < ((wordsI (ws.drop i) ok acc).2.length : Int) then (if cl.length < 5864062014805 then (impl_ParsePuzzle.l0 k s (wordsI (ws.drop i) ok acc).1 P n (wrap64 (pi + 1)) h (cl ++ [⟨rd (wordsI (ws.drop i) ok acc).2 0, rd (wordsI (ws.drop i) ok acc).2 1, rd (wordsI (ws.drop i) ok acc).2 2⟩])) else none) else none) else none) else none) else some (0, [], false)) r →
    Ev (fun k => impl_ParsePuzzle.l1 k s ok acc P n pi ws ws.length i h cl) r := by
  intro d
  induction d with
  | zero =>
    intro i ok acc hi ha hr
    rw [List.drop_eq_nil_of_le (by omega)] at hr
    refine ev_succ ?_
    simp only [impl_ParsePuzzle.l1]
    exact ev_neg (by omega) hr
  | succ d ih =>
    intro i ok acc hi ha hr
    have hlt : i < ws.length := by omega
    rw [List.drop_eq_getElem_cons hlt] at hr
    simp only [wordsI] at hr
    have := ih (i + 1) (ok && (rn ws[i] 99).2) (acc ++ [(rn ws[i] 99).1]) (by omega) (by rw [List.length_append, List.length_singleton]; omega) hr
    refine ev_succ ?_
    simp only [impl_ParsePuzzle.l1]
    refine ev_pos (by omega) (ev_pos (by omega) (ev_pos (by omega) ?_))
    rw [rdS ws i hlt, rn_eq _ _ (by have := hws _ (List.getElem_mem hlt); omega) (by omega), wrap_succ (n := 2000001) (by omega) (by omega)]
    simp only [Option.bind_some]
    cases ok with
    | true =>
      refine ev_pos rfl (ev_pos (by omega) ?_)
      simpa using this
    | false =>
      refine ev_neg (by decide) (ev_pos (by omega) ?_)
      simpa using this
def outI (s : ByteArray) (h : Int) : Option (Bool × List IClue) → PRes
  | none => (0, [], false)
  | some (ok, cl) => endI s ok h cl
theorem pieces_len (c : UInt8) (s : ByteArray) : (pieces c s).length ≤ s.size + 1 := by have := pieces_sum c s; omega
theorem l0_l (s : ByteArray) (h : Int) (P : List ByteArray) (hP : ∀ p ∈ P, p.size ≤ 1048576) (hn : P.length ≤ 2000000) : ∀ (d i : Nat) (ok : Bool) (cl : List IClue), i + d = P.length → cl.length ≤ i →
    Ev (fun k => impl_ParsePuzzle.l0 k s ok P P.length i h cl) (outI s h (piecesI (P.drop i) ok cl)) := by
  intro d
  induction d with
  | zero =>
    intro i ok cl hi hc
    refine ev_succ ?_
    simp only [impl_ParsePuzzle.l0]
    rw [List.drop_eq_nil_of_le (by omega)]
    exact ev_neg (by omega) (j2_ev s ok h cl)
  | succ d ih =>
    intro i ok cl hi hc
    have hlt : i < P.length := by omega
    have hsz := hP _ (List.getElem_mem hlt)
    refine ev_succ ?_
    simp only [impl_ParsePuzzle.l0]
    refine ev_pos (by omega) (ev_pos (by omega) (ev_pos (by omega) ?_))
    rw [rdS P i hlt, split_eq _ 46 (by omega), List.drop_eq_getElem_cons hlt]
    simp only [Option.bind_some, piecesI]
    have hl := pieces_len 46 P[i]
    refine l1_l s P P.length i h cl (pieces 46 P[i]) (fun w hw => by have := pieces_size 46 P[i] w hw; omega) (by omega) _ (pieces 46 P[i]).length 0 ok [] (by omega) rfl ?_
    rw [List.drop_zero]
    by_cases e : ((wordsI (pieces 46 P[i]) ok []).2.length : Int) = 3
    · refine ev_pos e (ev_pos (by omega) (ev_pos (by omega) (ev_pos (by omega) (ev_pos (by omega) ?_))))
      rw [if_pos e, wrap_succ (n := 2000001) (by omega) (by omega)]
      exact ih (i + 1) _ _ (by omega) (by rw [List.length_append, List.length_singleton]; omega)
    · refine ev_neg e ?_
      rw [if_neg e]
      exact Ev.now _
def cutB (s : ByteArray) : ByteArray × ByteArray := if Lib.indexByte s.data.toList 58 < 0 then (s, ⟨#[]⟩) else (s.extract 0 (Lib.indexByte s.data.toList 58).toNat, s.extract ((Lib.indexByte s.data.toList 58).toNat + 1) s.size)
theorem cut_eq (s : ByteArray) (hs : s.size ≤ 1048576) : ∃ b, strings_Cut.f s (⟨#[58]⟩ : ByteArray) = some ((cutB s).1, (cutB s).2, b) := by
  have h2 : strings_Cut.f s (⟨#[58]⟩ : ByteArray) = (if s.size < 4294967281 then (if Lib.indexByte s.data.toList 58 < 0 then some (s, ⟨#[]⟩, false) else some (s.extract 0 (Lib.indexByte s.data.toList 58).toNat, s.extract ((Lib.indexByte s.data.toList 58).toNat + 1) s.size, true)) else none) := rfl
  rw [h2, if_pos (by omega)]
  unfold cutB
  by_cases c : Lib.indexByte s.data.toList 58 < 0
  · rw [if_pos c, if_pos c]; exact ⟨_, rfl⟩
  · rw [if_neg c, if_neg c]; exact ⟨_, rfl⟩
theorem cutB_size (s : ByteArray) : (cutB s).1.size ≤ s.size ∧ (cutB s).2.size ≤ s.size := by
  unfold cutB
  split
  · exact ⟨Nat.le_refl _, Nat.zero_le _⟩
  · rw [ByteArray.size_extract, ByteArray.size_extract]; omega
def resI (s : ByteArray) : PRes := if (cutB s).2.data.toList = [] then endI s (rn (cutB s).1 24).2 (rn (cutB s).1 24).1 [] else outI s (rn (cutB s).1 24).1 (piecesI (pieces 44 (cutB s).2) (rn (cutB s).1 24).2 [])
theorem impl_pp_ev (s : ByteArray) (hs : s.size ≤ 1048576) : Ev (fun k => impl_ParsePuzzle.f k s) (resI s) := by
  obtain ⟨b, hc⟩ := cut_eq s hs
  have hz := cutB_size s
  unfold impl_ParsePuzzle.f resI
  rw [hc]
  simp only [Option.bind_some]
  rw [rn_eq _ _ (by omega) (by omega)]
  simp only [Option.bind_some]
  by_cases e : (cutB s).2.data.toList = []
  · rw [if_pos e]
    exact ev_pos (by rw [bs_toList]; exact e) (j2_ev _ _ _ _)
  · rw [if_neg e]
    refine ev_neg (by rw [bs_toList]; exact e) ?_
    rw [split_eq _ 44 (by omega)]
    simp only [Option.bind_some]
    have hl := pieces_len 44 (cutB s).2
    have := l0_l s (rn (cutB s).1 24).1 (pieces 44 (cutB s).2) (fun p hp => by have := pieces_size 44 (cutB s).2 p hp; omega) (by omega) (pieces 44 (cutB s).2).length 0 (rn (cutB s).1 24).2 [] (by omega) (Nat.le_refl _)
    rw [List.drop_zero] at this
    exact this
/-! What the reference reads. -/
def endS (s : ByteArray) (h : Int) (cl : List IClue) : PRes := if puzzleOk h cl = true then (h, cl, decide (bsOf (puzL h cl) = s)) else (h, cl, false)
def piecesS : List ByteArray → List IClue → Option (List IClue)
  | [], cl => some cl
  | p :: ps, cl => if ((pieces 46 p).length : Int) = 3 then piecesS ps (cl ++ [⟨readL (rdOf ByteArray.empty (pieces 46 p) 0), readL (rdOf ByteArray.empty (pieces 46 p) 1), readL (rdOf ByteArray.empty (pieces 46 p) 2)⟩]) else none
def outS (s : ByteArray) (h : Int) : Option (List IClue) → PRes
  | none => (0, [], false)
  | some cl => endS s h cl
def resS (s : ByteArray) : PRes := if (s.size : Int) > 100 then (0, [], false) else if ((pieces 58 s).length : Int) = 2 then (if ((rdOf ByteArray.empty (pieces 58 s) 1).size : Int) > 0 then outS s (readL (rdOf ByteArray.empty (pieces 58 s) 0)) (piecesS (pieces 44 (rdOf ByteArray.empty (pieces 58 s) 1)) []) else endS s (readL (rdOf ByteArray.empty (pieces 58 s) 0)) []) else (0, [], false)
theorem endS_ev (s : ByteArray) (h : Int) (cl : List IClue) (hn : cl.length ≤ 9223372036854775807) : Ev (fun k => (spec_pzGood.f k h cl).bind fun t => if t = true then ((spec_pzText.f k h cl).bind fun t2 => some (h, cl, (t2.toList == s.toList))) else some (h, cl, false)) (endS s h cl) := by
  unfold endS
  refine Ev.bind (pzGood_ev h cl hn) ?_
  by_cases hp : puzzleOk h cl = true
  · obtain ⟨a, b, c⟩ := puz_sm hp
    rw [if_pos hp]
    refine ev_pos hp (Ev.bind (spec_pt_ev h a.1 a.2 cl (by omega) c) (ev_const ?_))
    congr 3
    rw [Bool.eq_iff_iff, beq_iff_eq, decide_eq_true_eq]
    exact bs_eq_iff _ _
  · rw [if_neg hp]
    exact ev_neg hp (Ev.now _)
theorem specl0_l (s : ByteArray) (h : Int) (P : List ByteArray) (hP : ∀ p ∈ P, p.size ≤ 1048576) (hn : P.length ≤ 2000000) : ∀ (d i : Nat) (cl : List IClue), i + d = P.length → cl.length ≤ i →
    Ev (fun k => spec_pzParse.l0 k s P P.length i h cl) (outS s h (piecesS (P.drop i) cl)) := by
  intro d
  induction d with
  | zero =>
    intro i cl hi hc
    refine ev_succ ?_
    simp only [spec_pzParse.l0]
    rw [List.drop_eq_nil_of_le (by omega)]
    exact ev_neg (by omega) (endS_ev s h cl (by omega))
  | succ d ih =>
    intro i cl hi hc
    have hlt : i < P.length := by omega
    have hsz := hP _ (List.getElem_mem hlt)
    refine ev_succ ?_
    simp only [spec_pzParse.l0]
    refine ev_pos (by omega) (ev_pos (by omega) (ev_pos (by omega) ?_))
    rw [rdS P i hlt, List.drop_eq_getElem_cons hlt]
    refine Ev.bind (l1Split_ev P[i] 46 (by omega)) ?_
    simp only [piecesS]
    by_cases e : ((pieces 46 P[i]).length : Int) = 3
    · refine ev_pos e (ev_pos (by omega) ?_)
      refine Ev.bind (l1Read_ev _) (ev_pos (by omega) ?_)
      refine Ev.bind (l1Read_ev _) (ev_pos (by omega) ?_)
      refine Ev.bind (l1Read_ev _) (ev_pos (by omega) ?_)
      rw [if_pos e, wrap_succ (n := 2000001) (by omega) (by omega)]
      exact ih (i + 1) _ (by omega) (by rw [List.length_append, List.length_singleton]; omega)
    · refine ev_neg e ?_
      rw [if_neg e]
      exact Ev.now _
theorem rdOf_size (c : UInt8) (s : ByteArray) (i : Nat) (hi : i < (pieces c s).length) : (rdOf ByteArray.empty (pieces c s) i).size ≤ s.size := by
  rw [rdS _ i hi]
  exact pieces_size c s _ (List.getElem_mem hi)
theorem spec_pp_ev (s : ByteArray) (hs : s.size ≤ 1048576) : Ev (fun k => spec_pzParse.f k s) (resS s) := by
  unfold spec_pzParse.f resS
  by_cases c : (s.size : Int) > 100
  · rw [if_pos c]; exact ev_pos c (Ev.now _)
  rw [if_neg c]
  refine ev_neg c ?_
  refine Ev.bind (l1Split_ev s 58 (by omega)) ?_
  by_cases e : ((pieces 58 s).length : Int) = 2
  · rw [if_pos e]
    refine ev_pos e (ev_pos (by omega) (Ev.bind (l1Read_ev _) (ev_pos (by omega) ?_)))
    have hz := rdOf_size 58 s 1 (by omega)
    have hz : (rdOf ByteArray.empty (pieces 58 s) 1).size ≤ s.size := hz
    by_cases g : ((rdOf ByteArray.empty (pieces 58 s) 1).size : Int) > 0
    · rw [if_pos g]
      refine ev_pos g ?_
      refine Ev.bind (l1Split_ev _ 44 (by omega)) ?_
      have hl := pieces_len 44 (rdOf ByteArray.empty (pieces 58 s) 1)
      have := specl0_l s (readL (rdOf ByteArray.empty (pieces 58 s) 0)) (pieces 44 (rdOf ByteArray.empty (pieces 58 s) 1)) (fun p hp => by have := pieces_size 44 _ p hp; omega) (by omega) (pieces 44 (rdOf ByteArray.empty (pieces 58 s) 1)).length 0 [] (by omega) (Nat.le_refl _)
      rw [List.drop_zero] at this
      exact this
    · rw [if_neg g]
      exact ev_neg g (endS_ev s _ [] (by simp))
  · rw [if_neg e]
    exact ev_neg e (Ev.now _)

end Go.Proofs.YtpeleommbipeaaaDoor.P
