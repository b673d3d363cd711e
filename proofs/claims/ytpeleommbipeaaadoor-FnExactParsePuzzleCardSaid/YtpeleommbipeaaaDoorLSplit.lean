/- Texts are split at a byte: the library's pieces and the reference's are the same. -/
import Derived.Test.YtpeleommbipeaaaDoorLBs
import Derived.Test.YtpeleommbipeaaaDoorFStringsSplit
import Derived.Test.YtpeleommbipeaaaDoorFSpecL1Split
namespace Go.Proofs.YtpeleommbipeaaaDoor.P
open Go.RowKit Go.Proofs.YtpeleommbipeaaaDoorW.PrintWords Go.Proofs.YtpeleommbipeaaaDoorW.PrintLast
set_option linter.unusedVariables false
set_option linter.unusedSimpArgs false

def onHead (pre : List UInt8) : List (List UInt8) → List (List UInt8)
  | [] => []
  | h :: t => (pre ++ h) :: t
def splitL (c : UInt8) : List UInt8 → List (List UInt8)
  | [] => [[]]
  | b :: l => if b = c then [] :: splitL c l else onHead [b] (splitL c l)
theorem splitL_ne (c : UInt8) : ∀ l, splitL c l ≠ []
  | [] => by simp [splitL]
  | b :: l => by
    have ih := splitL_ne c l
    unfold splitL
    split
    · simp
    · cases h : splitL c l with
      | nil => exact absurd h ih
      | cons x t => simp [onHead]
theorem onHead_nil (L : List (List UInt8)) : onHead [] L = L := by cases L <;> rfl
theorem onHead_onHead (p q : List UInt8) (L : List (List UInt8)) : onHead p (onHead q L) = onHead (p ++ q) L := by
  cases L <;> simp [onHead]
theorem onHead_sum (p : List UInt8) {L : List (List UInt8)} (h : L ≠ []) : ((onHead p L).map List.length).sum = p.length + (L.map List.length).sum ∧ (onHead p L).length = L.length := by
  cases L with
  | nil => exact absurd rfl h
  | cons x t => simp [onHead]; omega
theorem splitL_sum (c : UInt8) : ∀ l, ((splitL c l).map List.length).sum + (splitL c l).length = l.length + 1
  | [] => by simp [splitL]
  | b :: l => by
    have ih := splitL_sum c l
    have h := onHead_sum [b] (splitL_ne c l)
    unfold splitL
    split
    · simp; omega
    · rw [h.1, h.2]; simp; omega
def pieces (c : UInt8) (s : ByteArray) : List ByteArray := (splitL c s.data.toList).map bsOf
theorem splitK_cons_ne (c b : UInt8) (h : b ≠ c) : ∀ (k : Nat) (l : List UInt8), Lib.splitK [c] 0 k (b :: l) = onHead [b] (Lib.splitK [c] 0 k l)
  | 0, l => rfl
  | k + 1, l => by
    have hp : ([c] : List UInt8).isPrefixOf (b :: l) = false := by simp [List.isPrefixOf, Ne.symm h]
    have hix : Lib.index (b :: l) [c] = if Lib.index l [c] == -1 then -1 else Lib.index l [c] + 1 := by rw [Lib.index, hp]; simp
    unfold Lib.splitK
    rw [hix]
    have hge := Lib.index_ge l [c]
    by_cases hm : Lib.index l [c] = -1
    · simp [hm, onHead]
    · have hm' : (Lib.index l [c] == -1) = false := by simpa using hm
      have h2 : (Lib.index l [c] + 1 == -1) = false := by
        rw [beq_eq_false_iff_ne]; omega
      simp only [hm', Bool.false_eq_true, if_false, h2, onHead]
      rw [show (Lib.index l [c] + 1).toNat = (Lib.index l [c]).toNat + 1 by omega]
      simp only [Nat.add_zero, List.length_singleton, List.take_succ_cons, List.drop_succ_cons, List.singleton_append]
theorem splitK_all (c : UInt8) : ∀ l : List UInt8, Lib.splitK [c] 0 (l.count c) l = splitL c l
  | [] => rfl
  | b :: l => by
    have ih := splitK_all c l
    unfold splitL
    by_cases h : b = c
    · subst h
      rw [if_pos rfl, List.count_cons_self, ← ih]
      have hix : Lib.index (b :: l) [b] = 0 := by rw [Lib.index]; simp [List.isPrefixOf]
      rw [Lib.splitK, hix]
      simp
    · rw [if_neg h, List.count_cons_of_ne (by simpa using h), splitK_cons_ne c b h, ih]
theorem split_eq (s : ByteArray) (c : UInt8) (hs : s.size < 4294967281) : strings_Split.f s (⟨#[c]⟩ : ByteArray) = some (pieces c s) := by
  have h2 : strings_Split.f s (⟨#[c]⟩ : ByteArray) = (if s.size < 4294967281 then some (Lib.splitB ⟨#[c]⟩ 0 (Lib.countB s ⟨#[c]⟩) s) else none) := rfl
  rw [h2, if_pos hs]
  congr 1
  apply map_data_inj
  rw [Lib.splitB_data]
  have h3 : Lib.countB s ⟨#[c]⟩ = s.data.toList.count c := by rw [show Lib.countB s ⟨#[c]⟩ = Lib.count s.data.toList [c] from rfl, Lib.count_one]
  rw [h3, show (⟨#[c]⟩ : ByteArray).data.toList = [c] from rfl, splitK_all]
  unfold pieces
  rw [List.map_map]
  conv => lhs; rw [← List.map_id (splitL c s.data.toList)]
  exact List.map_congr_left (fun x _ => (bsOf_list x).symm)
theorem pieces_sum (c : UInt8) (s : ByteArray) : ((pieces c s).map (·.size)).sum + (pieces c s).length = s.size + 1 := by
  have h := splitL_sum c s.data.toList
  have hl : s.data.toList.length = s.size := Array.length_toList
  unfold pieces
  rw [List.map_map, List.length_map, show ((fun x : ByteArray => x.size) ∘ bsOf) = List.length from funext bsOf_size]
  omega
theorem pieces_size (c : UInt8) (s : ByteArray) : ∀ x ∈ pieces c s, x.size ≤ s.size := by
  intro x hx
  have := sum_mem (fun x : ByteArray => x.size) hx
  have h := pieces_sum c s
  have hne : (pieces c s).length ≠ 0 := by
    have := splitL_ne c s.data.toList
    unfold pieces
    rw [List.length_map]
    exact fun e => this (List.eq_nil_of_length_eq_zero e)
  omega
theorem l1Split_l (s : ByteArray) (c : UInt8) (hs : s.size ≤ 1000000000) : ∀ (d i f : Nat) (acc : List ByteArray), i + d = s.size → f ≤ i → acc.length ≤ i →
    Ev (fun k => spec_l1Split.l0 k s (c.toNat : Int) acc f i) (acc ++ (onHead ((s.data.toList.take i).drop f) (splitL c (s.data.toList.drop i))).map bsOf) := by
  have hl : s.data.toList.length = s.size := Array.length_toList
  intro d
  induction d with
  | zero =>
    intro i f acc hi hf ha
    refine ev_succ ?_
    simp only [spec_l1Split.l0]
    refine ev_neg (by omega) (ev_pos (by omega) (ev_pos (by omega) (ev_pos (by omega) (ev_const ?_))))
    rw [List.drop_eq_nil_of_le (by omega : s.data.toList.length ≤ i)]
    simp only [splitL, onHead, List.append_nil, List.map_cons, List.map_nil]
    congr 3
    apply bs_ext
    rw [extract_list, bsOf_list, Int.toNat_natCast, show i = s.size by omega]
  | succ d ih =>
    intro i f acc hi hf ha
    have hlt : i < s.data.toList.length := by omega
    refine ev_succ ?_
    simp only [spec_l1Split.l0]
    refine ev_pos (by omega) (ev_pos (by omega) ?_)
    rw [bt_at s i hlt, wrap_succ (n := 1000000000) (by omega) (by omega), List.drop_eq_getElem_cons hlt]
    unfold splitL
    by_cases e : s.data.toList[i] = c
    · rw [if_pos e]
      refine ev_pos (by rw [e]) (ev_pos (by omega) (ev_pos (by omega) (ev_pos (by omega) (ev_pos (by omega) ?_))))
      have := ih (i + 1) (i + 1) (acc ++ [s.extract (f : Int).toNat (i : Int).toNat]) (by omega) (by omega) (by simp; omega)
      rw [List.drop_eq_nil_of_le (by simp; omega : (s.data.toList.take (i + 1)).length ≤ i + 1), onHead_nil] at this
      simp only [onHead, List.append_nil, List.map_cons]
      rw [List.append_assoc] at this
      have e2 : bsOf ((s.data.toList.take i).drop f) = s.extract (f : Int).toNat (i : Int).toNat := by
        apply bs_ext
        rw [extract_list, bsOf_list, Int.toNat_natCast, Int.toNat_natCast]
      rw [e2]
      exact this
    · rw [if_neg e]
      refine ev_neg (fun z => e (UInt8.toNat_inj.1 (by omega))) ?_
      have := ih (i + 1) f acc (by omega) (by omega) (by omega)
      rw [onHead_onHead]
      have e2 : (s.data.toList.take i).drop f ++ [s.data.toList[i]] = (s.data.toList.take (i + 1)).drop f := by
        rw [List.take_succ_eq_append_getElem hlt, List.drop_append_of_le_length (by simp; omega)]
      rw [e2]
      exact this
theorem l1Split_ev (s : ByteArray) (c : UInt8) (hs : s.size ≤ 1000000000) : Ev (fun k => spec_l1Split.f k s (c.toNat : Int)) (pieces c s) := by
  have := l1Split_l s c hs s.size 0 0 [] (by omega) (by omega) (by simp)
  simpa [onHead_nil, pieces, spec_l1Split.f] using this

end Go.Proofs.YtpeleommbipeaaaDoor.P
