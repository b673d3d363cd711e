/- Bells in texts: what the program looks for in joined phrases, and what the reference counts. -/
import Derived.Test.YtjnmecjbhfinmaaLTune
import Derived.Test.YtjnmecjbhfinmaaFImplBells
import Derived.Test.YtjnmecjbhfinmaaFSpecBeBell
namespace Go.Proofs.Ytjnmecjbhfinmaa.P
open Go.RowKit Go.Proofs.YtjnmecjbhfinmaaW.PrintWords Go.Proofs.YtjnmecjbhfinmaaW.PrintLast
set_option linter.unusedVariables false
set_option linter.unusedSimpArgs false

/-- The byte of a bell. -/
def bc (b : Int) : UInt8 := UInt8.ofNat (48 + b).toNat
theorem strOf_bell (b : Int) : (strOfNums [48 + b]).data.toList = [bc b] := by simp [strOfNums, bc]
theorem indexByte_iff (c : UInt8) : ∀ l : List UInt8, 0 ≤ Lib.indexByte l c ↔ c ∈ l
  | [] => by simp [Lib.indexByte]
  | x :: l => by
    have hg := Lib.indexByte_ge l c
    have ih := indexByte_iff c l
    unfold Lib.indexByte
    by_cases h : x = c
    · subst h; simp
    · have h' : (x == c) = false := by simpa using h
      have h2 : c ≠ x := fun z => h z.symm
      simp only [h', Bool.false_eq_true, if_false, List.mem_cons, h2, false_or]
      rw [← ih]
      by_cases e : Lib.indexByte l c = -1
      · simp [e]
      · have e' : (Lib.indexByte l c == -1) = false := by simpa using e
        simp only [e', Bool.false_eq_true, if_false]
        omega
theorem bell_test {b : Int} (h1 : 1 ≤ b) (h2 : b ≤ 8) (x : UInt8) : (((x.toNat : Int) - 48) % 256 = b) ↔ x = bc b := by
  have hx := x.toNat_lt
  unfold bc
  constructor
  · intro h
    apply UInt8.toNat_inj.1
    rw [UInt8.toNat_ofNat']
    omega
  · intro h
    have := congrArg UInt8.toNat h
    rw [UInt8.toNat_ofNat'] at this
    omega
theorem bt_list (s : ByteArray) (i : Nat) (h : i < s.data.toList.length) : bt s i = (s.data.toList[i].toNat : Int) := by
  have hs : i < s.size := by rw [Array.length_toList] at h; exact h
  unfold bt
  rw [dif_pos (by simpa using hs)]
  simp only [Int.toNat_natCast]
  rfl
/-- How often a bell is in a text. -/
def bellN (s : ByteArray) (b : Int) : Nat := s.data.toList.count (bc b)
theorem beBell_l (s : ByteArray) {b : Int} (h1 : 1 ≤ b) (h2 : b ≤ 8) (hs : s.size ≤ 1000000) : ∀ (d i n : Nat), i + d = s.size → n ≤ i → Ev (fun k => spec_beBell.l0 k s b n i) ((n + (s.data.toList.drop i).count (bc b) : Nat) : Int) := by
  have hl : s.data.toList.length = s.size := Array.length_toList
  intro d
  induction d with
  | zero =>
    intro i n hi hn
    refine ev_succ ?_
    simp only [spec_beBell.l0]
    refine ev_neg (by omega) ?_
    rw [List.drop_eq_nil_of_le (by omega)]
    exact Ev.now _
  | succ d ih =>
    intro i n hi hn
    have hlt : i < s.data.toList.length := by omega
    refine ev_succ ?_
    simp only [spec_beBell.l0]
    refine ev_pos (by omega) (ev_pos (by omega) ?_)
    rw [bt_list s i hlt, wrap_succ (n := 1000000) (i := i) (by omega) (by omega), wrap_succ (n := 1000000) (i := n) (by omega) (by omega), List.drop_eq_getElem_cons hlt, List.count_cons]
    by_cases e : s.data.toList[i] = bc b
    · refine ev_pos ((bell_test h1 h2 _).2 e) ?_
      have := ih (i + 1) (n + 1) (by omega) (by omega)
      rw [e]
      simp only [beq_self_eq_true, if_true]
      rw [show n + ((s.data.toList.drop (i + 1)).count (bc b) + 1) = n + 1 + (s.data.toList.drop (i + 1)).count (bc b) by omega]
      exact this
    · refine ev_neg (fun z => e ((bell_test h1 h2 _).1 z)) ?_
      have := ih (i + 1) n (by omega) (by omega)
      have e' : (s.data.toList[i] == bc b) = false := by simpa using e
      simp only [e', Bool.false_eq_true, if_false, Nat.add_zero]
      exact this
theorem beBell_ev (s : ByteArray) {b : Int} (h1 : 1 ≤ b) (h2 : b ≤ 8) (hs : s.size ≤ 1000000) : Ev (fun k => spec_beBell.f k s b) (bellN s b : Int) := by
  have := beBell_l s h1 h2 hs s.size 0 0 (by omega) (by omega)
  simpa [spec_beBell.f, bellN] using this
theorem contains_bell (s : ByteArray) (b : Int) : strings_Contains.f s (strOfNums [48 + b]) = some (decide (0 < bellN s b)) := by
  unfold strings_Contains.f
  rw [strOf_bell]
  simp only [indexByte_iff, bellN, List.count_pos_iff]

end Go.Proofs.Ytjnmecjbhfinmaa.P
