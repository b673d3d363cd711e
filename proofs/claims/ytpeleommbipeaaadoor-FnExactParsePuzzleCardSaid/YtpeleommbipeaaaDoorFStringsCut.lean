-- written by wip/gen.py (this session's) with the kit's printer; Lean checks it.
import Derived.Test.YtpeleommbipeaaaDoorK
import Derived.Test.YtpeleommbipeaaaDoorShelf
import Derived.Lib.IndexBytes
import Derived.Lib.IndexLaws
import Derived.BigQuiet
namespace Go.Proofs.YtpeleommbipeaaaDoor.P
open Go.RowKit Go.Proofs.YtpeleommbipeaaaDoorW.PrintWords Go.Proofs.YtpeleommbipeaaaDoorW.PrintLast Go.Proofs.YtpeleommbipeaaaDoorW.PrintMore
attribute [local go_sem] max2_int min2_int max_two min_two max_three min_three max_four min_four
set_option linter.unusedVariables false
set_option linter.unusedSimpArgs false

/-! ### strings_Cut: function 10 -/
def strings_Cut.f (a0 : ByteArray) (a1 : ByteArray) : Option (ByteArray × ByteArray × Bool) := match a1.data.toList with
  | [c] => if a0.size < 4294967281 then (if Lib.indexByte a0.data.toList c < 0 then some (a0, ⟨#[]⟩, false) else some (a0.extract 0 (Lib.indexByte a0.data.toList c).toNat, a0.extract ((Lib.indexByte a0.data.toList c).toNat + 1) a0.size, true)) else none
  | _ => none
set_option maxHeartbeats 2000000 in
set_option maxRecDepth 100000 in
theorem strings_Cut.calls0 (a0 : ByteArray) (c : UInt8) (hs : a0.size < 4294967281) (r : ByteArray × ByteArray × Bool) (w : World) (h : (if Lib.indexByte a0.data.toList c < 0 then (a0, ⟨#[]⟩, false) else (a0.extract 0 (Lib.indexByte a0.data.toList c).toNat, a0.extract ((Lib.indexByte a0.data.toList c).toNat + 1) a0.size, true)) = r) :
    Calls Tryd.prog 22 #[.string a0, .string ⟨#[c]⟩] w fun e w' => e = .returned (.tuple #[.string r.1, .string r.2.1, .bool r.2.2]) ∧ Drawn0 w w' := by
  have hge := Lib.indexByte_ge a0.data.toList c
  by_cases hn : Lib.indexByte a0.data.toList c < 0
  · rw [if_pos hn] at h
    subst h
    have hix : Lib.indexByte a0.data.toList c = -1 := by omega
    have HI := Aside0.mk (fun W => (by have := Tryd.stringslite_Index_one a0 c W; rw [hix] at this; exact this : Calls Tryd.prog 37 #[.string a0, .string ⟨#[c]⟩] W fun e w' => e = .returned (.int .i64 (-1)) ∧ w' = W))
    clear hix hn hge
    go_enter Tryd.func22, Tryd.ntmps22
    go_wp2_with (go_at_call 37; refine (HI.out _).mono ?_; rintro e w' ⟨rfl, rfl⟩)
    go_ret3
    exact ⟨rfl, Drawn0.refl _⟩
  · rw [if_neg hn] at h
    subst h
    obtain ⟨i, hi⟩ : ∃ i : Nat, Lib.indexByte a0.data.toList c = i := ⟨(Lib.indexByte a0.data.toList c).toNat, by omega⟩
    have hlt : i < a0.size := by
      have h1 := (Lib.indexByte_some hi).1
      rcases Nat.lt_or_ge i a0.data.toList.length with z | z
      · rw [Array.length_toList] at z; exact z
      · rw [List.getElem?_eq_none z] at h1; cases h1
    have HI := Aside0.mk (fun W => (by have := Tryd.stringslite_Index_one a0 c W; rw [hi] at this; exact this : Calls Tryd.prog 37 #[.string a0, .string ⟨#[c]⟩] W fun e w' => e = .returned (.int .i64 (i : Int)) ∧ w' = W))
    rw [hi, Int.toNat_natCast]
    clear hi hn hge
    have c1 : (0 : Int) ≤ ↑i := by omega
    have c2 : (↑i : Int) ≤ ↑a0.size := by omega
    have c3 : (0 : Int) ≤ ↑i + 1 := by omega
    have c4 : (↑i + 1 : Int) ≤ ↑a0.size := by omega
    go_enter Tryd.func22, Tryd.ntmps22
    go_wp2_with (go_at_call 37; refine (HI.out _).mono ?_; rintro e w' ⟨rfl, rfl⟩)
    go_region
    all_goals (try go_wp2)
    all_goals go_ret3
    all_goals exact ⟨rfl, by repeat (first | exact Drawn0.refl _ | apply Drawn0.step)⟩
theorem strings_Cut.calls (a0 : ByteArray) (a1 : ByteArray) (r1 : ByteArray) (r2 : ByteArray) (r3 : Bool) (w : World) (h : strings_Cut.f a0 a1 = some (r1, r2, r3)) :
    Calls Tryd.prog 10 #[.string a0, .string a1] w fun e w' => e = .returned (.tuple #[.string r1, .string r2, .bool r3]) ∧ Drawn0 w w' := by
  obtain ⟨⟨l⟩⟩ := a1
  match l, h with
  | [ch], h =>
    have h2 : (if a0.size < 4294967281 then (if Lib.indexByte a0.data.toList ch < 0 then some (a0, ⟨#[]⟩, false) else some (a0.extract 0 (Lib.indexByte a0.data.toList ch).toNat, a0.extract ((Lib.indexByte a0.data.toList ch).toNat + 1) a0.size, true)) else none) = some (r1, r2, r3) := h
    clear h
    by_cases hs : a0.size < 4294967281
    · rw [if_pos hs] at h2
      have h3 : (if Lib.indexByte a0.data.toList ch < 0 then (a0, ⟨#[]⟩, false) else (a0.extract 0 (Lib.indexByte a0.data.toList ch).toNat, a0.extract ((Lib.indexByte a0.data.toList ch).toNat + 1) a0.size, true)) = (r1, r2, r3) := by
        split at h2
        · next hc => rw [if_pos hc]; exact Option.some.inj h2
        · next hc => rw [if_neg hc]; exact Option.some.inj h2
      have HC := Aside0.mk (strings_Cut.calls0 a0 ch hs (r1, r2, r3) w h3)
      clear h2 h3
      go_enter Tryd.func10, Tryd.ntmps10
      go_wp2_with (go_at_call 22; refine HC.out.mono ?_; rintro e w' ⟨rfl, ⟨nd, rfl⟩⟩)
      go_ret3
      exact ⟨rfl, ⟨_, rfl⟩⟩
    · rw [if_neg hs] at h2; cases h2

end Go.Proofs.YtpeleommbipeaaaDoor.P
