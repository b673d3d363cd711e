-- written by wip/gen.py (this session's) with the kit's printer; Lean checks it.
import Derived.Test.YtpeleommbipeaaaDoorK
import Derived.Test.YtpeleommbipeaaaDoorShelf
import Derived.Lib.IndexBytes
namespace Go.Proofs.YtpeleommbipeaaaDoor.P
open Go.RowKit Go.Proofs.YtpeleommbipeaaaDoorW.PrintWords Go.Proofs.YtpeleommbipeaaaDoorW.PrintLast Go.Proofs.YtpeleommbipeaaaDoorW.PrintMore
attribute [local go_sem] max2_int min2_int max_two min_two max_three min_three max_four min_four
set_option linter.unusedVariables false
set_option linter.unusedSimpArgs false

/-! ### strings_Split: function 12 -/
def strings_Split.f (a0 : ByteArray) (a1 : ByteArray) : Option (List ByteArray) := match a1.data.toList with
  | [_] => if a0.size < 4294967281 then some (Lib.splitB a1 0 (Lib.countB a0 a1) a0) else none
  | _ => none
set_option maxHeartbeats 1000000 in
theorem strings_Split.calls (a0 : ByteArray) (a1 : ByteArray) (r : List ByteArray) (w : World) (h : strings_Split.f a0 a1 = some r) :
    Calls Tryd.prog 12 #[.string a0, .string a1] w fun e w' => ∃ v0_ : Value, e = .returned (v0_) ∧ Kd.R Kd.string 9 w' w.heap.size (fun _ => True) v0_ r ∧ Below w.heap.size w w' := by
  obtain ⟨⟨l⟩⟩ := a1
  match l, h with
  | [ch], h =>
    have h2 : (if a0.size < 4294967281 then some (Lib.splitB ⟨#[ch]⟩ 0 (Lib.countB a0 ⟨#[ch]⟩) a0) else none) = some r := h
    clear h
    by_cases hs : a0.size < 4294967281
    · rw [if_pos hs] at h2
      cases Option.some.inj h2
      clear h2
      have h1 : 1 ≤ (⟨#[ch]⟩ : ByteArray).size := Nat.le_refl 1
      have hle := Lib.countB_le ⟨#[ch]⟩ h1 a0.size a0 (Nat.le_refl _)
      have hlen := Lib.splitB_all ⟨#[ch]⟩ h1 0 _ a0 rfl
      have hI : ∀ (x : ByteArray) (c : Array Value), x.size ≤ a0.size → Calls Tryd.prog 43 #[.string x, .string ⟨#[ch]⟩] (w.alloc (.cells c 9)) fun e w' => e = .returned (.int .i64 (Lib.indexB x ⟨#[ch]⟩)) ∧ w' = w.alloc (.cells c 9) := by
        intro x c hx
        refine (Tryd.strings_Index_one x ch _).mono ?_
        rintro e w' ⟨rfl, rfl⟩
        exact ⟨by rw [show Lib.indexB x ⟨#[ch]⟩ = Lib.index x.data.toList [ch] from rfl, Lib.index_one], rfl⟩
      have hC : Calls Tryd.prog 42 #[.string a0, .string ⟨#[ch]⟩] w fun e w' => e = .returned (.int .i64 (Lib.countB a0 ⟨#[ch]⟩)) ∧ w' = w := by
        refine (Tryd.strings_Count_one a0 ch w).mono ?_
        rintro e w' ⟨rfl, rfl⟩
        exact ⟨by rw [show Lib.countB a0 ⟨#[ch]⟩ = Lib.count a0.data.toList [ch] from rfl, Lib.count_one]; rfl, rfl⟩
      have c := Any.strings_genSplit_core Tryd.lays221 (by kernel_rfl) a0 ⟨#[ch]⟩ 0 (-1) (Lib.countB a0 ⟨#[ch]⟩ + 1) w hs h1 (Nat.zero_le _) hI hC (by decide) (by decide) (by rw [if_pos (by decide)]; omega)
      rw [Nat.add_sub_cancel, hlen] at c
      have e2 : Lib.cellsOf (Lib.splitB ⟨#[ch]⟩ 0 (Lib.countB a0 ⟨#[ch]⟩) a0) (Lib.countB a0 ⟨#[ch]⟩ + 1) = ((Lib.splitB ⟨#[ch]⟩ 0 (Lib.countB a0 ⟨#[ch]⟩) a0).map Value.string).toArray := by rw [← hlen]; exact Lib.cellsOf_full _
      rw [e2] at c
      have HC := Aside0.mk (show Calls Tryd.prog 26 #[.string a0, .string ⟨#[ch]⟩, .int .i64 0, .int .i64 (-1)] w _ from c)
      have HL := Aside0.mk hlen
      have HLE := Aside0.mk hle
      clear c hI hC e2 hlen hle
      go_enter Tryd.func12, Tryd.ntmps12
      go_wp2_with (go_at_call 26; refine HC.out.mono ?_; rintro e w' ⟨rfl, hw⟩; have HW := Aside0.mk hw; clear hw)
      go_ret
      have hw := HW.out
      have hlen := HL.out
      have hle := HLE.out
      subst hw
      refine ⟨_, rfl, ?_, below_alloc (Below.refl _ _) _⟩
      have ho := own_lit_of (enc := Value.string) w w.heap.size 9 (Lib.splitB ⟨#[ch]⟩ 0 (Lib.countB a0 ⟨#[ch]⟩) a0) (Nat.le_refl _) (by omega)
      rw [hlen] at ho
      refine Kd.R_of_own (enc := Value.string) (h1 := fun _ => rfl) ?_ (fun _ _ => trivial)
      rw [hlen]
      exact ho
    · rw [if_neg hs] at h2; cases h2

end Go.Proofs.YtpeleommbipeaaaDoor.P
