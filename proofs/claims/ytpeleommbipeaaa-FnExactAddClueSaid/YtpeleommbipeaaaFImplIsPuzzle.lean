-- written by wip/gen.py (this session's) with the kit's printer; Lean checks it.
import Derived.Test.YtpeleommbipeaaaK
import Derived.Test.YtpeleommbipeaaaFImplIsClue
import Derived.Test.YtpeleommbipeaaaFImplIsDial
import Derived.Test.YtpeleommbipeaaaHofClue
namespace Go.Proofs.Ytpeleommbipeaaa.P
open Go.RowKit Go.Proofs.YtpeleommbipeaaaW.PrintWords Go.Proofs.YtpeleommbipeaaaW.PrintLast Go.Proofs.YtpeleommbipeaaaW.PrintMore
attribute [local go_sem] max2_int min2_int max_two min_two max_three min_three max_four min_four
set_option linter.unusedVariables false
set_option linter.unusedSimpArgs false

/-! ### impl_IsPuzzle: function 19 -/
def impl_IsPuzzle.f (k : Nat) (a0_0 : Int) (l0_1 : List (S38)) : Option (Bool) :=
  (impl_isDial.f a0_0).bind fun t => if t = true then (if (l0_1.length : Int) ≤ 6 then ((anyO (fun x => (impl_IsClue.f k a0_0 x.f0 x.f1 x.f2).bind fun b => some (!b)) l0_1).bind fun b => some (!b)) else some false) else some false
theorem impl_IsPuzzle.mono : ∀ a0_0 l0_1 k, LeO (impl_IsPuzzle.f k a0_0 l0_1) (impl_IsPuzzle.f (k + 1) a0_0 l0_1) := by
  intro a0 l k
  unfold impl_IsPuzzle.f
  exact LeO.bind (LeO.refl _) (fun t => LeO.ite (LeO.ite (LeO.bind (anyO_mono (fun x => LeO.bind (impl_IsClue.mono _ _ _ _ k) (fun _ => LeO.refl _)) l) (fun _ => LeO.refl _)) (LeO.refl _)) (LeO.refl _))
theorem impl_IsPuzzle.lit (k : Nat) (h : Int) (b : Nat) (w : World) (hb : b < w.heap.size) (hcell : w.cell? ⟨b, 0, none⟩ = some (.int .i64 h)) :
    PredO Try.prog 56 #[.pointer (some ⟨b, 0, none⟩)] (fun x : S38 => .agg #[.int .i64 x.f0, .int .i64 x.f1, .int .i64 x.f2]) (fun x => (impl_IsClue.f k h x.f0 x.f1 x.f2).bind fun b => some (!b)) w := by
  intro W x r hB hq
  obtain ⟨t, ht, hr⟩ := Option.bind_eq_some_iff.mp hq
  cases Option.some.inj hr
  have hbW : b < W.heap.size := Nat.lt_of_lt_of_le hb hB.size
  have hc1 : (W.alloc (.cells #[.int .i64 x.f0, .int .i64 x.f1, .int .i64 x.f2] 38)).cell? ⟨b, 0, none⟩ = some (.int .i64 h) := by
    rw [World.cell?_alloc_past _ _ _ hbW]; exact (hB.cell (p := ⟨b, 0, none⟩) hb).trans hcell
  have hBB := Aside0.mk hB
  have hT := Aside0.mk ht
  clear hq hB hcell ht
  go_enter Try.func56, Try.ntmps56
  go_wp2_with (go_at_call 30; refine (impl_IsClue.calls k h x.f0 x.f1 x.f2 t _ hT.out).mono ?_; rintro e w' ⟨rfl, hd⟩)
  go_ret
  exact ⟨rfl, (hBB.out.alloc (Nat.le_trans hBB.out.size (Nat.le_refl _)) _).trans (hd.mono (by simp; have := hBB.out.size; omega))⟩
set_option maxHeartbeats 2000000 in
set_option maxRecDepth 100000 in
theorem impl_IsPuzzle.calls (k : Nat) (a0_0 : Int) (A0_1 : Option Addr) (c0_1 : Nat) (l0_1 : List (S38)) (r : Bool) (w : World) (hr0_1 : Kd.C k38 w A0_1 l0_1.length l0_1) (hc0_1 : l0_1.length ≤ c0_1) (h : impl_IsPuzzle.f k a0_0 l0_1 = some r) :
    Calls Try.prog 19 #[.agg #[.int .i64 a0_0, .slice A0_1 l0_1.length c0_1]] w fun e w' => e = .returned (.bool r) ∧ Below w.heap.size w w' := by
  have hmf : ∀ (fn : Fn) (first cap : Array Value) (w : World), (Instr.makeFunc fn first cap).run Try.prog w = .ok (.func fn first cap) w := fun _ _ _ _ => rfl
  have eg : ∀ args w, (callFunc 56 args).run Try.prog w = .ok (.enter 56 args) w := fun _ _ => rfl
  have hu := Try.underlying24
  unfold impl_IsPuzzle.f at h
  obtain ⟨t, ht, h⟩ := Option.bind_eq_some_iff.mp h
  have HT := Aside0.mk ht
  have HR := Aside0.mk hr0_1
  clear ht hr0_1
  cases t with
  | false =>
    simp only [Bool.false_eq_true, if_false] at h
    cases Option.some.inj h
    clear h
    go_enter Try.func19, Try.ntmps19
    go_wp2_with (go_at_call 54; refine (impl_isDial.calls a0_0 false _ HT.out).mono ?_; rintro e w' ⟨rfl, ⟨nd, rfl⟩⟩)
    go_ret
    exact ⟨rfl, pw_below_drewN ((Below.refl _ _).alloc (Nat.le_refl _) _) _⟩
  | true =>
    simp only [if_true] at h
    by_cases h6 : (l0_1.length : Int) ≤ 6
    · rw [if_pos h6] at h
      obtain ⟨b, hb, h⟩ := Option.bind_eq_some_iff.mp h
      cases Option.some.inj h
      have HQ := Aside0.mk hb
      have d6 : decide ((l0_1.length : Int) ≤ 6) = true := decide_eq_true h6
      have d7 : decide (l0_1.length ≤ 6) = true := decide_eq_true (by omega)
      clear h hb
      go_enter Try.func19, Try.ntmps19
      go_wp2_with (first | (go_at_call 54; refine (impl_isDial.calls a0_0 true _ HT.out).mono ?_; rintro e w' ⟨rfl, ⟨nd, rfl⟩⟩) | (go_at_call 55; refine (clue_ContainsFunc 56 _ eg _ A0_1 c0_1 l0_1 b _ (impl_IsPuzzle.lit k a0_0 w.heap.size _ (by simp) (by go_simp)) (Kd.C_below HR.out (pw_below_drewN ((Below.refl _ _).alloc (Nat.le_refl _) _) _)) hc0_1 HQ.out).mono ?_; rintro e w' ⟨rfl, hb'⟩))
      go_ret
      exact ⟨rfl, below_step (pw_below_drewN ((Below.refl _ _).alloc (Nat.le_refl _) _) _) hb'⟩
    · rw [if_neg h6] at h
      cases Option.some.inj h
      have d6 : decide ((l0_1.length : Int) ≤ 6) = false := decide_eq_false h6
      have d7 : decide (l0_1.length ≤ 6) = false := decide_eq_false (by omega)
      clear h
      go_enter Try.func19, Try.ntmps19
      go_wp2_with (go_at_call 54; refine (impl_isDial.calls a0_0 true _ HT.out).mono ?_; rintro e w' ⟨rfl, ⟨nd, rfl⟩⟩)
      go_ret
      exact ⟨rfl, pw_below_drewN ((Below.refl _ _).alloc (Nat.le_refl _) _) _⟩

end Go.Proofs.Ytpeleommbipeaaa.P
