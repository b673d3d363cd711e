-- written by wip/gen.py (this session's) with the kit's printer; Lean checks it.
import Derived.Test.YtjnmecjbhfinmaaDoorK
import Derived.Test.YtjnmecjbhfinmaaDoorFImplIsPhrase
import Derived.Test.YtjnmecjbhfinmaaDoorFImplWithin
import Derived.Test.YtjnmecjbhfinmaaDoorHofString
namespace Go.Proofs.YtjnmecjbhfinmaaDoor.P
open Go.RowKit Go.Proofs.YtjnmecjbhfinmaaDoorW.PrintWords Go.Proofs.YtjnmecjbhfinmaaDoorW.PrintLast Go.Proofs.YtjnmecjbhfinmaaDoorW.PrintMore
attribute [local go_sem] max2_int min2_int max_two min_two max_three min_three max_four min_four
set_option linter.unusedVariables false
set_option linter.unusedSimpArgs false

/-! ### impl_IsTune: function 22 -/
def impl_IsTune.f (k : Nat) (l0 : List ByteArray) : Option (Bool) :=
  (impl_within.f (l0.length : Int) 1 12).bind fun t => if t = true then ((anyO (fun x => (impl_isPhrase.f k x).bind fun b => some (!b)) l0).bind fun b => some (!b)) else some false
theorem impl_IsTune.mono : ∀ l0 k, LeO (impl_IsTune.f k l0) (impl_IsTune.f (k + 1) l0) := by
  intro l k
  unfold impl_IsTune.f
  exact LeO.bind (LeO.refl _) (fun t => LeO.ite (LeO.bind (anyO_mono (fun x => LeO.bind (impl_isPhrase.mono _ k) (fun _ => LeO.refl _)) l) (fun _ => LeO.refl _)) (LeO.refl _))
theorem impl_IsTune.lit (k : Nat) (w : World) : PredO Tryd.prog 56 #[] (fun x : ByteArray => .string x) (fun x => (impl_isPhrase.f k x).bind fun b => some (!b)) w := by
  intro W x r hB hq
  obtain ⟨t, ht, hr⟩ := Option.bind_eq_some_iff.mp hq
  cases Option.some.inj hr
  have hBB := Aside0.mk hB
  have hT := Aside0.mk ht
  clear hq hB ht
  go_enter Tryd.func56, Tryd.ntmps56
  go_wp2_with (go_at_call 57; refine (impl_isPhrase.calls k x t _ hT.out).mono ?_; rintro e w' ⟨rfl, hd⟩)
  go_ret
  exact ⟨rfl, below_step hBB.out hd.below⟩
set_option maxHeartbeats 2000000 in
set_option maxRecDepth 100000 in
theorem impl_IsTune.calls (k : Nat) (A0 : Option Addr) (c0 : Nat) (l0 : List ByteArray) (r : Bool) (w : World) (hr0 : Kd.C Kd.string w A0 l0.length l0) (hc0 : l0.length ≤ c0) (h : impl_IsTune.f k l0 = some r) :
    Calls Tryd.prog 22 #[.slice A0 l0.length c0] w fun e w' => e = .returned (.bool r) ∧ Below w.heap.size w w' := by
  have hmf : ∀ (fn : Fn) (first cap : Array Value) (w : World), (Instr.makeFunc fn first cap).run Tryd.prog w = .ok (.func fn first cap) w := fun _ _ _ _ => rfl
  have eg : ∀ args w, (callFunc 56 args).run Tryd.prog w = .ok (.enter 56 args) w := fun _ _ => rfl
  unfold impl_IsTune.f at h
  obtain ⟨t, ht, h⟩ := Option.bind_eq_some_iff.mp h
  have HT := Aside0.mk ht
  have HR := Aside0.mk hr0
  clear ht hr0
  cases t with
  | false =>
    simp only [Bool.false_eq_true, if_false] at h
    cases Option.some.inj h
    clear h
    go_enter Tryd.func22, Tryd.ntmps22
    go_wp2_with (go_at_call 44; refine (impl_within.calls (l0.length : Int) 1 12 false _ HT.out).mono ?_; rintro e w' ⟨rfl, ⟨nd, rfl⟩⟩)
    go_ret
    exact ⟨rfl, pw_below_drewN (Below.refl _ _) _⟩
  | true =>
    simp only [if_true] at h
    obtain ⟨b, hb, h⟩ := Option.bind_eq_some_iff.mp h
    cases Option.some.inj h
    have HQ := Aside0.mk hb
    clear h hb
    go_enter Tryd.func22, Tryd.ntmps22
    go_wp2_with (first | (go_at_call 44; refine (impl_within.calls (l0.length : Int) 1 12 true _ HT.out).mono ?_; rintro e w' ⟨rfl, ⟨nd, rfl⟩⟩) | (go_at_call 55; refine (text_ContainsFunc 56 _ eg _ A0 c0 l0 b _ (impl_IsTune.lit k _) (Kd.C_below HR.out (pw_below_drewN (Below.refl _ _) _)) hc0 HQ.out).mono ?_; rintro e w' ⟨rfl, hb'⟩))
    go_ret
    exact ⟨rfl, below_step (pw_below_drewN (Below.refl _ _) _) hb'⟩

end Go.Proofs.YtjnmecjbhfinmaaDoor.P
