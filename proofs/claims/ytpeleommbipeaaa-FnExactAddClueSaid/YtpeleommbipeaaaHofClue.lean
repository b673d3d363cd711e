/- slices.IndexFunc and slices.ContainsFunc at clues, for every predicate. -/
import Derived.Test.YtpeleommbipeaaaHof
import Derived.Shelf.Abstract
namespace Go.Proofs.Ytpeleommbipeaaa.P
open Go.RowKit Go.Proofs.YtpeleommbipeaaaW.PrintWords Go.Proofs.YtpeleommbipeaaaW.PrintLast
set_option linter.unusedVariables false

set_option maxHeartbeats 2000000 in
theorem clue_IndexFunc (g : Nat) (lb : Array Value) (eg : ∀ args w, (callFunc g args).run Try.prog w = .ok (.enter g args) w) (q : S38 → Option Bool) (A : Option Addr) (c : Nat) (l : List S38) (r : Int) (w : World)
    (hp : PredO Try.prog g lb (fun x => .agg #[.int .i64 x.f0, .int .i64 x.f1, .int .i64 x.f2]) q w) (hr : Kd.C k38 w A l.length l) (hc : l.length ≤ c) (h : idxO q l 0 = some r) :
    Calls Try.prog 78 #[.slice A l.length c, .func (.func g) #[] lb] w fun e w' => e = .returned (.int .i64 r) ∧ Below w.heap.size w w' := by
  have hbig := hr.2.1
  have hu := Try.underlying38
  have hus := Try.underlying22
  have H := Aside0.mk hr
  clear hr
  go_enter Try.func78, Try.ntmps78
  go_wp2
  go_loopg [5, 8] l.length (fun gg _ s8 wr => ∃ kk : Nat, kk ≤ l.length ∧ l.length - kk ≤ gg ∧ s8 = .int .i64 kk ∧ Aside0 (Below w.heap.size w wr) ∧ Aside0 (idxO q (l.drop kk) kk = some r))
  case atStart => exact ⟨0, Nat.zero_le _, by omega, rfl, ⟨Below.refl _ w⟩, ⟨h⟩⟩
  case round =>
    obtain ⟨kk, hkk, hg, rfl, BW, A0⟩ := hrel
    by_cases hlt : kk < l.length
    · have hltz : (kk : Int) < (l.length : Int) := by omega
      obtain ⟨b, hb, h1, h2⟩ := idxO_lt q l kk z38 hlt A0.out
      have HC : Kd.C k38 wr A l.length l := Kd.C_below H.out BW.out
      obtain ⟨ad, rfl, e0, e1, e2⟩ := at_T38 HC kk (by omega) hltz
      have HP := Aside0.mk (hp wr (l.getD kk z38) b BW.out hb)
      have hrd : rd_T38 l kk = l.getD kk z38 := rfl
      rw [hrd] at e0 e1 e2
      simp only [Int.toNat_natCast] at e0 e1 e2
      generalize hy : l.getD kk z38 = y at e0 e1 e2 HP hb
      clear hrd hy hb HC hp h A0
      cases b with
      | true =>
        have H1 := Aside0.mk (h1 rfl)
        clear h1 h2
        go_wp2_with (go_at_fn g; refine HP.out.mono ?_; rintro e w' ⟨rfl, hb'⟩)
        go_ret
        exact ⟨by rw [← H1.out]; rfl, hb'⟩
      | false =>
        have H2 := Aside0.mk (h2 rfl)
        clear h1 h2
        go_wp2_with (go_at_fn g; refine HP.out.mono ?_; rintro e w' ⟨rfl, hb'⟩)
        go_roundg (l.length - (kk + 1))
        case measure => omega
        case rel => exact ⟨kk + 1, by omega, by omega, by go_num, ⟨hb'⟩, H2⟩
    · have hltz : ¬ (kk : Int) < (l.length : Int) := by omega
      have : kk = l.length := by omega
      subst this
      have A1 := A0.out
      rw [List.drop_length] at A1
      have A2 := Aside0.mk (Option.some.inj A1)
      clear A1 A0 h hp H
      go_wp2
      go_ret
      exact ⟨by rw [← A2.out]; rfl, BW.out⟩

theorem clue_ContainsFunc (g : Nat) (lb : Array Value) (eg : ∀ args w, (callFunc g args).run Try.prog w = .ok (.enter g args) w) (q : S38 → Option Bool) (A : Option Addr) (c : Nat) (l : List S38) (r : Bool) (w : World)
    (hp : PredO Try.prog g lb (fun x => .agg #[.int .i64 x.f0, .int .i64 x.f1, .int .i64 x.f2]) q w) (hr : Kd.C k38 w A l.length l) (hc : l.length ≤ c) (h : anyO q l = some r) :
    Calls Try.prog 55 #[.slice A l.length c, .func (.func g) #[] lb] w fun e w' => e = .returned (.bool r) ∧ Below w.heap.size w w' := by
  obtain ⟨j, hj, hjr⟩ := idxO_anyO q l 0 r (Int.le_refl 0) h
  have HR := Aside0.mk hjr
  clear hjr h
  go_enter Try.func55, Try.ntmps55
  go_wp2_with (go_at_call 78; refine (clue_IndexFunc g lb eg q A c l j _ hp hr hc hj).mono ?_; rintro e w' ⟨rfl, hb'⟩)
  go_ret
  exact ⟨by rw [← HR.out]; rfl, hb'⟩

end Go.Proofs.Ytpeleommbipeaaa.P
