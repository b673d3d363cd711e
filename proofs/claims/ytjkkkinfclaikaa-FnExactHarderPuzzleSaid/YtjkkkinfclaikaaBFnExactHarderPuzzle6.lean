/- Part 6 of 6 of the texts behind the law FnExactHarderPuzzle: what the program's functions compute, and the plain lemmas. -/
import Derived.Test.YtjkkkinfclaikaaBFnExactHarderPuzzle5
import Derived.Test.YtjkkkinfclaikaaBFnExactHarderPuzzle1
import Derived.Test.YtjkkkinfclaikaaBFnExactHarderPuzzle2
import Derived.Test.YtjkkkinfclaikaaBFnExactHarderPuzzle3
import Derived.Test.YtjkkkinfclaikaaBFnExactHarderPuzzle4
import Derived.SizedLaws
import Derived.DataReads
import Derived.DataElems
import Derived.ChangeOld
import Derived.ChangeSlices
import Derived.ChangeArms
import Derived.Test.YtjkkkinfclaikaaZ1
-- written by wip/gen.py (this session's) with the kit's printer; Lean checks it.
namespace Go.Proofs.Ytjkkkinfclaikaa.P
open Go.Proofs.YtjkkkinfclaikaaW.PrintWords
def FnExactHarderPuzzle.Pure : Prop := ∀ (y0 : S32), (((Lit.int .i64 y0.f0).wf = true) ∧ (y0.f1.length ≤ maxLen ∧ y0.f1.length * 24 ≤ 140737488351232 ∧ ∀ y ∈ y0.f1, ((Lit.int .i64 y.f0).wf = true) ∧ ((Lit.int .i64 y.f1).wf = true) ∧ ((Lit.int .i64 y.f2).wf = true))) → ∃ k, laws_FnExactHarderPuzzle.f k y0.f0 y0.f1 = some true
end Go.Proofs.Ytjkkkinfclaikaa.P

/- Plain lemmas on numbers between bounds, for all laws of the seat; no conditions. -/
namespace Go.Proofs.Ytjkkkinfclaikaa.P
open Go.RowKit Go.Proofs.YtjkkkinfclaikaaW.PrintWords Go.Proofs.YtjkkkinfclaikaaW.PrintLast
set_option linter.unusedVariables false
set_option linter.unusedSimpArgs false

/-- lo ≤ n ≤ hi -/
def wi (n lo hi : Int) : Bool := decide (lo ≤ n) && decide (n ≤ hi)
theorem wi_true {n lo hi : Int} : wi n lo hi = true ↔ lo ≤ n ∧ n ≤ hi := by simp [wi]
theorem wi_false {n lo hi : Int} : wi n lo hi = false ↔ n < lo ∨ hi < n := by simp [wi]; omega
theorem within_eq (a b c : Int) : impl_within.f a b c = some (wi a b c) := by
  unfold impl_within.f wi
  by_cases h : b ≤ a
  · rw [if_pos h, decide_eq_true h, Bool.true_and]
  · rw [if_neg h, decide_eq_false h, Bool.false_and]
theorem l1In_eq (a b c : Int) : spec_l1In.f a b c = some (wi a b c) := within_eq a b c
theorem isDial_eq (h : Int) : impl_isDial.f h = some (wi h 2 24) := by unfold impl_isDial.f; rw [within_eq]; rfl
theorem diHours_eq (h : Int) : spec_diHours.f h = some (wi h 2 24) := by unfold spec_diHours.f; rw [l1In_eq]; rfl
theorem wsm {n : Int} (h1 : -9223372036854775808 ≤ n) (h2 : n ≤ 9223372036854775807) : wrap64 n = n := by unfold wrap64; omega
theorem ev_iff {α : Type} {g f : Nat → Option α} {r : α} (h : ∀ k, g k = f k) : Ev g r ↔ Ev f r := ⟨fun k => Ev.congr (fun n => (h n).symm) k, fun k => Ev.congr h k⟩
theorem ev_later {α : Type} {g : Nat → Option α} {r : α} (h : ∀ k, g (k + 1) = some r) : Ev g r := ⟨1, fun k hk => by obtain ⟨m, rfl⟩ : ∃ m, k = m + 1 := ⟨k - 1, by omega⟩; exact h m⟩
theorem ev_at {α : Type} {g : Nat → Option α} {r : α} (K : Nat) (h : ∀ k, K ≤ k → g k = some r) : Ev g r := ⟨K, h⟩
theorem ev_succ {α : Type} {g : Nat → Option α} {r : α} (h : Ev (fun k => g (k + 1)) r) : Ev g r := Ev.step (fun _ => rfl) h
theorem ev_pos {α : Type} {c : Prop} [Decidable c] {F G : Nat → Option α} {r : α} (hc : c) (h : Ev F r) : Ev (fun k => if c then F k else G k) r := Ev.congr (fun k => if_pos hc) h
theorem ev_neg {α : Type} {c : Prop} [Decidable c] {F G : Nat → Option α} {r : α} (hc : ¬ c) (h : Ev G r) : Ev (fun k => if c then F k else G k) r := Ev.congr (fun k => if_neg hc) h
theorem ev_const {α : Type} {x : Option α} {r : α} (h : x = some r) : Ev (fun _ => x) r := ⟨0, fun _ _ => h⟩
theorem wf64 {n : Int} (h : (Lit.int .i64 n).wf = true) : -9223372036854775808 ≤ n ∧ n ≤ 9223372036854775807 := by
  simp [Lit.wf, IntKind.min, IntKind.max] at h
  obtain ⟨h1, h2⟩ := h
  have h1 := of_decide_eq_true h1
  have h2 := of_decide_eq_true h2
  simp [IntKind.signed, IntKind.bits] at h1 h2
  omega
/-- A test behind a test. -/
theorem ev_both {g f : Nat → Option Bool} {a b : Bool} (h : Ev g a) (k : a = true → Ev f b) : Ev (fun n => (g n).bind fun t => if t = true then f n else some false) (a && b) := by
  refine Ev.bind h ?_
  cases a
  · simp only [Bool.false_eq_true, if_false, Bool.false_and]; exact Ev.now _
  · simp only [if_true, Bool.true_and]; exact k rfl
theorem ev_last {g : Nat → Option Bool} {a : Bool} (h : Ev g a) : Ev (fun n => (g n).bind fun t => some t) a := Ev.bind h (Ev.now _)

end Go.Proofs.Ytjkkkinfclaikaa.P

/- Whether there is a clue of a dial: the program's test and the reference's are one; no conditions. -/
namespace Go.Proofs.Ytjkkkinfclaikaa.P
open Go.RowKit Go.Proofs.YtjkkkinfclaikaaW.PrintWords Go.Proofs.YtjkkkinfclaikaaW.PrintLast
set_option linter.unusedVariables false
set_option linter.unusedSimpArgs false

def kindOk (h k a b : Int) : Bool :=
  if k = 0 then wi a 0 (wrap64 (h - 1)) else if k = 1 then wi a 2 60 && wi b 0 (wrap64 (a - 1)) else if k = 2 then wi a 0 30 else if k = 3 then wi a 0 1 else if k = 4 then wi a 1 h else if k = 5 then wi a 0 59 else false
def clueOk (h k a b : Int) : Bool := (decide (k = 1) || decide (b = 0)) && kindOk h k a b
theorem pzClue_j (k : Nat) (h : Int) (e : Bool) (c a b : Int) : spec_pzClue.j0 (k + 1) h e c a b = some (!e && kindOk h c a b) := by
  simp only [spec_pzClue.j0, l1In_eq, Option.bind_some, kindOk]
  cases e
  · simp only [Bool.false_eq_true, if_false, Bool.not_false, Bool.true_and]
    by_cases h1 : c = 1
    · subst h1
      simp only [Int.reduceEq, if_false, if_true]
      by_cases h2 : wi a 2 60 = true
      · simp only [h2, if_true, Bool.true_and]
      · simp only [Bool.not_eq_true] at h2; simp only [h2, Bool.false_eq_true, if_false, Bool.false_and]
    · simp only [h1, if_false]
      repeat' split
      all_goals rfl
  · simp
theorem isClue_j (k : Nat) (h : Int) (e : Bool) (c a b : Int) : impl_IsClue.j0 (k + 1) h e c a b = some (!e && kindOk h c a b) := pzClue_j k h e c a b
theorem pzClue_eq (k : Nat) (h c a b : Int) : spec_pzClue.f (k + 1) h c a b = some (clueOk h c a b) := by
  simp only [spec_pzClue.f, pzClue_j, clueOk]
  by_cases h1 : c = 1
  · simp [h1]
  · by_cases h2 : b = 0 <;> simp [h1, h2]
theorem isClue_eq (k : Nat) (h c a b : Int) : impl_IsClue.f (k + 1) h c a b = some (wi h 2 24 && clueOk h c a b) := by
  simp only [impl_IsClue.f, isClue_j, isDial_eq, Option.bind_some, clueOk]
  by_cases h0 : wi h 2 24 = true
  · simp only [h0, if_true, Bool.true_and]
    by_cases h1 : c = 1
    · simp [h1]
    · by_cases h2 : b = 0 <;> simp [h1, h2]
  · simp only [Bool.not_eq_true] at h0; simp [h0]

end Go.Proofs.Ytjkkkinfclaikaa.P

-- written by wip/gen.py (this session's) with the kit's printer; Lean checks it.
namespace Go.Proofs.Ytjkkkinfclaikaa.P
open Go.RowKit Go.Proofs.YtjkkkinfclaikaaW.PrintWords Go.Proofs.YtjkkkinfclaikaaW.PrintLast Go.Proofs.YtjkkkinfclaikaaW.PrintMore
attribute [local go_sem] max2_int min2_int max_two min_two max_three min_three max_four min_four
set_option linter.unusedVariables false
set_option linter.unusedSimpArgs false

/-! ### impl_isMinute: function 54 -/
def impl_isMinute.f (a0 : Int) (a1 : Int) : Option (Bool) := (impl_isDial.f a0).bind fun t101 => (if t101 = true then ((impl_within.f a1 0 (wrap64 ((wrap64 (60 * a0)) - 1))).bind fun t102 => (some t102)) else (some false))
set_option maxHeartbeats 8000000 in
set_option maxRecDepth 100000 in
theorem impl_isMinute.calls (a0 : Int) (a1 : Int) (r : Bool) (w : World) (h : impl_isMinute.f a0 a1 = some r) :
    Calls Try.prog 54 #[.int .i64 a0, .int .i64 a1] w fun e w' => e = .returned (.bool r) ∧ Drawn0 w w' := by
  have H : ((impl_isDial.f a0).bind fun t101 => (if t101 = true then ((impl_within.f a1 0 (wrap64 ((wrap64 (60 * a0)) - 1))).bind fun t102 => (some t102)) else (some false))) = some r := h
  clear h
  replace H := Option.bind_eq_some_iff.mp H
  obtain ⟨t101, A30, H⟩ := H
  replace H : (if t101 = true then ((impl_within.f a1 0 (wrap64 ((wrap64 (60 * a0)) - 1))).bind fun t102 => (some t102)) else (some false)) = some r := H
  have A3 := Aside0.mk A30
  clear A30
  by_cases c4 : t101 = true
  · subst c4
    have H1 : ((impl_within.f a1 0 (wrap64 ((wrap64 (60 * a0)) - 1))).bind fun t102 => (some t102)) = some r := by rw [if_pos rfl] at H; exact H
    clear H
    have H := H1
    clear H1
    replace H := Option.bind_eq_some_iff.mp H
    obtain ⟨t102, A50, H⟩ := H
    replace H : (some t102) = some r := H
    have A5 := Aside0.mk A50
    clear A50
    obtain rfl := Option.some.inj H
    go_enter Try.func54, Try.ntmps54
    go_wp2_with (first | ((with_reducible refine gate_callee (f := 79) rfl ?_); refine goesL_ (some 6) rfl rfl Try.func79 (by kernel_rfl) rfl #[.int .i64 a0] rfl (by (try simp only [List.map_toArray, List.map_cons, List.map_nil]); first | done | rfl | (simp only [List.length_drop, List.length_take]; rfl)) ?_; (with_reducible refine (impl_isDial.calls a0 true _ A3.out).mono ?_); rintro e w' ⟨rfl, ⟨nd, rfl⟩⟩; refine ⟨_, rfl, ?_⟩) | (go_at_call 55; (with_reducible refine (impl_within.calls a1 0 (wrap64 ((wrap64 (60 * a0)) - 1)) t102 _ A5.out).mono ?_); rintro e w' ⟨rfl, ⟨nd, rfl⟩⟩))
    go_ret
    exact ⟨by first | rfl | (simp; done) | (simp [*]; done), by repeat (first | exact Drawn0.refl _ | apply Drawn0.step)⟩
  · replace c4 := Bool.eq_false_iff.mpr c4
    subst c4
    have H1 : (some false) = some r := by rw [if_neg (show ¬ (false = true) by decide)] at H; exact H
    clear H
    have H := H1
    clear H1
    obtain rfl := Option.some.inj H
    go_enter Try.func54, Try.ntmps54
    go_wp2_with (first | ((with_reducible refine gate_callee (f := 79) rfl ?_); refine goesL_ (some 6) rfl rfl Try.func79 (by kernel_rfl) rfl #[.int .i64 a0] rfl (by (try simp only [List.map_toArray, List.map_cons, List.map_nil]); first | done | rfl | (simp only [List.length_drop, List.length_take]; rfl)) ?_; (with_reducible refine (impl_isDial.calls a0 false _ A3.out).mono ?_); rintro e w' ⟨rfl, ⟨nd, rfl⟩⟩; refine ⟨_, rfl, ?_⟩))
    go_ret
    exact ⟨by first | rfl | (simp; done) | (simp [*]; done), by repeat (first | exact Drawn0.refl _ | apply Drawn0.step)⟩

end Go.Proofs.Ytjkkkinfclaikaa.P

/- Whether minutes fit a clue: the program's and the reference's answers are one plain test, for a dial, a clue of it and minutes of it. -/
namespace Go.Proofs.Ytjkkkinfclaikaa.P
open Go.RowKit Go.Proofs.YtjkkkinfclaikaaW.PrintWords Go.Proofs.YtjkkkinfclaikaaW.PrintLast
set_option linter.unusedVariables false
set_option linter.unusedSimpArgs false

def fitB (h k a b m : Int) : Bool :=
  if k = 0 then m / 60 == a
  else if k = 1 then m % 60 % a == b
  else if k = 2 then m / 60 / 10 + m / 60 % 10 + m % 60 / 10 + m % 10 == a
  else if k = 3 then decide ((h - 1) * m % (60 * h) < 30 * h) == (a == 1)
  else if k = 4 then m / 60 + 1 == a
  else mx (m / 60 - m % 60) (m % 60 - m / 60) == a
theorem told_ahead {h m : Int} (h1 : 2 ≤ h) (h2 : h ≤ 24) (m1 : 0 ≤ m) (m2 : m < 60 * h) :
    wrap64 (60 * h) = 60 * h ∧ wrap64 (30 * h) = 30 * h ∧ wrap64 ((wrap64 (h - 1)) * m) = (h - 1) * m ∧ wrap64 (m * (wrap64 (h - 1))) = (h - 1) * m ∧ Int.tmod ((h - 1) * m) (60 * h) = (h - 1) * m % (60 * h) ∧ 0 ≤ (h - 1) * m % (60 * h) ∧ (h - 1) * m % (60 * h) < 60 * h := by
  have hm : 0 ≤ (h - 1) * m := Int.mul_nonneg (by omega) m1
  have hm2 : (h - 1) * m ≤ 23 * 1440 := Int.mul_le_mul (by omega) (by omega) m1 (by omega)
  have e : m * (h - 1) = (h - 1) * m := Int.mul_comm _ _
  refine ⟨wsm (by omega) (by omega), wsm (by omega) (by omega), ?_, ?_, Int.tmod_eq_emod_of_nonneg hm, Int.emod_nonneg _ (by omega), Int.emod_lt_of_pos _ (by omega)⟩
  · rw [wsm (n := h - 1) (by omega) (by omega), wsm (by omega) (by omega)]
  · rw [wsm (n := h - 1) (by omega) (by omega), e, wsm (by omega) (by omega)]
theorem clueOk_facts {h k a b : Int} (hc : clueOk h k a b = true) : (k = 0 ∧ b = 0) ∨ (k = 1 ∧ 2 ≤ a ∧ a ≤ 60) ∨ (k = 2 ∧ b = 0) ∨ (k = 3 ∧ 0 ≤ a ∧ a ≤ 1 ∧ b = 0) ∨ (k = 4 ∧ b = 0) ∨ (k = 5 ∧ b = 0) := by
  simp only [clueOk, kindOk, Bool.and_eq_true, Bool.or_eq_true, decide_eq_true_eq] at hc
  obtain ⟨h1, h2⟩ := hc
  by_cases c0 : k = 0
  · subst c0; left; exact ⟨rfl, by omega⟩
  by_cases c1 : k = 1
  · subst c1
    simp only [Int.reduceEq, if_false, if_true, Bool.and_eq_true, wi_true] at h2
    right; left; exact ⟨rfl, h2.1.1, h2.1.2⟩
  by_cases c2 : k = 2
  · subst c2; right; right; left; exact ⟨rfl, by omega⟩
  by_cases c3 : k = 3
  · subst c3
    simp only [Int.reduceEq, if_false, if_true, wi_true] at h2
    right; right; right; left; exact ⟨rfl, h2.1, h2.2, by omega⟩
  by_cases c4 : k = 4
  · subst c4; right; right; right; right; left; exact ⟨rfl, by omega⟩
  by_cases c5 : k = 5
  · subst c5; right; right; right; right; right; exact ⟨rfl, by omega⟩
  · simp [c0, c1, c2, c3, c4, c5] at h2
theorem pzFits_eq {h k a b m : Int} (h1 : 2 ≤ h) (h2 : h ≤ 24) (m1 : 0 ≤ m) (m2 : m < 60 * h) (hc : clueOk h k a b = true) : spec_pzFits.f h k a b m = some (fitB h k a b m) := by
  obtain ⟨w1, w2, w3, w4, w5, w6, w7⟩ := told_ahead h1 h2 m1 m2
  have q : Int.tdiv m 60 = m / 60 := Int.tdiv_eq_ediv_of_nonneg m1
  have r : Int.tmod m 60 = m % 60 := Int.tmod_eq_emod_of_nonneg m1
  have q0 : 0 ≤ m / 60 := by omega
  have r0 : 0 ≤ m % 60 := by omega
  have wq : wrap64 (m / 60) = m / 60 := wsm (by omega) (by omega)
  unfold spec_pzFits.f fitB
  rw [q, r, wq]
  rcases clueOk_facts hc with ⟨rfl, _⟩ | ⟨rfl, a1, a2⟩ | ⟨rfl, _⟩ | ⟨rfl, a1, a2, _⟩ | ⟨rfl, _⟩ | ⟨rfl, _⟩
  · rfl
  · simp only [Int.reduceEq, if_false, if_true]
    rw [if_neg (by omega), Int.tmod_eq_emod_of_nonneg r0]
  · simp only [Int.reduceEq, if_false, if_true]
    rw [Int.tdiv_eq_ediv_of_nonneg q0, Int.tmod_eq_emod_of_nonneg q0, Int.tdiv_eq_ediv_of_nonneg r0, Int.tmod_eq_emod_of_nonneg m1]
    rw [wsm (n := m / 60 / 10) (by omega) (by omega), wsm (n := m % 60 / 10) (by omega) (by omega), wsm (n := m / 60 / 10 + m / 60 % 10) (by omega) (by omega)]
    rw [wsm (n := m / 60 / 10 + m / 60 % 10 + m % 60 / 10) (by omega) (by omega), wsm (by omega) (by omega)]
  · simp only [Int.reduceEq, if_false, if_true, spec_pzAhead.f]
    rw [w1, if_neg (by omega), w2, w3, w5, wsm (by omega) (by omega), Int.tmod_eq_emod_of_nonneg (by omega), Int.add_emod_right, Int.emod_emod_of_dvd _ (Int.dvd_refl _)]
    rfl
  · simp only [Int.reduceEq, if_false, if_true, spec_pzNext.f]
    rw [if_neg (by omega), q, wq, wsm (n := m / 60 + 1) (by omega) (by omega), Int.tmod_eq_emod_of_nonneg (by omega)]
    have hlt : m / 60 + 1 ≤ h := by omega
    by_cases e : m / 60 + 1 = h
    · rw [e, Int.emod_self, wsm (n := 2 * 0) (by omega) (by omega)]
      rfl
    · rw [Int.emod_eq_of_lt (by omega) (by omega), wsm (by omega) (by omega)]
      unfold spec_stAt.f
      rw [Int.tmod_eq_emod_of_nonneg (by omega), if_neg (by omega), if_neg (by omega), Int.tdiv_eq_ediv_of_nonneg (by omega), wsm (by omega) (by omega), show 2 * (m / 60 + 1) / 2 = m / 60 + 1 by omega]
      rfl
  · simp only [Int.reduceEq, if_false, spec_l1Abs.f, spec_l1Most.f]
    rw [wsm (n := m / 60 - m % 60) (by omega) (by omega), wsm (by omega) (by omega)]
    unfold mx
    by_cases e : m / 60 - m % 60 > -(m / 60 - m % 60)
    · rw [if_pos e, if_neg (by omega)]; rfl
    · rw [if_neg e]
      by_cases e2 : m / 60 - m % 60 < m % 60 - m / 60
      · rw [if_pos e2]
        simp only [Option.bind_some]
        rw [show -(m / 60 - m % 60) = m % 60 - m / 60 by omega]
      · rw [if_neg e2]
        simp only [Option.bind_some]
        rw [show -(m / 60 - m % 60) = m / 60 - m % 60 by omega]
theorem fits_eq {h k a b m : Int} (h1 : 2 ≤ h) (h2 : h ≤ 24) (m1 : 0 ≤ m) (m2 : m < 60 * h) (hc : clueOk h k a b = true) : impl_fits.f h m k a b = some (fitB h k a b m) := by
  obtain ⟨w1, w2, w3, w4, w5, w6, w7⟩ := told_ahead h1 h2 m1 m2
  have q : Int.tdiv m 60 = m / 60 := Int.tdiv_eq_ediv_of_nonneg m1
  have r : Int.tmod m 60 = m % 60 := Int.tmod_eq_emod_of_nonneg m1
  have q0 : 0 ≤ m / 60 := by omega
  have r0 : 0 ≤ m % 60 := by omega
  have wq : wrap64 (m / 60) = m / 60 := wsm (by omega) (by omega)
  unfold impl_fits.f fitB impl_told.f
  rcases clueOk_facts hc with ⟨rfl, rfl⟩ | ⟨rfl, a1, a2⟩ | ⟨rfl, rfl⟩ | ⟨rfl, a1, a2, rfl⟩ | ⟨rfl, rfl⟩ | ⟨rfl, rfl⟩
  · simp [q, wq]
  · simp only [Int.reduceEq, if_false, if_true]
    rw [if_neg (by omega), r, Int.tmod_eq_emod_of_nonneg r0]
    simp
  · simp only [Int.reduceEq, if_false, if_true, impl_told.digits]
    rw [q, r, wq, Int.tdiv_eq_ediv_of_nonneg q0, Int.tmod_eq_emod_of_nonneg q0, Int.tdiv_eq_ediv_of_nonneg r0, Int.tmod_eq_emod_of_nonneg m1]
    rw [wsm (n := m / 60 / 10) (by omega) (by omega), wsm (n := m % 60 / 10) (by omega) (by omega), wsm (n := m / 60 / 10 + m / 60 % 10) (by omega) (by omega)]
    rw [wsm (n := m / 60 / 10 + m / 60 % 10 + m % 60 / 10) (by omega) (by omega), wsm (by omega) (by omega)]
    simp
  · simp only [Int.reduceEq, if_false, if_true]
    rw [w1, if_neg (by omega), w4, w5, wsm (by omega) (by omega)]
    by_cases e : (h - 1) * m % (60 * h) < 30 * h
    · rw [if_pos (by omega), decide_eq_true e]
      by_cases e1 : a = 1
      · subst e1; simp
      · have : a = 0 := by omega
        subst this; simp
    · rw [if_neg (by omega), decide_eq_false e]
      by_cases e1 : a = 1
      · subst e1; simp
      · have : a = 0 := by omega
        subst this; simp
  · simp only [Int.reduceEq, if_false, if_true]
    rw [q, wq, wsm (by omega) (by omega)]
    simp
  · simp only [Int.reduceEq, if_false, if_true]
    rw [q, r, wq, wsm (n := m / 60 - m % 60) (by omega) (by omega), wsm (by omega) (by omega)]
    simp
theorem isMinute_eq {h : Int} (m : Int) : impl_isMinute.f h m = some (wi h 2 24 && wi m 0 (60 * h - 1)) := by
  simp only [impl_isMinute.f, isDial_eq, within_eq, Option.bind_some]
  by_cases h0 : wi h 2 24 = true
  · simp only [h0, if_true, Bool.true_and]
    rw [wi_true] at h0
    rw [wsm (n := 60 * h) (by omega) (by omega), wsm (by omega) (by omega)]
  · simp only [Bool.not_eq_true] at h0; simp [h0]

end Go.Proofs.Ytjkkkinfclaikaa.P

/- What is a puzzle: the program's test and the reference's are one; and copies of puzzles read alike. -/
namespace Go.Proofs.Ytjkkkinfclaikaa.P
open Go.RowKit Go.Proofs.YtjkkkinfclaikaaW.PrintWords Go.Proofs.YtjkkkinfclaikaaW.PrintLast
set_option linter.unusedVariables false
set_option linter.unusedSimpArgs false

abbrev IClue := S38
abbrev LClue := S34
def cv (x : LClue) : IClue := ⟨x.f0, x.f1, x.f2⟩
def clueOk' (h : Int) (c : IClue) : Bool := clueOk h c.f0 c.f1 c.f2
def puzzleOk (h : Int) (l : List IClue) : Bool := wi h 2 24 && (decide ((l.length : Int) ≤ 6) && l.all (clueOk' h))

theorem rd_get (l : List IClue) (i : Nat) (h : i < l.length) : rd_T38 l i = l[i] := by
  show l.getD (i : Int).toNat _ = _
  rw [Int.toNat_natCast, List.getD_eq_getElem?_getD, List.getElem?_eq_getElem h]; rfl
theorem rd_getL (l : List LClue) (i : Nat) (h : i < l.length) : rd_T34 l i = l[i] := by
  show l.getD (i : Int).toNat _ = _
  rw [Int.toNat_natCast, List.getD_eq_getElem?_getD, List.getElem?_eq_getElem h]; rfl
theorem wrap_succ {i n : Nat} (h : i < n) (hn : n ≤ 9223372036854775807) : wrap64 ((i : Int) + 1) = ((i + 1 : Nat) : Int) := by
  rw [wsm (by omega) (by omega)]; rfl
theorem toClueS_l (l : List LClue) (hn : l.length ≤ 9223372036854775807) : ∀ (d i : Nat), i + d = l.length → ∀ k, d < k →
    laws_toClueS.l0 k l ((l.take i).map cv ++ List.replicate d z38) i = some (l.map cv) := by
  intro d
  induction d with
  | zero =>
    intro i hi k hk
    obtain ⟨k, rfl⟩ : ∃ m, k = m + 1 := ⟨k - 1, by omega⟩
    simp only [laws_toClueS.l0]
    rw [if_neg (by omega), List.take_of_length_le (by omega)]
    simp
  | succ d ih =>
    intro i hi k hk
    obtain ⟨k, rfl⟩ : ∃ m, k = m + 1 := ⟨k - 1, by omega⟩
    have hlt : i < l.length := by omega
    simp only [laws_toClueS.l0]
    rw [if_pos (by omega), if_pos (by omega), rd_getL l i hlt]
    simp only [laws_toClue.f, Option.bind_some]
    rw [if_pos (by simp; omega), wrap_succ hlt hn, Int.toNat_natCast]
    have e : ((l.take i).map cv ++ List.replicate (d + 1) z38).set i ⟨l[i].f0, l[i].f1, l[i].f2⟩ = (l.take (i + 1)).map cv ++ List.replicate d z38 := by
      have hl : ((l.take i).map cv).length = i := by simp; omega
      rw [List.set_append_right _ _ (by omega), hl, Nat.sub_self, List.replicate_succ, List.set_cons_zero, List.take_succ_eq_append_getElem hlt, List.map_append, List.append_assoc]
      rfl
    rw [e]
    exact ih (i + 1) (by omega) k (by omega)
theorem toClueS_ev (l : List LClue) (hn : l.length * 24 ≤ 140737488351232) : Ev (fun k => laws_toClueS.f k l) (l.map cv) := by
  refine ⟨l.length + 1, fun k hk => ?_⟩
  simp only [laws_toClueS.f]
  rw [if_pos (by omega), if_pos (by omega)]
  have := toClueS_l l (by omega) l.length 0 (by omega) k (by omega)
  simpa using this
theorem toPuzzle_ev (h : Int) (l : List LClue) (hn : l.length * 24 ≤ 140737488351232) : Ev (fun k => laws_toPuzzle.f k h l) (h, l.map cv) := by
  unfold laws_toPuzzle.f
  exact Ev.bind (toClueS_ev l hn) (Ev.now _)
theorem eqClue_self (c : IClue) : laws_eqClue.f c.f0 c.f1 c.f2 c.f0 c.f1 c.f2 = some true := by simp [laws_eqClue.f]
theorem eqClueS_l (l : List IClue) (hn : l.length ≤ 9223372036854775807) : ∀ (d i : Nat), i + d = l.length → ∀ k, d < k → laws_eqClueS.l0 k l l i = some true := by
  intro d
  induction d with
  | zero =>
    intro i hi k hk
    obtain ⟨k, rfl⟩ : ∃ m, k = m + 1 := ⟨k - 1, by omega⟩
    simp only [laws_eqClueS.l0]
    rw [if_neg (by omega)]
  | succ d ih =>
    intro i hi k hk
    obtain ⟨k, rfl⟩ : ∃ m, k = m + 1 := ⟨k - 1, by omega⟩
    have hlt : i < l.length := by omega
    simp only [laws_eqClueS.l0]
    rw [if_pos (by omega), if_pos (by omega), if_pos (by omega), eqClue_self]
    simp only [Option.bind_some, if_true]
    rw [wrap_succ hlt hn]
    exact ih (i + 1) (by omega) k (by omega)
theorem eqPuzzle_self (h : Int) (l : List IClue) (hn : l.length ≤ 9223372036854775807) : Ev (fun k => laws_eqPuzzle.f k h l h l) true := by
  refine ⟨l.length + 1, fun k hk => ?_⟩
  simp only [laws_eqPuzzle.f, if_true, laws_eqClueS.f]
  have := eqClueS_l l hn l.length 0 (by omega) k (by omega)
  rw [show ((0 : Nat) : Int) = 0 from rfl] at this
  rw [this]
  rfl
theorem pzGood_l (h : Int) (l : List IClue) (hn : l.length ≤ 9223372036854775807) : ∀ (d i : Nat), i + d = l.length → ∀ k, d + 1 < k → spec_pzGood.l0 k l l.length i h l = some ((l.drop i).all (clueOk' h)) := by
  intro d
  induction d with
  | zero =>
    intro i hi k hk
    obtain ⟨k, rfl⟩ : ∃ m, k = m + 1 := ⟨k - 1, by omega⟩
    simp only [spec_pzGood.l0]
    rw [if_neg (by omega), List.drop_eq_nil_of_le (by omega)]
    rfl
  | succ d ih =>
    intro i hi k hk
    obtain ⟨k, rfl⟩ : ∃ m, k = m + 2 := ⟨k - 2, by omega⟩
    have hlt : i < l.length := by omega
    have hs : spec_pzGood.l0 (k + 2) l l.length i h l = if clueOk' h l[i] = true then spec_pzGood.l0 (k + 1) l l.length ((i + 1 : Nat) : Int) h l else some false := by
      rw [spec_pzGood.l0]
      rw [if_pos (by omega), if_pos (by omega), if_pos (by omega), rd_get l i hlt, pzClue_eq, wrap_succ hlt hn]
      rfl
    rw [hs, List.drop_eq_getElem_cons hlt, List.all_cons]
    by_cases hc : clueOk' h l[i] = true
    · rw [if_pos hc, ih (i + 1) (by omega) (k + 1) (by omega), hc, Bool.true_and]
    · rw [if_neg hc]
      simp only [Bool.not_eq_true] at hc
      rw [hc, Bool.false_and]
theorem pzGood_ev (h : Int) (l : List IClue) (hn : l.length ≤ 9223372036854775807) : Ev (fun k => spec_pzGood.f k h l) (puzzleOk h l) := by
  refine ⟨l.length + 3, fun k hk => ?_⟩
  obtain ⟨k, rfl⟩ : ∃ m, k = m + 1 := ⟨k - 1, by omega⟩
  simp only [spec_pzGood.f, diHours_eq, Option.bind_some, puzzleOk]
  by_cases h0 : wi h 2 24 = true
  · simp only [h0, if_true, Bool.true_and]
    rw [spec_pzGood.j0]
    by_cases h1 : (l.length : Int) ≤ 6
    · rw [decide_eq_false (by omega), if_neg (by simp), decide_eq_true h1, Bool.true_and]
      have := pzGood_l h l hn l.length 0 (by omega) k (by omega)
      simpa using this
    · rw [decide_eq_true (by omega), if_pos rfl, decide_eq_false h1, Bool.false_and]
  · simp only [Bool.not_eq_true] at h0
    simp only [h0, Bool.false_eq_true, if_false, Bool.false_and]
    rw [spec_pzGood.j0, if_pos rfl]
theorem isPuzzle_eq (k : Nat) (h : Int) (l : List IClue) : impl_IsPuzzle.f (k + 1) h l = some (puzzleOk h l) := by
  simp only [impl_IsPuzzle.f, isDial_eq, Option.bind_some, puzzleOk, isClue_eq]
  by_cases h0 : wi h 2 24 = true
  · simp only [h0, if_true, Bool.true_and]
    by_cases h1 : (l.length : Int) ≤ 6
    · have := anyO_some (q := fun x : IClue => some (!clueOk h x.f0 x.f1 x.f2)) (p := fun c => !clueOk' h c) l (fun _ _ => rfl)
      rw [if_pos h1, this, decide_eq_true h1, Bool.true_and]
      simp only [Option.bind_some]
      congr 1
      clear h1 this
      induction l with
      | nil => rfl
      | cons c l ih => simp only [List.any_cons, List.all_cons, Bool.not_or, Bool.not_not, ih]
    · rw [if_neg h1, decide_eq_false h1, Bool.false_and]
  · simp only [Bool.not_eq_true] at h0; simp [h0]

theorem sz_law {R : Nat → Option Bool} {h : Int} {l : List LClue} (hs : l.length * 24 ≤ 140737488351232) (hr : l.length ≤ 1048576 → Ev R true) :
    Ev (fun k => (laws_szPuzzle.f h l 1048576).bind fun t => if t < 0 then some true else R k) true := by
  have hw : wrap64 (1048576 - (l.length : Int)) = 1048576 - (l.length : Int) := wsm (by omega) (by omega)
  simp only [laws_szPuzzle.f, laws_szClueS.f, hw]
  by_cases h0 : 1048576 - (l.length : Int) < 0
  · simp only [h0, if_true, Option.bind_some, show ((-1 : Int) < 0) from by omega]
    exact Ev.now _
  · simp only [h0, if_false, Option.bind_some]
    exact hr (by omega)
theorem cv_length (l : List LClue) (h : l.length ≤ 1048576) : (l.map cv).length ≤ 1048576 := by rw [List.length_map]; exact h
theorem puzzleOk_facts {h : Int} {l : List IClue} (hp : puzzleOk h l = true) : 2 ≤ h ∧ h ≤ 24 ∧ l.length ≤ 6 ∧ l.all (clueOk' h) = true := by
  simp only [puzzleOk, Bool.and_eq_true, wi_true, decide_eq_true_eq] at hp
  exact ⟨hp.1.1, hp.1.2, by omega, hp.2.2⟩
theorem isPuzzle_ev (h : Int) (l : List IClue) : Ev (fun k => impl_IsPuzzle.f k h l) (puzzleOk h l) := ev_later (fun k => isPuzzle_eq k h l)

end Go.Proofs.Ytjkkkinfclaikaa.P

/- The minutes that fit clues: the program's list and the reference's are one, for a dial and clues of it. -/
namespace Go.Proofs.Ytjkkkinfclaikaa.P
open Go.RowKit Go.Proofs.YtjkkkinfclaikaaW.PrintWords Go.Proofs.YtjkkkinfclaikaaW.PrintLast
set_option linter.unusedVariables false
set_option linter.unusedSimpArgs false

def fit' (h m : Int) (c : IClue) : Bool := fitB h c.f0 c.f1 c.f2 m
def solsFrom (h : Int) (l : List IClue) : Nat → Int → List Int
  | 0, _ => []
  | d + 1, m => if l.all (fit' h m) = true then m :: solsFrom h l d (m + 1) else solsFrom h l d (m + 1)
def sols (h : Int) (l : List IClue) : List Int := solsFrom h l (60 * h).toNat 0
theorem solsFrom_length (h : Int) (l : List IClue) : ∀ d m, (solsFrom h l d m).length ≤ d
  | 0, _ => Nat.le_refl _
  | d + 1, m => by
    have := solsFrom_length h l d (m + 1)
    simp only [solsFrom]
    split
    · simp only [List.length_cons]; omega
    · omega
theorem sols_length {h : Int} (h2 : h ≤ 24) (l : List IClue) : (sols h l).length ≤ 1440 := by
  have := solsFrom_length h l (60 * h).toNat 0
  unfold sols
  omega
theorem solutions_l {h : Int} (h1 : 2 ≤ h) (h2 : h ≤ 24) (l : List IClue) (hl : l.all (clueOk' h) = true) : ∀ (d : Nat) (m : Int) (out : List Int), 0 ≤ m → m + d = 60 * h → out.length ≤ 2000 - d → ∀ k, d < k →
    impl_solutions.l0 k h l out m = some (out ++ solsFrom h l d m) := by
  intro d
  induction d with
  | zero =>
    intro m out m0 hm ho k hk
    obtain ⟨k, rfl⟩ : ∃ j, k = j + 1 := ⟨k - 1, by omega⟩
    simp only [impl_solutions.l0]
    rw [wsm (by omega) (by omega), if_neg (by omega)]
    simp [solsFrom]
  | succ d ih =>
    intro m out m0 hm ho k hk
    obtain ⟨k, rfl⟩ : ∃ j, k = j + 1 := ⟨k - 1, by omega⟩
    have hq := anyO_some (q := impl_solutions.q h m) (p := fun c => !fit' h m c) l (fun c hc => by
      have hok := List.all_eq_true.1 hl c hc
      unfold impl_solutions.q fit'
      rw [fits_eq h1 h2 m0 (by omega) hok]
      rfl)
    have hall : (l.any fun c => !fit' h m c) = !l.all (fit' h m) := by
      clear hq hl ih
      induction l with
      | nil => rfl
      | cons c l ih => simp only [List.any_cons, List.all_cons, ih, Bool.not_and]
    simp only [impl_solutions.l0]
    rw [wsm (n := 60 * h) (by omega) (by omega), if_pos (by omega), hq, hall]
    simp only [Option.bind_some]
    have hw : wrap64 (m + 1) = m + 1 := wsm (by omega) (by omega)
    rw [hw]
    by_cases ha : l.all (fit' h m) = true
    · rw [ha]
      simp only [Bool.not_true, Bool.false_eq_true, if_false]
      rw [if_pos (by omega), ih (m + 1) (out ++ [m]) (by omega) (by omega) (by simp; omega) k (by omega)]
      simp [solsFrom, ha]
    · simp only [Bool.not_eq_true] at ha
      rw [ha]
      simp only [Bool.not_false, if_true]
      rw [ih (m + 1) out (by omega) (by omega) (by omega) k (by omega)]
      simp [solsFrom, ha]
theorem solutions_ev {h : Int} (h1 : 2 ≤ h) (h2 : h ≤ 24) (l : List IClue) (hl : l.all (clueOk' h) = true) : Ev (fun k => impl_solutions.f k h l) (sols h l) :=
  ⟨(60 * h).toNat + 1, fun k hk => by
    have := solutions_l h1 h2 l hl (60 * h).toNat 0 [] (by omega) (by omega) (by simp) k (by omega)
    simpa [impl_solutions.f, sols] using this⟩
theorem pzAll_inner {h : Int} (h1 : 2 ≤ h) (h2 : h ≤ 24) (l : List IClue) (hn : l.length ≤ 9223372036854775807) (hl : l.all (clueOk' h) = true) (m : Int) (m0 : 0 ≤ m) (m1 : m < 60 * h) (out : List Int) (ho : out.length < 17592186044416) (r : List Int) : ∀ (d i : Nat) (b : Bool), i + d = l.length →
    Ev (fun k => if (b && (l.drop i).all (fit' h m)) = true then spec_pzAll.l0 k h l (out ++ [m]) (m + 1) else spec_pzAll.l0 k h l out (m + 1)) r →
    Ev (fun k => spec_pzAll.l1 k h l out m b l l.length i) r := by
  intro d
  induction d with
  | zero =>
    intro i b hi hr
    refine Ev.step (f := fun k => if b = true then spec_pzAll.l0 k h l (out ++ [m]) (m + 1) else spec_pzAll.l0 k h l out (m + 1)) (fun k => ?_) ?_
    · simp only [spec_pzAll.l1]
      rw [if_neg (by omega), if_pos ho, wsm (n := m + 1) (by omega) (by omega)]
    · rw [List.drop_eq_nil_of_le (by omega)] at hr
      simpa using hr
  | succ d ih =>
    intro i b hi hr
    have hlt : i < l.length := by omega
    refine Ev.step (f := fun k => spec_pzAll.l1 k h l out m (b && fit' h m l[i]) l l.length ((i + 1 : Nat) : Int)) (fun k => ?_) ?_
    · have hok := List.all_eq_true.1 hl l[i] (List.getElem_mem hlt)
      simp only [spec_pzAll.l1]
      rw [if_pos (by omega), if_pos (by omega), if_pos (by omega), rd_get l i hlt, wrap_succ hlt hn]
      cases b
      · rfl
      · simp only [if_true, Bool.true_and]
        rw [pzFits_eq h1 h2 m0 m1 hok]
        rfl
    · refine ih (i + 1) _ (by omega) ?_
      rw [List.drop_eq_getElem_cons hlt, List.all_cons, ← Bool.and_assoc] at hr
      exact hr
theorem pzAll_l {h : Int} (h1 : 2 ≤ h) (h2 : h ≤ 24) (l : List IClue) (hn : l.length ≤ 9223372036854775807) (hl : l.all (clueOk' h) = true) : ∀ (d : Nat) (m : Int) (out : List Int), 0 ≤ m → m + d = 60 * h → out.length ≤ 2000 - d →
    Ev (fun k => spec_pzAll.l0 k h l out m) (out ++ solsFrom h l d m) := by
  intro d
  induction d with
  | zero =>
    intro m out m0 hm ho
    refine ev_later (fun k => ?_)
    simp only [spec_pzAll.l0]
    rw [wsm (by omega) (by omega), if_neg (by omega)]
    simp [solsFrom]
  | succ d ih =>
    intro m out m0 hm ho
    refine Ev.step (f := fun k => spec_pzAll.l1 k h l out m true l l.length ((0 : Nat) : Int)) (fun k => ?_) ?_
    · simp only [spec_pzAll.l0]
      rw [wsm (by omega) (by omega), if_pos (by omega)]
      rfl
    · refine pzAll_inner h1 h2 l hn hl m m0 (by omega) out (by omega) _ l.length 0 true (by omega) ?_
      simp only [List.drop_zero, Bool.true_and]
      by_cases ha : l.all (fit' h m) = true
      · simp only [ha, if_true, solsFrom]
        have := ih (m + 1) (out ++ [m]) (by omega) (by omega) (by simp; omega)
        simpa using this
      · simp only [ha, solsFrom]
        exact ih (m + 1) out (by omega) (by omega) (by omega)
theorem pzAll_ev {h : Int} (h1 : 2 ≤ h) (h2 : h ≤ 24) (l : List IClue) (hn : l.length ≤ 9223372036854775807) (hl : l.all (clueOk' h) = true) : Ev (fun k => spec_pzAll.f k h l) (sols h l) := by
  have := pzAll_l h1 h2 l hn hl (60 * h).toNat 0 [] (by omega) (by omega) (by simp)
  simpa [spec_pzAll.f, sols] using this

end Go.Proofs.Ytjkkkinfclaikaa.P

/- Solutions, told by the program and by the reference alike. -/
namespace Go.Proofs.Ytjkkkinfclaikaa.P
open Go.RowKit Go.Proofs.YtjkkkinfclaikaaW.PrintWords Go.Proofs.YtjkkkinfclaikaaW.PrintLast
set_option linter.unusedVariables false
set_option linter.unusedSimpArgs false

def solsB (h : Int) (l : List IClue) : List Int × Bool := if puzzleOk h l = true then (sols h l, true) else ([], false)
theorem implSolutions_ev (h : Int) (l : List IClue) : Ev (fun k => impl_Solutions.f k h l) (solsB h l) := by
  unfold impl_Solutions.f solsB
  refine Ev.bind (isPuzzle_ev h l) ?_
  by_cases hp : puzzleOk h l = true
  · simp only [hp, if_true]
    obtain ⟨h1, h2, h3, h4⟩ := puzzleOk_facts hp
    exact Ev.bind (solutions_ev h1 h2 l h4) (Ev.now _)
  · simp only [Bool.not_eq_true] at hp
    simp only [hp, Bool.false_eq_true, if_false]
    exact Ev.now _
/-- What the reference does behind its test of a puzzle. -/
theorem pz_ev {α : Type} (h : Int) (l : List IClue) (hn : l.length ≤ 1048576) {F : Nat → Option α} {a b : α} (hF : 2 ≤ h → h ≤ 24 → l.length ≤ 6 → l.all (clueOk' h) = true → Ev F a) :
    Ev (fun k => (spec_pzGood.f k h l).bind fun t => if t = true then F k else some b) (if puzzleOk h l = true then a else b) := by
  refine Ev.bind (pzGood_ev h l (by omega)) ?_
  by_cases hp : puzzleOk h l = true
  · simp only [hp, if_true]
    obtain ⟨h1, h2, h3, h4⟩ := puzzleOk_facts hp
    exact hF h1 h2 h3 h4
  · simp only [Bool.not_eq_true] at hp
    simp only [hp, Bool.false_eq_true, if_false]
    exact Ev.now _

end Go.Proofs.Ytjkkkinfclaikaa.P

-- written by wip/gen.py (this session's) with the kit's printer; Lean checks it.
namespace Go.Proofs.Ytjkkkinfclaikaa.P
open Go.RowKit Go.Proofs.YtjkkkinfclaikaaW.PrintWords Go.Proofs.YtjkkkinfclaikaaW.PrintLast Go.Proofs.YtjkkkinfclaikaaW.PrintMore
attribute [local go_sem] max2_int min2_int max_two min_two max_three min_three max_four min_four
set_option linter.unusedVariables false
set_option linter.unusedSimpArgs false

/-! ### laws_markIntS: function 38 -/
def laws_markIntS.l0 : Nat → List Int → Int → Int → Option (Int × List Int)
  | 0, _, _, _ => none
  | k + 1, x0, x1, x5 => if x5 < (x0.length : Int) then (if 0 ≤ x5 then (laws_markIntS.l0 k (x0.set (x5 : Int).toNat x1) (wrap64 (x1 + 1)) (wrap64 (x5 + 1))) else (none)) else (some (x1, x0))
def laws_markIntS.f (k : Nat) (l0 : List Int) (a1 : Int) : Option (Int × List Int) := laws_markIntS.l0 k l0 a1 0
theorem laws_markIntS.mono_l : ∀ k, (∀ y0 y1 y2, LeO (laws_markIntS.l0 k y0 y1 y2) (laws_markIntS.l0 (k + 1) y0 y1 y2))
  | 0 => fun _ _ _ r h => by simp [laws_markIntS.l0] at h
  | k + 1 => by
    have ih0 := laws_markIntS.mono_l k
    · intro y0 y1 y2
      unfold laws_markIntS.l0
      repeat' first
      | (with_reducible exact ih0 _ _ _)
      | (with_reducible exact LeO.refl _)
      | (with_reducible exact LeO.none _)
      | (with_reducible refine LeO.ite ?_ ?_)
      | (with_reducible refine LeO.bind ?_ (fun _ => ?_))
      | exact ih0 _ _ _
      | exact LeO.none _
      | refine LeO.ite ?_ ?_
      | refine LeO.bind ?_ (fun _ => ?_)
theorem laws_markIntS.mono : ∀ a0 a1 k, LeO (laws_markIntS.f k a0 a1) (laws_markIntS.f (k + 1) a0 a1) := by
  intro a0 a1 k
  have ih0 := laws_markIntS.mono_l k
  unfold laws_markIntS.f
  repeat' first
      | (with_reducible exact ih0 _ _ _)
      | (with_reducible exact LeO.refl _)
      | (with_reducible exact LeO.none _)
      | (with_reducible refine LeO.ite ?_ ?_)
      | (with_reducible refine LeO.bind ?_ (fun _ => ?_))
      | exact ih0 _ _ _
      | exact LeO.none _
      | refine LeO.ite ?_ ?_
      | refine LeO.bind ?_ (fun _ => ?_)
set_option maxHeartbeats 8000000 in
set_option maxRecDepth 100000 in
theorem laws_markIntS.calls (k : Nat) (P0_ : Nat → Prop) (u9000_ : Value) (l0 : List Int) (a1 : Int) (r1 : Int) (r2 : List Int) (w0 w : World) (hB : Below w0.heap.size w0 w) (ho0 : Kd.R (Kd.int .i64) 3 w w0.heap.size P0_ u9000_ l0) (h : laws_markIntS.f k l0 a1 = some (r1, r2)) :
    Calls Try.prog 38 #[u9000_, .int .i64 a1] w fun e w' => e = .returned (.int .i64 r1) ∧ Kd.R (Kd.int .i64) 3 w' w0.heap.size (fun k_ => (P0_ k_ ∨ w.heap.size ≤ k_)) u9000_ r2 ∧ Below w0.heap.size w0 w' ∧ Kept w w' (fun k_ => P0_ k_) := by
  have HO0 := Aside0.mk (show Kd.R (Kd.int .i64) 3 w w0.heap.size (fun k_ => (P0_ k_ ∨ w.heap.size ≤ k_)) u9000_ l0 from Kd.R_mono ho0 (fun k_ hk => (.inl hk)))
  have HK := Aside0.mk (Kept.refl w (fun k_ => P0_ k_))
  have HW0 := Aside0.mk hB.size
  have HB := Aside0.mk hB
  clear hB
  have H : (laws_markIntS.l0 k l0 a1 0) = some (r1, r2) := h
  clear h
  have H' := Aside0.mk H
  clear H
  go_enter Try.func38, Try.ntmps38
  go_wp2
  go_loopg [1, 5] k (fun kq v1 v5 w' => ∃ (x0_1 : List Int) (x1_1 : Int) (x5_1 : Int), v1 = .int .i64 x1_1 ∧ v5 = .int .i64 x5_1 ∧ Aside0 (laws_markIntS.l0 kq x0_1 x1_1 x5_1 = some (r1, r2)) ∧ Aside0 (kq ≤ k) ∧ Aside0 (Kd.R (Kd.int .i64) 3 w' w0.heap.size (fun k_ => (P0_ k_ ∨ w.heap.size ≤ k_)) u9000_ x0_1) ∧ Aside0 (Kept w w' (fun k_ => P0_ k_)) ∧ Aside0 (Below w0.heap.size w0 w'))
  case atStart => exact ⟨(l0), (a1), (0), (by first | rfl | (simp; done) | (simp [*]; done)), (by first | rfl | (simp; done) | (simp [*]; done)), H', ⟨Nat.le_refl _⟩, ⟨by (with_reducible repeat (first | apply Kd.R_alloc | apply Kd.R_drewN | apply Kd.R_drew)); exact HO0.out⟩, ⟨by repeat (first | (with_reducible first | exact HK.out | apply Kept.alloc | apply Kept.drewN | apply Kept.drew) | exact HK.out)⟩, ⟨by repeat (first | (with_reducible first | exact HB.out | apply below_alloc | apply pw_below_drewN | apply below_drew1) | exact HB.out)⟩⟩
  case round =>
    clear H'
    try clear p2
    obtain ⟨x0_1, x1_1, x5_1, rfl, rfl, HA, HK1, HO_0, HK, HB⟩ := hrel
    cases gk with
    | zero => exact absurd HA.out (by simp [laws_markIntS.l0])
    | succ k1 =>
      have H := HA.out
      clear HA
      simp only [laws_markIntS.l0] at H
      by_cases c3 : x5_1 < (x0_1.length : Int)
      · rw [if_pos c3] at H
        have c3b0 : decide (x5_1 < (x0_1.length : Int)) = true := decide_eq_true c3
        clear c3
        by_cases c4 : 0 ≤ x5_1
        · rw [if_pos c4] at H
          have c4b0 : decide (0 ≤ x5_1) = true := decide_eq_true c4
          clear c4
          obtain ⟨y101, hy101⟩ : ∃ y_ : List Int, y_ = (x0_1.set (x5_1 : Int).toNat x1_1) := ⟨_, rfl⟩
          replace H : (laws_markIntS.l0 k1 y101 (wrap64 (x1_1 + 1)) (wrap64 (x5_1 + 1))) = some (r1, r2) := by first | (rw [hy101]; with_reducible exact H) | (have H2_ := (Option.bind_some _ _).symm.trans H; rw [hy101]; with_reducible exact H2_) | (have H2_ := (Option.bind_some _ _).symm.trans H; with_reducible exact H2_) | with_reducible exact H | (rw [hy101]; exact H) | exact H
          have Ny101 := Aside0.mk hy101
          clear hy101
          have H' := Aside0.mk H
          clear H
          obtain ⟨Ao6, co6, eo6⟩ := Kd.R_slice HO_0.out
          subst eo6
          have p5 : 0 ≤ (x5_1 : Int) := of_decide_eq_true (by first | (with_reducible assumption) | assumption)
          have q5 : (x5_1 : Int) < ((x0_1.length : Int) : Int) := of_decide_eq_true (by first | (with_reducible assumption) | assumption)
          obtain ⟨go5, co5, eo5, gb5, gl5, cl5, HG5⟩ := Kd.R_form HO_0.out (by omega)
          (first | cases eo5 | (injection eo5 with ea_ en_ ec_; (first | subst ea_ | (injection ea_ with ea_; subst ea_)); subst ec_; clear en_))
          have GB5 := Aside0.mk gb5
          have GG5 := Aside0.mk HG5
          clear gb5 gl5 HG5
          have HMgo5 := Aside0.mk (show (P0_ go5 ∨ w.heap.size ≤ go5) from (HO_0.out.1 _ rfl))
          obtain ⟨hx5_0, hf5_0⟩ := Kd.R_celln 0 HO_0.out (x5_1 : Int) p5 q5
          replace p5 := eq_true p5
          replace q5 := eq_true q5
          have HP7 := Kd.R_putg HO_0.out (x5_1 : Int) x1_1
          go_wp2_with (first | ((with_reducible refine gate_store (t := 3) (p := 15) rfl ?_); refine store_event (t := 3) (p := 15) (v := ?vo_w8) (w1 := (wr.setCell ⟨go5, (x5_1 : Int).toNat, none⟩ (.int .i64 x1_1))) ?hg ?ho ?hn ?hr ?_; (case ho => rfl); (case hg => rfl); (case hn => rfl); (case hr => first | (go_simp; done) | (go_simp; rfl)); intro w8 hw; have hg : wr.grownBy w8 (some go5) := (by rw [hw]; exact HP7.2); have hp_ : Kd.R (Kd.int .i64) 3 w8 w0.heap.size (fun k_ => (P0_ k_ ∨ w.heap.size ≤ k_)) (.slice (some ⟨go5, 0, none⟩) x0_1.length co6) y101 := (by rw [hw, Ny101.out]; exact HP7.1); clear HP7; have n0_ := Aside0.mk (hp_); have n1_ := Aside0.mk ((by rw [hw]; exact below_set (HB.out) GB5.out : Below w0.heap.size w0 w8)); have n2_ := Aside0.mk (Kept.of_grown (S := (fun k_ => P0_ k_)) hg (by repeat (first | (with_reducible first | exact HK.out | apply Kept.alloc | apply Kept.drewN | apply Kept.drew) | exact HK.out)) (fun k_ e_ => (HO_0.out.1 k_ e_))); clear HO_0; clear HB; clear HK; have HO_0 := n0_; have HB := n1_; have HK := n2_; clear n0_ n1_ n2_; clear hg hw hp_))
          go_roundg k1
          case measure => have := HK1.out; omega
          case rel => exact ⟨(y101), (wrap64 (x1_1 + 1)), (wrap64 (x5_1 + 1)), (by first | rfl | (simp; done) | (simp [*]; done)), (by first | rfl | (simp; done) | (simp [*]; done)), H', ⟨by have := HK1.out; omega⟩, ⟨by (with_reducible repeat (first | apply Kd.R_alloc | apply Kd.R_drewN | apply Kd.R_drew)); exact HO_0.out⟩, ⟨by repeat (first | (with_reducible first | exact HK.out | apply Kept.alloc | apply Kept.drewN | apply Kept.drew) | exact HK.out)⟩, ⟨by repeat (first | (with_reducible first | exact HB.out | apply below_alloc | apply pw_below_drewN | apply below_drew1) | exact HB.out)⟩⟩
        · rw [if_neg c4] at H
          exact absurd H (by simp)
      · rw [if_neg c3] at H
        have c3b0 : decide (x5_1 < (x0_1.length : Int)) = false := decide_eq_false c3
        clear c3
        simp only [Option.some.injEq, Prod.mk.injEq] at H
        obtain ⟨rfl, rfl⟩ := H
        obtain ⟨Ao9, co9, eo9⟩ := Kd.R_slice HO_0.out
        subst eo9
        go_wp2
        go_ret
        exact ⟨by first | rfl | (simp [errW_none, errW_some] <;> rfl) | (simp [*, errW_none, errW_some] <;> rfl), by (with_reducible repeat (first | apply Kd.R_alloc | apply Kd.R_drewN | apply Kd.R_drew)); exact HO_0.out, by repeat (first | (with_reducible first | exact HB.out | apply below_alloc | apply pw_below_drewN | apply below_drew1) | exact HB.out), by repeat (first | (with_reducible first | exact HK.out | apply Kept.alloc | apply Kept.drewN | apply Kept.drew) | exact HK.out)⟩

end Go.Proofs.Ytjkkkinfclaikaa.P

-- written by wip/gen.py (this session's) with the kit's printer; Lean checks it.
namespace Go.Proofs.Ytjkkkinfclaikaa.P
open Go.RowKit Go.Proofs.YtjkkkinfclaikaaW.PrintWords Go.Proofs.YtjkkkinfclaikaaW.PrintLast Go.Proofs.YtjkkkinfclaikaaW.PrintMore
attribute [local go_sem] max2_int min2_int max_two min_two max_three min_three max_four min_four
set_option linter.unusedVariables false
set_option linter.unusedSimpArgs false

/-! ### laws_heldIntS: function 39 -/
def laws_heldIntS.l0 : Nat → List Int → Int → Int → Option (Int)
  | 0, _, _, _ => none
  | k + 1, x0, x1, x5 => if x5 < (x0.length : Int) then (if 0 ≤ x5 then (if (rd x0 x5) = x1 then (laws_heldIntS.l0 k x0 (wrap64 (x1 + 1)) (wrap64 (x5 + 1))) else (some (-1))) else (none)) else (some x1)
def laws_heldIntS.f (k : Nat) (l0 : List Int) (a1 : Int) : Option (Int) := laws_heldIntS.l0 k l0 a1 0
theorem laws_heldIntS.mono_l : ∀ k, (∀ y0 y1 y2, LeO (laws_heldIntS.l0 k y0 y1 y2) (laws_heldIntS.l0 (k + 1) y0 y1 y2))
  | 0 => fun _ _ _ r h => by simp [laws_heldIntS.l0] at h
  | k + 1 => by
    have ih0 := laws_heldIntS.mono_l k
    · intro y0 y1 y2
      unfold laws_heldIntS.l0
      repeat' first
      | (with_reducible exact ih0 _ _ _)
      | (with_reducible exact LeO.refl _)
      | (with_reducible exact LeO.none _)
      | (with_reducible refine LeO.ite ?_ ?_)
      | (with_reducible refine LeO.bind ?_ (fun _ => ?_))
      | exact ih0 _ _ _
      | exact LeO.none _
      | refine LeO.ite ?_ ?_
      | refine LeO.bind ?_ (fun _ => ?_)
theorem laws_heldIntS.mono : ∀ a0 a1 k, LeO (laws_heldIntS.f k a0 a1) (laws_heldIntS.f (k + 1) a0 a1) := by
  intro a0 a1 k
  have ih0 := laws_heldIntS.mono_l k
  unfold laws_heldIntS.f
  repeat' first
      | (with_reducible exact ih0 _ _ _)
      | (with_reducible exact LeO.refl _)
      | (with_reducible exact LeO.none _)
      | (with_reducible refine LeO.ite ?_ ?_)
      | (with_reducible refine LeO.bind ?_ (fun _ => ?_))
      | exact ih0 _ _ _
      | exact LeO.none _
      | refine LeO.ite ?_ ?_
      | refine LeO.bind ?_ (fun _ => ?_)
set_option maxHeartbeats 8000000 in
set_option maxRecDepth 100000 in
theorem laws_heldIntS.calls (k : Nat) (A0 : Option Addr) (c0 : Nat) (l0 : List Int) (a1 : Int) (r : Int) (w : World) (hr0 : Kd.C (Kd.int .i64) w A0 l0.length l0) (hc0 : l0.length ≤ c0) (h : laws_heldIntS.f k l0 a1 = some r) :
    Calls Try.prog 39 #[.slice A0 l0.length c0, .int .i64 a1] w fun e w' => e = .returned (.int .i64 r) ∧ Drawn0 w w' := by
  have HR0 := Aside0.mk hr0
  have HC0 := Aside0.mk hc0
  clear hr0 hc0
  have H : (laws_heldIntS.l0 k l0 a1 0) = some r := h
  clear h
  have H' := Aside0.mk H
  clear H
  go_enter Try.func39, Try.ntmps39
  go_wp2
  go_loopg [1, 5] k (fun kq v1 v5 w' => ∃ (x1_1 : Int) (x5_1 : Int), v1 = .int .i64 x1_1 ∧ v5 = .int .i64 x5_1 ∧ Aside0 (laws_heldIntS.l0 kq l0 x1_1 x5_1 = some r) ∧ Aside0 (kq ≤ k) ∧ Drawn0 w w')
  case atStart => exact ⟨(a1), (0), (by first | rfl | (simp; done) | (simp [*]; done)), (by first | rfl | (simp; done) | (simp [*]; done)), H', ⟨Nat.le_refl _⟩, by repeat (first | exact Drawn0.refl _ | apply Drawn0.step)⟩
  case round =>
    clear H'
    try clear p2
    obtain ⟨x1_1, x5_1, rfl, rfl, HA, HK1, ⟨m1, rfl⟩⟩ := hrel
    cases gk with
    | zero => exact absurd HA.out (by simp [laws_heldIntS.l0])
    | succ k1 =>
      have H := HA.out
      clear HA
      simp only [laws_heldIntS.l0] at H
      by_cases c3 : x5_1 < (l0.length : Int)
      · rw [if_pos c3] at H
        have c3b0 : decide (x5_1 < (l0.length : Int)) = true := decide_eq_true c3
        clear c3
        by_cases c4 : 0 ≤ x5_1
        · rw [if_pos c4] at H
          have c4b0 : decide (0 ≤ x5_1) = true := decide_eq_true c4
          clear c4
          by_cases c5 : (rd l0 x5_1) = x1_1
          · rw [if_pos c5] at H
            have c5b0 : ((rd l0 x5_1) == x1_1) = true := beq_iff_eq.mpr c5
            have c5b1 : ((rd l0 x5_1) != x1_1) = false := bne_eq_false_iff_eq.mpr c5
            clear c5
            have H' := Aside0.mk H
            clear H
            have p101 : 0 ≤ (x5_1 : Int) := of_decide_eq_true (by first | (with_reducible assumption) | assumption)
            have q101 : x5_1 < (l0.length : Int) := of_decide_eq_true (by first | (with_reducible assumption) | assumption)
            obtain ⟨ad101, e101, hx101_0⟩ := Kd.at_int HR0.out x5_1 p101 q101
            cases e101
            replace p101 := eq_true p101
            replace q101 := eq_true q101
            go_wp2
            go_roundg k1
            case measure => have := HK1.out; omega
            case rel => exact ⟨(wrap64 (x1_1 + 1)), (wrap64 (x5_1 + 1)), (by first | rfl | (simp; done) | (simp [*]; done)), (by first | rfl | (simp; done) | (simp [*]; done)), H', ⟨by have := HK1.out; omega⟩, by repeat (first | exact Drawn0.refl _ | apply Drawn0.step)⟩
          · rw [if_neg c5] at H
            have c5b0 : ((rd l0 x5_1) == x1_1) = false := beq_eq_false_iff_ne.mpr c5
            have c5b1 : ((rd l0 x5_1) != x1_1) = true := bne_iff_ne.mpr c5
            obtain rfl := Option.some.inj H
            have p101 : 0 ≤ (x5_1 : Int) := of_decide_eq_true (by first | (with_reducible assumption) | assumption)
            have q101 : x5_1 < (l0.length : Int) := of_decide_eq_true (by first | (with_reducible assumption) | assumption)
            obtain ⟨ad101, e101, hx101_0⟩ := Kd.at_int HR0.out x5_1 p101 q101
            cases e101
            replace p101 := eq_true p101
            replace q101 := eq_true q101
            go_wp2
            go_ret
            exact ⟨by first | rfl | (simp; done) | (simp [*]; done), by repeat (first | exact Drawn0.refl _ | apply Drawn0.step)⟩
        · rw [if_neg c4] at H
          exact absurd H (by simp)
      · rw [if_neg c3] at H
        have c3b0 : decide (x5_1 < (l0.length : Int)) = false := decide_eq_false c3
        clear c3
        obtain rfl := Option.some.inj H
        go_wp2
        go_ret
        exact ⟨by first | rfl | (simp; done) | (simp [*]; done), by repeat (first | exact Drawn0.refl _ | apply Drawn0.step)⟩

end Go.Proofs.Ytjkkkinfclaikaa.P

-- written by wip/gen.py (this session's) with the kit's printer; Lean checks it.
namespace Go.Proofs.Ytjkkkinfclaikaa.P
open Go.RowKit Go.Proofs.YtjkkkinfclaikaaW.PrintWords Go.Proofs.YtjkkkinfclaikaaW.PrintLast Go.Proofs.YtjkkkinfclaikaaW.PrintMore
attribute [local go_sem] max2_int min2_int max_two min_two max_three min_three max_four min_four
set_option linter.unusedVariables false
set_option linter.unusedSimpArgs false

/-! ### laws_eqIntS: function 37 -/
def laws_eqIntS.l0 : Nat → List Int → List Int → Int → Option (Bool)
  | 0, _, _, _ => none
  | k + 1, x0, x1, x5 => if x5 < (x0.length : Int) then (if 0 ≤ x5 then (if x5 < (x1.length : Int) then (if (rd x0 x5) = (rd x1 x5) then (laws_eqIntS.l0 k x0 x1 (wrap64 (x5 + 1))) else (some false)) else (none)) else (none)) else (some true)
def laws_eqIntS.f (k : Nat) (l0 : List Int) (l1 : List Int) : Option (Bool) := if (l0.length : Int) = (l1.length : Int) then (laws_eqIntS.l0 k l0 l1 0) else (some false)
theorem laws_eqIntS.mono_l : ∀ k, (∀ y0 y1 y2, LeO (laws_eqIntS.l0 k y0 y1 y2) (laws_eqIntS.l0 (k + 1) y0 y1 y2))
  | 0 => fun _ _ _ r h => by simp [laws_eqIntS.l0] at h
  | k + 1 => by
    have ih0 := laws_eqIntS.mono_l k
    · intro y0 y1 y2
      unfold laws_eqIntS.l0
      repeat' first
      | (with_reducible exact ih0 _ _ _)
      | (with_reducible exact LeO.refl _)
      | (with_reducible exact LeO.none _)
      | (with_reducible refine LeO.ite ?_ ?_)
      | (with_reducible refine LeO.bind ?_ (fun _ => ?_))
      | exact ih0 _ _ _
      | exact LeO.none _
      | refine LeO.ite ?_ ?_
      | refine LeO.bind ?_ (fun _ => ?_)
theorem laws_eqIntS.mono : ∀ a0 a1 k, LeO (laws_eqIntS.f k a0 a1) (laws_eqIntS.f (k + 1) a0 a1) := by
  intro a0 a1 k
  have ih0 := laws_eqIntS.mono_l k
  unfold laws_eqIntS.f
  repeat' first
      | (with_reducible exact ih0 _ _ _)
      | (with_reducible exact LeO.refl _)
      | (with_reducible exact LeO.none _)
      | (with_reducible refine LeO.ite ?_ ?_)
      | (with_reducible refine LeO.bind ?_ (fun _ => ?_))
      | exact ih0 _ _ _
      | exact LeO.none _
      | refine LeO.ite ?_ ?_
      | refine LeO.bind ?_ (fun _ => ?_)
set_option maxHeartbeats 8000000 in
set_option maxRecDepth 100000 in
theorem laws_eqIntS.calls (k : Nat) (A0 : Option Addr) (c0 : Nat) (l0 : List Int) (A1 : Option Addr) (c1 : Nat) (l1 : List Int) (r : Bool) (w : World) (hr0 : Kd.C (Kd.int .i64) w A0 l0.length l0) (hc0 : l0.length ≤ c0) (hr1 : Kd.C (Kd.int .i64) w A1 l1.length l1) (hc1 : l1.length ≤ c1) (h : laws_eqIntS.f k l0 l1 = some r) :
    Calls Try.prog 37 #[.slice A0 l0.length c0, .slice A1 l1.length c1] w fun e w' => e = .returned (.bool r) ∧ Drawn0 w w' := by
  have HR0 := Aside0.mk hr0
  have HC0 := Aside0.mk hc0
  clear hr0 hc0
  have HR1 := Aside0.mk hr1
  have HC1 := Aside0.mk hc1
  clear hr1 hc1
  have H : (if (l0.length : Int) = (l1.length : Int) then (laws_eqIntS.l0 k l0 l1 0) else (some false)) = some r := h
  clear h
  by_cases c3 : (l0.length : Int) = (l1.length : Int)
  · rw [if_pos c3] at H
    have c3b0 : ((l0.length : Int) == (l1.length : Int)) = true := beq_iff_eq.mpr c3
    have c3b1 : ((l0.length : Int) != (l1.length : Int)) = false := bne_eq_false_iff_eq.mpr c3
    have c3b2 : (l0.length == l1.length) = true := by first | simpa using c3 | (simp at c3 ⊢; omega)
    clear c3
    have H' := Aside0.mk H
    clear H
    go_enter Try.func37, Try.ntmps37
    go_wp2
    repeat (go_quiet (fail); try go_wp2)
    go_loopg [5] k (fun kq v5 w' => ∃ (x5_1 : Int), v5 = .int .i64 x5_1 ∧ Aside0 (laws_eqIntS.l0 kq l0 l1 x5_1 = some r) ∧ Aside0 (kq ≤ k) ∧ Drawn0 w w')
    case atStart => exact ⟨(0), (by first | rfl | (simp; done) | (simp [*]; done)), H', ⟨Nat.le_refl _⟩, by repeat (first | exact Drawn0.refl _ | apply Drawn0.step)⟩
    case round =>
      clear H'
      try clear c1
      try clear p2
      try clear c3
      try clear c3b0
      try clear c3b1
      try clear c3b2
      obtain ⟨x5_1, rfl, HA, HK1, ⟨m1, rfl⟩⟩ := hrel
      cases gk with
      | zero => exact absurd HA.out (by simp [laws_eqIntS.l0])
      | succ k1 =>
        have H := HA.out
        clear HA
        simp only [laws_eqIntS.l0] at H
        by_cases c4 : x5_1 < (l0.length : Int)
        · rw [if_pos c4] at H
          have c4b0 : decide (x5_1 < (l0.length : Int)) = true := decide_eq_true c4
          clear c4
          by_cases c5 : 0 ≤ x5_1
          · rw [if_pos c5] at H
            have c5b0 : decide (0 ≤ x5_1) = true := decide_eq_true c5
            clear c5
            by_cases c6 : x5_1 < (l1.length : Int)
            · rw [if_pos c6] at H
              have c6b0 : decide (x5_1 < (l1.length : Int)) = true := decide_eq_true c6
              clear c6
              by_cases c7 : (rd l0 x5_1) = (rd l1 x5_1)
              · rw [if_pos c7] at H
                have c7b0 : ((rd l0 x5_1) == (rd l1 x5_1)) = true := beq_iff_eq.mpr c7
                have c7b1 : ((rd l0 x5_1) != (rd l1 x5_1)) = false := bne_eq_false_iff_eq.mpr c7
                clear c7
                have H' := Aside0.mk H
                clear H
                have p101 : 0 ≤ (x5_1 : Int) := of_decide_eq_true (by first | (with_reducible assumption) | assumption)
                have q101 : x5_1 < (l0.length : Int) := of_decide_eq_true (by first | (with_reducible assumption) | assumption)
                obtain ⟨ad101, e101, hx101_0⟩ := Kd.at_int HR0.out x5_1 p101 q101
                cases e101
                replace p101 := eq_true p101
                replace q101 := eq_true q101
                have p102 : 0 ≤ (x5_1 : Int) := of_decide_eq_true (by first | (with_reducible assumption) | assumption)
                have q102 : x5_1 < (l1.length : Int) := of_decide_eq_true (by first | (with_reducible assumption) | assumption)
                obtain ⟨ad102, e102, hx102_0⟩ := Kd.at_int HR1.out x5_1 p102 q102
                cases e102
                replace p102 := eq_true p102
                replace q102 := eq_true q102
                go_wp2
                repeat (go_quiet (fail); try go_wp2)
                go_roundg k1
                case measure => have := HK1.out; omega
                case rel => exact ⟨(wrap64 (x5_1 + 1)), (by first | rfl | (simp; done) | (simp [*]; done)), H', ⟨by have := HK1.out; omega⟩, by repeat (first | exact Drawn0.refl _ | apply Drawn0.step)⟩
              · rw [if_neg c7] at H
                have c7b0 : ((rd l0 x5_1) == (rd l1 x5_1)) = false := beq_eq_false_iff_ne.mpr c7
                have c7b1 : ((rd l0 x5_1) != (rd l1 x5_1)) = true := bne_iff_ne.mpr c7
                obtain rfl := Option.some.inj H
                have p101 : 0 ≤ (x5_1 : Int) := of_decide_eq_true (by first | (with_reducible assumption) | assumption)
                have q101 : x5_1 < (l0.length : Int) := of_decide_eq_true (by first | (with_reducible assumption) | assumption)
                obtain ⟨ad101, e101, hx101_0⟩ := Kd.at_int HR0.out x5_1 p101 q101
                cases e101
                replace p101 := eq_true p101
                replace q101 := eq_true q101
                have p102 : 0 ≤ (x5_1 : Int) := of_decide_eq_true (by first | (with_reducible assumption) | assumption)
                have q102 : x5_1 < (l1.length : Int) := of_decide_eq_true (by first | (with_reducible assumption) | assumption)
                obtain ⟨ad102, e102, hx102_0⟩ := Kd.at_int HR1.out x5_1 p102 q102
                cases e102
                replace p102 := eq_true p102
                replace q102 := eq_true q102
                go_wp2
                repeat (go_quiet (fail); try go_wp2)
                go_ret
                exact ⟨by first | rfl | (simp; done) | (simp [*]; done), by repeat (first | exact Drawn0.refl _ | apply Drawn0.step)⟩
            · rw [if_neg c6] at H
              exact absurd H (by simp)
          · rw [if_neg c5] at H
            exact absurd H (by simp)
        · rw [if_neg c4] at H
          have c4b0 : decide (x5_1 < (l0.length : Int)) = false := decide_eq_false c4
          clear c4
          obtain rfl := Option.some.inj H
          go_wp2
          repeat (go_quiet (fail); try go_wp2)
          go_ret
          exact ⟨by first | rfl | (simp; done) | (simp [*]; done), by repeat (first | exact Drawn0.refl _ | apply Drawn0.step)⟩
  · rw [if_neg c3] at H
    have c3b0 : ((l0.length : Int) == (l1.length : Int)) = false := beq_eq_false_iff_ne.mpr c3
    have c3b1 : ((l0.length : Int) != (l1.length : Int)) = true := bne_iff_ne.mpr c3
    have c3b2 : (l0.length == l1.length) = false := by first | simpa using c3 | (simp at c3 ⊢; omega)
    obtain rfl := Option.some.inj H
    go_enter Try.func37, Try.ntmps37
    go_wp2
    repeat (go_quiet (fail); try go_wp2)
    go_ret
    exact ⟨by first | rfl | (simp; done) | (simp [*]; done), by repeat (first | exact Drawn0.refl _ | apply Drawn0.step)⟩

end Go.Proofs.Ytjkkkinfclaikaa.P

/- Marks that are laid into a result are found again: at whole numbers, clues and turns; lists are equal to themselves. -/
namespace Go.Proofs.Ytjkkkinfclaikaa.P
open Go.RowKit Go.Proofs.YtjkkkinfclaikaaW.PrintWords Go.Proofs.YtjkkkinfclaikaaW.PrintLast
set_option linter.unusedVariables false
set_option linter.unusedSimpArgs false

def marksI (n : Nat) : List Int := (List.range n).map fun i => (1 + (i : Nat) : Int)
theorem marksI_length (n : Nat) : (marksI n).length = n := by simp [marksI]
theorem marksI_succ (n : Nat) : marksI (n + 1) = marksI n ++ [(1 + (n : Nat) : Int)] := by simp [marksI, List.range_succ]
theorem rd_at (l : List Int) (i : Nat) (h : i < l.length) : rd l i = l[i] := by
  show l.getD (i : Int).toNat _ = _
  rw [Int.toNat_natCast, List.getD_eq_getElem?_getD, List.getElem?_eq_getElem h]; rfl
theorem set_mid {α : Type} (a : List α) (b : List α) (i : Nat) (v : α) (ha : a.length = i) (hb : 0 < b.length) : (a ++ b).set i v = (a ++ [v]) ++ b.drop 1 := by
  subst ha
  cases b with
  | nil => simp at hb
  | cons x b => simp
theorem markIntS_l (l : List Int) (hn : l.length ≤ 9223372036854775806) : ∀ (d i : Nat), i + d = l.length → ∀ k, d < k →
    laws_markIntS.l0 k (marksI i ++ l.drop i) (1 + (i : Nat) : Int) i = some ((1 + (l.length : Nat) : Int), marksI l.length) := by
  intro d
  induction d with
  | zero =>
    intro i hi k hk
    obtain ⟨k, rfl⟩ : ∃ m, k = m + 1 := ⟨k - 1, by omega⟩
    simp only [laws_markIntS.l0]
    have : i = l.length := by omega
    subst this
    rw [if_neg (by simp [marksI_length])]
    simp
  | succ d ih =>
    intro i hi k hk
    obtain ⟨k, rfl⟩ : ∃ m, k = m + 1 := ⟨k - 1, by omega⟩
    simp only [laws_markIntS.l0]
    rw [if_pos (by simp [marksI_length]; omega), if_pos (by omega), Int.toNat_natCast, set_mid _ _ i _ (marksI_length i) (by simp; omega), ← marksI_succ, List.drop_drop, wsm (n := 1 + (i : Int)) (by omega) (by omega) |> fun _ => wsm (n := 1 + (i : Int) + 1) (by omega) (by omega), wrap_succ (n := l.length) (by omega) (by omega)]
    have := ih (i + 1) (by omega) k (by omega)
    rw [show (1 + ((i + 1 : Nat) : Int)) = 1 + (i : Int) + 1 by omega] at this
    exact this
theorem markIntS_ev (l : List Int) (hn : l.length ≤ 9223372036854775806) : Ev (fun k => laws_markIntS.f k l 1) ((1 + (l.length : Nat) : Int), marksI l.length) :=
  ⟨l.length + 1, fun k hk => by
    have := markIntS_l l hn l.length 0 (by omega) k (by omega)
    simpa [laws_markIntS.f, marksI] using this⟩
theorem heldIntS_l (n : Nat) (hn : n ≤ 9223372036854775806) : ∀ (d i : Nat), i + d = n → ∀ k, d < k → laws_heldIntS.l0 k (marksI n) (1 + (i : Nat) : Int) i = some (1 + (n : Nat) : Int) := by
  intro d
  induction d with
  | zero =>
    intro i hi k hk
    obtain ⟨k, rfl⟩ : ∃ m, k = m + 1 := ⟨k - 1, by omega⟩
    have : i = n := by omega
    subst this
    simp only [laws_heldIntS.l0]
    rw [if_neg (by simp [marksI_length])]
  | succ d ih =>
    intro i hi k hk
    obtain ⟨k, rfl⟩ : ∃ m, k = m + 1 := ⟨k - 1, by omega⟩
    have hlt : i < (marksI n).length := by rw [marksI_length]; omega
    have hr : rd (marksI n) i = 1 + (i : Nat) := by rw [rd_at _ _ hlt]; simp [marksI]
    simp only [laws_heldIntS.l0]
    rw [if_pos (by omega), if_pos (by omega), hr, if_pos rfl, wsm (n := 1 + (i : Int) + 1) (by omega) (by omega), wrap_succ (n := n) (by omega) (by omega)]
    have := ih (i + 1) (by omega) k (by omega)
    rw [show (1 + ((i + 1 : Nat) : Int)) = 1 + (i : Int) + 1 by omega] at this
    exact this
theorem heldIntS_ev (n : Nat) (hn : n ≤ 9223372036854775806) : Ev (fun k => laws_heldIntS.f k (marksI n) 1) (1 + (n : Nat) : Int) :=
  ⟨n + 1, fun k hk => by
    have := heldIntS_l n hn n 0 (by omega) k (by omega)
    simpa [laws_heldIntS.f] using this⟩
theorem eqIntS_l (l : List Int) (hn : l.length ≤ 9223372036854775807) : ∀ (d i : Nat), i + d = l.length → ∀ k, d < k → laws_eqIntS.l0 k l l i = some true := by
  intro d
  induction d with
  | zero =>
    intro i hi k hk
    obtain ⟨k, rfl⟩ : ∃ m, k = m + 1 := ⟨k - 1, by omega⟩
    simp only [laws_eqIntS.l0]
    rw [if_neg (by omega)]
  | succ d ih =>
    intro i hi k hk
    obtain ⟨k, rfl⟩ : ∃ m, k = m + 1 := ⟨k - 1, by omega⟩
    simp only [laws_eqIntS.l0]
    rw [if_pos (by omega), if_pos (by omega), if_pos (by omega), if_pos trivial, wrap_succ (n := l.length) (by omega) hn]
    exact ih (i + 1) (by omega) k (by omega)
theorem eqIntS_self (l : List Int) (hn : l.length ≤ 9223372036854775807) : Ev (fun k => laws_eqIntS.f k l l) true :=
  ⟨l.length + 1, fun k hk => by
    have := eqIntS_l l hn l.length 0 (by omega) k (by omega)
    simpa [laws_eqIntS.f] using this⟩

def marksC (n : Nat) : List IClue := (List.range n).map fun i => ⟨1 + 3 * (i : Nat), 2 + 3 * (i : Nat), 3 + 3 * (i : Nat)⟩
theorem marksC_length (n : Nat) : (marksC n).length = n := by simp [marksC]
theorem marksC_succ (n : Nat) : marksC (n + 1) = marksC n ++ [⟨1 + 3 * (n : Nat), 2 + 3 * (n : Nat), 3 + 3 * (n : Nat)⟩] := by simp [marksC, List.range_succ]
theorem rd_set (l : List IClue) (i : Nat) (v : IClue) (h : i < l.length) : rd_T38 (l.set i v) i = v := by
  rw [rd_get _ _ (by simpa using h)]
  simp
theorem markClueS_l (l : List IClue) (hn : l.length ≤ 3000000000000000000) : ∀ (d i : Nat), i + d = l.length → ∀ k, d < k →
    laws_markClueS.l0 k (marksC i ++ l.drop i) (1 + 3 * (i : Nat) : Int) i = some ((1 + 3 * (l.length : Nat) : Int), marksC l.length) := by
  intro d
  induction d with
  | zero =>
    intro i hi k hk
    obtain ⟨k, rfl⟩ : ∃ m, k = m + 1 := ⟨k - 1, by omega⟩
    simp only [laws_markClueS.l0]
    have : i = l.length := by omega
    subst this
    rw [if_neg (by simp [marksC_length])]
    simp
  | succ d ih =>
    intro i hi k hk
    obtain ⟨k, rfl⟩ : ∃ m, k = m + 1 := ⟨k - 1, by omega⟩
    have hlen : i < (marksC i ++ l.drop i).length := by simp [marksC_length]; omega
    simp only [laws_markClueS.l0]
    rw [if_pos (by omega), if_pos (by omega)]
    simp only [Option.bind_some, Int.toNat_natCast]
    rw [rd_set _ _ _ hlen, rd_set _ _ _ (by simpa using hlen)]
    simp only [List.set_set]
    rw [wsm (n := 1 + 3 * (i : Int) + 1) (by omega) (by omega), wsm (n := 1 + 3 * (i : Int) + 1 + 1) (by omega) (by omega), wsm (n := 1 + 3 * (i : Int) + 1 + 1 + 1) (by omega) (by omega), wrap_succ (n := l.length) (by omega) (by omega)]
    rw [set_mid _ _ i _ (marksC_length i) (by simp; omega), List.drop_drop]
    have := ih (i + 1) (by omega) k (by omega)
    rw [marksC_succ, show (1 + 3 * ((i + 1 : Nat) : Int)) = 1 + 3 * (i : Int) + 1 + 1 + 1 by omega] at this
    rw [show (1 + 3 * (i : Int) + 1) = 2 + 3 * (i : Int) by omega, show (2 + 3 * (i : Int) + 1) = 3 + 3 * (i : Int) by omega]
    rw [show (1 + 3 * (i : Int) + 1 + 1 + 1) = 3 + 3 * (i : Int) + 1 by omega] at this
    exact this
theorem markPuzzle_ev (h : Int) (l : List IClue) (hn : l.length ≤ 3000000000000000000) : Ev (fun k => laws_markPuzzle.f k h l 1) ((1 + 3 * (l.length : Nat) : Int), marksC l.length) := by
  unfold laws_markPuzzle.f
  refine Ev.bind (a := ((1 + 3 * (l.length : Nat) : Int), marksC l.length)) ⟨l.length + 1, fun k hk => ?_⟩ (Ev.now _)
  have := markClueS_l l hn l.length 0 (by omega) k (by omega)
  simpa [laws_markClueS.f, marksC] using this
theorem heldClueS_l (n : Nat) (hn : n ≤ 3000000000000000000) : ∀ (d i : Nat), i + d = n → ∀ k, d < k → laws_heldClueS.l0 k (marksC n) (1 + 3 * (i : Nat) : Int) i = some (1 + 3 * (n : Nat) : Int) := by
  intro d
  induction d with
  | zero =>
    intro i hi k hk
    obtain ⟨k, rfl⟩ : ∃ m, k = m + 1 := ⟨k - 1, by omega⟩
    have : i = n := by omega
    subst this
    simp only [laws_heldClueS.l0]
    rw [if_neg (by simp [marksC_length])]
  | succ d ih =>
    intro i hi k hk
    obtain ⟨k, rfl⟩ : ∃ m, k = m + 1 := ⟨k - 1, by omega⟩
    have hlt : i < (marksC n).length := by rw [marksC_length]; omega
    have hr : rd_T38 (marksC n) i = ⟨1 + 3 * (i : Nat), 2 + 3 * (i : Nat), 3 + 3 * (i : Nat)⟩ := by rw [rd_get _ _ hlt]; simp [marksC]
    simp only [laws_heldClueS.l0]
    rw [hr]
    dsimp only
    rw [if_pos (by omega), if_pos (by omega), if_pos rfl, wsm (n := 1 + 3 * (i : Int) + 1) (by omega) (by omega), if_pos (by omega), wsm (n := 1 + 3 * (i : Int) + 1 + 1) (by omega) (by omega), if_pos (by omega), wsm (n := 1 + 3 * (i : Int) + 1 + 1 + 1) (by omega) (by omega), wrap_succ (n := n) (by omega) (by omega)]
    have := ih (i + 1) (by omega) k (by omega)
    rw [show (1 + 3 * ((i + 1 : Nat) : Int)) = 1 + 3 * (i : Int) + 1 + 1 + 1 by omega] at this
    exact this
theorem heldPuzzle_ev (h : Int) (n : Nat) (hn : n ≤ 3000000000000000000) : Ev (fun k => laws_heldPuzzle.f k h (marksC n) 1) (1 + 3 * (n : Nat) : Int) := by
  unfold laws_heldPuzzle.f
  refine Ev.bind (a := (1 + 3 * (n : Nat) : Int)) ⟨n + 1, fun k hk => ?_⟩ ?_
  · have := heldClueS_l n hn n 0 (by omega) k (by omega)
    simpa [laws_heldClueS.f] using this
  · rw [if_neg (by omega)]
    exact Ev.now _

end Go.Proofs.Ytjkkkinfclaikaa.P

-- written by wip/gen.py (this session's) with the kit's printer; Lean checks it.
namespace Go.Proofs.Ytjkkkinfclaikaa.P
open Go.RowKit Go.Proofs.YtjkkkinfclaikaaW.PrintWords Go.Proofs.YtjkkkinfclaikaaW.PrintLast Go.Proofs.YtjkkkinfclaikaaW.PrintMore
attribute [local go_sem] max2_int min2_int max_two min_two max_three min_three max_four min_four
set_option linter.unusedVariables false
set_option linter.unusedSimpArgs false

/-! ### spec_l1Same: function 72 -/
def spec_l1Same.l0 : Nat → List Int → List Int → Int → Int → Option (Bool)
  | 0, _, _, _, _ => none
  | k + 1, x0, x1, x12, x13 => if x13 < x12 then (if 0 ≤ x13 then (if x13 < (x0.length : Int) then (if x13 < (x1.length : Int) then (if (rd x0 x13) = (rd x1 x13) then (spec_l1Same.l0 k x0 x1 x12 (wrap64 (x13 + 1))) else (some false)) else (none)) else (none)) else (none)) else (some true)
def spec_l1Same.f (k : Nat) (l0 : List Int) (l1 : List Int) : Option (Bool) := if (l0.length : Int) = (l1.length : Int) then (spec_l1Same.l0 k l0 l1 (l0.length : Int) 0) else (some false)
theorem spec_l1Same.mono_l : ∀ k, (∀ y0 y1 y2 y3, LeO (spec_l1Same.l0 k y0 y1 y2 y3) (spec_l1Same.l0 (k + 1) y0 y1 y2 y3))
  | 0 => fun _ _ _ _ r h => by simp [spec_l1Same.l0] at h
  | k + 1 => by
    have ih0 := spec_l1Same.mono_l k
    · intro y0 y1 y2 y3
      unfold spec_l1Same.l0
      repeat' first
      | (with_reducible exact ih0 _ _ _ _)
      | (with_reducible exact LeO.refl _)
      | (with_reducible exact LeO.none _)
      | (with_reducible refine LeO.ite ?_ ?_)
      | (with_reducible refine LeO.bind ?_ (fun _ => ?_))
      | exact ih0 _ _ _ _
      | exact LeO.none _
      | refine LeO.ite ?_ ?_
      | refine LeO.bind ?_ (fun _ => ?_)
theorem spec_l1Same.mono : ∀ a0 a1 k, LeO (spec_l1Same.f k a0 a1) (spec_l1Same.f (k + 1) a0 a1) := by
  intro a0 a1 k
  have ih0 := spec_l1Same.mono_l k
  unfold spec_l1Same.f
  repeat' first
      | (with_reducible exact ih0 _ _ _ _)
      | (with_reducible exact LeO.refl _)
      | (with_reducible exact LeO.none _)
      | (with_reducible refine LeO.ite ?_ ?_)
      | (with_reducible refine LeO.bind ?_ (fun _ => ?_))
      | exact ih0 _ _ _ _
      | exact LeO.none _
      | refine LeO.ite ?_ ?_
      | refine LeO.bind ?_ (fun _ => ?_)
set_option maxHeartbeats 8000000 in
set_option maxRecDepth 100000 in
theorem spec_l1Same.calls (k : Nat) (A0 : Option Addr) (c0 : Nat) (l0 : List Int) (A1 : Option Addr) (c1 : Nat) (l1 : List Int) (r : Bool) (w : World) (hr0 : Kd.C (Kd.int .i64) w A0 l0.length l0) (hc0 : l0.length ≤ c0) (hr1 : Kd.C (Kd.int .i64) w A1 l1.length l1) (hc1 : l1.length ≤ c1) (h : spec_l1Same.f k l0 l1 = some r) :
    Calls Try.prog 72 #[.slice A0 l0.length c0, .slice A1 l1.length c1] w fun e w' => e = .returned (.bool r) ∧ Drawn0 w w' := by
  have HR0 := Aside0.mk hr0
  have HC0 := Aside0.mk hc0
  clear hr0 hc0
  have HR1 := Aside0.mk hr1
  have HC1 := Aside0.mk hc1
  clear hr1 hc1
  have H : (if (l0.length : Int) = (l1.length : Int) then (spec_l1Same.l0 k l0 l1 (l0.length : Int) 0) else (some false)) = some r := h
  clear h
  by_cases c3 : (l0.length : Int) = (l1.length : Int)
  · rw [if_pos c3] at H
    have c3b0 : ((l0.length : Int) == (l1.length : Int)) = true := beq_iff_eq.mpr c3
    have c3b1 : ((l0.length : Int) != (l1.length : Int)) = false := bne_eq_false_iff_eq.mpr c3
    have c3b2 : (l0.length == l1.length) = true := by first | simpa using c3 | (simp at c3 ⊢; omega)
    clear c3
    have H' := Aside0.mk H
    clear H
    go_enter Try.func72, Try.ntmps72
    go_wp2
    repeat (go_quiet (fail); try go_wp2)
    go_loopg [13] k (fun kq v13 w' => ∃ (x13_1 : Int), v13 = .int .i64 x13_1 ∧ Aside0 (spec_l1Same.l0 kq l0 l1 (l0.length : Int) x13_1 = some r) ∧ Aside0 (kq ≤ k) ∧ Drawn0 w w')
    case atStart => exact ⟨(0), (by first | rfl | (simp; done) | (simp [*]; done)), H', ⟨Nat.le_refl _⟩, by repeat (first | exact Drawn0.refl _ | apply Drawn0.step)⟩
    case round =>
      clear H'
      try clear c1
      try clear p2
      try clear c3
      try clear c3b0
      try clear c3b1
      try clear c3b2
      obtain ⟨x13_1, rfl, HA, HK1, ⟨m1, rfl⟩⟩ := hrel
      cases gk with
      | zero => exact absurd HA.out (by simp [spec_l1Same.l0])
      | succ k1 =>
        have H := HA.out
        clear HA
        simp only [spec_l1Same.l0] at H
        by_cases c4 : x13_1 < (l0.length : Int)
        · rw [if_pos c4] at H
          have c4b0 : decide (x13_1 < (l0.length : Int)) = true := decide_eq_true c4
          clear c4
          by_cases c5 : 0 ≤ x13_1
          · rw [if_pos c5] at H
            have c5b0 : decide (0 ≤ x13_1) = true := decide_eq_true c5
            clear c5
            by_cases c6 : x13_1 < (l0.length : Int)
            · rw [if_pos c6] at H
              have c6b0 : decide (x13_1 < (l0.length : Int)) = true := decide_eq_true c6
              clear c6
              by_cases c7 : x13_1 < (l1.length : Int)
              · rw [if_pos c7] at H
                have c7b0 : decide (x13_1 < (l1.length : Int)) = true := decide_eq_true c7
                clear c7
                by_cases c8 : (rd l0 x13_1) = (rd l1 x13_1)
                · rw [if_pos c8] at H
                  have c8b0 : ((rd l0 x13_1) == (rd l1 x13_1)) = true := beq_iff_eq.mpr c8
                  have c8b1 : ((rd l0 x13_1) != (rd l1 x13_1)) = false := bne_eq_false_iff_eq.mpr c8
                  clear c8
                  have H' := Aside0.mk H
                  clear H
                  have p101 : 0 ≤ (x13_1 : Int) := of_decide_eq_true (by first | (with_reducible assumption) | assumption)
                  have q101 : x13_1 < (l0.length : Int) := of_decide_eq_true (by first | (with_reducible assumption) | assumption)
                  obtain ⟨ad101, e101, hx101_0⟩ := Kd.at_int HR0.out x13_1 p101 q101
                  cases e101
                  replace p101 := eq_true p101
                  replace q101 := eq_true q101
                  have p102 : 0 ≤ (x13_1 : Int) := of_decide_eq_true (by first | (with_reducible assumption) | assumption)
                  have q102 : x13_1 < (l1.length : Int) := of_decide_eq_true (by first | (with_reducible assumption) | assumption)
                  obtain ⟨ad102, e102, hx102_0⟩ := Kd.at_int HR1.out x13_1 p102 q102
                  cases e102
                  replace p102 := eq_true p102
                  replace q102 := eq_true q102
                  go_wp2
                  repeat (go_quiet (fail); try go_wp2)
                  go_roundg k1
                  case measure => have := HK1.out; omega
                  case rel => exact ⟨(wrap64 (x13_1 + 1)), (by first | rfl | (simp; done) | (simp [*]; done)), H', ⟨by have := HK1.out; omega⟩, by repeat (first | exact Drawn0.refl _ | apply Drawn0.step)⟩
                · rw [if_neg c8] at H
                  have c8b0 : ((rd l0 x13_1) == (rd l1 x13_1)) = false := beq_eq_false_iff_ne.mpr c8
                  have c8b1 : ((rd l0 x13_1) != (rd l1 x13_1)) = true := bne_iff_ne.mpr c8
                  obtain rfl := Option.some.inj H
                  have p101 : 0 ≤ (x13_1 : Int) := of_decide_eq_true (by first | (with_reducible assumption) | assumption)
                  have q101 : x13_1 < (l0.length : Int) := of_decide_eq_true (by first | (with_reducible assumption) | assumption)
                  obtain ⟨ad101, e101, hx101_0⟩ := Kd.at_int HR0.out x13_1 p101 q101
                  cases e101
                  replace p101 := eq_true p101
                  replace q101 := eq_true q101
                  have p102 : 0 ≤ (x13_1 : Int) := of_decide_eq_true (by first | (with_reducible assumption) | assumption)
                  have q102 : x13_1 < (l1.length : Int) := of_decide_eq_true (by first | (with_reducible assumption) | assumption)
                  obtain ⟨ad102, e102, hx102_0⟩ := Kd.at_int HR1.out x13_1 p102 q102
                  cases e102
                  replace p102 := eq_true p102
                  replace q102 := eq_true q102
                  go_wp2
                  repeat (go_quiet (fail); try go_wp2)
                  go_ret
                  exact ⟨by first | rfl | (simp; done) | (simp [*]; done), by repeat (first | exact Drawn0.refl _ | apply Drawn0.step)⟩
              · rw [if_neg c7] at H
                exact absurd H (by simp)
            · rw [if_neg c6] at H
              exact absurd H (by simp)
          · rw [if_neg c5] at H
            exact absurd H (by simp)
        · rw [if_neg c4] at H
          have c4b0 : decide (x13_1 < (l0.length : Int)) = false := decide_eq_false c4
          clear c4
          obtain rfl := Option.some.inj H
          go_wp2
          repeat (go_quiet (fail); try go_wp2)
          go_ret
          exact ⟨by first | rfl | (simp; done) | (simp [*]; done), by repeat (first | exact Drawn0.refl _ | apply Drawn0.step)⟩
  · rw [if_neg c3] at H
    have c3b0 : ((l0.length : Int) == (l1.length : Int)) = false := beq_eq_false_iff_ne.mpr c3
    have c3b1 : ((l0.length : Int) != (l1.length : Int)) = true := bne_iff_ne.mpr c3
    have c3b2 : (l0.length == l1.length) = false := by first | simpa using c3 | (simp at c3 ⊢; omega)
    obtain rfl := Option.some.inj H
    go_enter Try.func72, Try.ntmps72
    go_wp2
    repeat (go_quiet (fail); try go_wp2)
    go_ret
    exact ⟨by first | rfl | (simp; done) | (simp [*]; done), by repeat (first | exact Drawn0.refl _ | apply Drawn0.step)⟩

end Go.Proofs.Ytjkkkinfclaikaa.P

/- Clues without one of them: the program's way and the reference's are one; fewer clues leave no fewer minutes. -/
namespace Go.Proofs.Ytjkkkinfclaikaa.P
open Go.RowKit Go.Proofs.YtjkkkinfclaikaaW.PrintWords Go.Proofs.YtjkkkinfclaikaaW.PrintLast
set_option linter.unusedVariables false
set_option linter.unusedSimpArgs false

theorem clone_eq (l : List IClue) (hn : l.length ≤ 1048576) : slices_Clone_impl_Clue.f l = some l := by
  unfold slices_Clone_impl_Clue.f
  simp only [Option.bind_some, List.length_nil, Nat.zero_add, List.nil_append]
  rw [if_pos (by omega)]
theorem without_eq (l : List IClue) (i : Nat) (hi : i < l.length) (hn : l.length ≤ 1048576) : impl_without.f l i = some (l.eraseIdx i) := by
  unfold impl_without.f
  rw [clone_eq l hn]
  simp only [Option.bind_some]
  rw [if_pos (by omega), if_pos (by omega), Int.toNat_natCast]
theorem pzWithout_eq (l : List IClue) (i : Nat) (hi : i < l.length) (hn : l.length ≤ 1048576) : spec_pzWithout.f l i = some (l.eraseIdx i) := by
  unfold spec_pzWithout.f
  have hw : wrap64 ((i : Int) + 1) = ((i + 1 : Nat) : Int) := wrap_succ (n := 2000000) (by omega) (by omega)
  simp only [Option.bind_some, List.length_nil, List.nil_append, hw, Int.toNat_natCast]
  rw [if_pos (by omega), if_pos (by omega), if_pos (by simp; omega), if_pos (by omega), if_pos (by omega), if_pos (by simp; omega), List.eraseIdx_eq_take_drop_succ]
theorem all_erase (f : IClue → Bool) (l : List IClue) (hl : l.all f = true) (i : Nat) : (l.eraseIdx i).all f = true := by
  rw [List.all_eq_true] at *
  intro x hx
  exact hl x (List.mem_of_mem_eraseIdx hx)
theorem solsFrom_sub (h : Int) (l l' : List IClue) (hs : ∀ m, l.all (fit' h m) = true → l'.all (fit' h m) = true) : ∀ d m, (solsFrom h l d m).Sublist (solsFrom h l' d m)
  | 0, _ => List.Sublist.refl _
  | d + 1, m => by
    have ih := solsFrom_sub h l l' hs d (m + 1)
    simp only [solsFrom]
    by_cases e : l.all (fit' h m) = true
    · rw [if_pos e, if_pos (hs m e)]
      exact ih.cons_cons m
    · rw [if_neg e]
      split
      · exact ih.cons m
      · exact ih
theorem sols_erase (h : Int) (l : List IClue) (i : Nat) : (sols h l).Sublist (sols h (l.eraseIdx i)) := solsFrom_sub h l _ (fun m hm => all_erase _ l hm i) _ _
theorem l1Same_l (a b : List Int) (hab : a.length = b.length) (hn : a.length ≤ 9223372036854775807) : ∀ (d i : Nat), i + d = a.length → ∀ k, d < k → spec_l1Same.l0 k a b a.length i = some (decide (a.drop i = b.drop i)) := by
  intro d
  induction d with
  | zero =>
    intro i hi k hk
    obtain ⟨k, rfl⟩ : ∃ m, k = m + 1 := ⟨k - 1, by omega⟩
    simp only [spec_l1Same.l0]
    rw [if_neg (by omega), List.drop_eq_nil_of_le (by omega), List.drop_eq_nil_of_le (by omega)]
    rfl
  | succ d ih =>
    intro i hi k hk
    obtain ⟨k, rfl⟩ : ∃ m, k = m + 1 := ⟨k - 1, by omega⟩
    have ra : rd a i = a[i] := by
      show a.getD (i : Int).toNat _ = _
      rw [Int.toNat_natCast, List.getD_eq_getElem?_getD, List.getElem?_eq_getElem (by omega)]; rfl
    have rb : rd b i = b[i] := by
      show b.getD (i : Int).toNat _ = _
      rw [Int.toNat_natCast, List.getD_eq_getElem?_getD, List.getElem?_eq_getElem (by omega)]; rfl
    simp only [spec_l1Same.l0]
    rw [if_pos (by omega), if_pos (by omega), if_pos (by omega), if_pos (by omega), ra, rb, wrap_succ (n := a.length) (by omega) hn]
    have ea : a.drop i = a[i] :: a.drop (i + 1) := List.drop_eq_getElem_cons (by omega)
    have eb : b.drop i = b[i] :: b.drop (i + 1) := List.drop_eq_getElem_cons (by omega)
    rw [ea, eb]
    by_cases e : a[i] = b[i]
    · rw [if_pos e, ih (i + 1) (by omega) k (by omega), e]
      simp only [List.cons.injEq, true_and]
    · rw [if_neg e]
      simp only [List.cons.injEq, e, false_and, decide_false]
theorem l1Same_ev (a b : List Int) (hn : a.length ≤ 9223372036854775807) : Ev (fun k => spec_l1Same.f k a b) (decide (a = b)) := by
  refine ⟨a.length + 1, fun k hk => ?_⟩
  simp only [spec_l1Same.f]
  by_cases e : a.length = b.length
  · rw [if_pos (by omega)]
    have := l1Same_l a b e hn a.length 0 (by omega) k (by omega)
    simpa using this
  · rw [if_neg (by omega), decide_eq_false (fun z => e (by rw [z]))]

end Go.Proofs.Ytjkkkinfclaikaa.P

/- The pure law of HarderPuzzle: for all puzzles of at most 1048576 clues the program's answer is the reference's, the argument stays, and the answer is new memory. -/
namespace Go.Proofs.Ytjkkkinfclaikaa.Pure
open Go.RowKit Go.Proofs.Ytjkkkinfclaikaa.P Go.Proofs.YtjkkkinfclaikaaW.PrintWords Go.Proofs.YtjkkkinfclaikaaW.PrintLast
set_option linter.unusedVariables false
set_option linter.unusedSimpArgs false

def hardF (h : Int) : Nat → List IClue → Nat → List IClue
  | 0, x, _ => x
  | d + 1, x, j => if (sols h (x.eraseIdx j)).length = 1 then hardF h d (x.eraseIdx j) j else hardF h d x (j + 1)
def harderB (h : Int) (l : List IClue) : Int × List IClue × Bool := if puzzleOk h l = true then (if (sols h l).length = 1 then (h, hardF h l.length l 0, true) else (0, [], false)) else (0, [], false)
theorem hardF_len (h : Int) : ∀ (d : Nat) (x : List IClue) (j : Nat), (hardF h d x j).length ≤ x.length
  | 0, x, _ => Nat.le_refl _
  | d + 1, x, j => by
    simp only [hardF]
    split
    · exact Nat.le_trans (hardF_len h d _ j) (List.length_eraseIdx_le ..)
    · exact hardF_len h d x (j + 1)
theorem HarderPuzzle_len (h : Int) (l : List IClue) (hn : l.length ≤ 1048576) : (harderB h l).2.1.length ≤ 1048576 := by
  unfold harderB
  split
  · split
    · exact Nat.le_trans (hardF_len ..) hn
    · simp
  · simp
theorem impl_hard_l {h : Int} (h1 : 2 ≤ h) (h2 : h ≤ 24) (l : List IClue) : ∀ (d : Nat) (x : List IClue) (j : Nat), j + d = x.length → x.length ≤ 6 → x.all (clueOk' h) = true → Ev (fun k => impl_HarderPuzzle.l0 k x j h l) (h, hardF h d x j, true) := by
  intro d
  induction d with
  | zero =>
    intro x j hj hn hl
    refine ev_succ ?_
    simp only [impl_HarderPuzzle.l0]
    exact ev_neg (by omega) (Ev.now _)
  | succ d ih =>
    intro x j hj hn hl
    have he : (x.eraseIdx j).length = x.length - 1 := by rw [List.length_eraseIdx, if_pos (by omega)]
    refine ev_succ ?_
    simp only [impl_HarderPuzzle.l0]
    refine ev_pos (by omega) ?_
    rw [without_eq x j (by omega) (by omega)]
    simp only [Option.bind_some]
    refine Ev.bind (solutions_ev h1 h2 _ (all_erase _ x hl j)) ?_
    rw [wrap_succ (n := 10) (by omega) (by omega)]
    simp only [hardF]
    by_cases e : (sols h (x.eraseIdx j)).length = 1
    · rw [if_pos e]
      exact ev_pos (by omega) (ih _ j (by omega) (by omega) (all_erase _ x hl j))
    · rw [if_neg e]
      exact ev_neg (by omega) (ih x (j + 1) (by omega) hn hl)
theorem spec_hard_l {h : Int} (h1 : 2 ≤ h) (h2 : h ≤ 24) (l : List IClue) : ∀ (d : Nat) (x : List IClue) (j : Nat), j + d = x.length → x.length ≤ 6 → x.all (clueOk' h) = true → Ev (fun k => spec_HarderPuzzle.l0 k x j h l) (h, hardF h d x j, true) := by
  intro d
  induction d with
  | zero =>
    intro x j hj hn hl
    refine ev_succ ?_
    simp only [spec_HarderPuzzle.l0]
    exact ev_neg (by omega) (Ev.now _)
  | succ d ih =>
    intro x j hj hn hl
    have he : (x.eraseIdx j).length = x.length - 1 := by rw [List.length_eraseIdx, if_pos (by omega)]
    refine ev_succ ?_
    simp only [spec_HarderPuzzle.l0]
    refine ev_pos (by omega) ?_
    rw [pzWithout_eq x j (by omega) (by omega)]
    simp only [Option.bind_some, spec_pzSolved.f]
    refine Ev.bind (Ev.bind (pzAll_ev h1 h2 _ (by omega) (all_erase _ x hl j)) (Ev.now _)) ?_
    rw [wrap_succ (n := 10) (by omega) (by omega)]
    simp only [hardF]
    by_cases e : (sols h (x.eraseIdx j)).length = 1
    · rw [if_pos e]
      exact ev_pos (by simp [e]) (ih _ j (by omega) (by omega) (all_erase _ x hl j))
    · rw [if_neg e]
      exact ev_neg (by simp; omega) (ih x (j + 1) (by omega) hn hl)
theorem spec_HarderPuzzle_ev (h : Int) (l : List IClue) (hn : l.length ≤ 1048576) : Ev (fun k => spec_HarderPuzzle.f k h l) (harderB h l) := by
  unfold spec_HarderPuzzle.f harderB
  refine Ev.bind (pzGood_ev h l (by omega)) ?_
  by_cases hp : puzzleOk h l = true
  · simp only [hp, if_true, spec_pzSolved.f]
    obtain ⟨h1, h2, h3, h4⟩ := puzzleOk_facts hp
    refine Ev.bind (Ev.bind (pzAll_ev h1 h2 _ (by omega) h4) (Ev.now _)) ?_
    refine ev_succ ?_
    simp only [spec_HarderPuzzle.j0]
    by_cases e : (sols h l).length = 1
    · rw [if_pos e]
      refine ev_neg (by simp [e]) ?_
      simp only [Option.bind_some, List.length_nil, Nat.zero_add, List.nil_append]
      exact ev_pos (by omega) (spec_hard_l h1 h2 l l.length l 0 (by omega) h3 h4)
    · rw [if_neg e]
      exact ev_pos (by simp; omega) (Ev.now _)
  · simp only [Bool.not_eq_true] at hp
    simp only [hp, Bool.false_eq_true, if_false]
    refine ev_succ ?_
    simp only [spec_HarderPuzzle.j0, if_true]
    exact Ev.now _
theorem impl_HarderPuzzle_ev (h : Int) (l : List IClue) (hn : l.length ≤ 1048576) : Ev (fun k => impl_HarderPuzzle.f k h l) (harderB h l) := by
  unfold impl_HarderPuzzle.f impl_IsSolved.f impl_CountSolutions.f harderB
  refine Ev.bind (Ev.bind (Ev.bind (implSolutions_ev h l) (Ev.now _)) (Ev.now _)) ?_
  unfold solsB
  by_cases hp : puzzleOk h l = true
  · simp only [hp, if_true]
    obtain ⟨h1, h2, h3, h4⟩ := puzzleOk_facts hp
    by_cases e : (sols h l).length = 1
    · rw [if_pos e]
      refine ev_pos (by simp [e]) ?_
      rw [clone_eq l hn]
      exact impl_hard_l h1 h2 l l.length l 0 (by omega) h3 h4
    · rw [if_neg e]
      exact ev_neg (by simp; omega) (Ev.now _)
  · simp only [Bool.not_eq_true] at hp
    simp only [hp, Bool.false_eq_true, if_false]
    exact ev_neg (by simp) (Ev.now _)
theorem FnExactHarderPuzzle : FnExactHarderPuzzle.Pure := by
  rintro ⟨h, l⟩ ⟨_, hl, hs, _⟩
  have hs : l.length * 24 ≤ 140737488351232 := hs
  refine Ev.rounds ?_
  simp only [laws_FnExactHarderPuzzle.f]
  refine sz_law hs (fun hlen => ?_)
  have hm := cv_length l hlen
  have hr := HarderPuzzle_len h (l.map cv) hm
  refine Ev.bind (toPuzzle_ev h l hs) ?_
  refine Ev.bind (spec_HarderPuzzle_ev h _ hm) ?_
  refine Ev.bind (toPuzzle_ev h l hs) ?_
  refine Ev.bind (impl_HarderPuzzle_ev h _ hm) ?_
  refine Ev.bind (eqPuzzle_self _ (harderB h (l.map cv)).2.1 (by omega)) ?_
  simp only [if_true, bne_self_eq_false]
  refine ev_succ ?_
  simp only [laws_FnExactHarderPuzzle.j0, Bool.false_eq_true, if_false]
  refine Ev.bind (toPuzzle_ev h l hs) ?_
  refine Ev.bind (eqPuzzle_self h _ (by omega)) ?_
  simp only [if_true]
  refine Ev.bind (markPuzzle_ev h _ (by omega)) ?_
  refine ev_neg (by first | omega | (dsimp only; omega)) ?_
  refine Ev.bind (eqPuzzle_self _ (harderB h (l.map cv)).2.1 (by omega)) ?_
  simp only [if_true, bne_self_eq_false]
  refine ev_succ ?_
  simp only [laws_FnExactHarderPuzzle.j1, Bool.false_eq_true, if_false]
  refine Ev.bind (markPuzzle_ev _ (harderB h (l.map cv)).2.1 (by omega)) ?_
  refine Ev.bind (heldPuzzle_ev _ (harderB h (l.map cv)).2.1.length (by omega)) ?_
  refine ev_neg (by first | omega | (dsimp only; omega)) ?_
  refine ev_pos rfl ?_
  refine Ev.bind (toPuzzle_ev h l hs) ?_
  refine Ev.bind (impl_HarderPuzzle_ev h _ hm) ?_
  refine Ev.bind (eqPuzzle_self _ (harderB h (l.map cv)).2.1 (by omega)) ?_
  simp only [if_true, bne_self_eq_false]
  refine ev_succ ?_
  simp only [laws_FnExactHarderPuzzle.j2, Bool.false_eq_true, if_false]
  refine Ev.bind (heldPuzzle_ev _ (harderB h (l.map cv)).2.1.length (by omega)) ?_
  refine ev_neg (by first | omega | (dsimp only; omega)) ?_
  refine ev_pos rfl ?_
  exact Ev.now _

end Go.Proofs.Ytjkkkinfclaikaa.Pure

/- What can be read as data at a type is a value of that type's kind: for parameters that are structs, slices of structs and slices of texts; no conditions of its own. -/
namespace Go.Proofs.Ytjkkkinfclaikaa.Opn
open Go.ChangeShapes Go.WideShapes Go.Proofs.YtjkkkinfclaikaaW.PrintWords
set_option linter.unusedVariables false
set_option linter.unusedSimpArgs false

def Opn {α : Type} (P : Program) (t : TypeId) (d : Kd α) (Q : α → Prop) : Prop :=
  d.sz = P.cellsOf t ∧ ∀ (H : Type) (enc : TypeId × Value → H) (W : World) (fuel : Nat) (cs : List Value) (x : DataW H × List MemPlace),
    DataW.trod enc P W 0 (fun _ => true) true fuel t cs = some x → (x.1.weights P t).all (· ≤ reachBytes) = true → ∃ y, d.K W y cs ∧ Q y

def OpnFs {α : Type} (P : Program) (fs : List Field) (o : Nat) (d : Kd α) (Q : α → Prop) : Prop :=
  ∀ (H : Type) (enc : TypeId × Value → H) (W : World) (fuel : Nat) (cs : List Value) (xs : List (DataW H × List MemPlace)),
    xs.length = fs.length → (∀ (i : Nat) (f : Field), fs[i]? = some f → DataW.trod enc P W 0 (fun _ => true) true fuel f.type ((cs.drop f.offset).take (P.cellsOf f.type)) = xs[i]?) →
    (DataW.weightsEach P (fs.map (·.type)) (xs.map (·.1))).all (· ≤ reachBytes) = true → cs.length = o + d.sz → ∃ y, d.K W y (cs.drop o) ∧ Q y

theorem opn_int {P : Program} {t : TypeId} {k : IntKind} (hu : P.underlying t = some (.int k)) (hc : P.cellsOf t = 1) : Opn P t (Kd.int k) (fun n => (Lit.int k n).wf = true) := by
  refine ⟨hc.symm, ?_⟩
  intro H enc W fuel cs x h _
  obtain ⟨n, rfl, _, hw⟩ := DataW.trod_int hu h
  exact ⟨n, rfl, hw⟩

theorem opn_bool {P : Program} {t : TypeId} (hu : P.underlying t = some .bool) (hc : P.cellsOf t = 1) : Opn P t Kd.bool (fun _ => True) := by
  refine ⟨hc.symm, ?_⟩
  intro H enc W fuel cs x h _
  obtain ⟨b, rfl, _⟩ := DataW.trod_bool hu h
  exact ⟨b, rfl, trivial⟩

theorem opn_string {P : Program} {t : TypeId} (hu : P.underlying t = some .string) (hc : P.cellsOf t = 1) : Opn P t Kd.string (fun s => s.size ≤ 140737488351232) := by
  refine ⟨hc.symm, ?_⟩
  intro H enc W fuel cs x h hw
  obtain ⟨s, rfl, rfl, _⟩ := DataW.trod_string hu h
  refine ⟨s, rfl, ?_⟩
  simp [DataW.weights, reachBytes] at hw
  exact of_decide_eq_true hw

theorem weightsAll_mem {H : Type} {P : Program} {e : TypeId} : ∀ {ds : List (DataW H)} {d : DataW H}, d ∈ ds → ∀ n ∈ d.weights P e, n ∈ DataW.weightsAll P e ds
  | d0 :: ds, d, hd, n, hn => by
    simp only [DataW.weightsAll, List.mem_append]
    rcases List.mem_cons.1 hd with rfl | h
    · exact .inl hn
    · exact .inr (weightsAll_mem h n hn)

theorem cells_get {w : World} {a : Addr} : ∀ (n : Nat) {cs : List Value}, w.cells? 0 a n = some cs → cs.length = n ∧ ∀ i u, cs[i]? = some u → w.cell? (a.add i) = some u := by
  intro n cs h
  unfold World.cells? at h
  rw [if_pos (Nat.zero_le _)] at h
  have hl := mapM_some_length h
  simp only [List.length_range] at hl
  refine ⟨hl, fun i u hu => ?_⟩
  have hi : i < n := by
    rcases Nat.lt_or_ge i n with h' | h'
    · exact h'
    · rw [List.getElem?_eq_none (by omega)] at hu; cases hu
  have := mapM_some_get h i i (List.getElem?_range hi)
  rw [this, hu]

theorem opn_slice {α : Type} {P : Program} {t e : TypeId} {d : Kd α} {Q : α → Prop} (hu : P.underlying t = some (.slice e)) (hc : P.cellsOf t = 1) (hd : Opn P e d Q) :
    Opn P t (Kd.slice e d) (fun xs => xs.length ≤ maxLen ∧ xs.length * P.bytesOf e ≤ 140737488351232 ∧ ∀ x ∈ xs, Q x) := by
  refine ⟨hc.symm, ?_⟩
  intro H enc W fuel cs x h hw
  rcases DataW.trod_slice hu h with ⟨rfl, rfl⟩ | ⟨a, len, cap, elems, rest, n, _, rfl, rfl, _, hl, hm, hlen, hel, _, _⟩
  · exact ⟨[], ⟨none, 0, rfl, Nat.le_refl _, ⟨rfl, by simp, fun h0 => absurd h0 (by simp)⟩⟩, by simp, by simp, by simp⟩
  · simp only [DataW.weights, hu, List.all_cons, Bool.and_eq_true, decide_eq_true_eq, List.length_map] at hw
    obtain ⟨hw1, hw2⟩ := hw
    have hall : ∀ i, i < len → ∃ (c : List Value) (y : α), (c.length = d.sz ∧ d.K W y c ∧ ∀ j u, c[j]? = some u → W.cell? (a.add (i * d.sz + j)) = some u) ∧ Q y := by
      intro i hi
      have h1 := hel i hi
      obtain ⟨z, hz⟩ : ∃ z, elems[i]? = some z := ⟨_, List.getElem?_eq_getElem (by omega)⟩
      rw [hz] at h1
      obtain ⟨c, hcs, ht⟩ := Option.bind_eq_some_iff.1 h1
      obtain ⟨hcl, hcg⟩ := cells_get _ hcs
      have hzw : (z.1.weights P e).all (· ≤ reachBytes) = true := by
        rw [List.all_eq_true]
        intro m hm'
        have := List.all_eq_true.1 hw2 m (List.mem_append.2 (.inl (weightsAll_mem (List.mem_map_of_mem (List.mem_of_getElem? hz)) m hm')))
        simpa using this
      obtain ⟨y, hk, hq⟩ := hd.2 H enc W n c z ht hzw
      refine ⟨c, y, ⟨by rw [hcl, hd.1], hk, fun j u hj => ?_⟩, hq⟩
      have := hcg j u hj
      rw [hd.1]
      rw [Addr.add_add] at this
      exact this
    obtain ⟨ys, hyl, hys⟩ : ∃ ys : List α, ys.length = len ∧ ∀ i, (hi : i < ys.length) → ∃ c : List Value, (c.length = d.sz ∧ d.K W ys[i] c ∧ ∀ j u, c[j]? = some u → W.cell? (a.add (i * d.sz + j)) = some u) ∧ Q ys[i] := by
      clear hel hw1 hw2 hlen hl h hm
      revert hall
      generalize len = L
      intro hall
      induction L with
      | zero => exact ⟨[], rfl, fun i hi => absurd hi (by simp)⟩
      | succ k ih =>
        obtain ⟨ys, hyl, hys⟩ := ih (fun i hi => hall i (by omega))
        obtain ⟨c, y, hy⟩ := hall k (by omega)
        refine ⟨ys ++ [y], by simp [hyl], fun i hi => ?_⟩
        by_cases hik : i < ys.length
        · rw [List.getElem_append_left hik]
          exact hys i hik
        · have : i = k := by simp at hi; omega
          subst this
          rw [List.getElem_append_right (by omega)]
          simp only [hyl, Nat.sub_self, List.getElem_cons_zero]
          exact ⟨c, hy⟩
    refine ⟨ys, ⟨some a, cap, by rw [hyl], by omega, ⟨rfl, by rw [hyl]; unfold maxLen at hm; omega, fun _ => ⟨a, rfl, fun j p hj => ?_⟩⟩⟩, by rw [hyl]; omega, ?_, ?_⟩
    · have hjl : j < ys.length := by
        rcases Nat.lt_or_ge j ys.length with h' | h'
        · exact h'
        · rw [List.getElem?_eq_none h'] at hj; cases hj
      obtain ⟨c, ⟨h1, h2, h3⟩, _⟩ := hys j hjl
      rw [List.getElem?_eq_getElem hjl] at hj
      cases hj
      exact ⟨c, h1, h2, h3⟩
    · have : len * P.bytesOf e ≤ reachBytes := Nat.le_trans (Nat.mul_le_mul_right _ (by omega)) hw1
      rw [hyl]
      exact this
    · intro y hy
      obtain ⟨i, hi, rfl⟩ := List.getElem_of_mem hy
      obtain ⟨_, _, hq⟩ := hys i hi
      exact hq

theorem opnFs_one {α : Type} {P : Program} {f : Field} {o : Nat} {d : Kd α} {Q : α → Prop} (ho : f.offset = o) (h : Opn P f.type d Q) : OpnFs P [f] o d Q := by
  intro H enc W fuel cs xs hl hx hw hc
  obtain ⟨x, rfl⟩ : ∃ x, xs = [x] := by
    match xs, hl with
    | [x], _ => exact ⟨x, rfl⟩
  have h1 := hx 0 f rfl
  simp only [List.getElem?_cons_zero] at h1
  rw [ho, List.take_of_length_le (by rw [List.length_drop, ← h.1]; omega)] at h1
  exact h.2 H enc W fuel _ x h1 (by simpa [DataW.weightsEach] using hw)

theorem opnFs_cons {α β : Type} {P : Program} {f : Field} {fs : List Field} {o : Nat} {a : Kd α} {b : Kd β} {Q1 : α → Prop} {Q2 : β → Prop} (ho : f.offset = o) (h1 : Opn P f.type a Q1) (h2 : OpnFs P fs (o + a.sz) b Q2) :
    OpnFs P (f :: fs) o (Kd.pair a b) (fun y => Q1 y.1 ∧ Q2 y.2) := by
  intro H enc W fuel cs xs hl hx hw hc
  obtain ⟨x, xs, rfl⟩ : ∃ x r, xs = x :: r := by
    cases xs with
    | nil => simp at hl
    | cons x r => exact ⟨x, r, rfl⟩
  have hc' : cs.length = o + (a.sz + b.sz) := hc
  have e1 := hx 0 f rfl
  simp only [List.getElem?_cons_zero] at e1
  simp only [List.map_cons, DataW.weightsEach, List.all_append, Bool.and_eq_true] at hw
  rw [ho, ← h1.1] at e1
  obtain ⟨y1, k1, q1⟩ := h1.2 H enc W fuel _ x e1 hw.1
  obtain ⟨y2, k2, q2⟩ := h2 H enc W fuel cs xs (by simpa using hl) (fun i g hg => by
    have := hx (i + 1) g (by simpa using hg)
    simpa using this) hw.2 (by omega)
  refine ⟨(y1, y2), ⟨(cs.drop o).take a.sz, cs.drop (o + a.sz), ?_, k1, k2⟩, q1, q2⟩
  rw [← List.drop_drop, List.take_append_drop]

theorem opn_struct {α : Type} {P : Program} {t : TypeId} {fs : Array Field} {d : Kd α} {Q : α → Prop} (hu : P.underlying t = some (.struct fs)) (hc : d.sz = P.cellsOf t) (h : OpnFs P fs.toList 0 d Q) : Opn P t d Q := by
  refine ⟨hc, ?_⟩
  intro H enc W fuel cs x hx hw
  obtain ⟨xs, n, _, rfl, hl, hlen, hf⟩ := DataW.trod_struct hu hx
  have := h H enc W n cs xs (by simpa using hlen) (fun i f hi => hf i f (by simpa using hi)) (by simpa [DataW.weights, hu] using hw) (by omega)
  simpa using this

theorem opn_iso {α β : Type} {P : Program} {t : TypeId} {d : Kd α} {Q : α → Prop} {f : β → α} (g : α → β) (hg : ∀ y, f (g y) = y) (h : Opn P t d Q) : Opn P t (Kd.iso d f) (fun x => Q (f x)) := by
  refine ⟨h.1, ?_⟩
  intro H enc W fuel cs x hx hw
  obtain ⟨y, hk, hq⟩ := h.2 H enc W fuel cs x hx hw
  exact ⟨g y, by show d.K W (f (g y)) cs; rw [hg]; exact hk, by show Q (f (g y)); rw [hg]; exact hq⟩

theorem opn_use {α : Type} {P : Program} {t : TypeId} {d : Kd α} {Q : α → Prop} (h : Opn P t d Q) {H : Type} {enc : TypeId × Value → H} {W : World} {v : Value} {D : DataW H} {ps : List MemPlace} {ts : List TypeId} {ds : List (DataW H)} {j : Nat}
    (hsz : (DataW.weightsEach P ts ds).all (· ≤ reachBytes) = true) (ht : ts[j]? = some t) (hd : ds[j]? = some D) (hx : DataW.Trod enc P W 0 (fun _ => true) true t v D ps) : ∃ y, d.K W y v.cells.toList ∧ Q y := by
  obtain ⟨fuel, hf⟩ := hx
  refine h.2 H enc W fuel _ (D, ps) hf ?_
  rw [List.all_eq_true]
  intro n hn
  exact List.all_eq_true.1 hsz n (DataW.weights_mem_each ht hd n hn)

theorem trod_places {P : Program} {H : Type} {enc : TypeId × Value → H} {W : World} {t : TypeId} {v : Value} {D : DataW H} {ps : List MemPlace} (h : DataW.Trod enc P W 0 (fun _ => true) true t v D ps) : ∀ x ∈ ps, x.block < W.heap.size := by
  obtain ⟨m, hm⟩ := h
  exact DataW.trod_lt m _ _ _ hm

end Go.Proofs.Ytjkkkinfclaikaa.Opn
