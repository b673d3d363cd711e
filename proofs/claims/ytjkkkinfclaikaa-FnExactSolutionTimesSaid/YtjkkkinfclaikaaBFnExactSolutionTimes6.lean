/- Part 6 of 6 of the texts behind the law FnExactSolutionTimes: what the program's functions compute, and the plain lemmas. -/
import Derived.Test.YtjkkkinfclaikaaBFnExactSolutionTimes1
import Derived.Test.YtjkkkinfclaikaaBFnExactSolutionTimes5
import Derived.Test.YtjkkkinfclaikaaBFnExactSolutionTimes2
import Derived.Test.YtjkkkinfclaikaaBFnExactSolutionTimes3
import Derived.Test.YtjkkkinfclaikaaBFnExactSolutionTimes4
import Derived.SizedLaws
import Derived.DataReads
import Derived.DataElems
import Derived.ChangeOld
import Derived.ChangeSlices
import Derived.ChangeArms
import Derived.Test.YtjkkkinfclaikaaZ1
-- written by wip/gen.py (this session's) with the kit's printer; Lean checks it.
namespace Go.Proofs.Ytjkkkinfclaikaa.P
open Go.RowKit Go.Proofs.YtjkkkinfclaikaaW.PrintWords Go.Proofs.YtjkkkinfclaikaaW.PrintLast Go.Proofs.YtjkkkinfclaikaaW.PrintMore
attribute [local go_sem] max2_int min2_int max_two min_two max_three min_three max_four min_four
set_option linter.unusedVariables false
set_option linter.unusedSimpArgs false

/-! ### laws_markIntS: function 38 -/
def laws_markIntS.l0 : Nat → List Int → Int → Int → Option (Int × List Int)
  | 0, _, _, _ => none
  | k + 1, x0, x1, x5 => if x5 < (x0.length : Int) then (if 0 ≤ x5 then (laws_markIntS.l0 k (x0.set (x5 : Int).toNat x1) (wrap64 (x1 + 1)) (wrap64 (x5 + 1))) else (none)) else (some (x1, x0))
def laws_markIntS.f (k : Nat) (l0 : List Int) (a1 : Int) : Option (Int × List Int) := laws_markIntS.l0 k l0 a1 0
theorem laws_markIntS.mono_l : ∀ k, (∀ y0 y1 y2, LeO (laws_markIntS.l0 k y0 y1 y2) (laws_markIntS.l0 (k + 1) y0 y1 y2))
  | 0 => fun _ _ _ r h => by simp [laws_markIntS.l0] at h
  | k + 1 => by
    have ih0 := laws_markIntS.mono_l k
    · intro y0 y1 y2
      unfold laws_markIntS.l0
      repeat' first
      | (with_reducible exact ih0 _ _ _)
      | (with_reducible exact LeO.refl _)
      | (with_reducible exact LeO.none _)
      | (with_reducible refine LeO.ite ?_ ?_)
      | (with_reducible refine LeO.bind ?_ (fun _ => ?_))
      | exact ih0 _ _ _
      | exact LeO.none _
      | refine LeO.ite ?_ ?_
      | refine LeO.bind ?_ (fun _ => ?_)
theorem laws_markIntS.mono : ∀ a0 a1 k, LeO (laws_markIntS.f k a0 a1) (laws_markIntS.f (k + 1) a0 a1) := by
  intro a0 a1 k
  have ih0 := laws_markIntS.mono_l k
  unfold laws_markIntS.f
  repeat' first
      | (with_reducible exact ih0 _ _ _)
      | (with_reducible exact LeO.refl _)
      | (with_reducible exact LeO.none _)
      | (with_reducible refine LeO.ite ?_ ?_)
      | (with_reducible refine LeO.bind ?_ (fun _ => ?_))
      | exact ih0 _ _ _
      | exact LeO.none _
      | refine LeO.ite ?_ ?_
      | refine LeO.bind ?_ (fun _ => ?_)
set_option maxHeartbeats 8000000 in
set_option maxRecDepth 100000 in
theorem laws_markIntS.calls (k : Nat) (P0_ : Nat → Prop) (u9000_ : Value) (l0 : List Int) (a1 : Int) (r1 : Int) (r2 : List Int) (w0 w : World) (hB : Below w0.heap.size w0 w) (ho0 : Kd.R (Kd.int .i64) 3 w w0.heap.size P0_ u9000_ l0) (h : laws_markIntS.f k l0 a1 = some (r1, r2)) :
    Calls Try.prog 38 #[u9000_, .int .i64 a1] w fun e w' => e = .returned (.int .i64 r1) ∧ Kd.R (Kd.int .i64) 3 w' w0.heap.size (fun k_ => (P0_ k_ ∨ w.heap.size ≤ k_)) u9000_ r2 ∧ Below w0.heap.size w0 w' ∧ Kept w w' (fun k_ => P0_ k_) := by
  have HO0 := Aside0.mk (show Kd.R (Kd.int .i64) 3 w w0.heap.size (fun k_ => (P0_ k_ ∨ w.heap.size ≤ k_)) u9000_ l0 from Kd.R_mono ho0 (fun k_ hk => (.inl hk)))
  have HK := Aside0.mk (Kept.refl w (fun k_ => P0_ k_))
  have HW0 := Aside0.mk hB.size
  have HB := Aside0.mk hB
  clear hB
  have H : (laws_markIntS.l0 k l0 a1 0) = some (r1, r2) := h
  clear h
  have H' := Aside0.mk H
  clear H
  go_enter Try.func38, Try.ntmps38
  go_wp2
  go_loopg [1, 5] k (fun kq v1 v5 w' => ∃ (x0_1 : List Int) (x1_1 : Int) (x5_1 : Int), v1 = .int .i64 x1_1 ∧ v5 = .int .i64 x5_1 ∧ Aside0 (laws_markIntS.l0 kq x0_1 x1_1 x5_1 = some (r1, r2)) ∧ Aside0 (kq ≤ k) ∧ Aside0 (Kd.R (Kd.int .i64) 3 w' w0.heap.size (fun k_ => (P0_ k_ ∨ w.heap.size ≤ k_)) u9000_ x0_1) ∧ Aside0 (Kept w w' (fun k_ => P0_ k_)) ∧ Aside0 (Below w0.heap.size w0 w'))
  case atStart => exact ⟨(l0), (a1), (0), (by first | rfl | (simp; done) | (simp [*]; done)), (by first | rfl | (simp; done) | (simp [*]; done)), H', ⟨Nat.le_refl _⟩, ⟨by (with_reducible repeat (first | apply Kd.R_alloc | apply Kd.R_drewN | apply Kd.R_drew)); exact HO0.out⟩, ⟨by repeat (first | (with_reducible first | exact HK.out | apply Kept.alloc | apply Kept.drewN | apply Kept.drew) | exact HK.out)⟩, ⟨by repeat (first | (with_reducible first | exact HB.out | apply below_alloc | apply pw_below_drewN | apply below_drew1) | exact HB.out)⟩⟩
  case round =>
    clear H'
    try clear p2
    obtain ⟨x0_1, x1_1, x5_1, rfl, rfl, HA, HK1, HO_0, HK, HB⟩ := hrel
    cases gk with
    | zero => exact absurd HA.out (by simp [laws_markIntS.l0])
    | succ k1 =>
      have H := HA.out
      clear HA
      simp only [laws_markIntS.l0] at H
      by_cases c3 : x5_1 < (x0_1.length : Int)
      · rw [if_pos c3] at H
        have c3b0 : decide (x5_1 < (x0_1.length : Int)) = true := decide_eq_true c3
        clear c3
        by_cases c4 : 0 ≤ x5_1
        · rw [if_pos c4] at H
          have c4b0 : decide (0 ≤ x5_1) = true := decide_eq_true c4
          clear c4
          obtain ⟨y101, hy101⟩ : ∃ y_ : List Int, y_ = (x0_1.set (x5_1 : Int).toNat x1_1) := ⟨_, rfl⟩
          replace H : (laws_markIntS.l0 k1 y101 (wrap64 (x1_1 + 1)) (wrap64 (x5_1 + 1))) = some (r1, r2) := by first | (rw [hy101]; with_reducible exact H) | (have H2_ := (Option.bind_some _ _).symm.trans H; rw [hy101]; with_reducible exact H2_) | (have H2_ := (Option.bind_some _ _).symm.trans H; with_reducible exact H2_) | with_reducible exact H | (rw [hy101]; exact H) | exact H
          have Ny101 := Aside0.mk hy101
          clear hy101
          have H' := Aside0.mk H
          clear H
          obtain ⟨Ao6, co6, eo6⟩ := Kd.R_slice HO_0.out
          subst eo6
          have p5 : 0 ≤ (x5_1 : Int) := of_decide_eq_true (by first | (with_reducible assumption) | assumption)
          have q5 : (x5_1 : Int) < ((x0_1.length : Int) : Int) := of_decide_eq_true (by first | (with_reducible assumption) | assumption)
          obtain ⟨go5, co5, eo5, gb5, gl5, cl5, HG5⟩ := Kd.R_form HO_0.out (by omega)
          (first | cases eo5 | (injection eo5 with ea_ en_ ec_; (first | subst ea_ | (injection ea_ with ea_; subst ea_)); subst ec_; clear en_))
          have GB5 := Aside0.mk gb5
          have GG5 := Aside0.mk HG5
          clear gb5 gl5 HG5
          have HMgo5 := Aside0.mk (show (P0_ go5 ∨ w.heap.size ≤ go5) from (HO_0.out.1 _ rfl))
          obtain ⟨hx5_0, hf5_0⟩ := Kd.R_celln 0 HO_0.out (x5_1 : Int) p5 q5
          replace p5 := eq_true p5
          replace q5 := eq_true q5
          have HP7 := Kd.R_putg HO_0.out (x5_1 : Int) x1_1
          go_wp2_with (first | ((with_reducible refine gate_store (t := 3) (p := 15) rfl ?_); refine store_event (t := 3) (p := 15) (v := ?vo_w8) (w1 := (wr.setCell ⟨go5, (x5_1 : Int).toNat, none⟩ (.int .i64 x1_1))) ?hg ?ho ?hn ?hr ?_; (case ho => rfl); (case hg => rfl); (case hn => rfl); (case hr => first | (go_simp; done) | (go_simp; rfl)); intro w8 hw; have hg : wr.grownBy w8 (some go5) := (by rw [hw]; exact HP7.2); have hp_ : Kd.R (Kd.int .i64) 3 w8 w0.heap.size (fun k_ => (P0_ k_ ∨ w.heap.size ≤ k_)) (.slice (some ⟨go5, 0, none⟩) x0_1.length co6) y101 := (by rw [hw, Ny101.out]; exact HP7.1); clear HP7; have n0_ := Aside0.mk (hp_); have n1_ := Aside0.mk ((by rw [hw]; exact below_set (HB.out) GB5.out : Below w0.heap.size w0 w8)); have n2_ := Aside0.mk (Kept.of_grown (S := (fun k_ => P0_ k_)) hg (by repeat (first | (with_reducible first | exact HK.out | apply Kept.alloc | apply Kept.drewN | apply Kept.drew) | exact HK.out)) (fun k_ e_ => (HO_0.out.1 k_ e_))); clear HO_0; clear HB; clear HK; have HO_0 := n0_; have HB := n1_; have HK := n2_; clear n0_ n1_ n2_; clear hg hw hp_))
          go_roundg k1
          case measure => have := HK1.out; omega
          case rel => exact ⟨(y101), (wrap64 (x1_1 + 1)), (wrap64 (x5_1 + 1)), (by first | rfl | (simp; done) | (simp [*]; done)), (by first | rfl | (simp; done) | (simp [*]; done)), H', ⟨by have := HK1.out; omega⟩, ⟨by (with_reducible repeat (first | apply Kd.R_alloc | apply Kd.R_drewN | apply Kd.R_drew)); exact HO_0.out⟩, ⟨by repeat (first | (with_reducible first | exact HK.out | apply Kept.alloc | apply Kept.drewN | apply Kept.drew) | exact HK.out)⟩, ⟨by repeat (first | (with_reducible first | exact HB.out | apply below_alloc | apply pw_below_drewN | apply below_drew1) | exact HB.out)⟩⟩
        · rw [if_neg c4] at H
          exact absurd H (by simp)
      · rw [if_neg c3] at H
        have c3b0 : decide (x5_1 < (x0_1.length : Int)) = false := decide_eq_false c3
        clear c3
        simp only [Option.some.injEq, Prod.mk.injEq] at H
        obtain ⟨rfl, rfl⟩ := H
        obtain ⟨Ao9, co9, eo9⟩ := Kd.R_slice HO_0.out
        subst eo9
        go_wp2
        go_ret
        exact ⟨by first | rfl | (simp [errW_none, errW_some] <;> rfl) | (simp [*, errW_none, errW_some] <;> rfl), by (with_reducible repeat (first | apply Kd.R_alloc | apply Kd.R_drewN | apply Kd.R_drew)); exact HO_0.out, by repeat (first | (with_reducible first | exact HB.out | apply below_alloc | apply pw_below_drewN | apply below_drew1) | exact HB.out), by repeat (first | (with_reducible first | exact HK.out | apply Kept.alloc | apply Kept.drewN | apply Kept.drew) | exact HK.out)⟩

end Go.Proofs.Ytjkkkinfclaikaa.P

-- written by wip/gen.py (this session's) with the kit's printer; Lean checks it.
namespace Go.Proofs.Ytjkkkinfclaikaa.P
open Go.RowKit Go.Proofs.YtjkkkinfclaikaaW.PrintWords Go.Proofs.YtjkkkinfclaikaaW.PrintLast Go.Proofs.YtjkkkinfclaikaaW.PrintMore
attribute [local go_sem] max2_int min2_int max_two min_two max_three min_three max_four min_four
set_option linter.unusedVariables false
set_option linter.unusedSimpArgs false

/-! ### laws_heldIntS: function 39 -/
def laws_heldIntS.l0 : Nat → List Int → Int → Int → Option (Int)
  | 0, _, _, _ => none
  | k + 1, x0, x1, x5 => if x5 < (x0.length : Int) then (if 0 ≤ x5 then (if (rd x0 x5) = x1 then (laws_heldIntS.l0 k x0 (wrap64 (x1 + 1)) (wrap64 (x5 + 1))) else (some (-1))) else (none)) else (some x1)
def laws_heldIntS.f (k : Nat) (l0 : List Int) (a1 : Int) : Option (Int) := laws_heldIntS.l0 k l0 a1 0
theorem laws_heldIntS.mono_l : ∀ k, (∀ y0 y1 y2, LeO (laws_heldIntS.l0 k y0 y1 y2) (laws_heldIntS.l0 (k + 1) y0 y1 y2))
  | 0 => fun _ _ _ r h => by simp [laws_heldIntS.l0] at h
  | k + 1 => by
    have ih0 := laws_heldIntS.mono_l k
    · intro y0 y1 y2
      unfold laws_heldIntS.l0
      repeat' first
      | (with_reducible exact ih0 _ _ _)
      | (with_reducible exact LeO.refl _)
      | (with_reducible exact LeO.none _)
      | (with_reducible refine LeO.ite ?_ ?_)
      | (with_reducible refine LeO.bind ?_ (fun _ => ?_))
      | exact ih0 _ _ _
      | exact LeO.none _
      | refine LeO.ite ?_ ?_
      | refine LeO.bind ?_ (fun _ => ?_)
theorem laws_heldIntS.mono : ∀ a0 a1 k, LeO (laws_heldIntS.f k a0 a1) (laws_heldIntS.f (k + 1) a0 a1) := by
  intro a0 a1 k
  have ih0 := laws_heldIntS.mono_l k
  unfold laws_heldIntS.f
  repeat' first
      | (with_reducible exact ih0 _ _ _)
      | (with_reducible exact LeO.refl _)
      | (with_reducible exact LeO.none _)
      | (with_reducible refine LeO.ite ?_ ?_)
      | (with_reducible refine LeO.bind ?_ (fun _ => ?_))
      | exact ih0 _ _ _
      | exact LeO.none _
      | refine LeO.ite ?_ ?_
      | refine LeO.bind ?_ (fun _ => ?_)
set_option maxHeartbeats 8000000 in
set_option maxRecDepth 100000 in
theorem laws_heldIntS.calls (k : Nat) (A0 : Option Addr) (c0 : Nat) (l0 : List Int) (a1 : Int) (r : Int) (w : World) (hr0 : Kd.C (Kd.int .i64) w A0 l0.length l0) (hc0 : l0.length ≤ c0) (h : laws_heldIntS.f k l0 a1 = some r) :
    Calls Try.prog 39 #[.slice A0 l0.length c0, .int .i64 a1] w fun e w' => e = .returned (.int .i64 r) ∧ Drawn0 w w' := by
  have HR0 := Aside0.mk hr0
  have HC0 := Aside0.mk hc0
  clear hr0 hc0
  have H : (laws_heldIntS.l0 k l0 a1 0) = some r := h
  clear h
  have H' := Aside0.mk H
  clear H
  go_enter Try.func39, Try.ntmps39
  go_wp2
  go_loopg [1, 5] k (fun kq v1 v5 w' => ∃ (x1_1 : Int) (x5_1 : Int), v1 = .int .i64 x1_1 ∧ v5 = .int .i64 x5_1 ∧ Aside0 (laws_heldIntS.l0 kq l0 x1_1 x5_1 = some r) ∧ Aside0 (kq ≤ k) ∧ Drawn0 w w')
  case atStart => exact ⟨(a1), (0), (by first | rfl | (simp; done) | (simp [*]; done)), (by first | rfl | (simp; done) | (simp [*]; done)), H', ⟨Nat.le_refl _⟩, by repeat (first | exact Drawn0.refl _ | apply Drawn0.step)⟩
  case round =>
    clear H'
    try clear p2
    obtain ⟨x1_1, x5_1, rfl, rfl, HA, HK1, ⟨m1, rfl⟩⟩ := hrel
    cases gk with
    | zero => exact absurd HA.out (by simp [laws_heldIntS.l0])
    | succ k1 =>
      have H := HA.out
      clear HA
      simp only [laws_heldIntS.l0] at H
      by_cases c3 : x5_1 < (l0.length : Int)
      · rw [if_pos c3] at H
        have c3b0 : decide (x5_1 < (l0.length : Int)) = true := decide_eq_true c3
        clear c3
        by_cases c4 : 0 ≤ x5_1
        · rw [if_pos c4] at H
          have c4b0 : decide (0 ≤ x5_1) = true := decide_eq_true c4
          clear c4
          by_cases c5 : (rd l0 x5_1) = x1_1
          · rw [if_pos c5] at H
            have c5b0 : ((rd l0 x5_1) == x1_1) = true := beq_iff_eq.mpr c5
            have c5b1 : ((rd l0 x5_1) != x1_1) = false := bne_eq_false_iff_eq.mpr c5
            clear c5
            have H' := Aside0.mk H
            clear H
            have p101 : 0 ≤ (x5_1 : Int) := of_decide_eq_true (by first | (with_reducible assumption) | assumption)
            have q101 : x5_1 < (l0.length : Int) := of_decide_eq_true (by first | (with_reducible assumption) | assumption)
            obtain ⟨ad101, e101, hx101_0⟩ := Kd.at_int HR0.out x5_1 p101 q101
            cases e101
            replace p101 := eq_true p101
            replace q101 := eq_true q101
            go_wp2
            go_roundg k1
            case measure => have := HK1.out; omega
            case rel => exact ⟨(wrap64 (x1_1 + 1)), (wrap64 (x5_1 + 1)), (by first | rfl | (simp; done) | (simp [*]; done)), (by first | rfl | (simp; done) | (simp [*]; done)), H', ⟨by have := HK1.out; omega⟩, by repeat (first | exact Drawn0.refl _ | apply Drawn0.step)⟩
          · rw [if_neg c5] at H
            have c5b0 : ((rd l0 x5_1) == x1_1) = false := beq_eq_false_iff_ne.mpr c5
            have c5b1 : ((rd l0 x5_1) != x1_1) = true := bne_iff_ne.mpr c5
            obtain rfl := Option.some.inj H
            have p101 : 0 ≤ (x5_1 : Int) := of_decide_eq_true (by first | (with_reducible assumption) | assumption)
            have q101 : x5_1 < (l0.length : Int) := of_decide_eq_true (by first | (with_reducible assumption) | assumption)
            obtain ⟨ad101, e101, hx101_0⟩ := Kd.at_int HR0.out x5_1 p101 q101
            cases e101
            replace p101 := eq_true p101
            replace q101 := eq_true q101
            go_wp2
            go_ret
            exact ⟨by first | rfl | (simp; done) | (simp [*]; done), by repeat (first | exact Drawn0.refl _ | apply Drawn0.step)⟩
        · rw [if_neg c4] at H
          exact absurd H (by simp)
      · rw [if_neg c3] at H
        have c3b0 : decide (x5_1 < (l0.length : Int)) = false := decide_eq_false c3
        clear c3
        obtain rfl := Option.some.inj H
        go_wp2
        go_ret
        exact ⟨by first | rfl | (simp; done) | (simp [*]; done), by repeat (first | exact Drawn0.refl _ | apply Drawn0.step)⟩

end Go.Proofs.Ytjkkkinfclaikaa.P

-- written by wip/gen.py (this session's) with the kit's printer; Lean checks it.
namespace Go.Proofs.Ytjkkkinfclaikaa.P
open Go.RowKit Go.Proofs.YtjkkkinfclaikaaW.PrintWords Go.Proofs.YtjkkkinfclaikaaW.PrintLast Go.Proofs.YtjkkkinfclaikaaW.PrintMore
attribute [local go_sem] max2_int min2_int max_two min_two max_three min_three max_four min_four
set_option linter.unusedVariables false
set_option linter.unusedSimpArgs false

/-! ### laws_eqIntS: function 37 -/
def laws_eqIntS.l0 : Nat → List Int → List Int → Int → Option (Bool)
  | 0, _, _, _ => none
  | k + 1, x0, x1, x5 => if x5 < (x0.length : Int) then (if 0 ≤ x5 then (if x5 < (x1.length : Int) then (if (rd x0 x5) = (rd x1 x5) then (laws_eqIntS.l0 k x0 x1 (wrap64 (x5 + 1))) else (some false)) else (none)) else (none)) else (some true)
def laws_eqIntS.f (k : Nat) (l0 : List Int) (l1 : List Int) : Option (Bool) := if (l0.length : Int) = (l1.length : Int) then (laws_eqIntS.l0 k l0 l1 0) else (some false)
theorem laws_eqIntS.mono_l : ∀ k, (∀ y0 y1 y2, LeO (laws_eqIntS.l0 k y0 y1 y2) (laws_eqIntS.l0 (k + 1) y0 y1 y2))
  | 0 => fun _ _ _ r h => by simp [laws_eqIntS.l0] at h
  | k + 1 => by
    have ih0 := laws_eqIntS.mono_l k
    · intro y0 y1 y2
      unfold laws_eqIntS.l0
      repeat' first
      | (with_reducible exact ih0 _ _ _)
      | (with_reducible exact LeO.refl _)
      | (with_reducible exact LeO.none _)
      | (with_reducible refine LeO.ite ?_ ?_)
      | (with_reducible refine LeO.bind ?_ (fun _ => ?_))
      | exact ih0 _ _ _
      | exact LeO.none _
      | refine LeO.ite ?_ ?_
      | refine LeO.bind ?_ (fun _ => ?_)
theorem laws_eqIntS.mono : ∀ a0 a1 k, LeO (laws_eqIntS.f k a0 a1) (laws_eqIntS.f (k + 1) a0 a1) := by
  intro a0 a1 k
  have ih0 := laws_eqIntS.mono_l k
  unfold laws_eqIntS.f
  repeat' first
      | (with_reducible exact ih0 _ _ _)
      | (with_reducible exact LeO.refl _)
      | (with_reducible exact LeO.none _)
      | (with_reducible refine LeO.ite ?_ ?_)
      | (with_reducible refine LeO.bind ?_ (fun _ => ?_))
      | exact ih0 _ _ _
      | exact LeO.none _
      | refine LeO.ite ?_ ?_
      | refine LeO.bind ?_ (fun _ => ?_)
set_option maxHeartbeats 8000000 in
set_option maxRecDepth 100000 in
theorem laws_eqIntS.calls (k : Nat) (A0 : Option Addr) (c0 : Nat) (l0 : List Int) (A1 : Option Addr) (c1 : Nat) (l1 : List Int) (r : Bool) (w : World) (hr0 : Kd.C (Kd.int .i64) w A0 l0.length l0) (hc0 : l0.length ≤ c0) (hr1 : Kd.C (Kd.int .i64) w A1 l1.length l1) (hc1 : l1.length ≤ c1) (h : laws_eqIntS.f k l0 l1 = some r) :
    Calls Try.prog 37 #[.slice A0 l0.length c0, .slice A1 l1.length c1] w fun e w' => e = .returned (.bool r) ∧ Drawn0 w w' := by
  have HR0 := Aside0.mk hr0
  have HC0 := Aside0.mk hc0
  clear hr0 hc0
  have HR1 := Aside0.mk hr1
  have HC1 := Aside0.mk hc1
  clear hr1 hc1
  have H : (if (l0.length : Int) = (l1.length : Int) then (laws_eqIntS.l0 k l0 l1 0) else (some false)) = some r := h
  clear h
  by_cases c3 : (l0.length : Int) = (l1.length : Int)
  · rw [if_pos c3] at H
    have c3b0 : ((l0.length : Int) == (l1.length : Int)) = true := beq_iff_eq.mpr c3
    have c3b1 : ((l0.length : Int) != (l1.length : Int)) = false := bne_eq_false_iff_eq.mpr c3
    have c3b2 : (l0.length == l1.length) = true := by first | simpa using c3 | (simp at c3 ⊢; omega)
    clear c3
    have H' := Aside0.mk H
    clear H
    go_enter Try.func37, Try.ntmps37
    go_wp2
    repeat (go_quiet (fail); try go_wp2)
    go_loopg [5] k (fun kq v5 w' => ∃ (x5_1 : Int), v5 = .int .i64 x5_1 ∧ Aside0 (laws_eqIntS.l0 kq l0 l1 x5_1 = some r) ∧ Aside0 (kq ≤ k) ∧ Drawn0 w w')
    case atStart => exact ⟨(0), (by first | rfl | (simp; done) | (simp [*]; done)), H', ⟨Nat.le_refl _⟩, by repeat (first | exact Drawn0.refl _ | apply Drawn0.step)⟩
    case round =>
      clear H'
      try clear c1
      try clear p2
      try clear c3
      try clear c3b0
      try clear c3b1
      try clear c3b2
      obtain ⟨x5_1, rfl, HA, HK1, ⟨m1, rfl⟩⟩ := hrel
      cases gk with
      | zero => exact absurd HA.out (by simp [laws_eqIntS.l0])
      | succ k1 =>
        have H := HA.out
        clear HA
        simp only [laws_eqIntS.l0] at H
        by_cases c4 : x5_1 < (l0.length : Int)
        · rw [if_pos c4] at H
          have c4b0 : decide (x5_1 < (l0.length : Int)) = true := decide_eq_true c4
          clear c4
          by_cases c5 : 0 ≤ x5_1
          · rw [if_pos c5] at H
            have c5b0 : decide (0 ≤ x5_1) = true := decide_eq_true c5
            clear c5
            by_cases c6 : x5_1 < (l1.length : Int)
            · rw [if_pos c6] at H
              have c6b0 : decide (x5_1 < (l1.length : Int)) = true := decide_eq_true c6
              clear c6
              by_cases c7 : (rd l0 x5_1) = (rd l1 x5_1)
              · rw [if_pos c7] at H
                have c7b0 : ((rd l0 x5_1) == (rd l1 x5_1)) = true := beq_iff_eq.mpr c7
                have c7b1 : ((rd l0 x5_1) != (rd l1 x5_1)) = false := bne_eq_false_iff_eq.mpr c7
                clear c7
                have H' := Aside0.mk H
                clear H
                have p101 : 0 ≤ (x5_1 : Int) := of_decide_eq_true (by first | (with_reducible assumption) | assumption)
                have q101 : x5_1 < (l0.length : Int) := of_decide_eq_true (by first | (with_reducible assumption) | assumption)
                obtain ⟨ad101, e101, hx101_0⟩ := Kd.at_int HR0.out x5_1 p101 q101
                cases e101
                replace p101 := eq_true p101
                replace q101 := eq_true q101
                have p102 : 0 ≤ (x5_1 : Int) := of_decide_eq_true (by first | (with_reducible assumption) | assumption)
                have q102 : x5_1 < (l1.length : Int) := of_decide_eq_true (by first | (with_reducible assumption) | assumption)
                obtain ⟨ad102, e102, hx102_0⟩ := Kd.at_int HR1.out x5_1 p102 q102
                cases e102
                replace p102 := eq_true p102
                replace q102 := eq_true q102
                go_wp2
                repeat (go_quiet (fail); try go_wp2)
                go_roundg k1
                case measure => have := HK1.out; omega
                case rel => exact ⟨(wrap64 (x5_1 + 1)), (by first | rfl | (simp; done) | (simp [*]; done)), H', ⟨by have := HK1.out; omega⟩, by repeat (first | exact Drawn0.refl _ | apply Drawn0.step)⟩
              · rw [if_neg c7] at H
                have c7b0 : ((rd l0 x5_1) == (rd l1 x5_1)) = false := beq_eq_false_iff_ne.mpr c7
                have c7b1 : ((rd l0 x5_1) != (rd l1 x5_1)) = true := bne_iff_ne.mpr c7
                obtain rfl := Option.some.inj H
                have p101 : 0 ≤ (x5_1 : Int) := of_decide_eq_true (by first | (with_reducible assumption) | assumption)
                have q101 : x5_1 < (l0.length : Int) := of_decide_eq_true (by first | (with_reducible assumption) | assumption)
                obtain ⟨ad101, e101, hx101_0⟩ := Kd.at_int HR0.out x5_1 p101 q101
                cases e101
                replace p101 := eq_true p101
                replace q101 := eq_true q101
                have p102 : 0 ≤ (x5_1 : Int) := of_decide_eq_true (by first | (with_reducible assumption) | assumption)
                have q102 : x5_1 < (l1.length : Int) := of_decide_eq_true (by first | (with_reducible assumption) | assumption)
                obtain ⟨ad102, e102, hx102_0⟩ := Kd.at_int HR1.out x5_1 p102 q102
                cases e102
                replace p102 := eq_true p102
                replace q102 := eq_true q102
                go_wp2
                repeat (go_quiet (fail); try go_wp2)
                go_ret
                exact ⟨by first | rfl | (simp; done) | (simp [*]; done), by repeat (first | exact Drawn0.refl _ | apply Drawn0.step)⟩
            · rw [if_neg c6] at H
              exact absurd H (by simp)
          · rw [if_neg c5] at H
            exact absurd H (by simp)
        · rw [if_neg c4] at H
          have c4b0 : decide (x5_1 < (l0.length : Int)) = false := decide_eq_false c4
          clear c4
          obtain rfl := Option.some.inj H
          go_wp2
          repeat (go_quiet (fail); try go_wp2)
          go_ret
          exact ⟨by first | rfl | (simp; done) | (simp [*]; done), by repeat (first | exact Drawn0.refl _ | apply Drawn0.step)⟩
  · rw [if_neg c3] at H
    have c3b0 : ((l0.length : Int) == (l1.length : Int)) = false := beq_eq_false_iff_ne.mpr c3
    have c3b1 : ((l0.length : Int) != (l1.length : Int)) = true := bne_iff_ne.mpr c3
    have c3b2 : (l0.length == l1.length) = false := by first | simpa using c3 | (simp at c3 ⊢; omega)
    obtain rfl := Option.some.inj H
    go_enter Try.func37, Try.ntmps37
    go_wp2
    repeat (go_quiet (fail); try go_wp2)
    go_ret
    exact ⟨by first | rfl | (simp; done) | (simp [*]; done), by repeat (first | exact Drawn0.refl _ | apply Drawn0.step)⟩

end Go.Proofs.Ytjkkkinfclaikaa.P

-- written by wip/gen.py (this session's) with the kit's printer; Lean checks it.
namespace Go.Proofs.Ytjkkkinfclaikaa.P
open Go.RowKit Go.Proofs.YtjkkkinfclaikaaW.PrintWords Go.Proofs.YtjkkkinfclaikaaW.PrintLast Go.Proofs.YtjkkkinfclaikaaW.PrintMore
attribute [local go_sem] max2_int min2_int max_two min_two max_three min_three max_four min_four
set_option linter.unusedVariables false
set_option linter.unusedSimpArgs false

/-! ### laws_heldClueS: function 60 -/
def laws_heldClueS.l0 : Nat → List (S38) → Int → Int → Option (Int)
  | 0, _, _, _ => none
  | k + 1, x0, x1, x5 => if x5 < (x0.length : Int) then (if 0 ≤ x5 then (if ((rd_T38 x0 x5).f0) = x1 then (if ((rd_T38 x0 x5).f1) = (wrap64 (x1 + 1)) then (if ((rd_T38 x0 x5).f2) = (wrap64 ((wrap64 (x1 + 1)) + 1)) then (laws_heldClueS.l0 k x0 (wrap64 ((wrap64 ((wrap64 (x1 + 1)) + 1)) + 1)) (wrap64 (x5 + 1))) else (some (-1))) else (some (-1))) else (some (-1))) else (none)) else (some x1)
def laws_heldClueS.f (k : Nat) (l0 : List (S38)) (a1 : Int) : Option (Int) := laws_heldClueS.l0 k l0 a1 0
theorem laws_heldClueS.mono_l : ∀ k, (∀ y0 y1 y2, LeO (laws_heldClueS.l0 k y0 y1 y2) (laws_heldClueS.l0 (k + 1) y0 y1 y2))
  | 0 => fun _ _ _ r h => by simp [laws_heldClueS.l0] at h
  | k + 1 => by
    have ih0 := laws_heldClueS.mono_l k
    · intro y0 y1 y2
      unfold laws_heldClueS.l0
      repeat' first
      | (with_reducible exact ih0 _ _ _)
      | (with_reducible exact LeO.refl _)
      | (with_reducible exact LeO.none _)
      | (with_reducible refine LeO.ite ?_ ?_)
      | (with_reducible refine LeO.bind ?_ (fun _ => ?_))
      | exact ih0 _ _ _
      | exact LeO.none _
      | refine LeO.ite ?_ ?_
      | refine LeO.bind ?_ (fun _ => ?_)
theorem laws_heldClueS.mono : ∀ a0 a1 k, LeO (laws_heldClueS.f k a0 a1) (laws_heldClueS.f (k + 1) a0 a1) := by
  intro a0 a1 k
  have ih0 := laws_heldClueS.mono_l k
  unfold laws_heldClueS.f
  repeat' first
      | (with_reducible exact ih0 _ _ _)
      | (with_reducible exact LeO.refl _)
      | (with_reducible exact LeO.none _)
      | (with_reducible refine LeO.ite ?_ ?_)
      | (with_reducible refine LeO.bind ?_ (fun _ => ?_))
      | exact ih0 _ _ _
      | exact LeO.none _
      | refine LeO.ite ?_ ?_
      | refine LeO.bind ?_ (fun _ => ?_)
set_option maxHeartbeats 8000000 in
set_option maxRecDepth 100000 in
theorem laws_heldClueS.calls (k : Nat) (A0 : Option Addr) (c0 : Nat) (l0 : List (S38)) (a1 : Int) (r : Int) (w : World) (hr0 : Kd.C k38 w A0 l0.length l0) (hc0 : l0.length ≤ c0) (h : laws_heldClueS.f k l0 a1 = some r) :
    Calls Try.prog 60 #[.slice A0 l0.length c0, .int .i64 a1] w fun e w' => e = .returned (.int .i64 r) ∧ Drawn0 w w' := by
  have HR0 := Aside0.mk hr0
  have HC0 := Aside0.mk hc0
  clear hr0 hc0
  have H : (laws_heldClueS.l0 k l0 a1 0) = some r := h
  clear h
  have H' := Aside0.mk H
  clear H
  go_enter Try.func60, Try.ntmps60
  go_wp2
  go_loopg [1, 5] k (fun kq v1 v5 w' => ∃ (x1_1 : Int) (x5_1 : Int), v1 = .int .i64 x1_1 ∧ v5 = .int .i64 x5_1 ∧ Aside0 (laws_heldClueS.l0 kq l0 x1_1 x5_1 = some r) ∧ Aside0 (kq ≤ k) ∧ Drawn0 w w')
  case atStart => exact ⟨(a1), (0), (by first | rfl | (simp; done) | (simp [*]; done)), (by first | rfl | (simp; done) | (simp [*]; done)), H', ⟨Nat.le_refl _⟩, by repeat (first | exact Drawn0.refl _ | apply Drawn0.step)⟩
  case round =>
    clear H'
    try clear p2
    obtain ⟨x1_1, x5_1, rfl, rfl, HA, HK1, ⟨m1, rfl⟩⟩ := hrel
    cases gk with
    | zero => exact absurd HA.out (by simp [laws_heldClueS.l0])
    | succ k1 =>
      have H := HA.out
      clear HA
      simp only [laws_heldClueS.l0] at H
      by_cases c3 : x5_1 < (l0.length : Int)
      · rw [if_pos c3] at H
        have c3b0 : decide (x5_1 < (l0.length : Int)) = true := decide_eq_true c3
        clear c3
        by_cases c4 : 0 ≤ x5_1
        · rw [if_pos c4] at H
          have c4b0 : decide (0 ≤ x5_1) = true := decide_eq_true c4
          clear c4
          by_cases c5 : ((rd_T38 l0 x5_1).f0) = x1_1
          · rw [if_pos c5] at H
            have c5b0 : (((rd_T38 l0 x5_1).f0) == x1_1) = true := beq_iff_eq.mpr c5
            have c5b1 : (((rd_T38 l0 x5_1).f0) != x1_1) = false := bne_eq_false_iff_eq.mpr c5
            clear c5
            by_cases c6 : ((rd_T38 l0 x5_1).f1) = (wrap64 (x1_1 + 1))
            · rw [if_pos c6] at H
              have c6b0 : (((rd_T38 l0 x5_1).f1) == (wrap64 (x1_1 + 1))) = true := beq_iff_eq.mpr c6
              have c6b1 : (((rd_T38 l0 x5_1).f1) != (wrap64 (x1_1 + 1))) = false := bne_eq_false_iff_eq.mpr c6
              clear c6
              by_cases c7 : ((rd_T38 l0 x5_1).f2) = (wrap64 ((wrap64 (x1_1 + 1)) + 1))
              · rw [if_pos c7] at H
                have c7b0 : (((rd_T38 l0 x5_1).f2) == (wrap64 ((wrap64 (x1_1 + 1)) + 1))) = true := beq_iff_eq.mpr c7
                have c7b1 : (((rd_T38 l0 x5_1).f2) != (wrap64 ((wrap64 (x1_1 + 1)) + 1))) = false := bne_eq_false_iff_eq.mpr c7
                clear c7
                have H' := Aside0.mk H
                clear H
                have p101 : 0 ≤ (x5_1 : Int) := of_decide_eq_true (by first | (with_reducible assumption) | assumption)
                have q101 : x5_1 < (l0.length : Int) := of_decide_eq_true (by first | (with_reducible assumption) | assumption)
                obtain ⟨ad101, e101, hx101_0, hx101_1, hx101_2⟩ := at_T38 HR0.out x5_1 p101 q101
                cases e101
                replace p101 := eq_true p101
                replace q101 := eq_true q101
                have p102 : 0 ≤ (x5_1 : Int) := of_decide_eq_true (by first | (with_reducible assumption) | assumption)
                have q102 : x5_1 < (l0.length : Int) := of_decide_eq_true (by first | (with_reducible assumption) | assumption)
                obtain ⟨ad102, e102, hx102_0, hx102_1, hx102_2⟩ := at_T38 HR0.out x5_1 p102 q102
                obtain rfl : ad101 = ad102 := (by injection e102)
                replace p102 := eq_true p102
                replace q102 := eq_true q102
                have p103 : 0 ≤ (x5_1 : Int) := of_decide_eq_true (by first | (with_reducible assumption) | assumption)
                have q103 : x5_1 < (l0.length : Int) := of_decide_eq_true (by first | (with_reducible assumption) | assumption)
                obtain ⟨ad103, e103, hx103_0, hx103_1, hx103_2⟩ := at_T38 HR0.out x5_1 p103 q103
                obtain rfl : ad101 = ad103 := (by injection e103)
                replace p103 := eq_true p103
                replace q103 := eq_true q103
                go_wp2
                go_roundg k1
                case measure => have := HK1.out; omega
                case rel => exact ⟨(wrap64 ((wrap64 ((wrap64 (x1_1 + 1)) + 1)) + 1)), (wrap64 (x5_1 + 1)), (by first | rfl | (simp; done) | (simp [*]; done)), (by first | rfl | (simp; done) | (simp [*]; done)), H', ⟨by have := HK1.out; omega⟩, by repeat (first | exact Drawn0.refl _ | apply Drawn0.step)⟩
              · rw [if_neg c7] at H
                have c7b0 : (((rd_T38 l0 x5_1).f2) == (wrap64 ((wrap64 (x1_1 + 1)) + 1))) = false := beq_eq_false_iff_ne.mpr c7
                have c7b1 : (((rd_T38 l0 x5_1).f2) != (wrap64 ((wrap64 (x1_1 + 1)) + 1))) = true := bne_iff_ne.mpr c7
                obtain rfl := Option.some.inj H
                have p101 : 0 ≤ (x5_1 : Int) := of_decide_eq_true (by first | (with_reducible assumption) | assumption)
                have q101 : x5_1 < (l0.length : Int) := of_decide_eq_true (by first | (with_reducible assumption) | assumption)
                obtain ⟨ad101, e101, hx101_0, hx101_1, hx101_2⟩ := at_T38 HR0.out x5_1 p101 q101
                cases e101
                replace p101 := eq_true p101
                replace q101 := eq_true q101
                have p102 : 0 ≤ (x5_1 : Int) := of_decide_eq_true (by first | (with_reducible assumption) | assumption)
                have q102 : x5_1 < (l0.length : Int) := of_decide_eq_true (by first | (with_reducible assumption) | assumption)
                obtain ⟨ad102, e102, hx102_0, hx102_1, hx102_2⟩ := at_T38 HR0.out x5_1 p102 q102
                obtain rfl : ad101 = ad102 := (by injection e102)
                replace p102 := eq_true p102
                replace q102 := eq_true q102
                have p103 : 0 ≤ (x5_1 : Int) := of_decide_eq_true (by first | (with_reducible assumption) | assumption)
                have q103 : x5_1 < (l0.length : Int) := of_decide_eq_true (by first | (with_reducible assumption) | assumption)
                obtain ⟨ad103, e103, hx103_0, hx103_1, hx103_2⟩ := at_T38 HR0.out x5_1 p103 q103
                obtain rfl : ad101 = ad103 := (by injection e103)
                replace p103 := eq_true p103
                replace q103 := eq_true q103
                go_wp2
                go_ret
                exact ⟨by first | rfl | (simp; done) | (simp [*]; done), by repeat (first | exact Drawn0.refl _ | apply Drawn0.step)⟩
            · rw [if_neg c6] at H
              have c6b0 : (((rd_T38 l0 x5_1).f1) == (wrap64 (x1_1 + 1))) = false := beq_eq_false_iff_ne.mpr c6
              have c6b1 : (((rd_T38 l0 x5_1).f1) != (wrap64 (x1_1 + 1))) = true := bne_iff_ne.mpr c6
              obtain rfl := Option.some.inj H
              have p101 : 0 ≤ (x5_1 : Int) := of_decide_eq_true (by first | (with_reducible assumption) | assumption)
              have q101 : x5_1 < (l0.length : Int) := of_decide_eq_true (by first | (with_reducible assumption) | assumption)
              obtain ⟨ad101, e101, hx101_0, hx101_1, hx101_2⟩ := at_T38 HR0.out x5_1 p101 q101
              cases e101
              replace p101 := eq_true p101
              replace q101 := eq_true q101
              have p102 : 0 ≤ (x5_1 : Int) := of_decide_eq_true (by first | (with_reducible assumption) | assumption)
              have q102 : x5_1 < (l0.length : Int) := of_decide_eq_true (by first | (with_reducible assumption) | assumption)
              obtain ⟨ad102, e102, hx102_0, hx102_1, hx102_2⟩ := at_T38 HR0.out x5_1 p102 q102
              obtain rfl : ad101 = ad102 := (by injection e102)
              replace p102 := eq_true p102
              replace q102 := eq_true q102
              go_wp2
              go_ret
              exact ⟨by first | rfl | (simp; done) | (simp [*]; done), by repeat (first | exact Drawn0.refl _ | apply Drawn0.step)⟩
          · rw [if_neg c5] at H
            have c5b0 : (((rd_T38 l0 x5_1).f0) == x1_1) = false := beq_eq_false_iff_ne.mpr c5
            have c5b1 : (((rd_T38 l0 x5_1).f0) != x1_1) = true := bne_iff_ne.mpr c5
            obtain rfl := Option.some.inj H
            have p101 : 0 ≤ (x5_1 : Int) := of_decide_eq_true (by first | (with_reducible assumption) | assumption)
            have q101 : x5_1 < (l0.length : Int) := of_decide_eq_true (by first | (with_reducible assumption) | assumption)
            obtain ⟨ad101, e101, hx101_0, hx101_1, hx101_2⟩ := at_T38 HR0.out x5_1 p101 q101
            cases e101
            replace p101 := eq_true p101
            replace q101 := eq_true q101
            go_wp2
            go_ret
            exact ⟨by first | rfl | (simp; done) | (simp [*]; done), by repeat (first | exact Drawn0.refl _ | apply Drawn0.step)⟩
        · rw [if_neg c4] at H
          exact absurd H (by simp)
      · rw [if_neg c3] at H
        have c3b0 : decide (x5_1 < (l0.length : Int)) = false := decide_eq_false c3
        clear c3
        obtain rfl := Option.some.inj H
        go_wp2
        go_ret
        exact ⟨by first | rfl | (simp; done) | (simp [*]; done), by repeat (first | exact Drawn0.refl _ | apply Drawn0.step)⟩

end Go.Proofs.Ytjkkkinfclaikaa.P

-- written by wip/gen.py (this session's) with the kit's printer; Lean checks it.
namespace Go.Proofs.Ytjkkkinfclaikaa.P
open Go.RowKit Go.Proofs.YtjkkkinfclaikaaW.PrintWords Go.Proofs.YtjkkkinfclaikaaW.PrintLast Go.Proofs.YtjkkkinfclaikaaW.PrintMore
attribute [local go_sem] max2_int min2_int max_two min_two max_three min_three max_four min_four
set_option linter.unusedVariables false
set_option linter.unusedSimpArgs false

/-! ### laws_heldPuzzle: function 19 -/
def laws_heldPuzzle.f (k : Nat) (a0_0 : Int) (l0_1 : List (S38)) (a1 : Int) : Option (Int) := (laws_heldClueS.f k l0_1 a1).bind fun t102 => (if t102 < 0 then (some (-1)) else (some t102))
theorem laws_heldPuzzle.mono : ∀ a0 a1 a2 k, LeO (laws_heldPuzzle.f k a0 a1 a2) (laws_heldPuzzle.f (k + 1) a0 a1 a2) := by
  intro a0 a1 a2 k
  unfold laws_heldPuzzle.f
  repeat' first
      | (with_reducible exact laws_heldClueS.mono _ _ _)
      | (with_reducible exact LeO.refl _)
      | (with_reducible exact LeO.none _)
      | (with_reducible refine LeO.ite ?_ ?_)
      | (with_reducible refine LeO.bind ?_ (fun _ => ?_))
      | exact laws_heldClueS.mono _ _ _
      | exact LeO.none _
      | refine LeO.ite ?_ ?_
      | refine LeO.bind ?_ (fun _ => ?_)
set_option maxHeartbeats 8000000 in
set_option maxRecDepth 100000 in
theorem laws_heldPuzzle.calls (k : Nat) (a0_0 : Int) (A0_1 : Option Addr) (c0_1 : Nat) (l0_1 : List (S38)) (a1 : Int) (r : Int) (w : World) (hr0_1 : Kd.C k38 w A0_1 l0_1.length l0_1) (hc0_1 : l0_1.length ≤ c0_1) (h : laws_heldPuzzle.f k a0_0 l0_1 a1 = some r) :
    Calls Try.prog 19 #[.agg #[.int .i64 a0_0, .slice A0_1 l0_1.length c0_1], .int .i64 a1] w fun e w' => e = .returned (.int .i64 r) ∧ Below w.heap.size w w' := by
  have hu24 := Try.underlying24
  have HR0_1 := Aside0.mk hr0_1
  have HC0_1 := Aside0.mk hc0_1
  clear hr0_1 hc0_1
  have HB := Aside0.mk (Below.refl w.heap.size w)
  have H : ((laws_heldClueS.f k l0_1 a1).bind fun t102 => (if t102 < 0 then (some (-1)) else (some t102))) = some r := h
  clear h
  replace H := Option.bind_eq_some_iff.mp H
  obtain ⟨t102, A30, H⟩ := H
  replace H : (if t102 < 0 then (some (-1)) else (some t102)) = some r := H
  have A3 := Aside0.mk A30
  clear A30
  by_cases c4 : t102 < 0
  · rw [if_pos c4] at H
    have c4b0 : decide (t102 < 0) = true := decide_eq_true c4
    clear c4
    obtain rfl := Option.some.inj H
    go_enter Try.func19, Try.ntmps19
    go_wp2_with (first | ((with_reducible refine gate_dst (N := 2) rfl ?_); refine box_event ?hg (N := 2) ?hd (cs := #[.int .i64 a0_0, .slice A0_1 l0_1.length c0_1]) (t := 24) ?hr ?_; (case hd => rfl); (case hg => rfl); (case hr => first | (go_simp; done) | (go_simp; rfl)); intro gb101 hg w5 hbox hb; have n0_ := Aside0.mk (below_step (by repeat (first | (with_reducible first | exact HB.out | apply below_alloc | apply pw_below_drewN | apply below_drew1) | exact HB.out)) hb); have n1_ := Aside0.mk (hbox); have n2_ := Aside0.mk ((by rw [hg]; exact (below_size (by repeat (first | (with_reducible first | exact HB.out | apply below_alloc | apply pw_below_drewN | apply below_drew1) | exact HB.out))) : w.heap.size ≤ gb101)); have n3_ := Aside0.mk ((by rw [hg]; exact (below_size (by repeat (first | (with_reducible first | exact HB.out | apply below_alloc | apply pw_below_drewN | apply below_drew1) | exact HB.out))) : w.heap.size ≤ gb101)); clear HB; have HB := n0_; have BK101 := n1_; have GW101 := n2_; have GE101 := n3_; clear n0_ n1_ n2_ n3_; clear hb hbox hg; have hcz6_0 : w5.cell? ⟨gb101, 0, none⟩ = some (.int .i64 a0_0) := (blk_cell BK101.out 0).trans rfl; have hcz6_1 : w5.cell? ⟨gb101, 1, none⟩ = some (.slice A0_1 l0_1.length c0_1) := (blk_cell BK101.out 1).trans rfl; have hfz6_0 := blk_frozen BK101.out 0; have hfz6_1 := blk_frozen BK101.out 1) | ((with_reducible refine gate_callee (f := 60) rfl ?_); refine goesL_ (some 8) rfl rfl Try.func60 (by kernel_rfl) rfl #[.slice A0_1 l0_1.length c0_1, .int .i64 a1] rfl (by (try simp only [List.map_toArray, List.map_cons, List.map_nil]); first | done | rfl | (simp only [List.length_drop, List.length_take]; rfl)) ?_; (with_reducible refine (laws_heldClueS.calls k _ _ l0_1 a1 t102 _ ?side1 ?side2 A3.out).mono ?_); (case side1 => repeat (first | exact (Kd.C_below HR0_1.out HB.out) | (with_reducible refine Kd.C_alloc ?_ _) | (with_reducible refine Kd.C_drewN ?_ _) | (with_reducible refine Kd.C_drew ?_))); (case side2 => exact HC0_1.out); rintro e w' ⟨rfl, ⟨nd, rfl⟩⟩; refine ⟨_, rfl, ?_⟩))
    go_ret
    exact ⟨by first | rfl | (simp [errW_none, errW_some] <;> rfl) | (simp [*, errW_none, errW_some] <;> rfl), by repeat (first | (with_reducible first | exact HB.out | apply below_alloc | apply pw_below_drewN | apply below_drew1 | refine below_set ?_ GE101.out) | exact HB.out)⟩
  · rw [if_neg c4] at H
    have c4b0 : decide (t102 < 0) = false := decide_eq_false c4
    clear c4
    obtain rfl := Option.some.inj H
    go_enter Try.func19, Try.ntmps19
    go_wp2_with (first | ((with_reducible refine gate_dst (N := 2) rfl ?_); refine box_event ?hg (N := 2) ?hd (cs := #[.int .i64 a0_0, .slice A0_1 l0_1.length c0_1]) (t := 24) ?hr ?_; (case hd => rfl); (case hg => rfl); (case hr => first | (go_simp; done) | (go_simp; rfl)); intro gb101 hg w7 hbox hb; have n0_ := Aside0.mk (below_step (by repeat (first | (with_reducible first | exact HB.out | apply below_alloc | apply pw_below_drewN | apply below_drew1) | exact HB.out)) hb); have n1_ := Aside0.mk (hbox); have n2_ := Aside0.mk ((by rw [hg]; exact (below_size (by repeat (first | (with_reducible first | exact HB.out | apply below_alloc | apply pw_below_drewN | apply below_drew1) | exact HB.out))) : w.heap.size ≤ gb101)); have n3_ := Aside0.mk ((by rw [hg]; exact (below_size (by repeat (first | (with_reducible first | exact HB.out | apply below_alloc | apply pw_below_drewN | apply below_drew1) | exact HB.out))) : w.heap.size ≤ gb101)); clear HB; have HB := n0_; have BK101 := n1_; have GW101 := n2_; have GE101 := n3_; clear n0_ n1_ n2_ n3_; clear hb hbox hg; have hcz8_0 : w7.cell? ⟨gb101, 0, none⟩ = some (.int .i64 a0_0) := (blk_cell BK101.out 0).trans rfl; have hcz8_1 : w7.cell? ⟨gb101, 1, none⟩ = some (.slice A0_1 l0_1.length c0_1) := (blk_cell BK101.out 1).trans rfl; have hfz8_0 := blk_frozen BK101.out 0; have hfz8_1 := blk_frozen BK101.out 1) | ((with_reducible refine gate_callee (f := 60) rfl ?_); refine goesL_ (some 8) rfl rfl Try.func60 (by kernel_rfl) rfl #[.slice A0_1 l0_1.length c0_1, .int .i64 a1] rfl (by (try simp only [List.map_toArray, List.map_cons, List.map_nil]); first | done | rfl | (simp only [List.length_drop, List.length_take]; rfl)) ?_; (with_reducible refine (laws_heldClueS.calls k _ _ l0_1 a1 t102 _ ?side1 ?side2 A3.out).mono ?_); (case side1 => repeat (first | exact (Kd.C_below HR0_1.out HB.out) | (with_reducible refine Kd.C_alloc ?_ _) | (with_reducible refine Kd.C_drewN ?_ _) | (with_reducible refine Kd.C_drew ?_))); (case side2 => exact HC0_1.out); rintro e w' ⟨rfl, ⟨nd, rfl⟩⟩; refine ⟨_, rfl, ?_⟩))
    go_ret
    exact ⟨by first | rfl | (simp [errW_none, errW_some] <;> rfl) | (simp [*, errW_none, errW_some] <;> rfl), by repeat (first | (with_reducible first | exact HB.out | apply below_alloc | apply pw_below_drewN | apply below_drew1 | refine below_set ?_ GE101.out) | exact HB.out)⟩

end Go.Proofs.Ytjkkkinfclaikaa.P

/- Marks that are laid into a result are found again: at whole numbers, clues and turns; lists are equal to themselves. -/
namespace Go.Proofs.Ytjkkkinfclaikaa.P
open Go.RowKit Go.Proofs.YtjkkkinfclaikaaW.PrintWords Go.Proofs.YtjkkkinfclaikaaW.PrintLast
set_option linter.unusedVariables false
set_option linter.unusedSimpArgs false

def marksI (n : Nat) : List Int := (List.range n).map fun i => (1 + (i : Nat) : Int)
theorem marksI_length (n : Nat) : (marksI n).length = n := by simp [marksI]
theorem marksI_succ (n : Nat) : marksI (n + 1) = marksI n ++ [(1 + (n : Nat) : Int)] := by simp [marksI, List.range_succ]
theorem rd_at (l : List Int) (i : Nat) (h : i < l.length) : rd l i = l[i] := by
  show l.getD (i : Int).toNat _ = _
  rw [Int.toNat_natCast, List.getD_eq_getElem?_getD, List.getElem?_eq_getElem h]; rfl
theorem set_mid {α : Type} (a : List α) (b : List α) (i : Nat) (v : α) (ha : a.length = i) (hb : 0 < b.length) : (a ++ b).set i v = (a ++ [v]) ++ b.drop 1 := by
  subst ha
  cases b with
  | nil => simp at hb
  | cons x b => simp
theorem markIntS_l (l : List Int) (hn : l.length ≤ 9223372036854775806) : ∀ (d i : Nat), i + d = l.length → ∀ k, d < k →
    laws_markIntS.l0 k (marksI i ++ l.drop i) (1 + (i : Nat) : Int) i = some ((1 + (l.length : Nat) : Int), marksI l.length) := by
  intro d
  induction d with
  | zero =>
    intro i hi k hk
    obtain ⟨k, rfl⟩ : ∃ m, k = m + 1 := ⟨k - 1, by omega⟩
    simp only [laws_markIntS.l0]
    have : i = l.length := by omega
    subst this
    rw [if_neg (by simp [marksI_length])]
    simp
  | succ d ih =>
    intro i hi k hk
    obtain ⟨k, rfl⟩ : ∃ m, k = m + 1 := ⟨k - 1, by omega⟩
    simp only [laws_markIntS.l0]
    rw [if_pos (by simp [marksI_length]; omega), if_pos (by omega), Int.toNat_natCast, set_mid _ _ i _ (marksI_length i) (by simp; omega), ← marksI_succ, List.drop_drop, wsm (n := 1 + (i : Int)) (by omega) (by omega) |> fun _ => wsm (n := 1 + (i : Int) + 1) (by omega) (by omega), wrap_succ (n := l.length) (by omega) (by omega)]
    have := ih (i + 1) (by omega) k (by omega)
    rw [show (1 + ((i + 1 : Nat) : Int)) = 1 + (i : Int) + 1 by omega] at this
    exact this
theorem markIntS_ev (l : List Int) (hn : l.length ≤ 9223372036854775806) : Ev (fun k => laws_markIntS.f k l 1) ((1 + (l.length : Nat) : Int), marksI l.length) :=
  ⟨l.length + 1, fun k hk => by
    have := markIntS_l l hn l.length 0 (by omega) k (by omega)
    simpa [laws_markIntS.f, marksI] using this⟩
theorem heldIntS_l (n : Nat) (hn : n ≤ 9223372036854775806) : ∀ (d i : Nat), i + d = n → ∀ k, d < k → laws_heldIntS.l0 k (marksI n) (1 + (i : Nat) : Int) i = some (1 + (n : Nat) : Int) := by
  intro d
  induction d with
  | zero =>
    intro i hi k hk
    obtain ⟨k, rfl⟩ : ∃ m, k = m + 1 := ⟨k - 1, by omega⟩
    have : i = n := by omega
    subst this
    simp only [laws_heldIntS.l0]
    rw [if_neg (by simp [marksI_length])]
  | succ d ih =>
    intro i hi k hk
    obtain ⟨k, rfl⟩ : ∃ m, k = m + 1 := ⟨k - 1, by omega⟩
    have hlt : i < (marksI n).length := by rw [marksI_length]; omega
    have hr : rd (marksI n) i = 1 + (i : Nat) := by rw [rd_at _ _ hlt]; simp [marksI]
    simp only [laws_heldIntS.l0]
    rw [if_pos (by omega), if_pos (by omega), hr, if_pos rfl, wsm (n := 1 + (i : Int) + 1) (by omega) (by omega), wrap_succ (n := n) (by omega) (by omega)]
    have := ih (i + 1) (by omega) k (by omega)
    rw [show (1 + ((i + 1 : Nat) : Int)) = 1 + (i : Int) + 1 by omega] at this
    exact this
theorem heldIntS_ev (n : Nat) (hn : n ≤ 9223372036854775806) : Ev (fun k => laws_heldIntS.f k (marksI n) 1) (1 + (n : Nat) : Int) :=
  ⟨n + 1, fun k hk => by
    have := heldIntS_l n hn n 0 (by omega) k (by omega)
    simpa [laws_heldIntS.f] using this⟩
theorem eqIntS_l (l : List Int) (hn : l.length ≤ 9223372036854775807) : ∀ (d i : Nat), i + d = l.length → ∀ k, d < k → laws_eqIntS.l0 k l l i = some true := by
  intro d
  induction d with
  | zero =>
    intro i hi k hk
    obtain ⟨k, rfl⟩ : ∃ m, k = m + 1 := ⟨k - 1, by omega⟩
    simp only [laws_eqIntS.l0]
    rw [if_neg (by omega)]
  | succ d ih =>
    intro i hi k hk
    obtain ⟨k, rfl⟩ : ∃ m, k = m + 1 := ⟨k - 1, by omega⟩
    simp only [laws_eqIntS.l0]
    rw [if_pos (by omega), if_pos (by omega), if_pos (by omega), if_pos trivial, wrap_succ (n := l.length) (by omega) hn]
    exact ih (i + 1) (by omega) k (by omega)
theorem eqIntS_self (l : List Int) (hn : l.length ≤ 9223372036854775807) : Ev (fun k => laws_eqIntS.f k l l) true :=
  ⟨l.length + 1, fun k hk => by
    have := eqIntS_l l hn l.length 0 (by omega) k (by omega)
    simpa [laws_eqIntS.f] using this⟩

def marksC (n : Nat) : List IClue := (List.range n).map fun i => ⟨1 + 3 * (i : Nat), 2 + 3 * (i : Nat), 3 + 3 * (i : Nat)⟩
theorem marksC_length (n : Nat) : (marksC n).length = n := by simp [marksC]
theorem marksC_succ (n : Nat) : marksC (n + 1) = marksC n ++ [⟨1 + 3 * (n : Nat), 2 + 3 * (n : Nat), 3 + 3 * (n : Nat)⟩] := by simp [marksC, List.range_succ]
theorem rd_set (l : List IClue) (i : Nat) (v : IClue) (h : i < l.length) : rd_T38 (l.set i v) i = v := by
  rw [rd_get _ _ (by simpa using h)]
  simp
theorem markClueS_l (l : List IClue) (hn : l.length ≤ 3000000000000000000) : ∀ (d i : Nat), i + d = l.length → ∀ k, d < k →
    laws_markClueS.l0 k (marksC i ++ l.drop i) (1 + 3 * (i : Nat) : Int) i = some ((1 + 3 * (l.length : Nat) : Int), marksC l.length) := by
  intro d
  induction d with
  | zero =>
    intro i hi k hk
    obtain ⟨k, rfl⟩ : ∃ m, k = m + 1 := ⟨k - 1, by omega⟩
    simp only [laws_markClueS.l0]
    have : i = l.length := by omega
    subst this
    rw [if_neg (by simp [marksC_length])]
    simp
  | succ d ih =>
    intro i hi k hk
    obtain ⟨k, rfl⟩ : ∃ m, k = m + 1 := ⟨k - 1, by omega⟩
    have hlen : i < (marksC i ++ l.drop i).length := by simp [marksC_length]; omega
    simp only [laws_markClueS.l0]
    rw [if_pos (by omega), if_pos (by omega)]
    simp only [Option.bind_some, Int.toNat_natCast]
    rw [rd_set _ _ _ hlen, rd_set _ _ _ (by simpa using hlen)]
    simp only [List.set_set]
    rw [wsm (n := 1 + 3 * (i : Int) + 1) (by omega) (by omega), wsm (n := 1 + 3 * (i : Int) + 1 + 1) (by omega) (by omega), wsm (n := 1 + 3 * (i : Int) + 1 + 1 + 1) (by omega) (by omega), wrap_succ (n := l.length) (by omega) (by omega)]
    rw [set_mid _ _ i _ (marksC_length i) (by simp; omega), List.drop_drop]
    have := ih (i + 1) (by omega) k (by omega)
    rw [marksC_succ, show (1 + 3 * ((i + 1 : Nat) : Int)) = 1 + 3 * (i : Int) + 1 + 1 + 1 by omega] at this
    rw [show (1 + 3 * (i : Int) + 1) = 2 + 3 * (i : Int) by omega, show (2 + 3 * (i : Int) + 1) = 3 + 3 * (i : Int) by omega]
    rw [show (1 + 3 * (i : Int) + 1 + 1 + 1) = 3 + 3 * (i : Int) + 1 by omega] at this
    exact this
theorem markPuzzle_ev (h : Int) (l : List IClue) (hn : l.length ≤ 3000000000000000000) : Ev (fun k => laws_markPuzzle.f k h l 1) ((1 + 3 * (l.length : Nat) : Int), marksC l.length) := by
  unfold laws_markPuzzle.f
  refine Ev.bind (a := ((1 + 3 * (l.length : Nat) : Int), marksC l.length)) ⟨l.length + 1, fun k hk => ?_⟩ (Ev.now _)
  have := markClueS_l l hn l.length 0 (by omega) k (by omega)
  simpa [laws_markClueS.f, marksC] using this
theorem heldClueS_l (n : Nat) (hn : n ≤ 3000000000000000000) : ∀ (d i : Nat), i + d = n → ∀ k, d < k → laws_heldClueS.l0 k (marksC n) (1 + 3 * (i : Nat) : Int) i = some (1 + 3 * (n : Nat) : Int) := by
  intro d
  induction d with
  | zero =>
    intro i hi k hk
    obtain ⟨k, rfl⟩ : ∃ m, k = m + 1 := ⟨k - 1, by omega⟩
    have : i = n := by omega
    subst this
    simp only [laws_heldClueS.l0]
    rw [if_neg (by simp [marksC_length])]
  | succ d ih =>
    intro i hi k hk
    obtain ⟨k, rfl⟩ : ∃ m, k = m + 1 := ⟨k - 1, by omega⟩
    have hlt : i < (marksC n).length := by rw [marksC_length]; omega
    have hr : rd_T38 (marksC n) i = ⟨1 + 3 * (i : Nat), 2 + 3 * (i : Nat), 3 + 3 * (i : Nat)⟩ := by rw [rd_get _ _ hlt]; simp [marksC]
    simp only [laws_heldClueS.l0]
    rw [hr]
    dsimp only
    rw [if_pos (by omega), if_pos (by omega), if_pos rfl, wsm (n := 1 + 3 * (i : Int) + 1) (by omega) (by omega), if_pos (by omega), wsm (n := 1 + 3 * (i : Int) + 1 + 1) (by omega) (by omega), if_pos (by omega), wsm (n := 1 + 3 * (i : Int) + 1 + 1 + 1) (by omega) (by omega), wrap_succ (n := n) (by omega) (by omega)]
    have := ih (i + 1) (by omega) k (by omega)
    rw [show (1 + 3 * ((i + 1 : Nat) : Int)) = 1 + 3 * (i : Int) + 1 + 1 + 1 by omega] at this
    exact this
theorem heldPuzzle_ev (h : Int) (n : Nat) (hn : n ≤ 3000000000000000000) : Ev (fun k => laws_heldPuzzle.f k h (marksC n) 1) (1 + 3 * (n : Nat) : Int) := by
  unfold laws_heldPuzzle.f
  refine Ev.bind (a := (1 + 3 * (n : Nat) : Int)) ⟨n + 1, fun k hk => ?_⟩ ?_
  · have := heldClueS_l n hn n 0 (by omega) k (by omega)
    simpa [laws_heldClueS.f] using this
  · rw [if_neg (by omega)]
    exact Ev.now _

end Go.Proofs.Ytjkkkinfclaikaa.P

/- The program's and the reference's greatest common divisors are Lean's own, wherever sizes stay small. -/
namespace Go.Proofs.Ytjkkkinfclaikaa.P
open Go.RowKit Go.Proofs.YtjkkkinfclaikaaW.PrintWords Go.Proofs.YtjkkkinfclaikaaW.PrintLast
set_option linter.unusedVariables false
set_option linter.unusedSimpArgs false

theorem gcd_step (x y : Int) : Int.gcd y (Int.tmod x y) = Int.gcd x y := by
  unfold Int.gcd
  rw [Int.natAbs_tmod, Nat.gcd_comm y.natAbs, ← Nat.gcd_rec, Nat.gcd_comm]
theorem gcd_k : ∀ (n : Nat) (x y : Int), y.natAbs ≤ n → -9223372036854775807 ≤ x → x ≤ 9223372036854775807 → -9223372036854775807 ≤ y → y ≤ 9223372036854775807 → ∀ k, n < k →
    impl_gcd.l0 k x y = some (Int.gcd x y : Int) := by
  intro n
  induction n with
  | zero =>
    intro x y hy h1 h2 h3 h4 k hk
    obtain ⟨k, rfl⟩ : ∃ m, k = m + 1 := ⟨k - 1, by omega⟩
    have : y = 0 := by omega
    subst this
    simp only [impl_gcd.l0, if_true, Int.gcd_zero_right]
    congr 1
    rw [wsm (by omega) (by omega)]
    unfold mx
    split <;> omega
  | succ n ih =>
    intro x y hy h1 h2 h3 h4 k hk
    obtain ⟨k, rfl⟩ : ∃ m, k = m + 1 := ⟨k - 1, by omega⟩
    by_cases h0 : y = 0
    · subst h0
      simp only [impl_gcd.l0, if_true, Int.gcd_zero_right]
      congr 1
      rw [wsm (by omega) (by omega)]
      unfold mx
      split <;> omega
    · simp only [impl_gcd.l0, if_neg h0]
      have hlt : (Int.tmod x y).natAbs < y.natAbs := by rw [Int.natAbs_tmod]; exact Nat.mod_lt _ (by omega)
      rw [ih y (Int.tmod x y) (by omega) h3 h4 (by omega) (by omega) k (by omega), gcd_step]
theorem gcd_ev {x y : Int} (h1 : -9223372036854775807 ≤ x) (h2 : x ≤ 9223372036854775807) (h3 : -9223372036854775807 ≤ y) (h4 : y ≤ 9223372036854775807) : Ev (fun k => impl_gcd.f k x y) (Int.gcd x y : Int) :=
  ⟨y.natAbs + 1, fun k hk => gcd_k _ x y (Nat.le_refl _) h1 h2 h3 h4 k (by omega)⟩
theorem common_k : ∀ (n : Nat) (x y : Int), y.natAbs ≤ n → 0 ≤ x → 0 ≤ y → ∀ k, n < k → spec_diCommon.l0 k x y = some (Int.gcd x y : Int) := by
  intro n
  induction n with
  | zero =>
    intro x y hy h1 h2 k hk
    obtain ⟨k, rfl⟩ : ∃ m, k = m + 1 := ⟨k - 1, by omega⟩
    have : y = 0 := by omega
    subst this
    simp only [spec_diCommon.l0, Int.gcd_zero_right]
    rw [if_neg (by omega)]
    congr 1
    omega
  | succ n ih =>
    intro x y hy h1 h2 k hk
    obtain ⟨k, rfl⟩ : ∃ m, k = m + 1 := ⟨k - 1, by omega⟩
    by_cases h0 : y = 0
    · subst h0
      simp only [spec_diCommon.l0, Int.gcd_zero_right]
      rw [if_neg (by omega)]
      congr 1
      omega
    · simp only [spec_diCommon.l0]
      rw [if_pos (by omega), if_neg h0]
      have hlt : (Int.tmod x y).natAbs < y.natAbs := by rw [Int.natAbs_tmod]; exact Nat.mod_lt _ (by omega)
      have hnn : 0 ≤ Int.tmod x y := Int.tmod_nonneg _ h1
      rw [ih y (Int.tmod x y) (by omega) h2 hnn k (by omega), gcd_step]
theorem common_ev {x y : Int} (h1 : 0 ≤ x) (h2 : 0 ≤ y) : Ev (fun k => spec_diCommon.f k x y) (Int.gcd x y : Int) :=
  ⟨y.natAbs + 1, fun k hk => common_k _ x y (Nat.le_refl _) h1 h2 k (by omega)⟩

end Go.Proofs.Ytjkkkinfclaikaa.P

/- Parts of a turn in lowest terms: the program's way and the reference's. -/
namespace Go.Proofs.Ytjkkkinfclaikaa.P
open Go.RowKit Go.Proofs.YtjkkkinfclaikaaW.PrintWords Go.Proofs.YtjkkkinfclaikaaW.PrintLast
set_option linter.unusedVariables false
set_option linter.unusedSimpArgs false

/-- num / den without whole turns, in lowest terms. -/
def lowT (num den : Int) : Int × Int := (num % den / (Int.gcd (num % den) den : Int), den / (Int.gcd (num % den) den : Int))
theorem tmod_fix {a b : Int} (hb : 0 < b) : (if Int.tmod a b < 0 then Int.tmod a b + b else Int.tmod a b) = a % b := by
  have h0 := Int.emod_nonneg a (Int.ne_of_gt hb)
  have h1 := Int.emod_lt_of_pos a hb
  rw [Int.tmod_eq_emod]
  by_cases c : 0 ≤ a ∨ b ∣ a
  · rw [if_pos c, if_neg (by omega)]
    omega
  · rw [if_neg c, if_pos (by omega)]
    omega
theorem gcd_pos' {a b : Int} (hb : 0 < b) : 0 < Int.gcd a b := Int.gcd_pos_of_ne_zero_right a (by omega)
theorem gcd_le' {a b : Int} (hb : 0 < b) : (Int.gcd a b : Int) ≤ b := Int.le_of_dvd hb (Int.gcd_dvd_right ..)
theorem div_bounds {a g : Int} (ha : 0 ≤ a) (hg : 0 < g) : 0 ≤ a / g ∧ a / g ≤ a := ⟨Int.ediv_nonneg ha (by omega), Int.ediv_le_self _ ha⟩
theorem floorDiv_snd {a b : Int} (ha1 : -9223372036854775808 ≤ a) (ha2 : a ≤ 9223372036854775807) (hb : 0 < b) (hb2 : b ≤ 9223372036854775807) : ∃ q, impl_floorDiv.f a b = some (q, a % b) := by
  unfold impl_floorDiv.f
  rw [if_neg (by omega)]
  have h := tmod_fix (a := a) hb
  have h0 := Int.emod_nonneg a (Int.ne_of_gt hb)
  have h1 := Int.emod_lt_of_pos a hb
  by_cases c : Int.tmod a b < 0
  · rw [if_pos c] at h ⊢
    rw [h, wsm (n := a % b) (by omega) (by omega)]
    exact ⟨_, rfl⟩
  · rw [if_neg c] at h ⊢
    rw [h]
    exact ⟨_, rfl⟩
theorem part_ev {num den : Int} (h1 : -9223372036854775808 ≤ num) (h2 : num ≤ 9223372036854775807) (d1 : 0 < den) (d2 : den ≤ 9223372036854775807) : Ev (fun k => impl_part.f k num den) (lowT num den) := by
  obtain ⟨q, hq⟩ := floorDiv_snd h1 h2 d1 d2
  unfold impl_part.f
  rw [hq]
  simp only [Option.bind_some]
  have h0 := Int.emod_nonneg num (Int.ne_of_gt d1)
  have h3 := Int.emod_lt_of_pos num d1
  refine Ev.bind (gcd_ev (by omega) (by omega) (by omega) (by omega)) ?_
  have hg := gcd_pos' (a := num % den) d1
  refine ev_neg (by omega) ?_
  rw [Int.tdiv_eq_ediv_of_nonneg h0, Int.tdiv_eq_ediv_of_nonneg (by omega : 0 ≤ den)]
  have b1 := div_bounds h0 (by omega : (0 : Int) < (Int.gcd (num % den) den : Int))
  have b2 := div_bounds (by omega : 0 ≤ den) (by omega : (0 : Int) < (Int.gcd (num % den) den : Int))
  rw [wsm (n := num % den / _) (by omega) (by omega), wsm (n := den / _) (by omega) (by omega)]
  exact Ev.now _
def makeB (num den : Int) : Int × Int × Bool := if (lowT num den).2 > 1000000 then (0, 0, false) else ((lowT num den).1, (lowT num den).2, true)
theorem make_ev {num den : Int} (d1 : 0 < den) (d2 : den ≤ 4611686018427387903) : Ev (fun k => spec_diMake.f k num den) (makeB num den) := by
  unfold spec_diMake.f
  have h := tmod_fix (a := num) d1
  have h0 := Int.emod_nonneg num (Int.ne_of_gt d1)
  have h3 := Int.emod_lt_of_pos num d1
  have hr : Int.tmod (wrap64 (Int.tmod num den + den)) den = num % den := by
    by_cases c : Int.tmod num den < 0
    · rw [if_pos c] at h
      rw [h, wsm (by omega) (by omega), Int.tmod_eq_emod_of_nonneg h0, Int.emod_emod_of_dvd _ (Int.dvd_refl _)]
    · rw [if_neg c] at h
      rw [h, wsm (by omega) (by omega), Int.tmod_eq_emod_of_nonneg (by omega), Int.add_emod_right, Int.emod_emod_of_dvd _ (Int.dvd_refl _)]
  refine ev_neg (by omega) ?_
  simp only [hr]
  refine Ev.bind (common_ev h0 (by omega)) ?_
  have hg := gcd_pos' (a := num % den) d1
  refine ev_neg (by omega) ?_
  rw [Int.tdiv_eq_ediv_of_nonneg h0, Int.tdiv_eq_ediv_of_nonneg (by omega : 0 ≤ den)]
  have b1 := div_bounds h0 (by omega : (0 : Int) < (Int.gcd (num % den) den : Int))
  have b2 := div_bounds (by omega : 0 ≤ den) (by omega : (0 : Int) < (Int.gcd (num % den) den : Int))
  rw [wsm (n := num % den / _) (by omega) (by omega), wsm (n := den / _) (by omega) (by omega)]
  unfold makeB lowT
  by_cases c : den / (Int.gcd (num % den) den : Int) > 1000000
  · rw [if_pos c]; simp only [c, if_true]; exact Ev.now _
  · rw [if_neg c]; simp only [c, if_false]; exact Ev.now _
theorem lowT_mul {c num den : Int} (hc : 0 < c) (hd : 0 < den) : lowT (c * num) (c * den) = lowT num den := by
  unfold lowT
  have e : c * num % (c * den) = c * (num % den) := Int.mul_emod_mul_of_pos _ _ hc
  rw [e, Int.gcd_mul_left]
  have hg := gcd_pos' (a := num % den) hd
  have hcn : ((c.natAbs * Int.gcd (num % den) den : Nat) : Int) = c * (Int.gcd (num % den) den : Int) := by
    rw [Int.natCast_mul, Int.natAbs_of_nonneg (by omega)]
  rw [hcn, Int.mul_ediv_mul_of_pos _ _ hc, Int.mul_ediv_mul_of_pos _ _ hc]

end Go.Proofs.Ytjkkkinfclaikaa.P

/- Marks that are laid into a result are found again: at turns; lists of turns are equal to themselves. -/
namespace Go.Proofs.Ytjkkkinfclaikaa.P
open Go.RowKit Go.Proofs.YtjkkkinfclaikaaW.PrintWords Go.Proofs.YtjkkkinfclaikaaW.PrintLast
set_option linter.unusedVariables false
set_option linter.unusedSimpArgs false

abbrev ITurn := S75
theorem rd_getT (l : List ITurn) (i : Nat) (h : i < l.length) : rd_T75 l i = l[i] := by
  show l.getD (i : Int).toNat _ = _
  rw [Int.toNat_natCast, List.getD_eq_getElem?_getD, List.getElem?_eq_getElem h]; rfl
def marksT (n : Nat) : List ITurn := (List.range n).map fun i => ⟨1 + 2 * (i : Nat), 2 + 2 * (i : Nat)⟩
theorem marksT_length (n : Nat) : (marksT n).length = n := by simp [marksT]
theorem marksT_succ (n : Nat) : marksT (n + 1) = marksT n ++ [⟨1 + 2 * (n : Nat), 2 + 2 * (n : Nat)⟩] := by simp [marksT, List.range_succ]
theorem rd_setT (l : List ITurn) (i : Nat) (v : ITurn) (h : i < l.length) : rd_T75 (l.set i v) i = v := by
  rw [rd_getT _ _ (by simpa using h)]
  simp
theorem markTurnS_l (l : List ITurn) (hn : l.length ≤ 3000000000000000000) : ∀ (d i : Nat), i + d = l.length → ∀ k, d < k →
    laws_markTurnS.l0 k (marksT i ++ l.drop i) (1 + 2 * (i : Nat) : Int) i = some ((1 + 2 * (l.length : Nat) : Int), marksT l.length) := by
  intro d
  induction d with
  | zero =>
    intro i hi k hk
    obtain ⟨k, rfl⟩ : ∃ m, k = m + 1 := ⟨k - 1, by omega⟩
    simp only [laws_markTurnS.l0]
    have : i = l.length := by omega
    subst this
    rw [if_neg (by simp [marksT_length])]
    simp
  | succ d ih =>
    intro i hi k hk
    obtain ⟨k, rfl⟩ : ∃ m, k = m + 1 := ⟨k - 1, by omega⟩
    have hlen : i < (marksT i ++ l.drop i).length := by simp [marksT_length]; omega
    simp only [laws_markTurnS.l0]
    rw [if_pos (by omega), if_pos (by omega)]
    simp only [Option.bind_some, Int.toNat_natCast]
    rw [rd_setT _ _ _ hlen]
    simp only [List.set_set]
    rw [wsm (n := 1 + 2 * (i : Int) + 1) (by omega) (by omega), wsm (n := 1 + 2 * (i : Int) + 1 + 1) (by omega) (by omega), wrap_succ (n := l.length) (by omega) (by omega)]
    rw [set_mid _ _ i _ (marksT_length i) (by simp; omega), List.drop_drop]
    have := ih (i + 1) (by omega) k (by omega)
    rw [marksT_succ, show (1 + 2 * ((i + 1 : Nat) : Int)) = 1 + 2 * (i : Int) + 1 + 1 by omega] at this
    rw [show (1 + 2 * (i : Int) + 1) = 2 + 2 * (i : Int) by omega]
    rw [show (1 + 2 * (i : Int) + 1 + 1) = 2 + 2 * (i : Int) + 1 by omega] at this
    exact this
theorem markTurnS_ev (l : List ITurn) (hn : l.length ≤ 3000000000000000000) : Ev (fun k => laws_markTurnS.f k l 1) ((1 + 2 * (l.length : Nat) : Int), marksT l.length) := by
  refine ⟨l.length + 1, fun k hk => ?_⟩
  have := markTurnS_l l hn l.length 0 (by omega) k (by omega)
  simpa [laws_markTurnS.f, marksT] using this
theorem heldTurnS_l (n : Nat) (hn : n ≤ 3000000000000000000) : ∀ (d i : Nat), i + d = n → ∀ k, d < k → laws_heldTurnS.l0 k (marksT n) (1 + 2 * (i : Nat) : Int) i = some (1 + 2 * (n : Nat) : Int) := by
  intro d
  induction d with
  | zero =>
    intro i hi k hk
    obtain ⟨k, rfl⟩ : ∃ m, k = m + 1 := ⟨k - 1, by omega⟩
    have : i = n := by omega
    subst this
    simp only [laws_heldTurnS.l0]
    rw [if_neg (by simp [marksT_length])]
  | succ d ih =>
    intro i hi k hk
    obtain ⟨k, rfl⟩ : ∃ m, k = m + 1 := ⟨k - 1, by omega⟩
    have hlt : i < (marksT n).length := by rw [marksT_length]; omega
    have hr : rd_T75 (marksT n) i = ⟨1 + 2 * (i : Nat), 2 + 2 * (i : Nat)⟩ := by rw [rd_getT _ _ hlt]; simp [marksT]
    simp only [laws_heldTurnS.l0]
    rw [hr]
    dsimp only
    rw [if_pos (by omega), if_pos (by omega), if_pos rfl, wsm (n := 1 + 2 * (i : Int) + 1) (by omega) (by omega), if_pos (by omega), wsm (n := 1 + 2 * (i : Int) + 1 + 1) (by omega) (by omega), wrap_succ (n := n) (by omega) (by omega)]
    have := ih (i + 1) (by omega) k (by omega)
    rw [show (1 + 2 * ((i + 1 : Nat) : Int)) = 1 + 2 * (i : Int) + 1 + 1 by omega] at this
    exact this
theorem heldTurnS_ev (n : Nat) (hn : n ≤ 3000000000000000000) : Ev (fun k => laws_heldTurnS.f k (marksT n) 1) (1 + 2 * (n : Nat) : Int) := by
  refine ⟨n + 1, fun k hk => ?_⟩
  have := heldTurnS_l n hn n 0 (by omega) k (by omega)
  simpa [laws_heldTurnS.f] using this
theorem eqTurnS_l (l : List ITurn) (hn : l.length ≤ 9223372036854775807) : ∀ (d i : Nat), i + d = l.length → ∀ k, d < k → laws_eqTurnS.l0 k l l i = some true := by
  intro d
  induction d with
  | zero =>
    intro i hi k hk
    obtain ⟨k, rfl⟩ : ∃ m, k = m + 1 := ⟨k - 1, by omega⟩
    simp only [laws_eqTurnS.l0]
    rw [if_neg (by omega)]
  | succ d ih =>
    intro i hi k hk
    obtain ⟨k, rfl⟩ : ∃ m, k = m + 1 := ⟨k - 1, by omega⟩
    simp only [laws_eqTurnS.l0]
    rw [if_pos (by omega), if_pos (by omega), if_pos (by omega)]
    simp only [laws_eqTurn.f, if_true, Option.bind_some]
    rw [wrap_succ (n := l.length) (by omega) hn]
    exact ih (i + 1) (by omega) k (by omega)
theorem eqTurnS_self (l : List ITurn) (hn : l.length ≤ 9223372036854775807) : Ev (fun k => laws_eqTurnS.f k l l) true :=
  ⟨l.length + 1, fun k hk => by
    have := eqTurnS_l l hn l.length 0 (by omega) k (by omega)
    simpa [laws_eqTurnS.f] using this⟩

end Go.Proofs.Ytjkkkinfclaikaa.P

/- The pure law of SolutionTimes: for all puzzles of at most 1048576 clues the program's answer is the reference's, the argument stays, and the answer is new memory. -/
namespace Go.Proofs.Ytjkkkinfclaikaa.Pure
open Go.RowKit Go.Proofs.Ytjkkkinfclaikaa.P Go.Proofs.YtjkkkinfclaikaaW.PrintWords Go.Proofs.YtjkkkinfclaikaaW.PrintLast
set_option linter.unusedVariables false
set_option linter.unusedSimpArgs false

def timeF (h m : Int) : ITurn := ⟨(lowT m (60 * h)).1, (lowT m (60 * h)).2⟩
def timesB (h : Int) (l : List IClue) : List ITurn × Bool := if puzzleOk h l = true then ((sols h l).map (timeF h), true) else ([], false)
theorem SolutionTimes_len (h : Int) (l : List IClue) : (timesB h l).1.length ≤ 1440 := by
  unfold timesB
  split
  · next hp => rw [List.length_map]; exact sols_length (puzzleOk_facts hp).2.1 l
  · simp
theorem solsFrom_in (h : Int) (l : List IClue) : ∀ (d : Nat) (m x : Int), x ∈ solsFrom h l d m → m ≤ x ∧ x < m + d
  | 0, _, _, hx => by simp [solsFrom] at hx
  | d + 1, m, x, hx => by
    simp only [solsFrom] at hx
    split at hx
    · rcases List.mem_cons.1 hx with rfl | hx
      · omega
      · have := solsFrom_in h l d (m + 1) x hx; omega
    · have := solsFrom_in h l d (m + 1) x hx; omega
theorem sols_in {h : Int} (h1 : 2 ≤ h) (l : List IClue) (x : Int) (hx : x ∈ sols h l) : 0 ≤ x ∧ x < 60 * h := by
  have := solsFrom_in h l _ 0 x hx
  omega
theorem map_take_succ {α β : Type} (f : α → β) (l : List α) (i : Nat) (h : i < l.length) : (l.take i).map f ++ [f l[i]] = (l.take (i + 1)).map f := by
  rw [List.take_succ_eq_append_getElem h, List.map_append]; rfl
theorem impl_times_l {h : Int} (h1 : 2 ≤ h) (h2 : h ≤ 24) (l : List IClue) (L : List Int) (hL : L.length ≤ 1440) (hx : ∀ x ∈ L, 0 ≤ x ∧ x < 60 * h) : ∀ (d i : Nat), i + d = L.length → Ev (fun k => impl_SolutionTimes.l0 k ((L.take i).map (timeF h)) L (L.length : Int) i h l) (L.map (timeF h), true) := by
  intro d
  induction d with
  | zero =>
    intro i hi
    refine ev_succ ?_
    simp only [impl_SolutionTimes.l0]
    refine ev_neg (by omega) ?_
    rw [List.take_of_length_le (by omega)]
    exact Ev.now _
  | succ d ih =>
    intro i hi
    have hlt : i < L.length := by omega
    have hm := hx _ (List.getElem_mem hlt)
    refine ev_succ ?_
    simp only [impl_SolutionTimes.l0]
    refine ev_pos (by omega) (ev_pos (by omega) (ev_pos (by omega) ?_))
    rw [rd_at L i hlt, wsm (n := 60 * h) (by omega) (by omega)]
    refine Ev.bind (part_ev (by omega) (by omega) (by omega) (by omega)) ?_
    refine ev_pos (by simp; omega) ?_
    rw [wrap_succ (n := 2000) (by omega) (by omega)]
    have := ih (i + 1) (by omega)
    rw [← map_take_succ _ _ _ hlt] at this
    exact this
theorem diTime_ev {h m : Int} (h1 : 2 ≤ h) (h2 : h ≤ 24) (m0 : 0 ≤ m) (m1 : m < 60 * h) : Ev (fun k => spec_diTime.f k h (wrap64 (Int.tdiv m 60)) (Int.tmod m 60) 0) (lowT m (60 * h)) := by
  unfold spec_diTime.f
  rw [Int.tdiv_eq_ediv_of_nonneg m0, Int.tmod_eq_emod_of_nonneg m0, wsm (n := m / 60) (by omega) (by omega), wsm (n := m / 60 * 60) (by omega) (by omega), wsm (n := m / 60 * 60 + m % 60) (by omega) (by omega)]
  rw [wsm (n := (m / 60 * 60 + m % 60) * 60) (by omega) (by omega), wsm (n := h * 3600) (by omega) (by omega), wsm (n := (m / 60 * 60 + m % 60) * 60 + 0) (by omega) (by omega)]
  rw [show (m / 60 * 60 + m % 60) * 60 + 0 = 60 * m by omega, show h * 3600 = 60 * (60 * h) by omega]
  refine Ev.bind (make_ev (by omega) (by omega)) ?_
  unfold makeB
  rw [lowT_mul (by omega) (by omega)]
  have hb : (lowT m (60 * h)).2 ≤ 60 * h := by
    unfold lowT
    exact Int.ediv_le_self _ (by omega)
  rw [if_neg (by omega)]
  exact Ev.now _
theorem spec_times_l {h : Int} (h1 : 2 ≤ h) (h2 : h ≤ 24) (l : List IClue) (L : List Int) (hL : L.length ≤ 1440) (hx : ∀ x ∈ L, 0 ≤ x ∧ x < 60 * h) : ∀ (d i : Nat), i + d = L.length → Ev (fun k => spec_SolutionTimes.l0 k ((L.take i).map (timeF h)) L (L.length : Int) i h l) (L.map (timeF h), true) := by
  intro d
  induction d with
  | zero =>
    intro i hi
    refine ev_succ ?_
    simp only [spec_SolutionTimes.l0]
    refine ev_neg (by omega) ?_
    rw [List.take_of_length_le (by omega)]
    exact Ev.now _
  | succ d ih =>
    intro i hi
    have hlt : i < L.length := by omega
    have hm := hx _ (List.getElem_mem hlt)
    refine ev_succ ?_
    simp only [spec_SolutionTimes.l0]
    refine ev_pos (by omega) (ev_pos (by omega) (ev_pos (by omega) ?_))
    rw [rd_at L i hlt]
    refine Ev.bind (diTime_ev h1 h2 hm.1 hm.2) ?_
    refine ev_pos (by simp; omega) ?_
    rw [wrap_succ (n := 2000) (by omega) (by omega)]
    have := ih (i + 1) (by omega)
    rw [← map_take_succ _ _ _ hlt] at this
    exact this
theorem spec_SolutionTimes_ev (h : Int) (l : List IClue) (hn : l.length ≤ 1048576) : Ev (fun k => spec_SolutionTimes.f k h l) (timesB h l) := by
  unfold spec_SolutionTimes.f timesB
  refine pz_ev h l hn (fun h1 h2 h3 h4 => Ev.bind (pzAll_ev h1 h2 l (by omega) h4) ?_)
  have := spec_times_l h1 h2 l (sols h l) (sols_length h2 l) (sols_in h1 l) (sols h l).length 0 (by omega)
  exact this
theorem impl_SolutionTimes_ev (h : Int) (l : List IClue) (hn : l.length ≤ 1048576) : Ev (fun k => impl_SolutionTimes.f k h l) (timesB h l) := by
  unfold impl_SolutionTimes.f timesB
  refine Ev.bind (implSolutions_ev h l) ?_
  unfold solsB
  by_cases hp : puzzleOk h l = true
  · simp only [hp, if_true]
    obtain ⟨h1, h2, h3, h4⟩ := puzzleOk_facts hp
    have := impl_times_l h1 h2 l (sols h l) (sols_length h2 l) (sols_in h1 l) (sols h l).length 0 (by omega)
    exact this
  · simp only [Bool.not_eq_true] at hp
    simp only [hp, Bool.false_eq_true, if_false]
    exact Ev.now _
theorem FnExactSolutionTimes : FnExactSolutionTimes.Pure := by
  rintro ⟨h, l⟩ ⟨_, hl, hs, _⟩
  have hs : l.length * 24 ≤ 140737488351232 := hs
  refine Ev.rounds ?_
  simp only [laws_FnExactSolutionTimes.f]
  refine sz_law hs (fun hlen => ?_)
  have hm := cv_length l hlen
  have hr := SolutionTimes_len h (l.map cv)
  refine Ev.bind (toPuzzle_ev h l hs) ?_
  refine Ev.bind (spec_SolutionTimes_ev h _ hm) ?_
  refine Ev.bind (toPuzzle_ev h l hs) ?_
  refine Ev.bind (impl_SolutionTimes_ev h _ hm) ?_
  refine Ev.bind (eqTurnS_self (timesB h (l.map cv)).1 (by omega)) ?_
  simp only [if_true, bne_self_eq_false]
  refine ev_succ ?_
  simp only [laws_FnExactSolutionTimes.j0, Bool.false_eq_true, if_false]
  refine Ev.bind (toPuzzle_ev h l hs) ?_
  refine Ev.bind (eqPuzzle_self h _ (by omega)) ?_
  simp only [if_true]
  refine Ev.bind (markPuzzle_ev h _ (by omega)) ?_
  refine ev_neg (by first | omega | (dsimp only; omega)) ?_
  refine Ev.bind (eqTurnS_self (timesB h (l.map cv)).1 (by omega)) ?_
  simp only [if_true, bne_self_eq_false]
  refine ev_succ ?_
  simp only [laws_FnExactSolutionTimes.j1, Bool.false_eq_true, if_false]
  refine Ev.bind (markTurnS_ev (timesB h (l.map cv)).1 (by omega)) ?_
  refine Ev.bind (heldTurnS_ev (timesB h (l.map cv)).1.length (by omega)) ?_
  refine ev_neg (by first | omega | (dsimp only; omega)) ?_
  refine ev_pos rfl ?_
  refine Ev.bind (toPuzzle_ev h l hs) ?_
  refine Ev.bind (impl_SolutionTimes_ev h _ hm) ?_
  refine Ev.bind (eqTurnS_self (timesB h (l.map cv)).1 (by omega)) ?_
  simp only [if_true, bne_self_eq_false]
  refine ev_succ ?_
  simp only [laws_FnExactSolutionTimes.j2, Bool.false_eq_true, if_false]
  refine Ev.bind (heldTurnS_ev (timesB h (l.map cv)).1.length (by omega)) ?_
  refine ev_neg (by first | omega | (dsimp only; omega)) ?_
  refine ev_pos rfl ?_
  exact Ev.now _

end Go.Proofs.Ytjkkkinfclaikaa.Pure

/- What can be read as data at a type is a value of that type's kind: for parameters that are structs, slices of structs and slices of texts; no conditions of its own. -/
namespace Go.Proofs.Ytjkkkinfclaikaa.Opn
open Go.ChangeShapes Go.WideShapes Go.Proofs.YtjkkkinfclaikaaW.PrintWords
set_option linter.unusedVariables false
set_option linter.unusedSimpArgs false

def Opn {α : Type} (P : Program) (t : TypeId) (d : Kd α) (Q : α → Prop) : Prop :=
  d.sz = P.cellsOf t ∧ ∀ (H : Type) (enc : TypeId × Value → H) (W : World) (fuel : Nat) (cs : List Value) (x : DataW H × List MemPlace),
    DataW.trod enc P W 0 (fun _ => true) true fuel t cs = some x → (x.1.weights P t).all (· ≤ reachBytes) = true → ∃ y, d.K W y cs ∧ Q y

def OpnFs {α : Type} (P : Program) (fs : List Field) (o : Nat) (d : Kd α) (Q : α → Prop) : Prop :=
  ∀ (H : Type) (enc : TypeId × Value → H) (W : World) (fuel : Nat) (cs : List Value) (xs : List (DataW H × List MemPlace)),
    xs.length = fs.length → (∀ (i : Nat) (f : Field), fs[i]? = some f → DataW.trod enc P W 0 (fun _ => true) true fuel f.type ((cs.drop f.offset).take (P.cellsOf f.type)) = xs[i]?) →
    (DataW.weightsEach P (fs.map (·.type)) (xs.map (·.1))).all (· ≤ reachBytes) = true → cs.length = o + d.sz → ∃ y, d.K W y (cs.drop o) ∧ Q y

theorem opn_int {P : Program} {t : TypeId} {k : IntKind} (hu : P.underlying t = some (.int k)) (hc : P.cellsOf t = 1) : Opn P t (Kd.int k) (fun n => (Lit.int k n).wf = true) := by
  refine ⟨hc.symm, ?_⟩
  intro H enc W fuel cs x h _
  obtain ⟨n, rfl, _, hw⟩ := DataW.trod_int hu h
  exact ⟨n, rfl, hw⟩

theorem opn_bool {P : Program} {t : TypeId} (hu : P.underlying t = some .bool) (hc : P.cellsOf t = 1) : Opn P t Kd.bool (fun _ => True) := by
  refine ⟨hc.symm, ?_⟩
  intro H enc W fuel cs x h _
  obtain ⟨b, rfl, _⟩ := DataW.trod_bool hu h
  exact ⟨b, rfl, trivial⟩

theorem opn_string {P : Program} {t : TypeId} (hu : P.underlying t = some .string) (hc : P.cellsOf t = 1) : Opn P t Kd.string (fun s => s.size ≤ 140737488351232) := by
  refine ⟨hc.symm, ?_⟩
  intro H enc W fuel cs x h hw
  obtain ⟨s, rfl, rfl, _⟩ := DataW.trod_string hu h
  refine ⟨s, rfl, ?_⟩
  simp [DataW.weights, reachBytes] at hw
  exact of_decide_eq_true hw

theorem weightsAll_mem {H : Type} {P : Program} {e : TypeId} : ∀ {ds : List (DataW H)} {d : DataW H}, d ∈ ds → ∀ n ∈ d.weights P e, n ∈ DataW.weightsAll P e ds
  | d0 :: ds, d, hd, n, hn => by
    simp only [DataW.weightsAll, List.mem_append]
    rcases List.mem_cons.1 hd with rfl | h
    · exact .inl hn
    · exact .inr (weightsAll_mem h n hn)

theorem cells_get {w : World} {a : Addr} : ∀ (n : Nat) {cs : List Value}, w.cells? 0 a n = some cs → cs.length = n ∧ ∀ i u, cs[i]? = some u → w.cell? (a.add i) = some u := by
  intro n cs h
  unfold World.cells? at h
  rw [if_pos (Nat.zero_le _)] at h
  have hl := mapM_some_length h
  simp only [List.length_range] at hl
  refine ⟨hl, fun i u hu => ?_⟩
  have hi : i < n := by
    rcases Nat.lt_or_ge i n with h' | h'
    · exact h'
    · rw [List.getElem?_eq_none (by omega)] at hu; cases hu
  have := mapM_some_get h i i (List.getElem?_range hi)
  rw [this, hu]

theorem opn_slice {α : Type} {P : Program} {t e : TypeId} {d : Kd α} {Q : α → Prop} (hu : P.underlying t = some (.slice e)) (hc : P.cellsOf t = 1) (hd : Opn P e d Q) :
    Opn P t (Kd.slice e d) (fun xs => xs.length ≤ maxLen ∧ xs.length * P.bytesOf e ≤ 140737488351232 ∧ ∀ x ∈ xs, Q x) := by
  refine ⟨hc.symm, ?_⟩
  intro H enc W fuel cs x h hw
  rcases DataW.trod_slice hu h with ⟨rfl, rfl⟩ | ⟨a, len, cap, elems, rest, n, _, rfl, rfl, _, hl, hm, hlen, hel, _, _⟩
  · exact ⟨[], ⟨none, 0, rfl, Nat.le_refl _, ⟨rfl, by simp, fun h0 => absurd h0 (by simp)⟩⟩, by simp, by simp, by simp⟩
  · simp only [DataW.weights, hu, List.all_cons, Bool.and_eq_true, decide_eq_true_eq, List.length_map] at hw
    obtain ⟨hw1, hw2⟩ := hw
    have hall : ∀ i, i < len → ∃ (c : List Value) (y : α), (c.length = d.sz ∧ d.K W y c ∧ ∀ j u, c[j]? = some u → W.cell? (a.add (i * d.sz + j)) = some u) ∧ Q y := by
      intro i hi
      have h1 := hel i hi
      obtain ⟨z, hz⟩ : ∃ z, elems[i]? = some z := ⟨_, List.getElem?_eq_getElem (by omega)⟩
      rw [hz] at h1
      obtain ⟨c, hcs, ht⟩ := Option.bind_eq_some_iff.1 h1
      obtain ⟨hcl, hcg⟩ := cells_get _ hcs
      have hzw : (z.1.weights P e).all (· ≤ reachBytes) = true := by
        rw [List.all_eq_true]
        intro m hm'
        have := List.all_eq_true.1 hw2 m (List.mem_append.2 (.inl (weightsAll_mem (List.mem_map_of_mem (List.mem_of_getElem? hz)) m hm')))
        simpa using this
      obtain ⟨y, hk, hq⟩ := hd.2 H enc W n c z ht hzw
      refine ⟨c, y, ⟨by rw [hcl, hd.1], hk, fun j u hj => ?_⟩, hq⟩
      have := hcg j u hj
      rw [hd.1]
      rw [Addr.add_add] at this
      exact this
    obtain ⟨ys, hyl, hys⟩ : ∃ ys : List α, ys.length = len ∧ ∀ i, (hi : i < ys.length) → ∃ c : List Value, (c.length = d.sz ∧ d.K W ys[i] c ∧ ∀ j u, c[j]? = some u → W.cell? (a.add (i * d.sz + j)) = some u) ∧ Q ys[i] := by
      clear hel hw1 hw2 hlen hl h hm
      revert hall
      generalize len = L
      intro hall
      induction L with
      | zero => exact ⟨[], rfl, fun i hi => absurd hi (by simp)⟩
      | succ k ih =>
        obtain ⟨ys, hyl, hys⟩ := ih (fun i hi => hall i (by omega))
        obtain ⟨c, y, hy⟩ := hall k (by omega)
        refine ⟨ys ++ [y], by simp [hyl], fun i hi => ?_⟩
        by_cases hik : i < ys.length
        · rw [List.getElem_append_left hik]
          exact hys i hik
        · have : i = k := by simp at hi; omega
          subst this
          rw [List.getElem_append_right (by omega)]
          simp only [hyl, Nat.sub_self, List.getElem_cons_zero]
          exact ⟨c, hy⟩
    refine ⟨ys, ⟨some a, cap, by rw [hyl], by omega, ⟨rfl, by rw [hyl]; unfold maxLen at hm; omega, fun _ => ⟨a, rfl, fun j p hj => ?_⟩⟩⟩, by rw [hyl]; omega, ?_, ?_⟩
    · have hjl : j < ys.length := by
        rcases Nat.lt_or_ge j ys.length with h' | h'
        · exact h'
        · rw [List.getElem?_eq_none h'] at hj; cases hj
      obtain ⟨c, ⟨h1, h2, h3⟩, _⟩ := hys j hjl
      rw [List.getElem?_eq_getElem hjl] at hj
      cases hj
      exact ⟨c, h1, h2, h3⟩
    · have : len * P.bytesOf e ≤ reachBytes := Nat.le_trans (Nat.mul_le_mul_right _ (by omega)) hw1
      rw [hyl]
      exact this
    · intro y hy
      obtain ⟨i, hi, rfl⟩ := List.getElem_of_mem hy
      obtain ⟨_, _, hq⟩ := hys i hi
      exact hq

theorem opnFs_one {α : Type} {P : Program} {f : Field} {o : Nat} {d : Kd α} {Q : α → Prop} (ho : f.offset = o) (h : Opn P f.type d Q) : OpnFs P [f] o d Q := by
  intro H enc W fuel cs xs hl hx hw hc
  obtain ⟨x, rfl⟩ : ∃ x, xs = [x] := by
    match xs, hl with
    | [x], _ => exact ⟨x, rfl⟩
  have h1 := hx 0 f rfl
  simp only [List.getElem?_cons_zero] at h1
  rw [ho, List.take_of_length_le (by rw [List.length_drop, ← h.1]; omega)] at h1
  exact h.2 H enc W fuel _ x h1 (by simpa [DataW.weightsEach] using hw)

theorem opnFs_cons {α β : Type} {P : Program} {f : Field} {fs : List Field} {o : Nat} {a : Kd α} {b : Kd β} {Q1 : α → Prop} {Q2 : β → Prop} (ho : f.offset = o) (h1 : Opn P f.type a Q1) (h2 : OpnFs P fs (o + a.sz) b Q2) :
    OpnFs P (f :: fs) o (Kd.pair a b) (fun y => Q1 y.1 ∧ Q2 y.2) := by
  intro H enc W fuel cs xs hl hx hw hc
  obtain ⟨x, xs, rfl⟩ : ∃ x r, xs = x :: r := by
    cases xs with
    | nil => simp at hl
    | cons x r => exact ⟨x, r, rfl⟩
  have hc' : cs.length = o + (a.sz + b.sz) := hc
  have e1 := hx 0 f rfl
  simp only [List.getElem?_cons_zero] at e1
  simp only [List.map_cons, DataW.weightsEach, List.all_append, Bool.and_eq_true] at hw
  rw [ho, ← h1.1] at e1
  obtain ⟨y1, k1, q1⟩ := h1.2 H enc W fuel _ x e1 hw.1
  obtain ⟨y2, k2, q2⟩ := h2 H enc W fuel cs xs (by simpa using hl) (fun i g hg => by
    have := hx (i + 1) g (by simpa using hg)
    simpa using this) hw.2 (by omega)
  refine ⟨(y1, y2), ⟨(cs.drop o).take a.sz, cs.drop (o + a.sz), ?_, k1, k2⟩, q1, q2⟩
  rw [← List.drop_drop, List.take_append_drop]

theorem opn_struct {α : Type} {P : Program} {t : TypeId} {fs : Array Field} {d : Kd α} {Q : α → Prop} (hu : P.underlying t = some (.struct fs)) (hc : d.sz = P.cellsOf t) (h : OpnFs P fs.toList 0 d Q) : Opn P t d Q := by
  refine ⟨hc, ?_⟩
  intro H enc W fuel cs x hx hw
  obtain ⟨xs, n, _, rfl, hl, hlen, hf⟩ := DataW.trod_struct hu hx
  have := h H enc W n cs xs (by simpa using hlen) (fun i f hi => hf i f (by simpa using hi)) (by simpa [DataW.weights, hu] using hw) (by omega)
  simpa using this

theorem opn_iso {α β : Type} {P : Program} {t : TypeId} {d : Kd α} {Q : α → Prop} {f : β → α} (g : α → β) (hg : ∀ y, f (g y) = y) (h : Opn P t d Q) : Opn P t (Kd.iso d f) (fun x => Q (f x)) := by
  refine ⟨h.1, ?_⟩
  intro H enc W fuel cs x hx hw
  obtain ⟨y, hk, hq⟩ := h.2 H enc W fuel cs x hx hw
  exact ⟨g y, by show d.K W (f (g y)) cs; rw [hg]; exact hk, by show Q (f (g y)); rw [hg]; exact hq⟩

theorem opn_use {α : Type} {P : Program} {t : TypeId} {d : Kd α} {Q : α → Prop} (h : Opn P t d Q) {H : Type} {enc : TypeId × Value → H} {W : World} {v : Value} {D : DataW H} {ps : List MemPlace} {ts : List TypeId} {ds : List (DataW H)} {j : Nat}
    (hsz : (DataW.weightsEach P ts ds).all (· ≤ reachBytes) = true) (ht : ts[j]? = some t) (hd : ds[j]? = some D) (hx : DataW.Trod enc P W 0 (fun _ => true) true t v D ps) : ∃ y, d.K W y v.cells.toList ∧ Q y := by
  obtain ⟨fuel, hf⟩ := hx
  refine h.2 H enc W fuel _ (D, ps) hf ?_
  rw [List.all_eq_true]
  intro n hn
  exact List.all_eq_true.1 hsz n (DataW.weights_mem_each ht hd n hn)

theorem trod_places {P : Program} {H : Type} {enc : TypeId × Value → H} {W : World} {t : TypeId} {v : Value} {D : DataW H} {ps : List MemPlace} (h : DataW.Trod enc P W 0 (fun _ => true) true t v D ps) : ∀ x ∈ ps, x.block < W.heap.size := by
  obtain ⟨m, hm⟩ := h
  exact DataW.trod_lt m _ _ _ hm

end Go.Proofs.Ytjkkkinfclaikaa.Opn
