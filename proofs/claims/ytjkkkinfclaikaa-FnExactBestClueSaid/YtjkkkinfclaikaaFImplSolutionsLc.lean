-- written by wip/gen.py (this session's) with the kit's printer; Lean checks it.
import Derived.Test.YtjkkkinfclaikaaK
import Derived.Test.YtjkkkinfclaikaaFImplFits
import Derived.Test.YtjkkkinfclaikaaHofClue
namespace Go.Proofs.Ytjkkkinfclaikaa.P
open Go.RowKit Go.Proofs.YtjkkkinfclaikaaW.PrintWords Go.Proofs.YtjkkkinfclaikaaW.PrintLast Go.Proofs.YtjkkkinfclaikaaW.PrintMore
attribute [local go_sem] max2_int min2_int max_two min_two max_three min_three max_four min_four
set_option linter.unusedVariables false
set_option linter.unusedSimpArgs false

/-! ### impl_solutions: function 71 -/
def impl_solutions.q (h m : Int) (x : S38) : Option Bool := (impl_fits.f h m x.f0 x.f1 x.f2).bind fun b => some (!b)
def impl_solutions.l0 : Nat → Int → List (S38) → List Int → Int → Option (List Int)
  | 0, _, _, _, _ => none
  | k + 1, h, l, out, m => if m < wrap64 (60 * h) then ((anyO (impl_solutions.q h m) l).bind fun b => if b = true then impl_solutions.l0 k h l out (wrap64 (m + 1)) else if out.length < 17592186044416 then impl_solutions.l0 k h l (out ++ [m]) (wrap64 (m + 1)) else none) else some out
def impl_solutions.f (k : Nat) (a0 : Int) (l1 : List (S38)) : Option (List Int) := impl_solutions.l0 k a0 l1 [] 0
theorem impl_solutions.mono_l : ∀ k h l out m, LeO (impl_solutions.l0 k h l out m) (impl_solutions.l0 (k + 1) h l out m)
  | 0, _, _, _, _ => fun r h => by simp [impl_solutions.l0] at h
  | k + 1, h, l, out, m => by
    have ih := impl_solutions.mono_l k
    rw [impl_solutions.l0, impl_solutions.l0]
    exact LeO.ite (LeO.bind (LeO.refl _) (fun b => LeO.ite (ih _ _ _ _) (LeO.ite (ih _ _ _ _) (LeO.none _)))) (LeO.refl _)
theorem impl_solutions.mono : ∀ a0 l1 k, LeO (impl_solutions.f k a0 l1) (impl_solutions.f (k + 1) a0 l1) := fun a0 l1 k => impl_solutions.mono_l k a0 l1 [] 0
theorem impl_solutions.lit (h m : Int) (b1 b2 : Nat) (w : World) (hb1 : b1 < w.heap.size) (hc1 : w.cell? ⟨b1, 0, none⟩ = some (.int .i64 h)) (hb2 : b2 < w.heap.size) (hc2 : w.cell? ⟨b2, 0, none⟩ = some (.int .i64 m)) :
    PredO Try.prog 86 #[.pointer (some ⟨b1, 0, none⟩), .pointer (some ⟨b2, 0, none⟩)] (fun x : S38 => .agg #[.int .i64 x.f0, .int .i64 x.f1, .int .i64 x.f2]) (impl_solutions.q h m) w := by
  intro W x r hB hq
  obtain ⟨t, ht, hr⟩ := Option.bind_eq_some_iff.mp hq
  cases Option.some.inj hr
  have e1 : (W.alloc (.cells #[.int .i64 x.f0, .int .i64 x.f1, .int .i64 x.f2] 38)).cell? ⟨b1, 0, none⟩ = some (.int .i64 h) := by
    rw [World.cell?_alloc_past _ _ _ (Nat.lt_of_lt_of_le hb1 hB.size)]; exact (hB.cell (p := ⟨b1, 0, none⟩) hb1).trans hc1
  have e2 : (W.alloc (.cells #[.int .i64 x.f0, .int .i64 x.f1, .int .i64 x.f2] 38)).cell? ⟨b2, 0, none⟩ = some (.int .i64 m) := by
    rw [World.cell?_alloc_past _ _ _ (Nat.lt_of_lt_of_le hb2 hB.size)]; exact (hB.cell (p := ⟨b2, 0, none⟩) hb2).trans hc2
  have hBB := Aside0.mk hB
  have hT := Aside0.mk ht
  clear hq hB hc1 hc2 ht
  go_enter Try.func86, Try.ntmps86
  go_wp2_with (go_at_call 87; refine (impl_fits.calls h m x.f0 x.f1 x.f2 t _ hT.out).mono ?_; rintro e w' ⟨rfl, hd⟩)
  go_ret
  exact ⟨rfl, (hBB.out.alloc (Nat.le_trans hBB.out.size (Nat.le_refl _)) _).trans (hd.mono (by simp; have := hBB.out.size; omega))⟩
set_option maxHeartbeats 4000000 in
set_option maxRecDepth 100000 in
theorem impl_solutions.calls (k : Nat) (a0 : Int) (A1 : Option Addr) (c1 : Nat) (l1 : List (S38)) (r : List Int) (w : World) (hr1 : Kd.C k38 w A1 l1.length l1) (hc1 : l1.length ≤ c1) (h : impl_solutions.f k a0 l1 = some r) :
    Calls Try.prog 71 #[.int .i64 a0, .slice A1 l1.length c1] w fun e w' => ∃ v0_ : Value, e = .returned (v0_) ∧ Kd.R (Kd.int .i64) 3 w' w.heap.size (fun _ => True) v0_ r ∧ Below w.heap.size w w' := by
  have hmf : ∀ (fn : Fn) (first cap : Array Value) (w : World), (Instr.makeFunc fn first cap).run Try.prog w = .ok (.func fn first cap) w := fun _ _ _ _ => rfl
  have eg : ∀ args w, (callFunc 86 args).run Try.prog w = .ok (.enter 86 args) w := fun _ _ => rfl
  have hui := Try.underlying48
  have HR1 := Aside0.mk hr1
  have H' := Aside0.mk (show impl_solutions.l0 k a0 l1 [] 0 = some r from h)
  clear hr1 h
  go_enter Try.func71, Try.ntmps71
  go_wp2
  go_loopg [5, 10] k (fun kq v5 v10 wr => ∃ (out : List Int) (m : Int), v10 = .int .i64 m ∧ Aside0 (impl_solutions.l0 kq a0 l1 out m = some r) ∧ Aside0 (Kd.R (Kd.int .i64) 3 wr w.heap.size (fun k => k ≠ w.heap.size) v5 out) ∧ Aside0 (wr.heap[w.heap.size]? = some (.cells #[.int .i64 a0] 3 (0, 0))) ∧ Aside0 (Below w.heap.size w wr))
  case atStart =>
    have hsz : (w.alloc (.cells #[.int .i64 a0] 3)).heap.size = w.heap.size + 1 := by simp
    have h0 := R_lit0 (Kd.int .i64) 3 (w.alloc (.cells #[.int .i64 a0] 3)) w.heap.size (fun k => k ≠ w.heap.size) (by omega) (by omega)
    rw [hsz] at h0
    exact ⟨[], 0, rfl, H', ⟨h0⟩, ⟨blk_alloc (blk_new _ _) _⟩, ⟨below_alloc (below_alloc (Below.refl _ _) _) _⟩⟩
  case round =>
    clear H'
    obtain ⟨out, m, rfl, HA, HO, BK, HB⟩ := hrel
    have hlt := blk_lt BK.out
    cases gk with
    | zero => exact absurd HA.out (by simp [impl_solutions.l0])
    | succ k1 =>
      have H := HA.out
      clear HA
      simp only [impl_solutions.l0] at H
      by_cases c3 : m < wrap64 (60 * a0)
      · rw [if_pos c3] at H
        have c3b : decide (m < wrap64 (60 * a0)) = true := decide_eq_true c3
        clear c3
        obtain ⟨b, hb, H⟩ := Option.bind_eq_some_iff.mp H
        have HQ := Aside0.mk hb
        clear hb
        cases b with
        | true =>
          rw [if_pos rfl] at H
          have H' := Aside0.mk H
          clear H
          go_wp2_with (go_at_call 81; refine (clue_ContainsFunc 86 _ eg (impl_solutions.q a0 m) A1 c1 l1 true _ (impl_solutions.lit a0 m w.heap.size wr.heap.size _ (by simp; omega) (blk_cell (blk_alloc BK.out _) 0) (by simp) (by go_simp)) (Kd.C_below HR1.out (below_alloc HB.out _)) hc1 HQ.out).mono ?_; rintro e w2 ⟨rfl, hb2⟩; have hcm : w2.cell? ⟨wr.heap.size, 0, none⟩ = some (.int .i64 m) := (hb2.cell (p := ⟨wr.heap.size, 0, none⟩) (by simp)).trans (by go_simp); have BK2 := Aside0.mk (blk_below (blk_alloc BK.out (.cells #[.int .i64 m] 3)) hb2); have HB2 := Aside0.mk (below_step (below_alloc HB.out (.cells #[.int .i64 m] 3)) hb2); have HO2 := Aside0.mk (Kd.R_below (Kd.R_alloc HO.out (.cells #[.int .i64 m] 3)) hb2); clear hb2)
          go_roundg k1
          case measure => omega
          case rel => exact ⟨out, _, rfl, H', HO2, BK2, HB2⟩
        | false =>
          rw [if_neg (by decide)] at H
          by_cases c4 : out.length < 17592186044416
          · rw [if_pos c4] at H
            have H' := Aside0.mk H
            have C4 := Aside0.mk c4
            clear H c4
            go_wp2_with (first | (go_at_call 81; refine (clue_ContainsFunc 86 _ eg (impl_solutions.q a0 m) A1 c1 l1 false _ (impl_solutions.lit a0 m w.heap.size wr.heap.size _ (by simp; omega) (blk_cell (blk_alloc BK.out _) 0) (by simp) (by go_simp)) (Kd.C_below HR1.out (below_alloc HB.out _)) hc1 HQ.out).mono ?_; rintro e w2 ⟨rfl, hb2⟩; have hcm : w2.cell? ⟨wr.heap.size, 0, none⟩ = some (.int .i64 m) := (hb2.cell (p := ⟨wr.heap.size, 0, none⟩) (by simp)).trans (by go_simp); have BK2 := Aside0.mk (blk_below (blk_alloc BK.out (.cells #[.int .i64 m] 3)) hb2); have HB2 := Aside0.mk (below_step (below_alloc HB.out (.cells #[.int .i64 m] 3)) hb2); have HO2 := Aside0.mk (Kd.R_below (Kd.R_alloc HO.out (.cells #[.int .i64 m] 3)) hb2); clear hb2) | (at_builtin; refine Kd.R_append (Kd.int .i64) (w0 := w) w.heap.size rfl (.tmp 17) (.tmp 19) 48 3 (.int .i64 0) 8 rfl hui info3 rfl (by decide) (by omega) u5 out m [.int .i64 m] (fun k => k ≠ w.heap.size) (fun _ => False) rfl rfl ?aP (fun _ hk => hk.elim) ?aF HO2.out HB2.out HB2.out.size ?aL ?_; (case aP => exact rfl); (case aF => (intro k hk; have := blk_lt BK2.out; omega)); (case aL => have := C4.out; omega); intro v1 w3 ho hb3 hg3 hat; have HO3 := Aside0.mk ho; have HB3 := Aside0.mk hb3; have BK3 := Aside0.mk (blk_grown BK2.out hg3 (own_ne HO2.out)); clear ho hb3 hg3 hat))
            go_roundg k1
            case measure => omega
            case rel => exact ⟨out ++ [m], _, rfl, H', HO3, BK3, HB3⟩
          · rw [if_neg c4] at H; cases H
      · rw [if_neg c3] at H
        have c3b : decide (m < wrap64 (60 * a0)) = false := decide_eq_false c3
        clear c3
        have HE := Aside0.mk (Option.some.inj H)
        clear H
        go_wp2
        go_ret
        exact ⟨_, rfl, HE.out ▸ Kd.R_mono HO.out (fun _ _ => trivial), HB.out⟩

end Go.Proofs.Ytjkkkinfclaikaa.P
