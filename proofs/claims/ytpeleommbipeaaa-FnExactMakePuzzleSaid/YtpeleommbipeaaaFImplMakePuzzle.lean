-- written by wip/gen.py (this session's) with the kit's printer; Lean checks it.
import Derived.Test.YtpeleommbipeaaaK
import Derived.Test.YtpeleommbipeaaaFImplIsMinute
import Derived.Test.YtpeleommbipeaaaFImplTold
import Derived.Test.YtpeleommbipeaaaFImplWithin
import Derived.Test.YtpeleommbipeaaaHof
import Derived.Shelf.Abstract
namespace Go.Proofs.Ytpeleommbipeaaa.P
open Go.RowKit Go.Proofs.YtpeleommbipeaaaW.PrintWords Go.Proofs.YtpeleommbipeaaaW.PrintLast Go.Proofs.YtpeleommbipeaaaW.PrintMore
attribute [local go_sem] max2_int min2_int max_two min_two max_three min_three max_four min_four
set_option linter.unusedVariables false
set_option linter.unusedSimpArgs false

/-! ### impl_MakePuzzle: function 8 -/
def impl_MakePuzzle.nx (z : Int) : Int := Int.tmod (wrap64 ((wrap64 (z * 163)) + 2917)) 10009
def impl_MakePuzzle.l0 : Nat → Int → Int → Int → Int → Int → List (S38) → Option (Int × (List (S38)) × Bool)
  | 0, _, _, _, _, _, _ => none
  | k + 1, h, m, n, z, i, acc => if i < n then (if Int.tmod (impl_MakePuzzle.nx z) 6 = 1 then ((impl_told.f h m (Int.tmod (impl_MakePuzzle.nx z) 6) (wrap64 ((Int.tmod (impl_MakePuzzle.nx (impl_MakePuzzle.nx z)) 59) + 2))).bind fun t => if acc.length < 5864062014805 then impl_MakePuzzle.l0 k h m n (impl_MakePuzzle.nx (impl_MakePuzzle.nx z)) (wrap64 (i + 1)) (acc ++ [⟨t.1, t.2.1, t.2.2⟩]) else none) else ((impl_told.f h m (Int.tmod (impl_MakePuzzle.nx z) 6) 0).bind fun t => if acc.length < 5864062014805 then impl_MakePuzzle.l0 k h m n (impl_MakePuzzle.nx z) (wrap64 (i + 1)) (acc ++ [⟨t.1, t.2.1, t.2.2⟩]) else none)) else some (h, acc, true)
def impl_MakePuzzle.f (k : Nat) (a0 : Int) (a1 : Int) (a2 : Int) (a3 : Int) : Option (Int × (List (S38)) × Bool) := (impl_isMinute.f a0 a1).bind fun t => if t = true then ((impl_within.f a2 0 6).bind fun u => if u = true then ((impl_within.f a3 0 9999).bind fun v => if v = true then impl_MakePuzzle.l0 k a0 a1 a2 a3 0 [] else some (0, [], false)) else some (0, [], false)) else some (0, [], false)
theorem impl_MakePuzzle.mono_l : ∀ k h m n z i acc, LeO (impl_MakePuzzle.l0 k h m n z i acc) (impl_MakePuzzle.l0 (k + 1) h m n z i acc)
  | 0, _, _, _, _, _, _ => fun r h => by simp [impl_MakePuzzle.l0] at h
  | k + 1, h, m, n, z, i, acc => by
    have ih := impl_MakePuzzle.mono_l k
    rw [impl_MakePuzzle.l0, impl_MakePuzzle.l0]
    exact LeO.ite (LeO.ite (LeO.bind (LeO.refl _) (fun t => LeO.ite (ih _ _ _ _ _ _) (LeO.none _))) (LeO.bind (LeO.refl _) (fun t => LeO.ite (ih _ _ _ _ _ _) (LeO.none _)))) (LeO.refl _)
theorem impl_MakePuzzle.mono : ∀ a0 a1 a2 a3 k, LeO (impl_MakePuzzle.f k a0 a1 a2 a3) (impl_MakePuzzle.f (k + 1) a0 a1 a2 a3) := by
  intro a0 a1 a2 a3 k
  unfold impl_MakePuzzle.f
  exact LeO.bind (LeO.refl _) (fun t => LeO.ite (LeO.bind (LeO.refl _) (fun u => LeO.ite (LeO.bind (LeO.refl _) (fun v => LeO.ite (impl_MakePuzzle.mono_l k _ _ _ _ _ _) (LeO.refl _))) (LeO.refl _))) (LeO.refl _))
set_option maxHeartbeats 2000000 in
set_option maxRecDepth 100000 in
theorem impl_MakePuzzle.lit (b : Nat) (n z : Int) (hn : ¬ n = 0) (W : World) (hb : W.heap[b]? = some (.cells #[.int .i64 z] 3 (0, 0))) :
    Calls Try.prog 43 #[.int .i64 n, .pointer (some ⟨b, 0, none⟩)] W fun e w' => e = .returned (.int .i64 (Int.tmod (impl_MakePuzzle.nx z) n)) ∧ w' = W.setCell ⟨b, 0, none⟩ (.int .i64 (impl_MakePuzzle.nx z)) := by
  have hc : W.cell? ⟨b, 0, none⟩ = some (.int .i64 z) := (blk_cell hb 0).trans rfl
  have hf := blk_frozen hb 0
  have HBB := Aside0.mk hb
  clear hb
  go_enter Try.func43, Try.ntmps43
  go_wp2
  go_ret
  exact ⟨rfl, rfl⟩
theorem impl_MakePuzzle.lit6 (b : Nat) (kd z : Int) (hk : kd = Int.tmod (impl_MakePuzzle.nx z) 6) (W : World) (hb : W.heap[b]? = some (.cells #[.int .i64 z] 3 (0, 0))) :
    Calls Try.prog 43 #[.int .i64 6, .pointer (some ⟨b, 0, none⟩)] W fun e w' => e = .returned (.int .i64 kd) ∧ w' = W.setCell ⟨b, 0, none⟩ (.int .i64 (impl_MakePuzzle.nx z)) := by
  rw [hk]
  exact impl_MakePuzzle.lit b 6 z (by decide) W hb
def impl_MakePuzzle.T10 : Bool × List (List Nat × List Nat) := (true, [([], []), ([0], [0]), ([], []), ([], []), ([], []), ([], []), ([2, 3, 4, 5], [2, 3, 4, 5]), ([6], [6]), ([1, 7, 6], [1, 7]), ([0, 1, 2, 3, 4, 5, 6, 7, 8], []), ([9, 8, 8, 0, 1, 2, 3, 4, 5, 6, 7, 8], [8, 9])])
def impl_MakePuzzle.B10 : List Nat := [0, 1, 0, 0, 0, 0, 60, 124, 255, 511, 1023]
theorem impl_MakePuzzle.tab10 : rtab .any (opsOf Try.f8 10) = impl_MakePuzzle.T10 := by kernel_rfl
theorem impl_MakePuzzle.bits10 : waitsOk impl_MakePuzzle.T10.2 impl_MakePuzzle.B10 = true := by kernel_rfl
set_option maxHeartbeats 8000000 in
set_option maxRecDepth 100000 in
theorem impl_MakePuzzle.calls (k : Nat) (a0 : Int) (a1 : Int) (a2 : Int) (a3 : Int) (r1 : Int) (r2 : List (S38)) (r3 : Bool) (w : World) (h : impl_MakePuzzle.f k a0 a1 a2 a3 = some (r1, r2, r3)) :
    Calls Try.prog 8 #[.int .i64 a0, .int .i64 a1, .int .i64 a2, .int .i64 a3] w fun e w' => ∃ v1_ : Value, e = .returned (.tuple #[.agg #[.int .i64 r1, v1_], .bool r3]) ∧ Kd.R k38 38 w' w.heap.size (fun _ => True) v1_ r2 ∧ Below w.heap.size w w' := by
  have hmf : ∀ (fn : Fn) (first cap : Array Value) (w : World), (Instr.makeFunc fn first cap).run Try.prog w = .ok (.func fn first cap) w := fun _ _ _ _ => rfl
  have eg : ∀ args w, (callFunc 43 args).run Try.prog w = .ok (.enter 43 args) w := fun _ _ => rfl
  have hu24 := Try.underlying24
  have hu38 := Try.underlying38
  unfold impl_MakePuzzle.f at h
  obtain ⟨t, ht, h1⟩ := Option.bind_eq_some_iff.mp h
  have HT := Aside0.mk ht
  have HB := Aside0.mk (Below.refl w.heap.size w)
  clear ht h
  cases t with
  | false =>
    simp only [Bool.false_eq_true, if_false, Option.some.injEq, Prod.mk.injEq] at h1
    obtain ⟨rfl, rfl, rfl⟩ := h1
    go_enter Try.func8, Try.ntmps8
    go_wp2_with (first | ((with_reducible refine gate_dst (N := 7) rfl ?_); refine box_event ?hg (N := 7) ?hd (cs := #[.int .i64 a3]) (t := 3) ?hr ?_; (case hd => rfl); (case hg => rfl); (case hr => first | (go_simp; done) | (go_simp; rfl)); intro gs hg wgs hbox hb; have n0_ := Aside0.mk (below_step HB.out hb); have BS := Aside0.mk hbox; have GS : Aside0 (w.heap.size ≤ gs) := ⟨by rw [hg]; exact below_size HB.out⟩; clear HB; have HB := n0_; clear n0_; have hcs : wgs.cell? ⟨gs, 0, none⟩ = some (.int .i64 a3) := (blk_cell BS.out 0).trans rfl; have HCS := Aside0.mk hcs; clear hcs; clear hb hbox hg) | ((with_reducible refine gate_dst (N := 8) rfl ?_); refine box_event ?hg (N := 8) ?hd (cs := #[.int .i64 0, .slice none 0 0]) (t := 24) ?hr ?_; (case hd => rfl); (case hg => rfl); (case hr => first | (go_simp; done) | (go_simp; rfl)); intro gr hg wgr hbox hb; have n0_ := Aside0.mk (below_step HB.out hb); have n1_ := Aside0.mk (blk_below BS.out hb); have BR := Aside0.mk hbox; have GR : Aside0 (w.heap.size ≤ gr) := ⟨by rw [hg]; exact below_size HB.out⟩; have NSR : Aside0 (gs ≠ gr) := ⟨by rw [hg]; exact Nat.ne_of_lt (blk_lt BS.out)⟩; have NRS : Aside0 (gr ≠ gs) := ⟨by rw [hg]; exact Nat.ne_of_gt (blk_lt BS.out)⟩; clear HB BS HCS; have HB := n0_; have BS := n1_; clear n0_ n1_; have hcs : wgr.cell? ⟨gs, 0, none⟩ = some (.int .i64 a3) := (blk_cell BS.out 0).trans rfl; have hr0 : wgr.cell? ⟨gr, 0, none⟩ = some (.int .i64 0) := (blk_cell BR.out 0).trans rfl; have hr1 : wgr.cell? ⟨gr, 1, none⟩ = some (.slice none 0 0) := (blk_cell BR.out 1).trans rfl; have fr0 := blk_frozen BR.out 0; have fr1 := blk_frozen BR.out 1; clear hb hbox hg) | (go_at_call 41; (with_reducible refine (impl_isMinute.calls a0 a1 false _ HT.out).mono ?_); rintro e w' ⟨rfl, ⟨nd, rfl⟩⟩))
    refine bodyPost_ret (results_ct rfl _ _ gr 24 #[.int .i64 0, .slice none 0 0] (0, 0) _ rfl (by (with_reducible repeat (first | refine blk_drewN ?_ _ | refine blk_drew ?_ | refine blk_alloc ?_ _)); refine blk_put (cs := #[.int .i64 0, .slice none 0 0]) ?_ 1 _ rfl; (with_reducible repeat (first | refine blk_drewN ?_ _ | refine blk_drew ?_ | refine blk_alloc ?_ _)); refine blk_put (cs := #[.int .i64 0, .slice none 0 0]) ?_ 0 _ rfl; (with_reducible repeat (first | refine blk_drewN ?_ _ | refine blk_drew ?_ | refine blk_alloc ?_ _)); exact BR.out) Try.underlying24 rfl (by kernel_rfl)) rfl ?_
    exact ⟨_, rfl, Kd.R_nil _ _ _ _ _, (by repeat (first | (with_reducible first | exact HB.out | apply below_alloc | apply pw_below_drewN | apply below_drew1 | refine below_set ?_ GS.out | refine below_set ?_ GR.out) | exact HB.out))⟩
  | true =>
    simp only [if_true] at h1
    obtain ⟨u, hu, h2⟩ := Option.bind_eq_some_iff.mp h1
    have HU := Aside0.mk hu
    clear hu h1
    cases u with
    | false =>
      simp only [Bool.false_eq_true, if_false, Option.some.injEq, Prod.mk.injEq] at h2
      obtain ⟨rfl, rfl, rfl⟩ := h2
      go_enter Try.func8, Try.ntmps8
      go_wp2_with (first | ((with_reducible refine gate_dst (N := 7) rfl ?_); refine box_event ?hg (N := 7) ?hd (cs := #[.int .i64 a3]) (t := 3) ?hr ?_; (case hd => rfl); (case hg => rfl); (case hr => first | (go_simp; done) | (go_simp; rfl)); intro gs hg wgs hbox hb; have n0_ := Aside0.mk (below_step HB.out hb); have BS := Aside0.mk hbox; have GS : Aside0 (w.heap.size ≤ gs) := ⟨by rw [hg]; exact below_size HB.out⟩; clear HB; have HB := n0_; clear n0_; have hcs : wgs.cell? ⟨gs, 0, none⟩ = some (.int .i64 a3) := (blk_cell BS.out 0).trans rfl; have HCS := Aside0.mk hcs; clear hcs; clear hb hbox hg) | ((with_reducible refine gate_dst (N := 8) rfl ?_); refine box_event ?hg (N := 8) ?hd (cs := #[.int .i64 0, .slice none 0 0]) (t := 24) ?hr ?_; (case hd => rfl); (case hg => rfl); (case hr => first | (go_simp; done) | (go_simp; rfl)); intro gr hg wgr hbox hb; have n0_ := Aside0.mk (below_step HB.out hb); have n1_ := Aside0.mk (blk_below BS.out hb); have BR := Aside0.mk hbox; have GR : Aside0 (w.heap.size ≤ gr) := ⟨by rw [hg]; exact below_size HB.out⟩; have NSR : Aside0 (gs ≠ gr) := ⟨by rw [hg]; exact Nat.ne_of_lt (blk_lt BS.out)⟩; have NRS : Aside0 (gr ≠ gs) := ⟨by rw [hg]; exact Nat.ne_of_gt (blk_lt BS.out)⟩; clear HB BS HCS; have HB := n0_; have BS := n1_; clear n0_ n1_; have hcs : wgr.cell? ⟨gs, 0, none⟩ = some (.int .i64 a3) := (blk_cell BS.out 0).trans rfl; have hr0 : wgr.cell? ⟨gr, 0, none⟩ = some (.int .i64 0) := (blk_cell BR.out 0).trans rfl; have hr1 : wgr.cell? ⟨gr, 1, none⟩ = some (.slice none 0 0) := (blk_cell BR.out 1).trans rfl; have fr0 := blk_frozen BR.out 0; have fr1 := blk_frozen BR.out 1; clear hb hbox hg) | (go_at_call 41; (with_reducible refine (impl_isMinute.calls a0 a1 true _ HT.out).mono ?_); rintro e w' ⟨rfl, ⟨nd, rfl⟩⟩) | (go_at_call 42; (with_reducible refine (impl_within.calls a2 0 6 false _ HU.out).mono ?_); rintro e w' ⟨rfl, ⟨nd, rfl⟩⟩))
      refine bodyPost_ret (results_ct rfl _ _ gr 24 #[.int .i64 0, .slice none 0 0] (0, 0) _ rfl (by (with_reducible repeat (first | refine blk_drewN ?_ _ | refine blk_drew ?_ | refine blk_alloc ?_ _)); refine blk_put (cs := #[.int .i64 0, .slice none 0 0]) ?_ 1 _ rfl; (with_reducible repeat (first | refine blk_drewN ?_ _ | refine blk_drew ?_ | refine blk_alloc ?_ _)); refine blk_put (cs := #[.int .i64 0, .slice none 0 0]) ?_ 0 _ rfl; (with_reducible repeat (first | refine blk_drewN ?_ _ | refine blk_drew ?_ | refine blk_alloc ?_ _)); exact BR.out) Try.underlying24 rfl (by kernel_rfl)) rfl ?_
      exact ⟨_, rfl, Kd.R_nil _ _ _ _ _, (by repeat (first | (with_reducible first | exact HB.out | apply below_alloc | apply pw_below_drewN | apply below_drew1 | refine below_set ?_ GS.out | refine below_set ?_ GR.out) | exact HB.out))⟩
    | true =>
      simp only [if_true] at h2
      obtain ⟨v, hv, h3⟩ := Option.bind_eq_some_iff.mp h2
      have HV := Aside0.mk hv
      clear hv h2
      cases v with
      | false =>
        simp only [Bool.false_eq_true, if_false, Option.some.injEq, Prod.mk.injEq] at h3
        obtain ⟨rfl, rfl, rfl⟩ := h3
        go_enter Try.func8, Try.ntmps8
        go_wp2_with (first | ((with_reducible refine gate_dst (N := 7) rfl ?_); refine box_event ?hg (N := 7) ?hd (cs := #[.int .i64 a3]) (t := 3) ?hr ?_; (case hd => rfl); (case hg => rfl); (case hr => first | (go_simp; done) | (go_simp; rfl)); intro gs hg wgs hbox hb; have n0_ := Aside0.mk (below_step HB.out hb); have BS := Aside0.mk hbox; have GS : Aside0 (w.heap.size ≤ gs) := ⟨by rw [hg]; exact below_size HB.out⟩; clear HB; have HB := n0_; clear n0_; have hcs : wgs.cell? ⟨gs, 0, none⟩ = some (.int .i64 a3) := (blk_cell BS.out 0).trans rfl; have HCS := Aside0.mk hcs; clear hcs; clear hb hbox hg) | ((with_reducible refine gate_dst (N := 8) rfl ?_); refine box_event ?hg (N := 8) ?hd (cs := #[.int .i64 0, .slice none 0 0]) (t := 24) ?hr ?_; (case hd => rfl); (case hg => rfl); (case hr => first | (go_simp; done) | (go_simp; rfl)); intro gr hg wgr hbox hb; have n0_ := Aside0.mk (below_step HB.out hb); have n1_ := Aside0.mk (blk_below BS.out hb); have BR := Aside0.mk hbox; have GR : Aside0 (w.heap.size ≤ gr) := ⟨by rw [hg]; exact below_size HB.out⟩; have NSR : Aside0 (gs ≠ gr) := ⟨by rw [hg]; exact Nat.ne_of_lt (blk_lt BS.out)⟩; have NRS : Aside0 (gr ≠ gs) := ⟨by rw [hg]; exact Nat.ne_of_gt (blk_lt BS.out)⟩; clear HB BS HCS; have HB := n0_; have BS := n1_; clear n0_ n1_; have hcs : wgr.cell? ⟨gs, 0, none⟩ = some (.int .i64 a3) := (blk_cell BS.out 0).trans rfl; have hr0 : wgr.cell? ⟨gr, 0, none⟩ = some (.int .i64 0) := (blk_cell BR.out 0).trans rfl; have hr1 : wgr.cell? ⟨gr, 1, none⟩ = some (.slice none 0 0) := (blk_cell BR.out 1).trans rfl; have fr0 := blk_frozen BR.out 0; have fr1 := blk_frozen BR.out 1; clear hb hbox hg) | (go_at_call 41; (with_reducible refine (impl_isMinute.calls a0 a1 true _ HT.out).mono ?_); rintro e w' ⟨rfl, ⟨nd, rfl⟩⟩) | (go_at_call 42; (with_reducible refine (impl_within.calls a2 0 6 true _ HU.out).mono ?_); rintro e w' ⟨rfl, ⟨nd, rfl⟩⟩) | (go_at_call 42; (with_reducible refine (impl_within.calls a3 0 9999 false _ HV.out).mono ?_); rintro e w' ⟨rfl, ⟨nd, rfl⟩⟩))
        refine bodyPost_ret (results_ct rfl _ _ gr 24 #[.int .i64 0, .slice none 0 0] (0, 0) _ rfl (by (with_reducible repeat (first | refine blk_drewN ?_ _ | refine blk_drew ?_ | refine blk_alloc ?_ _)); refine blk_put (cs := #[.int .i64 0, .slice none 0 0]) ?_ 1 _ rfl; (with_reducible repeat (first | refine blk_drewN ?_ _ | refine blk_drew ?_ | refine blk_alloc ?_ _)); refine blk_put (cs := #[.int .i64 0, .slice none 0 0]) ?_ 0 _ rfl; (with_reducible repeat (first | refine blk_drewN ?_ _ | refine blk_drew ?_ | refine blk_alloc ?_ _)); exact BR.out) Try.underlying24 rfl (by kernel_rfl)) rfl ?_
        exact ⟨_, rfl, Kd.R_nil _ _ _ _ _, (by repeat (first | (with_reducible first | exact HB.out | apply below_alloc | apply pw_below_drewN | apply below_drew1 | refine below_set ?_ GS.out | refine below_set ?_ GR.out) | exact HB.out))⟩
      | true =>
        simp only [if_true] at h3
        have H' := Aside0.mk h3
        clear h3
        go_enter Try.func8, Try.ntmps8
        go_wp2_with (first | ((with_reducible refine gate_dst (N := 7) rfl ?_); refine box_event ?hg (N := 7) ?hd (cs := #[.int .i64 a3]) (t := 3) ?hr ?_; (case hd => rfl); (case hg => rfl); (case hr => first | (go_simp; done) | (go_simp; rfl)); intro gs hg wgs hbox hb; have n0_ := Aside0.mk (below_step HB.out hb); have BS := Aside0.mk hbox; have GS : Aside0 (w.heap.size ≤ gs) := ⟨by rw [hg]; exact below_size HB.out⟩; clear HB; have HB := n0_; clear n0_; have hcs : wgs.cell? ⟨gs, 0, none⟩ = some (.int .i64 a3) := (blk_cell BS.out 0).trans rfl; have HCS := Aside0.mk hcs; clear hcs; clear hb hbox hg) | ((with_reducible refine gate_dst (N := 8) rfl ?_); refine box_event ?hg (N := 8) ?hd (cs := #[.int .i64 0, .slice none 0 0]) (t := 24) ?hr ?_; (case hd => rfl); (case hg => rfl); (case hr => first | (go_simp; done) | (go_simp; rfl)); intro gr hg wgr hbox hb; have n0_ := Aside0.mk (below_step HB.out hb); have n1_ := Aside0.mk (blk_below BS.out hb); have BR := Aside0.mk hbox; have GR : Aside0 (w.heap.size ≤ gr) := ⟨by rw [hg]; exact below_size HB.out⟩; have NSR : Aside0 (gs ≠ gr) := ⟨by rw [hg]; exact Nat.ne_of_lt (blk_lt BS.out)⟩; have NRS : Aside0 (gr ≠ gs) := ⟨by rw [hg]; exact Nat.ne_of_gt (blk_lt BS.out)⟩; clear HB BS HCS; have HB := n0_; have BS := n1_; clear n0_ n1_; have hcs : wgr.cell? ⟨gs, 0, none⟩ = some (.int .i64 a3) := (blk_cell BS.out 0).trans rfl; have hr0 : wgr.cell? ⟨gr, 0, none⟩ = some (.int .i64 0) := (blk_cell BR.out 0).trans rfl; have hr1 : wgr.cell? ⟨gr, 1, none⟩ = some (.slice none 0 0) := (blk_cell BR.out 1).trans rfl; have fr0 := blk_frozen BR.out 0; have fr1 := blk_frozen BR.out 1; clear hb hbox hg) | (go_at_call 41; (with_reducible refine (impl_isMinute.calls a0 a1 true _ HT.out).mono ?_); rintro e w' ⟨rfl, ⟨nd, rfl⟩⟩) | (go_at_call 42; (with_reducible refine (impl_within.calls a2 0 6 true _ HU.out).mono ?_); rintro e w' ⟨rfl, ⟨nd, rfl⟩⟩) | (go_at_call 42; (with_reducible refine (impl_within.calls a3 0 9999 true _ HV.out).mono ?_); rintro e w' ⟨rfl, ⟨nd, rfl⟩⟩) | ((with_reducible refine gate_dst (N := 11) rfl ?_); refine box_event ?hg (N := 11) ?hd (cs := #[.int .i64 0, .slice none 0 0]) (t := 24) ?hr ?_; (case hd => rfl); (case hg => rfl); (case hr => first | (go_simp; done) | (go_simp; rfl)); intro go hg wgo hbox hb; have hbe : Below w.heap.size w wgo := below_step (by repeat (first | (with_reducible first | exact HB.out | apply below_alloc | apply pw_below_drewN | apply below_drew1 | refine below_set ?_ GS.out | refine below_set ?_ GR.out) | exact HB.out)) hb; have n0_ := Aside0.mk hbe; clear hbe; have n1_ := Aside0.mk (blk_below (g := gs) (o := .cells #[.int .i64 a3] 3 (0, 0)) (by (with_reducible repeat (first | refine blk_drewN ?_ _ | refine blk_drew ?_ | refine blk_alloc ?_ _)); exact BS.out) hb); have n2_ := Aside0.mk (blk_below (g := gr) (o := .cells #[.int .i64 0, .slice none 0 0] 24 (0, 0)) (by (with_reducible repeat (first | refine blk_drewN ?_ _ | refine blk_drew ?_ | refine blk_alloc ?_ _)); exact BR.out) hb); have BO := Aside0.mk hbox; have GO : Aside0 (w.heap.size ≤ go) := ⟨by rw [hg]; exact below_size (by repeat (first | (with_reducible first | exact HB.out | apply below_alloc | apply pw_below_drewN | apply below_drew1 | refine below_set ?_ GS.out | refine below_set ?_ GR.out) | exact HB.out))⟩; have NSO : Aside0 (gs ≠ go) := ⟨by rw [hg]; exact Nat.ne_of_lt (blk_lt BS.out)⟩; have NRO : Aside0 (gr ≠ go) := ⟨by rw [hg]; exact Nat.ne_of_lt (blk_lt BR.out)⟩; have NOR : Aside0 (go ≠ gr) := ⟨by rw [hg]; exact Nat.ne_of_gt (blk_lt BR.out)⟩; have NOS : Aside0 (go ≠ gs) := ⟨by rw [hg]; exact Nat.ne_of_gt (blk_lt BS.out)⟩; clear HB BS BR hcs hr0 hr1 fr0 fr1; have HB := n0_; have BS := n1_; have BR := n2_; clear n0_ n1_ n2_; have ho0 : wgo.cell? ⟨go, 0, none⟩ = some (.int .i64 0) := (blk_cell BO.out 0).trans rfl; have ho1 : wgo.cell? ⟨go, 1, none⟩ = some (.slice none 0 0) := (blk_cell BO.out 1).trans rfl; have fo0 := blk_frozen BO.out 0; have fo1 := blk_frozen BO.out 1; clear hb hbox hg))
        go_loopg [33] k (fun kq v33 wr => ∃ (z i : Int) (acc : List (S38)) (uo : Value), v33 = .int .i64 i ∧ Aside0 (impl_MakePuzzle.l0 kq a0 a1 a2 z i acc = some (r1, r2, r3)) ∧ Aside0 (Kd.R k38 38 wr w.heap.size (fun _ => True) uo acc) ∧ Aside0 (wr.heap[gs]? = some (.cells #[.int .i64 z] 3 (0, 0))) ∧ Aside0 (wr.heap[gr]? = some (.cells #[.int .i64 0, .slice none 0 0] 24 (0, 0))) ∧ Aside0 (wr.heap[go]? = some (.cells #[.int .i64 a0, uo] 24 (0, 0))) ∧ Aside0 (Below w.heap.size w wr))
        case atStart =>
          exact ⟨a3, 0, [], .slice none 0 0, rfl, H', ⟨Kd.R_nil _ _ _ _ _⟩, ⟨by (with_reducible repeat (first | refine blk_drewN ?_ _ | refine blk_drew ?_ | refine blk_alloc ?_ _)); refine blk_far ?_ NSO.out _; (with_reducible repeat (first | refine blk_drewN ?_ _ | refine blk_drew ?_ | refine blk_alloc ?_ _)); refine blk_far ?_ NSO.out _; (with_reducible repeat (first | refine blk_drewN ?_ _ | refine blk_drew ?_ | refine blk_alloc ?_ _)); exact BS.out⟩, ⟨by (with_reducible repeat (first | refine blk_drewN ?_ _ | refine blk_drew ?_ | refine blk_alloc ?_ _)); refine blk_far ?_ NRO.out _; (with_reducible repeat (first | refine blk_drewN ?_ _ | refine blk_drew ?_ | refine blk_alloc ?_ _)); refine blk_far ?_ NRO.out _; (with_reducible repeat (first | refine blk_drewN ?_ _ | refine blk_drew ?_ | refine blk_alloc ?_ _)); exact BR.out⟩, ⟨by (with_reducible repeat (first | refine blk_drewN ?_ _ | refine blk_drew ?_ | refine blk_alloc ?_ _)); refine blk_put (cs := #[.int .i64 a0, .slice none 0 0]) ?_ 1 _ rfl; (with_reducible repeat (first | refine blk_drewN ?_ _ | refine blk_drew ?_ | refine blk_alloc ?_ _)); refine blk_put (cs := #[.int .i64 0, .slice none 0 0]) ?_ 0 _ rfl; (with_reducible repeat (first | refine blk_drewN ?_ _ | refine blk_drew ?_ | refine blk_alloc ?_ _)); exact BO.out⟩, ⟨(by repeat (first | (with_reducible first | exact HB.out | apply below_alloc | apply pw_below_drewN | apply below_drew1 | refine below_set ?_ GS.out | refine below_set ?_ GR.out | refine below_set ?_ GO.out) | exact HB.out))⟩⟩
        case round =>
          clear H'
          (try clear ho0)
          (try clear ho1)
          (try clear fo0)
          (try clear fo1)
          clear HB BS BR BO
          obtain ⟨z, i, acc, uo, rfl, HA, HO, BS, BR, BO, HB⟩ := hrel
          cases gk with
          | zero => exact absurd HA.out (by simp [impl_MakePuzzle.l0])
          | succ k1 =>
            have H := HA.out
            clear HA
            simp only [impl_MakePuzzle.l0] at H
            by_cases c1 : i < a2
            · rw [if_pos c1] at H
              have c1b : decide (i < a2) = true := decide_eq_true c1
              clear c1
              by_cases c2 : Int.tmod (impl_MakePuzzle.nx z) 6 = 1
              · rw [if_pos c2] at H
                obtain ⟨⟨t1, t2, t3⟩, hto, H2⟩ := Option.bind_eq_some_iff.mp H
                clear H
                have H3 : (if acc.length < 5864062014805 then impl_MakePuzzle.l0 k1 a0 a1 a2 (impl_MakePuzzle.nx (impl_MakePuzzle.nx z)) (wrap64 (i + 1)) (acc ++ [⟨t1, t2, t3⟩]) else none) = some (r1, r2, r3) := H2
                clear H2
                by_cases c3 : acc.length < 5864062014805
                · rw [if_pos c3] at H3
                  have LM := Aside0.mk c3
                  obtain ⟨ya, hya⟩ : ∃ y_ : List (S38), y_ = acc ++ [(⟨t1, t2, t3⟩ : S38)] := ⟨_, rfl⟩
                  rw [← hya] at H3
                  have NY := Aside0.mk hya
                  have HX := Aside0.mk H3
                  clear c3 H3 hya
                  have hkd : ∃ kd, kd = Int.tmod (impl_MakePuzzle.nx z) 6 := ⟨_, rfl⟩
                  obtain ⟨kd, hkd⟩ := hkd
                  rw [← hkd] at hto c2
                  have HTo := Aside0.mk hto
                  clear hto
                  have c2b : (kd == 1) = true := beq_iff_eq.mpr c2
                  clear c2
                  have HKD := Aside0.mk hkd
                  clear hkd
                  go_wp2_with (first | (go_at_fn 43; refine (impl_MakePuzzle.lit6 gs kd z HKD.out _ BS.out).mono ?_; rintro e wz ⟨rfl, hwz⟩; have n0_ : Aside0 (Kd.R k38 38 wz w.heap.size (fun _ => True) uo acc) := ⟨by rw [hwz]; exact Kd.R_mono (Kd.R_far (p := ⟨gs, 0, none⟩) (Kd.R_types HO.out BS.out (by decide)) (fun _ hk => hk.2) _) (fun _ hk => trivial)⟩; have n1_ : Aside0 (wz.heap[gs]? = some (.cells #[.int .i64 (impl_MakePuzzle.nx (z))] 3 (0, 0))) := ⟨by rw [hwz]; exact (blk_set BS.out 0 _).trans rfl⟩; have n2_ : Aside0 (wz.heap[gr]? = some (.cells #[.int .i64 0, .slice none 0 0] 24 (0, 0))) := ⟨by rw [hwz]; exact blk_far BR.out NRS.out _⟩; have n3_ : Aside0 (wz.heap[go]? = some (.cells #[.int .i64 a0, uo] 24 (0, 0))) := ⟨by rw [hwz]; exact blk_far BO.out NOS.out _⟩; have n4_ : Aside0 (Below w.heap.size w wz) := ⟨by rw [hwz]; exact below_set HB.out GS.out⟩; clear HO BS BR BO HB hwz; have HO := n0_; have BS := n1_; have BR := n2_; have BO := n3_; have HB := n4_; clear n0_ n1_ n2_ n3_ n4_) | (go_at_fn 43; refine (impl_MakePuzzle.lit gs 59 (impl_MakePuzzle.nx z) (by decide) _ BS.out).mono ?_; rintro e wz ⟨rfl, hwz⟩; have n0_ : Aside0 (Kd.R k38 38 wz w.heap.size (fun _ => True) uo acc) := ⟨by rw [hwz]; exact Kd.R_mono (Kd.R_far (p := ⟨gs, 0, none⟩) (Kd.R_types HO.out BS.out (by decide)) (fun _ hk => hk.2) _) (fun _ hk => trivial)⟩; have n1_ : Aside0 (wz.heap[gs]? = some (.cells #[.int .i64 (impl_MakePuzzle.nx (impl_MakePuzzle.nx z))] 3 (0, 0))) := ⟨by rw [hwz]; exact (blk_set BS.out 0 _).trans rfl⟩; have n2_ : Aside0 (wz.heap[gr]? = some (.cells #[.int .i64 0, .slice none 0 0] 24 (0, 0))) := ⟨by rw [hwz]; exact blk_far BR.out NRS.out _⟩; have n3_ : Aside0 (wz.heap[go]? = some (.cells #[.int .i64 a0, uo] 24 (0, 0))) := ⟨by rw [hwz]; exact blk_far BO.out NOS.out _⟩; have n4_ : Aside0 (Below w.heap.size w wz) := ⟨by rw [hwz]; exact below_set HB.out GS.out⟩; clear HO BS BR BO HB hwz; have HO := n0_; have BS := n1_; have BR := n2_; have BO := n3_; have HB := n4_; clear n0_ n1_ n2_ n3_ n4_))
                  try go_wp2
                  have n0_ := Aside0.mk (Kd.R_drew HO.out)
                  have n1_ := Aside0.mk (blk_drew BS.out)
                  have n2_ := Aside0.mk (blk_drew BR.out)
                  have n3_ := Aside0.mk (blk_drew BO.out)
                  have n4_ := Aside0.mk (below_drew1 HB.out)
                  clear HO BS BR BO HB
                  have HO := n0_
                  have BS := n1_
                  have BR := n2_
                  have BO := n3_
                  have HB := n4_
                  clear n0_ n1_ n2_ n3_ n4_
                  refine start_ (n := 11) (S := fun w' => w'.cell? ⟨go, 0, none⟩ = some (.int .i64 a0) ∧ w'.cell? ⟨go, 1, none⟩ = some (uo)) (ds := [10]) #[false, false, false, false, false, false, false, false, false, false, false] (by kernel_rfl) rfl rfl ⟨(blk_cell BO.out 0).trans rfl, (blk_cell BO.out 1).trans rfl⟩ (fun hHeld => ?_); refine with_tabW impl_MakePuzzle.tab10 impl_MakePuzzle.bits10 (fun HT_ HW_ => ?_)
                  generalize wz.drew = wd at HO BS BR BO HB hHeld ⊢
                  refine pure_ (i := 0) (N := some 42) (v := ?_) (a' := ?_) #[true, false, false, false, false, false, false, false, false, false, false] rfl rfl (any_of HT_.out (by kernel_rfl)) (fun _ _ _ h => h) (Or.inl ⟨by rfl, ?_⟩) ?_ ?_
                  rotate_left
                  · intro w'
                    go_simp
                    with_reducible rfl
                  rotate_left
                  · simp only [Act.put, List.setIfInBounds_toArray, List.set_cons_zero, List.set_cons_succ, i64_w, i32_w]
                    rfl
                  refine pure_ (i := 2) (N := some 44) (v := ?_) (a' := ?_) #[true, false, true, false, false, false, false, false, false, false, false] rfl rfl (any_of HT_.out (by kernel_rfl)) (fun _ _ _ h => h) (Or.inl ⟨by rfl, ?_⟩) ?_ ?_
                  rotate_left
                  · intro w'
                    go_simp
                    with_reducible rfl
                  rotate_left
                  · simp only [Act.put, List.setIfInBounds_toArray, List.set_cons_zero, List.set_cons_succ, i64_w, i32_w]
                    rfl
                  refine pure_ (i := 3) (N := some 45) (v := ?_) (a' := ?_) #[true, false, true, true, false, false, false, false, false, false, false] rfl rfl (any_of HT_.out (by kernel_rfl)) (fun _ _ _ h => h) (Or.inl ⟨by rfl, ?_⟩) ?_ ?_
                  rotate_left
                  · intro w'
                    go_simp
                    with_reducible rfl
                  rotate_left
                  · simp only [Act.put, List.setIfInBounds_toArray, List.set_cons_zero, List.set_cons_succ, i64_w, i32_w]
                    rfl
                  refine pure_ (i := 4) (N := some 46) (v := ?_) (a' := ?_) #[true, false, true, true, true, false, false, false, false, false, false] rfl rfl (any_of HT_.out (by kernel_rfl)) (fun _ _ _ h => h) (Or.inl ⟨by rfl, ?_⟩) ?_ ?_
                  rotate_left
                  · intro w'
                    go_simp
                    with_reducible rfl
                  rotate_left
                  · simp only [Act.put, List.setIfInBounds_toArray, List.set_cons_zero, List.set_cons_succ, i64_w, i32_w]
                    rfl
                  refine pure_ (i := 5) (N := some 47) (v := ?_) (a' := ?_) #[true, false, true, true, true, true, false, false, false, false, false] rfl rfl (any_of HT_.out (by kernel_rfl)) (fun _ _ _ h => h) (Or.inl ⟨by rfl, ?_⟩) ?_ ?_
                  rotate_left
                  · intro w'
                    go_simp
                    with_reducible rfl
                  rotate_left
                  · simp only [Act.put, List.setIfInBounds_toArray, List.set_cons_zero, List.set_cons_succ, i64_w, i32_w]
                    rfl
                  refine take_ (i := 1) (N := some 43) (v := ?_) (a' := ?_) #[true, true, true, true, true, true, false, false, false, false, false] rfl rfl (take_ofW HT_.out HW_.out (by kernel_rfl)) (fun _ _ _ h => h) (Or.inl ⟨by rfl, ?_⟩) hHeld ?_ ?_
                  rotate_left
                  · rintro w' ⟨s0, s1⟩
                    go_simp
                    with_reducible rfl
                  rotate_left
                  · simp only [Act.put, List.setIfInBounds_toArray, List.set_cons_zero, List.set_cons_succ, i64_w, i32_w]
                    rfl
                  refine one_ (i := 6) (N := some 48) #[true, true, true, true, true, true, true, false, false, false, false] rfl rfl (one_of HT_.out (by kernel_rfl)) (by decide) (fun K hK => ?_)
                  refine goes_ Try.func44 (by kernel_rfl) rfl #[.int .i64 a0, .int .i64 a1, .int .i64 kd, .int .i64 (wrap64 ((Int.tmod (impl_MakePuzzle.nx (impl_MakePuzzle.nx z)) 59) + 2))] (by rfl) rfl rfl (by (try simp only [List.map_toArray, List.map_cons, List.map_nil]); first | done | rfl | (simp only [List.length_drop, List.length_take]; rfl)) ?_
                  with_reducible refine (impl_told.calls a0 a1 kd (wrap64 ((Int.tmod (impl_MakePuzzle.nx (impl_MakePuzzle.nx z)) 59) + 2)) t1 t2 t3 _ HTo.out).mono ?_
                  rintro e wt ⟨rfl, hb⟩
                  refine ⟨_, rfl, ?_⟩
                  have n0_ := Aside0.mk (Kd.R_below HO.out hb)
                  have n1_ := Aside0.mk (blk_below BS.out hb)
                  have n2_ := Aside0.mk (blk_below BR.out hb)
                  have n3_ := Aside0.mk (blk_below BO.out hb)
                  have n4_ := Aside0.mk (below_step HB.out hb)
                  clear HO BS BR BO HB
                  have HO := n0_
                  have BS := n1_
                  have BR := n2_
                  have BO := n3_
                  have HB := n4_
                  clear n0_ n1_ n2_ n3_ n4_
                  clear hb
                  refine hK.out _ _ ⟨(blk_cell BO.out 0).trans rfl, (blk_cell BO.out 1).trans rfl⟩ (fun hHeld => ?_)
                  clear hK K
                  refine norm_ (a' := ?_) ?_ ?_
                  rotate_left
                  · show Act.put _ (some 48) _ = _
                    simp only [Act.put, List.setIfInBounds_toArray, List.set_cons_zero, List.set_cons_succ, i64_w, i32_w]
                    rfl
                  refine one_ (i := 7) (N := some 49) #[true, true, true, true, true, true, true, true, false, false, false] rfl rfl (one_of HT_.out (by kernel_rfl)) (by decide) (fun K hK => ?_)
                  refine value_ (w1 := ?_) (v := ?_) (by rfl) rfl ?_ ?_
                  rotate_left 2
                  · go_simp
                    constructor
                    · rfl
                    · rfl
                  refine hK.out _ _ ⟨(blk_cell (blk_alloc BO.out _) 0).trans rfl, (blk_cell (blk_alloc BO.out _) 1).trans rfl⟩ (fun hHeld => ?_)
                  clear hK K
                  refine norm_ (a' := ?_) ?_ ?_
                  rotate_left
                  · show Act.put _ (some 49) _ = _
                    simp only [Act.put, List.setIfInBounds_toArray, List.set_cons_zero, List.set_cons_succ, i64_w, i32_w]
                    rfl
                  refine one_ (i := 8) (N := some 50) #[true, true, true, true, true, true, true, true, true, false, false] rfl rfl (one_of HT_.out (by kernel_rfl)) (by decide) (fun K hK => ?_)
                  refine Kd.R_append_step k38 (w0 := w) w.heap.size (by rfl) (.tmp 43) (.tmp 49) 22 38 (.agg #[(.int .i64 0), (.int .i64 0), (.int .i64 0)]) 24 rfl Try.underlying22 info38 rfl (by decide) (by omega) uo acc (⟨t1, t2, t3⟩ : S38) [.int .i64 t1, .int .i64 t2, .int .i64 t3] (fun _ => True) (fun _ => False) rfl rfl ?aP (fun _ hk => hk.elim) ?aF ?aO ?aB ?aS ?aL ?_
                  (case aP => exact k38_mkM _ _ _ (⟨t1, t2, t3⟩ : S38))
                  (case aB => exact (by repeat (first | (with_reducible first | exact HB.out | apply below_alloc | apply pw_below_drewN | apply below_drew1 | refine below_set ?_ GS.out | refine below_set ?_ GR.out | refine below_set ?_ GO.out) | exact HB.out)))
                  (case aF => exact (fun _ _ => trivial))
                  (case aO => exact (by (with_reducible repeat (first | apply Kd.R_alloc | apply Kd.R_drewN | apply Kd.R_drew)); exact HO.out))
                  (case aS => exact (below_size (by repeat (first | (with_reducible first | exact HB.out | apply below_alloc | apply pw_below_drewN | apply below_drew1 | refine below_set ?_ GS.out | refine below_set ?_ GR.out | refine below_set ?_ GO.out) | exact HB.out))))
                  (case aL => have := LM.out; omega)
                  intro va wa ho hb hg hat
                  rw [← NY.out] at ho
                  have n0_ := Aside0.mk (blk_grown (g := gs) (o := .cells #[.int .i64 (impl_MakePuzzle.nx (impl_MakePuzzle.nx z))] 3 (0, 0)) (by (with_reducible repeat (first | refine blk_drewN ?_ _ | refine blk_drew ?_ | refine blk_alloc ?_ _)); exact BS.out) hg (Kd.R_ne HO.out BS.out (by decide)))
                  have n1_ := Aside0.mk (blk_grown (g := gr) (o := .cells #[.int .i64 0, .slice none 0 0] 24 (0, 0)) (by (with_reducible repeat (first | refine blk_drewN ?_ _ | refine blk_drew ?_ | refine blk_alloc ?_ _)); exact BR.out) hg (Kd.R_ne HO.out BR.out (by decide)))
                  have n2_ := Aside0.mk (blk_grown (g := go) (o := .cells #[.int .i64 a0, uo] 24 (0, 0)) (by (with_reducible repeat (first | refine blk_drewN ?_ _ | refine blk_drew ?_ | refine blk_alloc ?_ _)); exact BO.out) hg (Kd.R_ne HO.out BO.out (by decide)))
                  have n3_ := Aside0.mk hb
                  have n4_ := Aside0.mk ho
                  clear HO BS BR BO HB
                  have HO := n4_
                  have BS := n0_
                  have BR := n1_
                  have BO := n2_
                  have HB := n3_
                  clear n0_ n1_ n2_ n3_ n4_
                  clear ho hb hg hat
                  obtain ⟨Ao, co, eo⟩ := Kd.R_slice HO.out
                  (first | subst eo | (injection eo with f1_ f2_ f3_; have f4_ := f1_.symm; have f5_ := f3_.symm; clear f1_ f2_ f3_; subst f4_; subst f5_))
                  refine hK.out _ _ ⟨(blk_cell BO.out 0).trans rfl, (blk_cell BO.out 1).trans rfl⟩ (fun hHeld => ?_)
                  clear hK K
                  refine norm_ (a' := ?_) ?_ ?_
                  rotate_left
                  · show Act.put _ (some 50) _ = _
                    simp only [Act.put, List.setIfInBounds_toArray, List.set_cons_zero, List.set_cons_succ, i64_w, i32_w]
                    rfl
                  refine pure_ (i := 9) (N := some 51) (v := ?_) (a' := ?_) #[true, true, true, true, true, true, true, true, true, true, false] rfl rfl (any_of HT_.out (by kernel_rfl)) (fun _ _ _ h => h) (Or.inl ⟨by rfl, ?_⟩) ?_ ?_
                  rotate_left
                  · intro w'
                    go_simp
                    with_reducible rfl
                  rotate_left
                  · simp only [Act.put, List.setIfInBounds_toArray, List.set_cons_zero, List.set_cons_succ, i64_w, i32_w]
                    rfl
                  refine last_ (i := 10) (N := none) #[true, true, true, true, true, true, true, true, true, true, true] rfl rfl (one_of HT_.out (by kernel_rfl)) (by decide) (fun K hK => ?_)
                  have hc7 : wa.cell? ⟨go, 1, none⟩ = some (uo) := (blk_cell BO.out 1).trans rfl
                  have hf7 := blk_frozen BO.out 1
                  refine skip_ (w1 := ?_) (by rfl) rfl ?_ ?_
                  rotate_left
                  · go_simp
                    rfl
                  refine hK.out _ _ ?_
                  clear hK K
                  refine done_ (done_of HT_.out (by kernel_rfl)) ?_
                  go_wp2
                  go_roundg k1
                  case measure => omega
                  case rel => exact ⟨_, _, ya, .slice Ao ya.length co, rfl, HX, ⟨by (with_reducible repeat (first | apply Kd.R_alloc | apply Kd.R_drewN | apply Kd.R_drew)); exact Kd.R_mono (Kd.R_far (p := ⟨go, 1, none⟩) (Kd.R_types HO.out BO.out (by decide)) (fun _ hk => hk.2) (.slice Ao ya.length co)) (fun _ hk => trivial)⟩, ⟨by (with_reducible repeat (first | refine blk_drewN ?_ _ | refine blk_drew ?_ | refine blk_alloc ?_ _)); refine blk_far ?_ NSO.out _; (with_reducible repeat (first | refine blk_drewN ?_ _ | refine blk_drew ?_ | refine blk_alloc ?_ _)); exact BS.out⟩, ⟨by (with_reducible repeat (first | refine blk_drewN ?_ _ | refine blk_drew ?_ | refine blk_alloc ?_ _)); refine blk_far ?_ NRO.out _; (with_reducible repeat (first | refine blk_drewN ?_ _ | refine blk_drew ?_ | refine blk_alloc ?_ _)); exact BR.out⟩, ⟨by (with_reducible repeat (first | refine blk_drewN ?_ _ | refine blk_drew ?_ | refine blk_alloc ?_ _)); refine blk_put (cs := #[.int .i64 a0, uo]) ?_ 1 _ rfl; (with_reducible repeat (first | refine blk_drewN ?_ _ | refine blk_drew ?_ | refine blk_alloc ?_ _)); exact BO.out⟩, ⟨(by repeat (first | (with_reducible first | exact HB.out | apply below_alloc | apply pw_below_drewN | apply below_drew1 | refine below_set ?_ GS.out | refine below_set ?_ GR.out | refine below_set ?_ GO.out) | exact HB.out))⟩⟩
                · rw [if_neg c3] at H3; cases H3
              · rw [if_neg c2] at H
                obtain ⟨⟨t1, t2, t3⟩, hto, H2⟩ := Option.bind_eq_some_iff.mp H
                clear H
                have H3 : (if acc.length < 5864062014805 then impl_MakePuzzle.l0 k1 a0 a1 a2 (impl_MakePuzzle.nx z) (wrap64 (i + 1)) (acc ++ [⟨t1, t2, t3⟩]) else none) = some (r1, r2, r3) := H2
                clear H2
                by_cases c3 : acc.length < 5864062014805
                · rw [if_pos c3] at H3
                  have LM := Aside0.mk c3
                  obtain ⟨ya, hya⟩ : ∃ y_ : List (S38), y_ = acc ++ [(⟨t1, t2, t3⟩ : S38)] := ⟨_, rfl⟩
                  rw [← hya] at H3
                  have NY := Aside0.mk hya
                  have HX := Aside0.mk H3
                  clear c3 H3 hya
                  have hkd : ∃ kd, kd = Int.tmod (impl_MakePuzzle.nx z) 6 := ⟨_, rfl⟩
                  obtain ⟨kd, hkd⟩ := hkd
                  rw [← hkd] at hto c2
                  have HTo := Aside0.mk hto
                  clear hto
                  have c2b : (kd == 1) = false := beq_eq_false_iff_ne.mpr c2
                  clear c2
                  have HKD := Aside0.mk hkd
                  clear hkd
                  go_wp2_with (first | (go_at_fn 43; refine (impl_MakePuzzle.lit6 gs kd z HKD.out _ BS.out).mono ?_; rintro e wz ⟨rfl, hwz⟩; have n0_ : Aside0 (Kd.R k38 38 wz w.heap.size (fun _ => True) uo acc) := ⟨by rw [hwz]; exact Kd.R_mono (Kd.R_far (p := ⟨gs, 0, none⟩) (Kd.R_types HO.out BS.out (by decide)) (fun _ hk => hk.2) _) (fun _ hk => trivial)⟩; have n1_ : Aside0 (wz.heap[gs]? = some (.cells #[.int .i64 (impl_MakePuzzle.nx (z))] 3 (0, 0))) := ⟨by rw [hwz]; exact (blk_set BS.out 0 _).trans rfl⟩; have n2_ : Aside0 (wz.heap[gr]? = some (.cells #[.int .i64 0, .slice none 0 0] 24 (0, 0))) := ⟨by rw [hwz]; exact blk_far BR.out NRS.out _⟩; have n3_ : Aside0 (wz.heap[go]? = some (.cells #[.int .i64 a0, uo] 24 (0, 0))) := ⟨by rw [hwz]; exact blk_far BO.out NOS.out _⟩; have n4_ : Aside0 (Below w.heap.size w wz) := ⟨by rw [hwz]; exact below_set HB.out GS.out⟩; clear HO BS BR BO HB hwz; have HO := n0_; have BS := n1_; have BR := n2_; have BO := n3_; have HB := n4_; clear n0_ n1_ n2_ n3_ n4_))
                  try go_wp2
                  have n0_ := Aside0.mk (Kd.R_drew HO.out)
                  have n1_ := Aside0.mk (blk_drew BS.out)
                  have n2_ := Aside0.mk (blk_drew BR.out)
                  have n3_ := Aside0.mk (blk_drew BO.out)
                  have n4_ := Aside0.mk (below_drew1 HB.out)
                  clear HO BS BR BO HB
                  have HO := n0_
                  have BS := n1_
                  have BR := n2_
                  have BO := n3_
                  have HB := n4_
                  clear n0_ n1_ n2_ n3_ n4_
                  refine start_ (n := 11) (S := fun w' => w'.cell? ⟨go, 0, none⟩ = some (.int .i64 a0) ∧ w'.cell? ⟨go, 1, none⟩ = some (uo)) (ds := [10]) #[false, false, false, false, false, false, false, false, false, false, false] (by kernel_rfl) rfl rfl ⟨(blk_cell BO.out 0).trans rfl, (blk_cell BO.out 1).trans rfl⟩ (fun hHeld => ?_); refine with_tabW impl_MakePuzzle.tab10 impl_MakePuzzle.bits10 (fun HT_ HW_ => ?_)
                  generalize wz.drew = wd at HO BS BR BO HB hHeld ⊢
                  refine pure_ (i := 0) (N := some 42) (v := ?_) (a' := ?_) #[true, false, false, false, false, false, false, false, false, false, false] rfl rfl (any_of HT_.out (by kernel_rfl)) (fun _ _ _ h => h) (Or.inl ⟨by rfl, ?_⟩) ?_ ?_
                  rotate_left
                  · intro w'
                    go_simp
                    with_reducible rfl
                  rotate_left
                  · simp only [Act.put, List.setIfInBounds_toArray, List.set_cons_zero, List.set_cons_succ, i64_w, i32_w]
                    rfl
                  refine pure_ (i := 2) (N := some 44) (v := ?_) (a' := ?_) #[true, false, true, false, false, false, false, false, false, false, false] rfl rfl (any_of HT_.out (by kernel_rfl)) (fun _ _ _ h => h) (Or.inl ⟨by rfl, ?_⟩) ?_ ?_
                  rotate_left
                  · intro w'
                    go_simp
                    with_reducible rfl
                  rotate_left
                  · simp only [Act.put, List.setIfInBounds_toArray, List.set_cons_zero, List.set_cons_succ, i64_w, i32_w]
                    rfl
                  refine pure_ (i := 3) (N := some 45) (v := ?_) (a' := ?_) #[true, false, true, true, false, false, false, false, false, false, false] rfl rfl (any_of HT_.out (by kernel_rfl)) (fun _ _ _ h => h) (Or.inl ⟨by rfl, ?_⟩) ?_ ?_
                  rotate_left
                  · intro w'
                    go_simp
                    with_reducible rfl
                  rotate_left
                  · simp only [Act.put, List.setIfInBounds_toArray, List.set_cons_zero, List.set_cons_succ, i64_w, i32_w]
                    rfl
                  refine pure_ (i := 4) (N := some 46) (v := ?_) (a' := ?_) #[true, false, true, true, true, false, false, false, false, false, false] rfl rfl (any_of HT_.out (by kernel_rfl)) (fun _ _ _ h => h) (Or.inl ⟨by rfl, ?_⟩) ?_ ?_
                  rotate_left
                  · intro w'
                    go_simp
                    with_reducible rfl
                  rotate_left
                  · simp only [Act.put, List.setIfInBounds_toArray, List.set_cons_zero, List.set_cons_succ, i64_w, i32_w]
                    rfl
                  refine pure_ (i := 5) (N := some 47) (v := ?_) (a' := ?_) #[true, false, true, true, true, true, false, false, false, false, false] rfl rfl (any_of HT_.out (by kernel_rfl)) (fun _ _ _ h => h) (Or.inl ⟨by rfl, ?_⟩) ?_ ?_
                  rotate_left
                  · intro w'
                    go_simp
                    with_reducible rfl
                  rotate_left
                  · simp only [Act.put, List.setIfInBounds_toArray, List.set_cons_zero, List.set_cons_succ, i64_w, i32_w]
                    rfl
                  refine take_ (i := 1) (N := some 43) (v := ?_) (a' := ?_) #[true, true, true, true, true, true, false, false, false, false, false] rfl rfl (take_ofW HT_.out HW_.out (by kernel_rfl)) (fun _ _ _ h => h) (Or.inl ⟨by rfl, ?_⟩) hHeld ?_ ?_
                  rotate_left
                  · rintro w' ⟨s0, s1⟩
                    go_simp
                    with_reducible rfl
                  rotate_left
                  · simp only [Act.put, List.setIfInBounds_toArray, List.set_cons_zero, List.set_cons_succ, i64_w, i32_w]
                    rfl
                  refine one_ (i := 6) (N := some 48) #[true, true, true, true, true, true, true, false, false, false, false] rfl rfl (one_of HT_.out (by kernel_rfl)) (by decide) (fun K hK => ?_)
                  refine goes_ Try.func44 (by kernel_rfl) rfl #[.int .i64 a0, .int .i64 a1, .int .i64 kd, .int .i64 0] (by rfl) rfl rfl (by (try simp only [List.map_toArray, List.map_cons, List.map_nil]); first | done | rfl | (simp only [List.length_drop, List.length_take]; rfl)) ?_
                  with_reducible refine (impl_told.calls a0 a1 kd 0 t1 t2 t3 _ HTo.out).mono ?_
                  rintro e wt ⟨rfl, hb⟩
                  refine ⟨_, rfl, ?_⟩
                  have n0_ := Aside0.mk (Kd.R_below HO.out hb)
                  have n1_ := Aside0.mk (blk_below BS.out hb)
                  have n2_ := Aside0.mk (blk_below BR.out hb)
                  have n3_ := Aside0.mk (blk_below BO.out hb)
                  have n4_ := Aside0.mk (below_step HB.out hb)
                  clear HO BS BR BO HB
                  have HO := n0_
                  have BS := n1_
                  have BR := n2_
                  have BO := n3_
                  have HB := n4_
                  clear n0_ n1_ n2_ n3_ n4_
                  clear hb
                  refine hK.out _ _ ⟨(blk_cell BO.out 0).trans rfl, (blk_cell BO.out 1).trans rfl⟩ (fun hHeld => ?_)
                  clear hK K
                  refine norm_ (a' := ?_) ?_ ?_
                  rotate_left
                  · show Act.put _ (some 48) _ = _
                    simp only [Act.put, List.setIfInBounds_toArray, List.set_cons_zero, List.set_cons_succ, i64_w, i32_w]
                    rfl
                  refine one_ (i := 7) (N := some 49) #[true, true, true, true, true, true, true, true, false, false, false] rfl rfl (one_of HT_.out (by kernel_rfl)) (by decide) (fun K hK => ?_)
                  refine value_ (w1 := ?_) (v := ?_) (by rfl) rfl ?_ ?_
                  rotate_left 2
                  · go_simp
                    constructor
                    · rfl
                    · rfl
                  refine hK.out _ _ ⟨(blk_cell (blk_alloc BO.out _) 0).trans rfl, (blk_cell (blk_alloc BO.out _) 1).trans rfl⟩ (fun hHeld => ?_)
                  clear hK K
                  refine norm_ (a' := ?_) ?_ ?_
                  rotate_left
                  · show Act.put _ (some 49) _ = _
                    simp only [Act.put, List.setIfInBounds_toArray, List.set_cons_zero, List.set_cons_succ, i64_w, i32_w]
                    rfl
                  refine one_ (i := 8) (N := some 50) #[true, true, true, true, true, true, true, true, true, false, false] rfl rfl (one_of HT_.out (by kernel_rfl)) (by decide) (fun K hK => ?_)
                  refine Kd.R_append_step k38 (w0 := w) w.heap.size (by rfl) (.tmp 43) (.tmp 49) 22 38 (.agg #[(.int .i64 0), (.int .i64 0), (.int .i64 0)]) 24 rfl Try.underlying22 info38 rfl (by decide) (by omega) uo acc (⟨t1, t2, t3⟩ : S38) [.int .i64 t1, .int .i64 t2, .int .i64 t3] (fun _ => True) (fun _ => False) rfl rfl ?aP (fun _ hk => hk.elim) ?aF ?aO ?aB ?aS ?aL ?_
                  (case aP => exact k38_mkM _ _ _ (⟨t1, t2, t3⟩ : S38))
                  (case aB => exact (by repeat (first | (with_reducible first | exact HB.out | apply below_alloc | apply pw_below_drewN | apply below_drew1 | refine below_set ?_ GS.out | refine below_set ?_ GR.out | refine below_set ?_ GO.out) | exact HB.out)))
                  (case aF => exact (fun _ _ => trivial))
                  (case aO => exact (by (with_reducible repeat (first | apply Kd.R_alloc | apply Kd.R_drewN | apply Kd.R_drew)); exact HO.out))
                  (case aS => exact (below_size (by repeat (first | (with_reducible first | exact HB.out | apply below_alloc | apply pw_below_drewN | apply below_drew1 | refine below_set ?_ GS.out | refine below_set ?_ GR.out | refine below_set ?_ GO.out) | exact HB.out))))
                  (case aL => have := LM.out; omega)
                  intro va wa ho hb hg hat
                  rw [← NY.out] at ho
                  have n0_ := Aside0.mk (blk_grown (g := gs) (o := .cells #[.int .i64 (impl_MakePuzzle.nx z)] 3 (0, 0)) (by (with_reducible repeat (first | refine blk_drewN ?_ _ | refine blk_drew ?_ | refine blk_alloc ?_ _)); exact BS.out) hg (Kd.R_ne HO.out BS.out (by decide)))
                  have n1_ := Aside0.mk (blk_grown (g := gr) (o := .cells #[.int .i64 0, .slice none 0 0] 24 (0, 0)) (by (with_reducible repeat (first | refine blk_drewN ?_ _ | refine blk_drew ?_ | refine blk_alloc ?_ _)); exact BR.out) hg (Kd.R_ne HO.out BR.out (by decide)))
                  have n2_ := Aside0.mk (blk_grown (g := go) (o := .cells #[.int .i64 a0, uo] 24 (0, 0)) (by (with_reducible repeat (first | refine blk_drewN ?_ _ | refine blk_drew ?_ | refine blk_alloc ?_ _)); exact BO.out) hg (Kd.R_ne HO.out BO.out (by decide)))
                  have n3_ := Aside0.mk hb
                  have n4_ := Aside0.mk ho
                  clear HO BS BR BO HB
                  have HO := n4_
                  have BS := n0_
                  have BR := n1_
                  have BO := n2_
                  have HB := n3_
                  clear n0_ n1_ n2_ n3_ n4_
                  clear ho hb hg hat
                  obtain ⟨Ao, co, eo⟩ := Kd.R_slice HO.out
                  (first | subst eo | (injection eo with f1_ f2_ f3_; have f4_ := f1_.symm; have f5_ := f3_.symm; clear f1_ f2_ f3_; subst f4_; subst f5_))
                  refine hK.out _ _ ⟨(blk_cell BO.out 0).trans rfl, (blk_cell BO.out 1).trans rfl⟩ (fun hHeld => ?_)
                  clear hK K
                  refine norm_ (a' := ?_) ?_ ?_
                  rotate_left
                  · show Act.put _ (some 50) _ = _
                    simp only [Act.put, List.setIfInBounds_toArray, List.set_cons_zero, List.set_cons_succ, i64_w, i32_w]
                    rfl
                  refine pure_ (i := 9) (N := some 51) (v := ?_) (a' := ?_) #[true, true, true, true, true, true, true, true, true, true, false] rfl rfl (any_of HT_.out (by kernel_rfl)) (fun _ _ _ h => h) (Or.inl ⟨by rfl, ?_⟩) ?_ ?_
                  rotate_left
                  · intro w'
                    go_simp
                    with_reducible rfl
                  rotate_left
                  · simp only [Act.put, List.setIfInBounds_toArray, List.set_cons_zero, List.set_cons_succ, i64_w, i32_w]
                    rfl
                  refine last_ (i := 10) (N := none) #[true, true, true, true, true, true, true, true, true, true, true] rfl rfl (one_of HT_.out (by kernel_rfl)) (by decide) (fun K hK => ?_)
                  have hc7 : wa.cell? ⟨go, 1, none⟩ = some (uo) := (blk_cell BO.out 1).trans rfl
                  have hf7 := blk_frozen BO.out 1
                  refine skip_ (w1 := ?_) (by rfl) rfl ?_ ?_
                  rotate_left
                  · go_simp
                    rfl
                  refine hK.out _ _ ?_
                  clear hK K
                  refine done_ (done_of HT_.out (by kernel_rfl)) ?_
                  go_wp2
                  go_roundg k1
                  case measure => omega
                  case rel => exact ⟨_, _, ya, .slice Ao ya.length co, rfl, HX, ⟨by (with_reducible repeat (first | apply Kd.R_alloc | apply Kd.R_drewN | apply Kd.R_drew)); exact Kd.R_mono (Kd.R_far (p := ⟨go, 1, none⟩) (Kd.R_types HO.out BO.out (by decide)) (fun _ hk => hk.2) (.slice Ao ya.length co)) (fun _ hk => trivial)⟩, ⟨by (with_reducible repeat (first | refine blk_drewN ?_ _ | refine blk_drew ?_ | refine blk_alloc ?_ _)); refine blk_far ?_ NSO.out _; (with_reducible repeat (first | refine blk_drewN ?_ _ | refine blk_drew ?_ | refine blk_alloc ?_ _)); exact BS.out⟩, ⟨by (with_reducible repeat (first | refine blk_drewN ?_ _ | refine blk_drew ?_ | refine blk_alloc ?_ _)); refine blk_far ?_ NRO.out _; (with_reducible repeat (first | refine blk_drewN ?_ _ | refine blk_drew ?_ | refine blk_alloc ?_ _)); exact BR.out⟩, ⟨by (with_reducible repeat (first | refine blk_drewN ?_ _ | refine blk_drew ?_ | refine blk_alloc ?_ _)); refine blk_put (cs := #[.int .i64 a0, uo]) ?_ 1 _ rfl; (with_reducible repeat (first | refine blk_drewN ?_ _ | refine blk_drew ?_ | refine blk_alloc ?_ _)); exact BO.out⟩, ⟨(by repeat (first | (with_reducible first | exact HB.out | apply below_alloc | apply pw_below_drewN | apply below_drew1 | refine below_set ?_ GS.out | refine below_set ?_ GR.out | refine below_set ?_ GO.out) | exact HB.out))⟩⟩
                · rw [if_neg c3] at H3; cases H3
            · rw [if_neg c1] at H
              have c1b : decide (i < a2) = false := decide_eq_false c1
              clear c1
              simp only [Option.some.injEq, Prod.mk.injEq] at H
              obtain ⟨rfl, rfl, rfl⟩ := H
              have hnb := NOR.out
              have hnc := NRO.out
              have hco0 : wr.cell? ⟨go, 0, none⟩ = some (.int .i64 a0) := (blk_cell BO.out 0).trans rfl
              have hco1 : wr.cell? ⟨go, 1, none⟩ = some (uo) := (blk_cell BO.out 1).trans rfl
              have hfo0 := blk_frozen BO.out 0
              have hfo1 := blk_frozen BO.out 1
              have hcr0 : wr.cell? ⟨gr, 0, none⟩ = some (.int .i64 0) := (blk_cell BR.out 0).trans rfl
              have hcr1 : wr.cell? ⟨gr, 1, none⟩ = some (.slice none 0 0) := (blk_cell BR.out 1).trans rfl
              have hfr0 := blk_frozen BR.out 0
              have hfr1 := blk_frozen BR.out 1
              obtain ⟨Ao, co, eo⟩ := Kd.R_slice HO.out
              subst eo
              go_wp2
              refine bodyPost_ret (results_ct rfl _ _ gr 24 #[.int .i64 a0, .slice Ao acc.length co] (0, 0) _ rfl (by (with_reducible repeat (first | refine blk_drewN ?_ _ | refine blk_drew ?_ | refine blk_alloc ?_ _)); refine blk_put (cs := #[.int .i64 a0, .slice none 0 0]) ?_ 1 _ rfl; (with_reducible repeat (first | refine blk_drewN ?_ _ | refine blk_drew ?_ | refine blk_alloc ?_ _)); refine blk_put (cs := #[.int .i64 0, .slice none 0 0]) ?_ 0 _ rfl; (with_reducible repeat (first | refine blk_drewN ?_ _ | refine blk_drew ?_ | refine blk_alloc ?_ _)); exact BR.out) Try.underlying24 rfl (by kernel_rfl)) rfl ?_
              exact ⟨_, rfl, by (with_reducible repeat (first | apply Kd.R_alloc | apply Kd.R_drewN | apply Kd.R_drew)); exact Kd.R_mono (Kd.R_far (p := ⟨gr, 1, none⟩) (Kd.R_far (p := ⟨gr, 0, none⟩) (Kd.R_types HO.out BR.out (by decide)) (fun _ hk => hk.2) (.int .i64 a0)) (fun _ hk => hk.2) (.slice Ao acc.length co)) (fun _ hk => trivial), (by repeat (first | (with_reducible first | exact HB.out | apply below_alloc | apply pw_below_drewN | apply below_drew1 | refine below_set ?_ GS.out | refine below_set ?_ GR.out | refine below_set ?_ GO.out) | exact HB.out))⟩

end Go.Proofs.Ytpeleommbipeaaa.P
