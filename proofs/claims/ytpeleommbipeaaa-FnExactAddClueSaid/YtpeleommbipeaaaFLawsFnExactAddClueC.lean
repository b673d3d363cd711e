-- written by wip/gen.py (this session's) with the kit's printer; Lean checks it.
import Derived.Test.YtpeleommbipeaaaK
import Derived.Test.YtpeleommbipeaaaSq
import Derived.Test.YtpeleommbipeaaaFImplAddClue
import Derived.Test.YtpeleommbipeaaaFImplAddClueC
import Derived.Test.YtpeleommbipeaaaFLawsEqPuzzle
import Derived.Test.YtpeleommbipeaaaFLawsFnExactAddClue
import Derived.Test.YtpeleommbipeaaaFLawsHeldPuzzle
import Derived.Test.YtpeleommbipeaaaFLawsMarkPuzzle
import Derived.Test.YtpeleommbipeaaaFLawsSzPuzzle
import Derived.Test.YtpeleommbipeaaaFLawsToClue
import Derived.Test.YtpeleommbipeaaaFLawsToPuzzle
import Derived.Test.YtpeleommbipeaaaFSpecAddClue
namespace Go.Proofs.Ytpeleommbipeaaa.P
open Go.RowKit Go.Proofs.YtpeleommbipeaaaW.PrintWords Go.Proofs.YtpeleommbipeaaaW.PrintLast Go.Proofs.YtpeleommbipeaaaW.PrintMore
attribute [local go_sem] max2_int min2_int max_two min_two max_three min_three max_four min_four
open List renaming setIfInBounds_toArray → q1, set_cons_zero → q2, set_cons_succ → q3
open Aside0 renaming mk → aM
set_option linter.unusedVariables false
set_option linter.unusedSimpArgs false

set_option maxHeartbeats 8000000 in
set_option maxRecDepth 100000 in
theorem laws_FnExactAddClue.calls (k : Nat) (a0_0 : Int) (A0_1 : Option Addr) (c0_1 : Nat) (l0_1 : List (S34)) (a1_0 : Int) (a1_1 : Int) (a1_2 : Int) (r : Bool) (w : World) (hr0_1 : Kd.C k34 w A0_1 l0_1.length l0_1) (hc0_1 : l0_1.length ≤ c0_1) (h : laws_FnExactAddClue.f k a0_0 l0_1 a1_0 a1_1 a1_2 = some r) :
  Calls Try.prog 4 #[.agg #[.int .i64 a0_0, .slice A0_1 l0_1.length c0_1], .agg #[.int .i64 a1_0, .int .i64 a1_1, .int .i64 a1_2]] w fun e w' => e = .returned (.bool r) ∧ Below w.heap.size w w' := by
 have hu32 := Try.underlying32
 have hu34 := Try.underlying34
 have hu24 := Try.underlying24
 have HR0_1 := aM hr0_1
 have HC0_1 := aM hc0_1
 clear hr0_1 hc0_1
 have HB := aM (Below.refl w.heap.size w)
 have H : ((laws_szPuzzle.f a0_0 l0_1 1048576).bind fun t103 => (if t103 < 0 then (some true) else ((laws_toPuzzle.f k a0_0 l0_1).bind fun bt104 => ((laws_toClue.f a1_0 a1_1 a1_2).bind fun bt108 => ((spec_AddClue.f k bt104.1 bt104.2 bt108.1 bt108.2.1 bt108.2.2).bind fun bt111 => ((laws_toPuzzle.f k a0_0 l0_1).bind fun bt117 => ((laws_toClue.f a1_0 a1_1 a1_2).bind fun bt122 => ((impl_AddClue.f k bt117.1 bt117.2 bt122.1 bt122.2.1 bt122.2.2).bind fun bt125 => ((laws_eqPuzzle.f k bt125.1 bt125.2.1 bt111.1 bt111.2.1).bind fun t131 => (if t131 = true then (laws_FnExactAddClue.j0 k bt111.2.2 bt125.2.2 (bt125.2.2 != bt111.2.2) a0_0 l0_1 a1_0 a1_1 a1_2 bt111.1 bt111.2.1 bt117.1 bt117.2 bt125.1 bt125.2.1) else (laws_FnExactAddClue.j0 k bt111.2.2 bt125.2.2 true a0_0 l0_1 a1_0 a1_1 a1_2 bt111.1 bt111.2.1 bt117.1 bt117.2 bt125.1 bt125.2.1))))))))))) = some r := h
 clear h
 replace H := Option.bind_eq_some_iff.mp H
 obtain ⟨t103, A30, H⟩ := H
 try dsimp only at H
 have A3 := aM A30
 clear A30
 by_cases c4 : t103 < 0
 ·
  rw [if_pos c4] at H
  have c4b0 : decide (t103 < 0) = true := decide_eq_true c4
  clear c4
  obtain rfl := Option.some.inj H
  go_enter Try.func4, Try.ntmps4
  go_wp2_with (first | ((with_reducible refine gate_dst (N := 2) rfl ?_); refine box_event ?hg (N := 2) ?hd (cs := #[.int .i64 a0_0, .slice A0_1 l0_1.length c0_1]) (t := 32) ?hr ?_; (case hd => rfl); (case hg => rfl); (case hr => first | (go_simp; done) | (go_simp; rfl)); intro gb101 hg w5 hbox hb; have n0_ := aM (below_step (kb0 HB) hb); have n1_ := aM (hbox); have n2_ := aM ((by rw [hg]; exact (below_size (kb0 HB)) : w.heap.size ≤ gb101)); have n3_ := aM ((by rw [hg]; exact (below_size (kb0 HB)) : w.heap.size ≤ gb101)); clear HB; have HB := n0_; have BK101 := n1_; have GW101 := n2_; have GE101 := n3_; clear n0_ n1_ n2_ n3_; clear hb hbox hg) | ((with_reducible refine gate_dst (N := 3) rfl ?_); refine box_event ?hg (N := 3) ?hd (cs := #[.int .i64 a1_0, .int .i64 a1_1, .int .i64 a1_2]) (t := 34) ?hr ?_; (case hd => rfl); (case hg => rfl); (case hr => first | (go_simp; done) | (go_simp; rfl)); intro gb102 hg w6 hbox hb; have n0_ := aM (blk_below (kq BK101) hb); have n1_ := aM (below_step (kb1 HB GE101) hb); have n2_ := aM (hbox); have n3_ := aM ((by rw [hg]; exact (below_size (kb1 HB GE101)) : w.heap.size ≤ gb102)); have n4_ := aM ((by rw [hg]; exact (below_size (kb1 HB GE101)) : w.heap.size ≤ gb102)); have n5_ := aM ((by rw [hg]; exact Nat.ne_of_lt (blk_lt (kq BK101)) : gb101 ≠ gb102)); have n6_ := aM ((by rw [hg]; exact Nat.ne_of_gt (blk_lt (kq BK101)) : gb102 ≠ gb101)); clear BK101; clear HB; have BK101 := n0_; have HB := n1_; have BK102 := n2_; have GW102 := n3_; have GE102 := n4_; have NB101_102 := n5_; have NB102_101 := n6_; clear n0_ n1_ n2_ n3_ n4_ n5_ n6_; clear hb hbox hg; have hnb7 := NB101_102.out; have hnc7 := NB102_101.out; have hcz8_0 : w6.cell? ⟨gb101, 0, none⟩ = some (.int .i64 a0_0) := (blk_cell BK101.out 0).trans rfl; have hcz8_1 : w6.cell? ⟨gb101, 1, none⟩ = some (.slice A0_1 l0_1.length c0_1) := (blk_cell BK101.out 1).trans rfl; have hfz8_0 := blk_frozen BK101.out 0; have hfz8_1 := blk_frozen BK101.out 1) | ((with_reducible refine gate_callee (f := 12) rfl ?_); refine goesL_ (some 18) rfl rfl Try.func12 (by kernel_rfl) rfl #[.agg #[.int .i64 a0_0, .slice A0_1 l0_1.length c0_1], .int .i64 1048576] rfl ka ?_; (with_reducible refine (laws_szPuzzle.calls a0_0 _ _ l0_1 1048576 t103 _ ?side1 ?side2 A3.out).mono ?_); (case side1 => repeat (first | exact (Kd.C_below HR0_1.out HB.out) | (with_reducible refine Kd.C_alloc ?_ _) | (with_reducible refine Kd.C_drewN ?_ _) | (with_reducible refine Kd.C_drew ?_))); (case side2 => exact HC0_1.out); rintro e w9 ⟨rfl, hb⟩; refine ⟨_, rfl, ?_⟩; have n0_ := aM (blk_below (kq BK101) hb); have n1_ := aM (blk_below (kq BK102) hb); have n2_ := aM (below_step (kb2 HB GE101 GE102) hb); clear BK101; clear BK102; clear HB; have BK101 := n0_; have BK102 := n1_; have HB := n2_; clear n0_ n1_ n2_; (try clear hb); (try clear hb2); (try clear hk); (try clear hi)))
  go_ret
  exact ⟨ea, (kb2 HB GE101 GE102)⟩
 ·
  rw [if_neg c4] at H
  have c4b0 : decide (t103 < 0) = false := decide_eq_false c4
  clear c4
  replace H := Option.bind_eq_some_iff.mp H
  obtain ⟨⟨t104, t105⟩, A100, H⟩ := H
  try dsimp only at H
  have A10 := aM A100
  clear A100
  replace H := Option.bind_eq_some_iff.mp H
  obtain ⟨⟨t108, t109, t110⟩, A110, H⟩ := H
  try dsimp only at H
  have A11 := aM A110
  clear A110
  replace H := Option.bind_eq_some_iff.mp H
  obtain ⟨⟨t111, t112, t115⟩, A120, H⟩ := H
  try dsimp only at H
  have A12 := aM A120
  clear A120
  replace H := Option.bind_eq_some_iff.mp H
  obtain ⟨⟨t117, t118⟩, A130, H⟩ := H
  try dsimp only at H
  have A13 := aM A130
  clear A130
  replace H := Option.bind_eq_some_iff.mp H
  obtain ⟨⟨t122, t123, t124⟩, A140, H⟩ := H
  try dsimp only at H
  have A14 := aM A140
  clear A140
  replace H := Option.bind_eq_some_iff.mp H
  obtain ⟨⟨t125, t126, t129⟩, A150, H⟩ := H
  replace H : ((laws_eqPuzzle.f k t125 t126 t111 t112).bind fun t131 => (if t131 = true then (laws_FnExactAddClue.j0 k t115 t129 (t129 != t115) a0_0 l0_1 a1_0 a1_1 a1_2 t111 t112 t117 t118 t125 t126) else (laws_FnExactAddClue.j0 k t115 t129 true a0_0 l0_1 a1_0 a1_1 a1_2 t111 t112 t117 t118 t125 t126))) = some r := H
  have A15 := aM A150
  clear A150
  have HC16 := aM H
  clear H
  go_enter Try.func4, Try.ntmps4
  try go_wp2_with (first | ((with_reducible refine gate_dst (N := 2) rfl ?_); refine box_event ?hg (N := 2) ?hd (cs := #[.int .i64 a0_0, .slice A0_1 l0_1.length c0_1]) (t := 32) ?hr ?_; (case hd => rfl); (case hg => rfl); (case hr => first | (go_simp; done) | (go_simp; rfl)); intro gb101 hg w17 hbox hb; have n0_ := aM (below_step (kb0 HB) hb); have n1_ := aM (hbox); have n2_ := aM ((by rw [hg]; exact (below_size (kb0 HB)) : w.heap.size ≤ gb101)); have n3_ := aM ((by rw [hg]; exact (below_size (kb0 HB)) : w.heap.size ≤ gb101)); clear HB; have HB := n0_; have BK101 := n1_; have GW101 := n2_; have GE101 := n3_; clear n0_ n1_ n2_ n3_; clear hb hbox hg) | ((with_reducible refine gate_dst (N := 3) rfl ?_); refine box_event ?hg (N := 3) ?hd (cs := #[.int .i64 a1_0, .int .i64 a1_1, .int .i64 a1_2]) (t := 34) ?hr ?_; (case hd => rfl); (case hg => rfl); (case hr => first | (go_simp; done) | (go_simp; rfl)); intro gb102 hg w18 hbox hb; have n0_ := aM (blk_below (kq BK101) hb); have n1_ := aM (below_step (kb1 HB GE101) hb); have n2_ := aM (hbox); have n3_ := aM ((by rw [hg]; exact (below_size (kb1 HB GE101)) : w.heap.size ≤ gb102)); have n4_ := aM ((by rw [hg]; exact (below_size (kb1 HB GE101)) : w.heap.size ≤ gb102)); have n5_ := aM ((by rw [hg]; exact Nat.ne_of_lt (blk_lt (kq BK101)) : gb101 ≠ gb102)); have n6_ := aM ((by rw [hg]; exact Nat.ne_of_gt (blk_lt (kq BK101)) : gb102 ≠ gb101)); clear BK101; clear HB; have BK101 := n0_; have HB := n1_; have BK102 := n2_; have GW102 := n3_; have GE102 := n4_; have NB101_102 := n5_; have NB102_101 := n6_; clear n0_ n1_ n2_ n3_ n4_ n5_ n6_; clear hb hbox hg; have hnb19 := NB101_102.out; have hnc19 := NB102_101.out; have hcz20_0 : w18.cell? ⟨gb101, 0, none⟩ = some (.int .i64 a0_0) := (blk_cell BK101.out 0).trans rfl; have hcz20_1 : w18.cell? ⟨gb101, 1, none⟩ = some (.slice A0_1 l0_1.length c0_1) := (blk_cell BK101.out 1).trans rfl; have hfz20_0 := blk_frozen BK101.out 0; have hfz20_1 := blk_frozen BK101.out 1) | ((with_reducible refine gate_callee (f := 12) rfl ?_); refine goesL_ (some 18) rfl rfl Try.func12 (by kernel_rfl) rfl #[.agg #[.int .i64 a0_0, .slice A0_1 l0_1.length c0_1], .int .i64 1048576] rfl ka ?_; (with_reducible refine (laws_szPuzzle.calls a0_0 _ _ l0_1 1048576 t103 _ ?side1 ?side2 A3.out).mono ?_); (case side1 => repeat (first | exact (Kd.C_below HR0_1.out HB.out) | (with_reducible refine Kd.C_alloc ?_ _) | (with_reducible refine Kd.C_drewN ?_ _) | (with_reducible refine Kd.C_drew ?_))); (case side2 => exact HC0_1.out); rintro e w21 ⟨rfl, hb⟩; refine ⟨_, rfl, ?_⟩; have n0_ := aM (blk_below (kq BK101) hb); have n1_ := aM (blk_below (kq BK102) hb); have n2_ := aM (below_step (kb2 HB GE101 GE102) hb); clear BK101; clear BK102; clear HB; have BK101 := n0_; have BK102 := n1_; have HB := n2_; clear n0_ n1_ n2_; (try clear hb); (try clear hb2); (try clear hk); (try clear hi)))
  have n0_ := aM (blk_drew BK101.out)
  have n1_ := aM (blk_drew BK102.out)
  have n2_ := aM (below_drew1 HB.out)
  clear BK101
  clear BK102
  clear HB
  have BK101 := n0_
  have BK102 := n1_
  have HB := n2_
  clear n0_ n1_ n2_
  refine start_ (n := 11) (S := fun w' => w'.cell? ⟨gb101, 0, none⟩ = some (.int .i64 a0_0) ∧ w'.cell? ⟨gb101, 1, none⟩ = some (.slice A0_1 l0_1.length c0_1) ∧ w'.cell? ⟨gb102, 0, none⟩ = some (.int .i64 a1_0) ∧ w'.cell? ⟨gb102, 1, none⟩ = some (.int .i64 a1_1) ∧ w'.cell? ⟨gb102, 2, none⟩ = some (.int .i64 a1_2)) (ds := []) #[false, false, false, false, false, false, false, false, false, false, false] (by kernel_rfl) rfl rfl ⟨(blk_cell BK101.out 0).trans rfl, (blk_cell BK101.out 1).trans rfl, (blk_cell BK102.out 0).trans rfl, (blk_cell BK102.out 1).trans rfl, (blk_cell BK102.out 2).trans rfl⟩ (fun hHeld => ?_); refine with_tabW laws_FnExactAddClue.tab5 laws_FnExactAddClue.bits5 (fun HT_ HW_ => ?_)
  generalize w21.drew = w22 at BK101 BK102 HB hHeld ⊢
  refine take_ (i := 0) (N := some 22) (v := ?_) (a' := ?_) #[true, false, false, false, false, false, false, false, false, false, false] rfl rfl (take_ofW HT_.out HW_.out (by kernel_rfl)) (fun _ _ _ h => h) (Or.inl ⟨by rfl, ?_⟩) hHeld ?_ ?_
  rotate_left
  ·
   rintro w' ⟨s0, s1, s2, s3, s4⟩
   go_simp
   with_reducible rfl
  rotate_left
  ·
   simp only [Act.put, q1, q2, q3, i64_w, i32_w]
   rfl
  refine take_ (i := 2) (N := some 24) (v := ?_) (a' := ?_) #[true, false, true, false, false, false, false, false, false, false, false] rfl rfl (take_ofW HT_.out HW_.out (by kernel_rfl)) (fun _ _ _ h => h) (Or.inl ⟨by rfl, ?_⟩) hHeld ?_ ?_
  rotate_left
  ·
   rintro w' ⟨s0, s1, s2, s3, s4⟩
   go_simp
   with_reducible rfl
  rotate_left
  ·
   simp only [Act.put, q1, q2, q3, i64_w, i32_w]
   rfl
  refine join_ (σ := Value × Value × Nat) 2 #[true, true, true, true, true, true, true, true, true, false, false] (fun s_ => [(23, .agg #[.int .i64 t104, s_.1]), (25, .agg #[.int .i64 t108, .int .i64 t109, .int .i64 t110]), (26, .tuple #[.agg #[.int .i64 t111, s_.2.1], .bool t115]), (6, .pointer (some ⟨s_.2.2, 0, none⟩)), (21, .tuple #[.agg #[.int .i64 t111, s_.2.1], .bool t115]), (27, .agg #[.int .i64 t111, s_.2.1]), (28, .bool t115)]) (fun s_ w' => (w'.cell? ⟨gb101, 0, none⟩ = some (.int .i64 a0_0) ∧ w'.cell? ⟨gb101, 1, none⟩ = some (.slice A0_1 l0_1.length c0_1) ∧ w'.cell? ⟨gb102, 0, none⟩ = some (.int .i64 a1_0) ∧ w'.cell? ⟨gb102, 1, none⟩ = some (.int .i64 a1_1) ∧ w'.cell? ⟨gb102, 2, none⟩ = some (.int .i64 a1_2)) ∧ (Kd.R k38 38 w' w.heap.size (fun k_ => some k_ ≠ (s_.2.1 : Value).ownBlock) s_.1 t105) ∧ (Kd.R k38 38 w' w.heap.size (fun k_ => some k_ ≠ (s_.1 : Value).ownBlock) s_.2.1 t112) ∧ (w'.heap[gb101]? = some (.cells #[.int .i64 a0_0, .slice A0_1 l0_1.length c0_1] 32 (0, 0))) ∧ (w'.heap[gb102]? = some (.cells #[.int .i64 a1_0, .int .i64 a1_1, .int .i64 a1_2] 34 (0, 0))) ∧ (w'.heap[s_.2.2]? = some (.cells #[.int .i64 0, .slice none 0 0] 24 (0, 0))) ∧ (w.heap.size ≤ s_.2.2) ∧ (w.heap.size ≤ s_.2.2) ∧ (gb101 ≠ s_.2.2) ∧ (s_.2.2 ≠ gb101) ∧ (gb102 ≠ s_.2.2) ∧ (s_.2.2 ≠ gb102) ∧ (Below w.heap.size w w')) ?_ ?_
  rotate_left
  ·
   intro hCont
   refine two_ (i := 1) (j := 8) (Ni := some 23) (Nj := some 6) #[true, true, true, false, false, false, false, false, false, false, false] #[true, false, true, false, false, false, false, false, true, false, false] rfl rfl rfl rfl (two_of HT_.out (by kernel_rfl)) (by decide) (by decide) (fun K hK => ?_) (fun K hK => ?_)
   ·
    skip
    refine goes_ Try.func14 (by kernel_rfl) rfl #[.agg #[.int .i64 a0_0, .slice A0_1 l0_1.length c0_1]] (by rfl) rfl rfl ka ?_
    with_reducible refine (laws_toPuzzle.calls k a0_0 _ _ l0_1 t104 t105 _ ?side1 ?side2 A10.out).mono ?_
    (case side1 => repeat (first | exact (Kd.C_below HR0_1.out HB.out) | (with_reducible refine Kd.C_alloc ?_ _) | (with_reducible refine Kd.C_drewN ?_ _) | (with_reducible refine Kd.C_drew ?_)))
    (case side2 => exact HC0_1.out)
    rintro e w23 ⟨v106, rfl, ho0, hb⟩
    refine ⟨_, rfl, ?_⟩
    have n0_ := aM (Kd.R_lower ho0 (below_size (kb2 HB GE101 GE102)))
    have n1_ := aM (blk_below (kq BK101) hb)
    have n2_ := aM (blk_below (kq BK102) hb)
    have n3_ := aM (below_step (kb2 HB GE101 GE102) hb)
    clear BK101
    clear BK102
    clear HB
    have HO107 := n0_
    have BK101 := n1_
    have BK102 := n2_
    have HB := n3_
    clear n0_ n1_ n2_ n3_
    (try clear hb)
    (try clear hb2)
    (try clear hk)
    (try clear hi)
    (try clear ho0)
    refine hK.out _ _ ⟨(blk_cell BK101.out 0).trans rfl, (blk_cell BK101.out 1).trans rfl, (blk_cell BK102.out 0).trans rfl, (blk_cell BK102.out 1).trans rfl, (blk_cell BK102.out 2).trans rfl⟩ (fun hHeld => ?_)
    clear hK K
    refine norm_ (a' := ?_) ?_ ?_
    rotate_left
    ·
     show Act.put _ (some 23) _ = _
     simp only [Act.put, q1, q2, q3, i64_w, i32_w]
     rfl
    refine two_ (i := 3) (j := 8) (Ni := some 25) (Nj := some 6) #[true, true, true, true, false, false, false, false, false, false, false] #[true, true, true, false, false, false, false, false, true, false, false] rfl rfl rfl rfl (two_of HT_.out (by kernel_rfl)) (by decide) (by decide) (fun K hK => ?_) (fun K hK => ?_)
    ·
     skip
     refine goes_ Try.func15 (by kernel_rfl) rfl #[.agg #[.int .i64 a1_0, .int .i64 a1_1, .int .i64 a1_2]] (by rfl) rfl rfl ka ?_
     with_reducible refine (laws_toClue.calls a1_0 a1_1 a1_2 t108 t109 t110 _ A11.out).mono ?_
     rintro e w24 ⟨rfl, hb⟩
     refine ⟨_, rfl, ?_⟩
     have n0_ := aM (Kd.R_below (kr HO107) hb)
     have n1_ := aM (blk_below (kq BK101) hb)
     have n2_ := aM (blk_below (kq BK102) hb)
     have n3_ := aM (below_step (kb2 HB GE101 GE102) hb)
     clear HO107
     clear BK101
     clear BK102
     clear HB
     have HO107 := n0_
     have BK101 := n1_
     have BK102 := n2_
     have HB := n3_
     clear n0_ n1_ n2_ n3_
     (try clear hb)
     (try clear hb2)
     (try clear hk)
     (try clear hi)
     obtain ⟨Ao25, co25, eo25⟩ := Kd.R_slice HO107.out
     (first | subst eo25 | (injection eo25 with f1_ f2_ f3_; have f4_ := f1_.symm; have f5_ := f3_.symm; clear f1_ f2_ f3_; subst f4_; subst f5_))
     refine hK.out _ _ ⟨(blk_cell BK101.out 0).trans rfl, (blk_cell BK101.out 1).trans rfl, (blk_cell BK102.out 0).trans rfl, (blk_cell BK102.out 1).trans rfl, (blk_cell BK102.out 2).trans rfl⟩ (fun hHeld => ?_)
     clear hK K
     refine norm_ (a' := ?_) ?_ ?_
     rotate_left
     ·
      show Act.put _ (some 25) _ = _
      simp only [Act.put, q1, q2, q3, i64_w, i32_w]
      rfl
     refine two_ (i := 4) (j := 8) (Ni := some 26) (Nj := some 6) #[true, true, true, true, true, false, false, false, false, false, false] #[true, true, true, true, false, false, false, false, true, false, false] rfl rfl rfl rfl (two_of HT_.out (by kernel_rfl)) (by decide) (by decide) (fun K hK => ?_) (fun K hK => ?_)
     ·
      skip
      refine goes_ Try.func13 (by kernel_rfl) rfl #[.agg #[.int .i64 t104, .slice Ao25 t105.length co25], .agg #[.int .i64 t108, .int .i64 t109, .int .i64 t110]] (by rfl) rfl rfl ka ?_
      with_reducible refine (spec_AddClue.calls k t104 _ _ t105 t108 t109 t110 t111 t112 t115 _ ?side1 ?side2 A12.out).mono ?_
      (case side1 => repeat (first | exact (Kd.R_reads' HO107.out).2.2 | (with_reducible refine Kd.C_alloc ?_ _) | (with_reducible refine Kd.C_drewN ?_ _) | (with_reducible refine Kd.C_drew ?_)))
      (case side2 => exact (Kd.R_reads' HO107.out).2.1)
      rintro e w26 ⟨v113, rfl, ho0, hb⟩
      refine ⟨_, rfl, ?_⟩
      have n0_ := aM (Kd.R_elder' (kr HO107) (Kd.R_base ho0) hb)
      have n1_ := aM (Kd.R_lower (Kd.R_new' ho0 (Kd.R_lt (kr HO107))) (below_size (kb2 HB GE101 GE102)))
      have n2_ := aM (blk_below (kq BK101) hb)
      have n3_ := aM (blk_below (kq BK102) hb)
      have n4_ := aM (below_step (kb2 HB GE101 GE102) hb)
      clear HO107
      clear BK101
      clear BK102
      clear HB
      have HO107 := n0_
      have HO114 := n1_
      have BK101 := n2_
      have BK102 := n3_
      have HB := n4_
      clear n0_ n1_ n2_ n3_ n4_
      (try clear hb)
      (try clear hb2)
      (try clear hk)
      (try clear hi)
      (try clear ho0)
      refine hK.out _ _ ⟨(blk_cell BK101.out 0).trans rfl, (blk_cell BK101.out 1).trans rfl, (blk_cell BK102.out 0).trans rfl, (blk_cell BK102.out 1).trans rfl, (blk_cell BK102.out 2).trans rfl⟩ (fun hHeld => ?_)
      clear hK K
      refine norm_ (a' := ?_) ?_ ?_
      rotate_left
      ·
       show Act.put _ (some 26) _ = _
       simp only [Act.put, q1, q2, q3, i64_w, i32_w]
       rfl
      refine pure_ (i := 5) (N := some 21) (v := ?_) (a' := ?_) #[true, true, true, true, true, true, false, false, false, false, false] rfl rfl (any_of HT_.out (by kernel_rfl)) (fun _ _ _ h => h) (Or.inl ⟨by rfl, ?_⟩) ?_ ?_
      rotate_left
      ·
       intro w'
       go_simp
       with_reducible rfl
      rotate_left
      ·
       simp only [Act.put, q1, q2, q3, i64_w, i32_w]
       rfl
      refine pure_ (i := 6) (N := some 27) (v := ?_) (a' := ?_) #[true, true, true, true, true, true, true, false, false, false, false] rfl rfl (any_of HT_.out (by kernel_rfl)) (fun _ _ _ h => h) (Or.inl ⟨by rfl, ?_⟩) ?_ ?_
      rotate_left
      ·
       intro w'
       go_simp
       with_reducible rfl
      rotate_left
      ·
       simp only [Act.put, q1, q2, q3, i64_w, i32_w]
       rfl
      refine pure_ (i := 7) (N := some 28) (v := ?_) (a' := ?_) #[true, true, true, true, true, true, true, true, false, false, false] rfl rfl (any_of HT_.out (by kernel_rfl)) (fun _ _ _ h => h) (Or.inl ⟨by rfl, ?_⟩) ?_ ?_
      rotate_left
      ·
       intro w'
       go_simp
       with_reducible rfl
      rotate_left
      ·
       simp only [Act.put, q1, q2, q3, i64_w, i32_w]
       rfl
      refine one_ (i := 8) (N := some 6) #[true, true, true, true, true, true, true, true, true, false, false] rfl rfl (one_of HT_.out (by kernel_rfl)) (by decide) (fun K hK => ?_)
      refine box_step ?hg (N := 6) ?hd (cs := #[.int .i64 0, .slice none 0 0]) (t := 24) ?hr ?_; (case hd => rfl); (case hg => rfl); (case hr => first | (go_simp; done) | (go_simp; rfl))
      intro gb116 hg w27 hbox hb
      have n0_ := aM (Kd.R_below (kr HO107) hb)
      have n1_ := aM (Kd.R_below (kr HO114) hb)
      have n2_ := aM (blk_below (kq BK101) hb)
      have n3_ := aM (blk_below (kq BK102) hb)
      have n4_ := aM (below_step (kb2 HB GE101 GE102) hb)
      have n5_ := aM (hbox)
      have n6_ := aM ((by rw [hg]; exact (below_size (kb2 HB GE101 GE102)) : w.heap.size ≤ gb116))
      have n7_ := aM ((by rw [hg]; exact (below_size (kb2 HB GE101 GE102)) : w.heap.size ≤ gb116))
      have n8_ := aM ((by rw [hg]; exact Nat.ne_of_lt (blk_lt (kq BK101)) : gb101 ≠ gb116))
      have n9_ := aM ((by rw [hg]; exact Nat.ne_of_gt (blk_lt (kq BK101)) : gb116 ≠ gb101))
      have n10_ := aM ((by rw [hg]; exact Nat.ne_of_lt (blk_lt (kq BK102)) : gb102 ≠ gb116))
      have n11_ := aM ((by rw [hg]; exact Nat.ne_of_gt (blk_lt (kq BK102)) : gb116 ≠ gb102))
      clear HO107
      clear HO114
      clear BK101
      clear BK102
      clear HB
      have HO107 := n0_
      have HO114 := n1_
      have BK101 := n2_
      have BK102 := n3_
      have HB := n4_
      have BK116 := n5_
      have GW116 := n6_
      have GE116 := n7_
      have NB101_116 := n8_
      have NB116_101 := n9_
      have NB102_116 := n10_
      have NB116_102 := n11_
      clear n0_ n1_ n2_ n3_ n4_ n5_ n6_ n7_ n8_ n9_ n10_ n11_
      clear hb hbox hg
      refine hK.out _ _ ⟨(blk_cell BK101.out 0).trans rfl, (blk_cell BK101.out 1).trans rfl, (blk_cell BK102.out 0).trans rfl, (blk_cell BK102.out 1).trans rfl, (blk_cell BK102.out 2).trans rfl⟩ (fun hHeld => ?_)
      clear hK K
      refine norm_ (a' := ?_) ?_ ?_
      rotate_left
      ·
       show Act.put _ (some 6) _ = _
       simp only [Act.put, q1, q2, q3, i64_w, i32_w]
       rfl
      exact norm_ (by simp only [putAll, Act.put, q1, q2, q3]) (hCont (.slice Ao25 t105.length co25, v113, gb116) _ ⟨hHeld, (by (with_reducible repeat (first | apply Kd.R_alloc | apply Kd.R_drewN | apply Kd.R_drew)); exact Kd.R_mono HO107.out (fun _ hk => hk.2)), (by (with_reducible repeat (first | apply Kd.R_alloc | apply Kd.R_drewN | apply Kd.R_drew)); exact Kd.R_mono HO114.out (fun _ hk => hk.2)), (kq BK101), (kq BK102), (kq BK116), GW116.out, GE116.out, NB101_116.out, NB116_101.out, NB102_116.out, NB116_102.out, (kb3 HB GE101 GE102 GE116)⟩)
     ·
      skip
      refine box_step ?hg (N := 6) ?hd (cs := #[.int .i64 0, .slice none 0 0]) (t := 24) ?hr ?_; (case hd => rfl); (case hg => rfl); (case hr => first | (go_simp; done) | (go_simp; rfl))
      intro gb116 hg w25 hbox hb
      have n0_ := aM (Kd.R_below (kr HO107) hb)
      have n1_ := aM (blk_below (kq BK101) hb)
      have n2_ := aM (blk_below (kq BK102) hb)
      have n3_ := aM (below_step (kb2 HB GE101 GE102) hb)
      have n4_ := aM (hbox)
      have n5_ := aM ((by rw [hg]; exact (below_size (kb2 HB GE101 GE102)) : w.heap.size ≤ gb116))
      have n6_ := aM ((by rw [hg]; exact (below_size (kb2 HB GE101 GE102)) : w.heap.size ≤ gb116))
      have n7_ := aM ((by rw [hg]; exact Nat.ne_of_lt (blk_lt (kq BK101)) : gb101 ≠ gb116))
      have n8_ := aM ((by rw [hg]; exact Nat.ne_of_gt (blk_lt (kq BK101)) : gb116 ≠ gb101))
      have n9_ := aM ((by rw [hg]; exact Nat.ne_of_lt (blk_lt (kq BK102)) : gb102 ≠ gb116))
      have n10_ := aM ((by rw [hg]; exact Nat.ne_of_gt (blk_lt (kq BK102)) : gb116 ≠ gb102))
      clear HO107
      clear BK101
      clear BK102
      clear HB
      have HO107 := n0_
      have BK101 := n1_
      have BK102 := n2_
      have HB := n3_
      have BK116 := n4_
      have GW116 := n5_
      have GE116 := n6_
      have NB101_116 := n7_
      have NB116_101 := n8_
      have NB102_116 := n9_
      have NB116_102 := n10_
      clear n0_ n1_ n2_ n3_ n4_ n5_ n6_ n7_ n8_ n9_ n10_
      clear hb hbox hg
      obtain ⟨Ao26, co26, eo26⟩ := Kd.R_slice HO107.out
      (first | subst eo26 | (injection eo26 with f1_ f2_ f3_; have f4_ := f1_.symm; have f5_ := f3_.symm; clear f1_ f2_ f3_; subst f4_; subst f5_))
      refine hK.out _ _ ⟨(blk_cell BK101.out 0).trans rfl, (blk_cell BK101.out 1).trans rfl, (blk_cell BK102.out 0).trans rfl, (blk_cell BK102.out 1).trans rfl, (blk_cell BK102.out 2).trans rfl⟩ (fun hHeld => ?_)
      clear hK K
      refine norm_ (a' := ?_) ?_ ?_
      rotate_left
      ·
       show Act.put _ (some 6) _ = _
       simp only [Act.put, q1, q2, q3, i64_w, i32_w]
       rfl
      refine one_ (i := 4) (N := some 26) #[true, true, true, true, true, false, false, false, true, false, false] rfl rfl (one_of HT_.out (by kernel_rfl)) (by decide) (fun K hK => ?_)
      refine goes_ Try.func13 (by kernel_rfl) rfl #[.agg #[.int .i64 t104, .slice Ao26 t105.length co26], .agg #[.int .i64 t108, .int .i64 t109, .int .i64 t110]] (by rfl) rfl rfl ka ?_
      with_reducible refine (spec_AddClue.calls k t104 _ _ t105 t108 t109 t110 t111 t112 t115 _ ?side1 ?side2 A12.out).mono ?_
      (case side1 => repeat (first | exact (Kd.R_reads' HO107.out).2.2 | (with_reducible refine Kd.C_alloc ?_ _) | (with_reducible refine Kd.C_drewN ?_ _) | (with_reducible refine Kd.C_drew ?_)))
      (case side2 => exact (Kd.R_reads' HO107.out).2.1)
      rintro e w27 ⟨v113, rfl, ho0, hb⟩
      refine ⟨_, rfl, ?_⟩
      have n0_ := aM (Kd.R_elder' (kr HO107) (Kd.R_base ho0) hb)
      have n1_ := aM (Kd.R_lower (Kd.R_new' ho0 (Kd.R_lt (kr HO107))) (below_size (kb3 HB GE101 GE102 GE116)))
      have n2_ := aM (blk_below (kq BK101) hb)
      have n3_ := aM (blk_below (kq BK102) hb)
      have n4_ := aM (blk_below (kq BK116) hb)
      have n5_ := aM (below_step (kb3 HB GE101 GE102 GE116) hb)
      clear HO107
      clear BK101
      clear BK102
      clear BK116
      clear HB
      have HO107 := n0_
      have HO114 := n1_
      have BK101 := n2_
      have BK102 := n3_
      have BK116 := n4_
      have HB := n5_
      clear n0_ n1_ n2_ n3_ n4_ n5_
      (try clear hb)
      (try clear hb2)
      (try clear hk)
      (try clear hi)
      (try clear ho0)
      refine hK.out _ _ ⟨(blk_cell BK101.out 0).trans rfl, (blk_cell BK101.out 1).trans rfl, (blk_cell BK102.out 0).trans rfl, (blk_cell BK102.out 1).trans rfl, (blk_cell BK102.out 2).trans rfl⟩ (fun hHeld => ?_)
      clear hK K
      refine norm_ (a' := ?_) ?_ ?_
      rotate_left
      ·
       show Act.put _ (some 26) _ = _
       simp only [Act.put, q1, q2, q3, i64_w, i32_w]
       rfl
      refine pure_ (i := 5) (N := some 21) (v := ?_) (a' := ?_) #[true, true, true, true, true, true, false, false, true, false, false] rfl rfl (any_of HT_.out (by kernel_rfl)) (fun _ _ _ h => h) (Or.inl ⟨by rfl, ?_⟩) ?_ ?_
      rotate_left
      ·
       intro w'
       go_simp
       with_reducible rfl
      rotate_left
      ·
       simp only [Act.put, q1, q2, q3, i64_w, i32_w]
       rfl
      refine pure_ (i := 6) (N := some 27) (v := ?_) (a' := ?_) #[true, true, true, true, true, true, true, false, true, false, false] rfl rfl (any_of HT_.out (by kernel_rfl)) (fun _ _ _ h => h) (Or.inl ⟨by rfl, ?_⟩) ?_ ?_
      rotate_left
      ·
       intro w'
       go_simp
       with_reducible rfl
      rotate_left
      ·
       simp only [Act.put, q1, q2, q3, i64_w, i32_w]
       rfl
      refine pure_ (i := 7) (N := some 28) (v := ?_) (a' := ?_) #[true, true, true, true, true, true, true, true, true, false, false] rfl rfl (any_of HT_.out (by kernel_rfl)) (fun _ _ _ h => h) (Or.inl ⟨by rfl, ?_⟩) ?_ ?_
      rotate_left
      ·
       intro w'
       go_simp
       with_reducible rfl
      rotate_left
      ·
       simp only [Act.put, q1, q2, q3, i64_w, i32_w]
       rfl
      exact norm_ (by simp only [putAll, Act.put, q1, q2, q3]) (hCont (.slice Ao26 t105.length co26, v113, gb116) _ ⟨hHeld, (by (with_reducible repeat (first | apply Kd.R_alloc | apply Kd.R_drewN | apply Kd.R_drew)); exact Kd.R_mono HO107.out (fun _ hk => hk.2)), (by (with_reducible repeat (first | apply Kd.R_alloc | apply Kd.R_drewN | apply Kd.R_drew)); exact Kd.R_mono HO114.out (fun _ hk => hk.2)), (kq BK101), (kq BK102), (kq BK116), GW116.out, GE116.out, NB101_116.out, NB116_101.out, NB102_116.out, NB116_102.out, (kb3 HB GE101 GE102 GE116)⟩)
    ·
     skip
     refine box_step ?hg (N := 6) ?hd (cs := #[.int .i64 0, .slice none 0 0]) (t := 24) ?hr ?_; (case hd => rfl); (case hg => rfl); (case hr => first | (go_simp; done) | (go_simp; rfl))
     intro gb116 hg w24 hbox hb
     have n0_ := aM (Kd.R_below (kr HO107) hb)
     have n1_ := aM (blk_below (kq BK101) hb)
     have n2_ := aM (blk_below (kq BK102) hb)
     have n3_ := aM (below_step (kb2 HB GE101 GE102) hb)
     have n4_ := aM (hbox)
     have n5_ := aM ((by rw [hg]; exact (below_size (kb2 HB GE101 GE102)) : w.heap.size ≤ gb116))
     have n6_ := aM ((by rw [hg]; exact (below_size (kb2 HB GE101 GE102)) : w.heap.size ≤ gb116))
     have n7_ := aM ((by rw [hg]; exact Nat.ne_of_lt (blk_lt (kq BK101)) : gb101 ≠ gb116))
     have n8_ := aM ((by rw [hg]; exact Nat.ne_of_gt (blk_lt (kq BK101)) : gb116 ≠ gb101))
     have n9_ := aM ((by rw [hg]; exact Nat.ne_of_lt (blk_lt (kq BK102)) : gb102 ≠ gb116))
     have n10_ := aM ((by rw [hg]; exact Nat.ne_of_gt (blk_lt (kq BK102)) : gb116 ≠ gb102))
     clear HO107
     clear BK101
     clear BK102
     clear HB
     have HO107 := n0_
     have BK101 := n1_
     have BK102 := n2_
     have HB := n3_
     have BK116 := n4_
     have GW116 := n5_
     have GE116 := n6_
     have NB101_116 := n7_
     have NB116_101 := n8_
     have NB102_116 := n9_
     have NB116_102 := n10_
     clear n0_ n1_ n2_ n3_ n4_ n5_ n6_ n7_ n8_ n9_ n10_
     clear hb hbox hg
     refine hK.out _ _ ⟨(blk_cell BK101.out 0).trans rfl, (blk_cell BK101.out 1).trans rfl, (blk_cell BK102.out 0).trans rfl, (blk_cell BK102.out 1).trans rfl, (blk_cell BK102.out 2).trans rfl⟩ (fun hHeld => ?_)
     clear hK K
     refine norm_ (a' := ?_) ?_ ?_
     rotate_left
     ·
      show Act.put _ (some 6) _ = _
      simp only [Act.put, q1, q2, q3, i64_w, i32_w]
      rfl
     refine one_ (i := 3) (N := some 25) #[true, true, true, true, false, false, false, false, true, false, false] rfl rfl (one_of HT_.out (by kernel_rfl)) (by decide) (fun K hK => ?_)
     refine goes_ Try.func15 (by kernel_rfl) rfl #[.agg #[.int .i64 a1_0, .int .i64 a1_1, .int .i64 a1_2]] (by rfl) rfl rfl ka ?_
     with_reducible refine (laws_toClue.calls a1_0 a1_1 a1_2 t108 t109 t110 _ A11.out).mono ?_
     rintro e w25 ⟨rfl, hb⟩
     refine ⟨_, rfl, ?_⟩
     have n0_ := aM (Kd.R_below (kr HO107) hb)
     have n1_ := aM (blk_below (kq BK101) hb)
     have n2_ := aM (blk_below (kq BK102) hb)
     have n3_ := aM (blk_below (kq BK116) hb)
     have n4_ := aM (below_step (kb3 HB GE101 GE102 GE116) hb)
     clear HO107
     clear BK101
     clear BK102
     clear BK116
     clear HB
     have HO107 := n0_
     have BK101 := n1_
     have BK102 := n2_
     have BK116 := n3_
     have HB := n4_
     clear n0_ n1_ n2_ n3_ n4_
     (try clear hb)
     (try clear hb2)
     (try clear hk)
     (try clear hi)
     obtain ⟨Ao26, co26, eo26⟩ := Kd.R_slice HO107.out
     (first | subst eo26 | (injection eo26 with f1_ f2_ f3_; have f4_ := f1_.symm; have f5_ := f3_.symm; clear f1_ f2_ f3_; subst f4_; subst f5_))
     refine hK.out _ _ ⟨(blk_cell BK101.out 0).trans rfl, (blk_cell BK101.out 1).trans rfl, (blk_cell BK102.out 0).trans rfl, (blk_cell BK102.out 1).trans rfl, (blk_cell BK102.out 2).trans rfl⟩ (fun hHeld => ?_)
     clear hK K
     refine norm_ (a' := ?_) ?_ ?_
     rotate_left
     ·
      show Act.put _ (some 25) _ = _
      simp only [Act.put, q1, q2, q3, i64_w, i32_w]
      rfl
     refine one_ (i := 4) (N := some 26) #[true, true, true, true, true, false, false, false, true, false, false] rfl rfl (one_of HT_.out (by kernel_rfl)) (by decide) (fun K hK => ?_)
     refine goes_ Try.func13 (by kernel_rfl) rfl #[.agg #[.int .i64 t104, .slice Ao26 t105.length co26], .agg #[.int .i64 t108, .int .i64 t109, .int .i64 t110]] (by rfl) rfl rfl ka ?_
     with_reducible refine (spec_AddClue.calls k t104 _ _ t105 t108 t109 t110 t111 t112 t115 _ ?side1 ?side2 A12.out).mono ?_
     (case side1 => repeat (first | exact (Kd.R_reads' HO107.out).2.2 | (with_reducible refine Kd.C_alloc ?_ _) | (with_reducible refine Kd.C_drewN ?_ _) | (with_reducible refine Kd.C_drew ?_)))
     (case side2 => exact (Kd.R_reads' HO107.out).2.1)
     rintro e w27 ⟨v113, rfl, ho0, hb⟩
     refine ⟨_, rfl, ?_⟩
     have n0_ := aM (Kd.R_elder' (kr HO107) (Kd.R_base ho0) hb)
     have n1_ := aM (Kd.R_lower (Kd.R_new' ho0 (Kd.R_lt (kr HO107))) (below_size (kb3 HB GE101 GE102 GE116)))
     have n2_ := aM (blk_below (kq BK101) hb)
     have n3_ := aM (blk_below (kq BK102) hb)
     have n4_ := aM (blk_below (kq BK116) hb)
     have n5_ := aM (below_step (kb3 HB GE101 GE102 GE116) hb)
     clear HO107
     clear BK101
     clear BK102
     clear BK116
     clear HB
     have HO107 := n0_
     have HO114 := n1_
     have BK101 := n2_
     have BK102 := n3_
     have BK116 := n4_
     have HB := n5_
     clear n0_ n1_ n2_ n3_ n4_ n5_
     (try clear hb)
     (try clear hb2)
     (try clear hk)
     (try clear hi)
     (try clear ho0)
     refine hK.out _ _ ⟨(blk_cell BK101.out 0).trans rfl, (blk_cell BK101.out 1).trans rfl, (blk_cell BK102.out 0).trans rfl, (blk_cell BK102.out 1).trans rfl, (blk_cell BK102.out 2).trans rfl⟩ (fun hHeld => ?_)
     clear hK K
     refine norm_ (a' := ?_) ?_ ?_
     rotate_left
     ·
      show Act.put _ (some 26) _ = _
      simp only [Act.put, q1, q2, q3, i64_w, i32_w]
      rfl
     refine pure_ (i := 5) (N := some 21) (v := ?_) (a' := ?_) #[true, true, true, true, true, true, false, false, true, false, false] rfl rfl (any_of HT_.out (by kernel_rfl)) (fun _ _ _ h => h) (Or.inl ⟨by rfl, ?_⟩) ?_ ?_
     rotate_left
     ·
      intro w'
      go_simp
      with_reducible rfl
     rotate_left
     ·
      simp only [Act.put, q1, q2, q3, i64_w, i32_w]
      rfl
     refine pure_ (i := 6) (N := some 27) (v := ?_) (a' := ?_) #[true, true, true, true, true, true, true, false, true, false, false] rfl rfl (any_of HT_.out (by kernel_rfl)) (fun _ _ _ h => h) (Or.inl ⟨by rfl, ?_⟩) ?_ ?_
     rotate_left
     ·
      intro w'
      go_simp
      with_reducible rfl
     rotate_left
     ·
      simp only [Act.put, q1, q2, q3, i64_w, i32_w]
      rfl
     refine pure_ (i := 7) (N := some 28) (v := ?_) (a' := ?_) #[true, true, true, true, true, true, true, true, true, false, false] rfl rfl (any_of HT_.out (by kernel_rfl)) (fun _ _ _ h => h) (Or.inl ⟨by rfl, ?_⟩) ?_ ?_
     rotate_left
     ·
      intro w'
      go_simp
      with_reducible rfl
     rotate_left
     ·
      simp only [Act.put, q1, q2, q3, i64_w, i32_w]
      rfl
     exact norm_ (by simp only [putAll, Act.put, q1, q2, q3]) (hCont (.slice Ao26 t105.length co26, v113, gb116) _ ⟨hHeld, (by (with_reducible repeat (first | apply Kd.R_alloc | apply Kd.R_drewN | apply Kd.R_drew)); exact Kd.R_mono HO107.out (fun _ hk => hk.2)), (by (with_reducible repeat (first | apply Kd.R_alloc | apply Kd.R_drewN | apply Kd.R_drew)); exact Kd.R_mono HO114.out (fun _ hk => hk.2)), (kq BK101), (kq BK102), (kq BK116), GW116.out, GE116.out, NB101_116.out, NB116_101.out, NB102_116.out, NB116_102.out, (kb3 HB GE101 GE102 GE116)⟩)
   ·
    skip
    refine box_step ?hg (N := 6) ?hd (cs := #[.int .i64 0, .slice none 0 0]) (t := 24) ?hr ?_; (case hd => rfl); (case hg => rfl); (case hr => first | (go_simp; done) | (go_simp; rfl))
    intro gb116 hg w23 hbox hb
    have n0_ := aM (blk_below (kq BK101) hb)
    have n1_ := aM (blk_below (kq BK102) hb)
    have n2_ := aM (below_step (kb2 HB GE101 GE102) hb)
    have n3_ := aM (hbox)
    have n4_ := aM ((by rw [hg]; exact (below_size (kb2 HB GE101 GE102)) : w.heap.size ≤ gb116))
    have n5_ := aM ((by rw [hg]; exact (below_size (kb2 HB GE101 GE102)) : w.heap.size ≤ gb116))
    have n6_ := aM ((by rw [hg]; exact Nat.ne_of_lt (blk_lt (kq BK101)) : gb101 ≠ gb116))
    have n7_ := aM ((by rw [hg]; exact Nat.ne_of_gt (blk_lt (kq BK101)) : gb116 ≠ gb101))
    have n8_ := aM ((by rw [hg]; exact Nat.ne_of_lt (blk_lt (kq BK102)) : gb102 ≠ gb116))
    have n9_ := aM ((by rw [hg]; exact Nat.ne_of_gt (blk_lt (kq BK102)) : gb116 ≠ gb102))
    clear BK101
    clear BK102
    clear HB
    have BK101 := n0_
    have BK102 := n1_
    have HB := n2_
    have BK116 := n3_
    have GW116 := n4_
    have GE116 := n5_
    have NB101_116 := n6_
    have NB116_101 := n7_
    have NB102_116 := n8_
    have NB116_102 := n9_
    clear n0_ n1_ n2_ n3_ n4_ n5_ n6_ n7_ n8_ n9_
    clear hb hbox hg
    refine hK.out _ _ ⟨(blk_cell BK101.out 0).trans rfl, (blk_cell BK101.out 1).trans rfl, (blk_cell BK102.out 0).trans rfl, (blk_cell BK102.out 1).trans rfl, (blk_cell BK102.out 2).trans rfl⟩ (fun hHeld => ?_)
    clear hK K
    refine norm_ (a' := ?_) ?_ ?_
    rotate_left
    ·
     show Act.put _ (some 6) _ = _
     simp only [Act.put, q1, q2, q3, i64_w, i32_w]
     rfl
    refine one_ (i := 1) (N := some 23) #[true, true, true, false, false, false, false, false, true, false, false] rfl rfl (one_of HT_.out (by kernel_rfl)) (by decide) (fun K hK => ?_)
    refine goes_ Try.func14 (by kernel_rfl) rfl #[.agg #[.int .i64 a0_0, .slice A0_1 l0_1.length c0_1]] (by rfl) rfl rfl ka ?_
    with_reducible refine (laws_toPuzzle.calls k a0_0 _ _ l0_1 t104 t105 _ ?side1 ?side2 A10.out).mono ?_
    (case side1 => repeat (first | exact (Kd.C_below HR0_1.out HB.out) | (with_reducible refine Kd.C_alloc ?_ _) | (with_reducible refine Kd.C_drewN ?_ _) | (with_reducible refine Kd.C_drew ?_)))
    (case side2 => exact HC0_1.out)
    rintro e w24 ⟨v106, rfl, ho0, hb⟩
    refine ⟨_, rfl, ?_⟩
    have n0_ := aM (Kd.R_lower ho0 (below_size (kb3 HB GE101 GE102 GE116)))
    have n1_ := aM (blk_below (kq BK101) hb)
    have n2_ := aM (blk_below (kq BK102) hb)
    have n3_ := aM (blk_below (kq BK116) hb)
    have n4_ := aM (below_step (kb3 HB GE101 GE102 GE116) hb)
    clear BK101
    clear BK102
    clear BK116
    clear HB
    have HO107 := n0_
    have BK101 := n1_
    have BK102 := n2_
    have BK116 := n3_
    have HB := n4_
    clear n0_ n1_ n2_ n3_ n4_
    (try clear hb)
    (try clear hb2)
    (try clear hk)
    (try clear hi)
    (try clear ho0)
    refine hK.out _ _ ⟨(blk_cell BK101.out 0).trans rfl, (blk_cell BK101.out 1).trans rfl, (blk_cell BK102.out 0).trans rfl, (blk_cell BK102.out 1).trans rfl, (blk_cell BK102.out 2).trans rfl⟩ (fun hHeld => ?_)
    clear hK K
    refine norm_ (a' := ?_) ?_ ?_
    rotate_left
    ·
     show Act.put _ (some 23) _ = _
     simp only [Act.put, q1, q2, q3, i64_w, i32_w]
     rfl
    refine one_ (i := 3) (N := some 25) #[true, true, true, true, false, false, false, false, true, false, false] rfl rfl (one_of HT_.out (by kernel_rfl)) (by decide) (fun K hK => ?_)
    refine goes_ Try.func15 (by kernel_rfl) rfl #[.agg #[.int .i64 a1_0, .int .i64 a1_1, .int .i64 a1_2]] (by rfl) rfl rfl ka ?_
    with_reducible refine (laws_toClue.calls a1_0 a1_1 a1_2 t108 t109 t110 _ A11.out).mono ?_
    rintro e w25 ⟨rfl, hb⟩
    refine ⟨_, rfl, ?_⟩
    have n0_ := aM (Kd.R_below (kr HO107) hb)
    have n1_ := aM (blk_below (kq BK101) hb)
    have n2_ := aM (blk_below (kq BK102) hb)
    have n3_ := aM (blk_below (kq BK116) hb)
    have n4_ := aM (below_step (kb3 HB GE101 GE102 GE116) hb)
    clear HO107
    clear BK101
    clear BK102
    clear BK116
    clear HB
    have HO107 := n0_
    have BK101 := n1_
    have BK102 := n2_
    have BK116 := n3_
    have HB := n4_
    clear n0_ n1_ n2_ n3_ n4_
    (try clear hb)
    (try clear hb2)
    (try clear hk)
    (try clear hi)
    obtain ⟨Ao26, co26, eo26⟩ := Kd.R_slice HO107.out
    (first | subst eo26 | (injection eo26 with f1_ f2_ f3_; have f4_ := f1_.symm; have f5_ := f3_.symm; clear f1_ f2_ f3_; subst f4_; subst f5_))
    refine hK.out _ _ ⟨(blk_cell BK101.out 0).trans rfl, (blk_cell BK101.out 1).trans rfl, (blk_cell BK102.out 0).trans rfl, (blk_cell BK102.out 1).trans rfl, (blk_cell BK102.out 2).trans rfl⟩ (fun hHeld => ?_)
    clear hK K
    refine norm_ (a' := ?_) ?_ ?_
    rotate_left
    ·
     show Act.put _ (some 25) _ = _
     simp only [Act.put, q1, q2, q3, i64_w, i32_w]
     rfl
    refine one_ (i := 4) (N := some 26) #[true, true, true, true, true, false, false, false, true, false, false] rfl rfl (one_of HT_.out (by kernel_rfl)) (by decide) (fun K hK => ?_)
    refine goes_ Try.func13 (by kernel_rfl) rfl #[.agg #[.int .i64 t104, .slice Ao26 t105.length co26], .agg #[.int .i64 t108, .int .i64 t109, .int .i64 t110]] (by rfl) rfl rfl ka ?_
    with_reducible refine (spec_AddClue.calls k t104 _ _ t105 t108 t109 t110 t111 t112 t115 _ ?side1 ?side2 A12.out).mono ?_
    (case side1 => repeat (first | exact (Kd.R_reads' HO107.out).2.2 | (with_reducible refine Kd.C_alloc ?_ _) | (with_reducible refine Kd.C_drewN ?_ _) | (with_reducible refine Kd.C_drew ?_)))
    (case side2 => exact (Kd.R_reads' HO107.out).2.1)
    rintro e w27 ⟨v113, rfl, ho0, hb⟩
    refine ⟨_, rfl, ?_⟩
    have n0_ := aM (Kd.R_elder' (kr HO107) (Kd.R_base ho0) hb)
    have n1_ := aM (Kd.R_lower (Kd.R_new' ho0 (Kd.R_lt (kr HO107))) (below_size (kb3 HB GE101 GE102 GE116)))
    have n2_ := aM (blk_below (kq BK101) hb)
    have n3_ := aM (blk_below (kq BK102) hb)
    have n4_ := aM (blk_below (kq BK116) hb)
    have n5_ := aM (below_step (kb3 HB GE101 GE102 GE116) hb)
    clear HO107
    clear BK101
    clear BK102
    clear BK116
    clear HB
    have HO107 := n0_
    have HO114 := n1_
    have BK101 := n2_
    have BK102 := n3_
    have BK116 := n4_
    have HB := n5_
    clear n0_ n1_ n2_ n3_ n4_ n5_
    (try clear hb)
    (try clear hb2)
    (try clear hk)
    (try clear hi)
    (try clear ho0)
    refine hK.out _ _ ⟨(blk_cell BK101.out 0).trans rfl, (blk_cell BK101.out 1).trans rfl, (blk_cell BK102.out 0).trans rfl, (blk_cell BK102.out 1).trans rfl, (blk_cell BK102.out 2).trans rfl⟩ (fun hHeld => ?_)
    clear hK K
    refine norm_ (a' := ?_) ?_ ?_
    rotate_left
    ·
     show Act.put _ (some 26) _ = _
     simp only [Act.put, q1, q2, q3, i64_w, i32_w]
     rfl
    refine pure_ (i := 5) (N := some 21) (v := ?_) (a' := ?_) #[true, true, true, true, true, true, false, false, true, false, false] rfl rfl (any_of HT_.out (by kernel_rfl)) (fun _ _ _ h => h) (Or.inl ⟨by rfl, ?_⟩) ?_ ?_
    rotate_left
    ·
     intro w'
     go_simp
     with_reducible rfl
    rotate_left
    ·
     simp only [Act.put, q1, q2, q3, i64_w, i32_w]
     rfl
    refine pure_ (i := 6) (N := some 27) (v := ?_) (a' := ?_) #[true, true, true, true, true, true, true, false, true, false, false] rfl rfl (any_of HT_.out (by kernel_rfl)) (fun _ _ _ h => h) (Or.inl ⟨by rfl, ?_⟩) ?_ ?_
    rotate_left
    ·
     intro w'
     go_simp
     with_reducible rfl
    rotate_left
    ·
     simp only [Act.put, q1, q2, q3, i64_w, i32_w]
     rfl
    refine pure_ (i := 7) (N := some 28) (v := ?_) (a' := ?_) #[true, true, true, true, true, true, true, true, true, false, false] rfl rfl (any_of HT_.out (by kernel_rfl)) (fun _ _ _ h => h) (Or.inl ⟨by rfl, ?_⟩) ?_ ?_
    rotate_left
    ·
     intro w'
     go_simp
     with_reducible rfl
    rotate_left
    ·
     simp only [Act.put, q1, q2, q3, i64_w, i32_w]
     rfl
    exact norm_ (by simp only [putAll, Act.put, q1, q2, q3]) (hCont (.slice Ao26 t105.length co26, v113, gb116) _ ⟨hHeld, (by (with_reducible repeat (first | apply Kd.R_alloc | apply Kd.R_drewN | apply Kd.R_drew)); exact Kd.R_mono HO107.out (fun _ hk => hk.2)), (by (with_reducible repeat (first | apply Kd.R_alloc | apply Kd.R_drewN | apply Kd.R_drew)); exact Kd.R_mono HO114.out (fun _ hk => hk.2)), (kq BK101), (kq BK102), (kq BK116), GW116.out, GE116.out, NB101_116.out, NB116_101.out, NB102_116.out, NB116_102.out, (kb3 HB GE101 GE102 GE116)⟩)
  rintro ⟨v106, v113, gb116⟩ w28 ⟨hS_, h0_, h1_, h2_, h3_, h4_, h5_, h6_, h7_, h8_, h9_, h10_, h11_⟩
  have n0_ : Aside0 (Kd.R k38 38 w28 w.heap.size (fun k_ => some k_ ≠ (v113 : Value).ownBlock) v106 t105) := ⟨h0_⟩
  have n1_ : Aside0 (Kd.R k38 38 w28 w.heap.size (fun k_ => some k_ ≠ (v106 : Value).ownBlock) v113 t112) := ⟨h1_⟩
  have n2_ : Aside0 (w28.heap[gb101]? = some (.cells #[.int .i64 a0_0, .slice A0_1 l0_1.length c0_1] 32 (0, 0))) := ⟨h2_⟩
  have n3_ : Aside0 (w28.heap[gb102]? = some (.cells #[.int .i64 a1_0, .int .i64 a1_1, .int .i64 a1_2] 34 (0, 0))) := ⟨h3_⟩
  have n4_ : Aside0 (w28.heap[gb116]? = some (.cells #[.int .i64 0, .slice none 0 0] 24 (0, 0))) := ⟨h4_⟩
  have n5_ : Aside0 (w.heap.size ≤ gb116) := ⟨h5_⟩
  have n6_ : Aside0 (w.heap.size ≤ gb116) := ⟨h6_⟩
  have n7_ : Aside0 (gb101 ≠ gb116) := ⟨h7_⟩
  have n8_ : Aside0 (gb116 ≠ gb101) := ⟨h8_⟩
  have n9_ : Aside0 (gb102 ≠ gb116) := ⟨h9_⟩
  have n10_ : Aside0 (gb116 ≠ gb102) := ⟨h10_⟩
  have n11_ : Aside0 (Below w.heap.size w w28) := ⟨h11_⟩
  clear BK101
  clear BK102
  clear HB
  clear h0_ h1_ h2_ h3_ h4_ h5_ h6_ h7_ h8_ h9_ h10_ h11_
  have HO107 := n0_
  have HO114 := n1_
  have BK101 := n2_
  have BK102 := n3_
  have BK116 := n4_
  have GW116 := n5_
  have GE116 := n6_
  have NB101_116 := n7_
  have NB116_101 := n8_
  have NB102_116 := n9_
  have NB116_102 := n10_
  have HB := n11_
  clear n0_ n1_ n2_ n3_ n4_ n5_ n6_ n7_ n8_ n9_ n10_ n11_
  have hHeld : w28.cell? ⟨gb101, 0, none⟩ = some (.int .i64 a0_0) ∧ w28.cell? ⟨gb101, 1, none⟩ = some (.slice A0_1 l0_1.length c0_1) ∧ w28.cell? ⟨gb102, 0, none⟩ = some (.int .i64 a1_0) ∧ w28.cell? ⟨gb102, 1, none⟩ = some (.int .i64 a1_1) ∧ w28.cell? ⟨gb102, 2, none⟩ = some (.int .i64 a1_2) := hS_
  obtain ⟨Ao30, co30, eo30⟩ := Kd.R_slice HO114.out
  (first | subst eo30 | (injection eo30 with f1_ f2_ f3_; have f4_ := f1_.symm; have f5_ := f3_.symm; clear f1_ f2_ f3_; subst f4_; subst f5_))
  refine norm_ (a' := ?_) ?_ ?_
  rotate_left
  ·
   simp only [putAll, Act.put, q1, q2, q3]
   rfl
  refine one_ (i := 9) (N := none) #[true, true, true, true, true, true, true, true, true, true, false] rfl rfl (one_of HT_.out (by kernel_rfl)) (by decide) (fun K hK => ?_)
  have hs29 : w28.cell? ⟨gb116, 0, none⟩ = some (.int .i64 0) := (blk_cell BK116.out 0).trans rfl
  have hfs29 := blk_frozen BK116.out 0
  have hns29_0 := NB101_116.out
  have hns29_1 := NB102_116.out
  have hms29_0 := NB116_101.out
  have hms29_1 := NB116_102.out
  have hs31 : w28.cell? ⟨gb116, 1, none⟩ = some (.slice none 0 0) := (blk_cell BK116.out 1).trans rfl
  have hfs31 := blk_frozen BK116.out 1
  have hns31_0 := NB101_116.out
  have hns31_1 := NB102_116.out
  have hms31_0 := NB116_101.out
  have hms31_1 := NB116_102.out
  refine skip_ (w1 := ?_) (by rfl) rfl ?_ ?_
  rotate_left
  ·
   go_simp
   rfl
  refine hK.out _ _ ⟨((cell_far (p := ⟨gb116, _, none⟩) NB101_116.out _).trans (((cell_far (p := ⟨gb116, _, none⟩) NB101_116.out _).trans (hHeld.1)))), ((cell_far (p := ⟨gb116, _, none⟩) NB101_116.out _).trans (((cell_far (p := ⟨gb116, _, none⟩) NB101_116.out _).trans (hHeld.2.1)))), ((cell_far (p := ⟨gb116, _, none⟩) NB102_116.out _).trans (((cell_far (p := ⟨gb116, _, none⟩) NB102_116.out _).trans (hHeld.2.2.1)))), ((cell_far (p := ⟨gb116, _, none⟩) NB102_116.out _).trans (((cell_far (p := ⟨gb116, _, none⟩) NB102_116.out _).trans (hHeld.2.2.2.1)))), ((cell_far (p := ⟨gb116, _, none⟩) NB102_116.out _).trans (((cell_far (p := ⟨gb116, _, none⟩) NB102_116.out _).trans (hHeld.2.2.2.2))))⟩ (fun hHeld => ?_)
  clear hK K
  refine pure_ (i := 10) (N := some 7) (v := ?_) (a' := ?_) #[true, true, true, true, true, true, true, true, true, true, true] rfl rfl (any_of HT_.out (by kernel_rfl)) (fun _ _ _ h => h) (Or.inl ⟨by rfl, ?_⟩) ?_ ?_
  rotate_left
  ·
   intro w'
   go_simp
   with_reducible rfl
  rotate_left
  ·
   simp only [Act.put, q1, q2, q3, i64_w, i32_w]
   rfl
  refine done_ (done_of HT_.out (by kernel_rfl)) ?_
  have hnb32 := NB101_116.out
  have hnc32 := NB116_101.out
  have hcz33_0 : w28.cell? ⟨gb101, 0, none⟩ = some (.int .i64 a0_0) := (blk_cell BK101.out 0).trans rfl
  have hcz33_1 : w28.cell? ⟨gb101, 1, none⟩ = some (.slice A0_1 l0_1.length c0_1) := (blk_cell BK101.out 1).trans rfl
  have hfz33_0 := blk_frozen BK101.out 0
  have hfz33_1 := blk_frozen BK101.out 1
  try go_wp2_with (first | ((with_reducible refine gate_callee (f := 14) rfl ?_); refine goesL_ (some 30) rfl rfl Try.func14 (by kernel_rfl) rfl #[.agg #[.int .i64 a0_0, .slice A0_1 l0_1.length c0_1]] rfl ka ?_; (with_reducible refine (laws_toPuzzle.calls k a0_0 _ _ l0_1 t117 t118 _ ?side1 ?side2 A13.out).mono ?_); (case side1 => exact Kd.C_below HR0_1.out (kb3 HB GE101 GE102 GE116)); (case side2 => exact HC0_1.out); rintro e w34 ⟨v119, rfl, ho0, hb⟩; refine ⟨_, rfl, ?_⟩; have n0_ := aM (Kd.R_elder' (by (with_reducible repeat (first | apply Kd.R_alloc | apply Kd.R_drewN | apply Kd.R_drew)); exact (Kd.R_mono (Kd.R_far (p := ⟨gb116, 1, none⟩) (Kd.R_far (p := ⟨gb116, 0, none⟩) (Kd.R_types HO107.out BK116.out (by decide)) (fun _ hk => hk.2) (.int .i64 t111)) (fun _ hk => hk.2) (.slice Ao30 t112.length co30)) (fun _ h_ => h_.1))) (Kd.R_base ho0) hb); have n1_ := aM (Kd.R_elder' (by (with_reducible repeat (first | apply Kd.R_alloc | apply Kd.R_drewN | apply Kd.R_drew)); exact (Kd.R_mono (Kd.R_far (p := ⟨gb116, 1, none⟩) (Kd.R_far (p := ⟨gb116, 0, none⟩) (Kd.R_types HO114.out BK116.out (by decide)) (fun _ hk => hk.2) (.int .i64 t111)) (fun _ hk => hk.2) (.slice Ao30 t112.length co30)) (fun _ h_ => h_.1))) (Kd.R_base ho0) hb); have n2_ := aM (Kd.R_lower (Kd.R_new' (Kd.R_new' ho0 (Kd.R_lt (by (with_reducible repeat (first | apply Kd.R_alloc | apply Kd.R_drewN | apply Kd.R_drew)); exact (Kd.R_mono (Kd.R_far (p := ⟨gb116, 1, none⟩) (Kd.R_far (p := ⟨gb116, 0, none⟩) (Kd.R_types HO107.out BK116.out (by decide)) (fun _ hk => hk.2) (.int .i64 t111)) (fun _ hk => hk.2) (.slice Ao30 t112.length co30)) (fun _ h_ => h_.1))))) (Kd.R_lt (by (with_reducible repeat (first | apply Kd.R_alloc | apply Kd.R_drewN | apply Kd.R_drew)); exact (Kd.R_mono (Kd.R_far (p := ⟨gb116, 1, none⟩) (Kd.R_far (p := ⟨gb116, 0, none⟩) (Kd.R_types HO114.out BK116.out (by decide)) (fun _ hk => hk.2) (.int .i64 t111)) (fun _ hk => hk.2) (.slice Ao30 t112.length co30)) (fun _ h_ => h_.1))))) (below_size (kb3 HB GE101 GE102 GE116))); have n3_ := aM (blk_below (blk_far (p := ⟨gb116, 1, none⟩) (blk_far (p := ⟨gb116, 0, none⟩) BK101.out NB101_116.out _) NB101_116.out _) hb); have n4_ := aM (blk_below (blk_far (p := ⟨gb116, 1, none⟩) (blk_far (p := ⟨gb116, 0, none⟩) BK102.out NB102_116.out _) NB102_116.out _) hb); have n5_ := aM (blk_below (g := gb116) (o := .cells #[.int .i64 t111, .slice Ao30 t112.length co30] 24 (0, 0)) (by (with_reducible repeat (first | refine blk_drewN ?_ _ | refine blk_drew ?_ | refine blk_alloc ?_ _)); refine blk_put (cs := #[.int .i64 t111, .slice none 0 0]) ?_ 1 _ rfl; (with_reducible repeat (first | refine blk_drewN ?_ _ | refine blk_drew ?_ | refine blk_alloc ?_ _)); refine blk_put (cs := #[.int .i64 0, .slice none 0 0]) ?_ 0 _ rfl; (with_reducible repeat (first | refine blk_drewN ?_ _ | refine blk_drew ?_ | refine blk_alloc ?_ _)); exact BK116.out) hb); have n6_ := aM (below_step (kb3 HB GE101 GE102 GE116) hb); clear HO107; clear HO114; clear BK101; clear BK102; clear BK116; clear HB; have HO107 := n0_; have HO114 := n1_; have HO120 := n2_; have BK101 := n3_; have BK102 := n4_; have BK116 := n5_; have HB := n6_; clear n0_ n1_ n2_ n3_ n4_ n5_ n6_; (try clear hb); (try clear hb2); (try clear hk); (try clear hi); (try clear ho0)) | ((with_reducible refine gate_dst (N := 8) rfl ?_); refine box_event ?hg (N := 8) ?hd (cs := #[.int .i64 0, .slice none 0 0]) (t := 24) ?hr ?_; (case hd => rfl); (case hg => rfl); (case hr => first | (go_simp; done) | (go_simp; rfl)); intro gb121 hg w35 hbox hb; have n0_ := aM (Kd.R_below (kr HO107) hb); have n1_ := aM (Kd.R_below (kr HO114) hb); have n2_ := aM (Kd.R_below (kr HO120) hb); have n3_ := aM (blk_below (kq BK101) hb); have n4_ := aM (blk_below (kq BK102) hb); have n5_ := aM (blk_below (kq BK116) hb); have n6_ := aM (below_step (kb3 HB GE101 GE102 GE116) hb); have n7_ := aM (hbox); have n8_ := aM ((by rw [hg]; exact (below_size (kb3 HB GE101 GE102 GE116)) : w.heap.size ≤ gb121)); have n9_ := aM ((by rw [hg]; exact (below_size (kb3 HB GE101 GE102 GE116)) : w.heap.size ≤ gb121)); have n10_ := aM ((by rw [hg]; exact Nat.ne_of_lt (blk_lt (kq BK101)) : gb101 ≠ gb121)); have n11_ := aM ((by rw [hg]; exact Nat.ne_of_gt (blk_lt (kq BK101)) : gb121 ≠ gb101)); have n12_ := aM ((by rw [hg]; exact Nat.ne_of_lt (blk_lt (kq BK102)) : gb102 ≠ gb121)); have n13_ := aM ((by rw [hg]; exact Nat.ne_of_gt (blk_lt (kq BK102)) : gb121 ≠ gb102)); have n14_ := aM ((by rw [hg]; exact Nat.ne_of_lt (blk_lt (kq BK116)) : gb116 ≠ gb121)); have n15_ := aM ((by rw [hg]; exact Nat.ne_of_gt (blk_lt (kq BK116)) : gb121 ≠ gb116)); clear HO107; clear HO114; clear HO120; clear BK101; clear BK102; clear BK116; clear HB; have HO107 := n0_; have HO114 := n1_; have HO120 := n2_; have BK101 := n3_; have BK102 := n4_; have BK116 := n5_; have HB := n6_; have BK121 := n7_; have GW121 := n8_; have GE121 := n9_; have NB101_121 := n10_; have NB121_101 := n11_; have NB102_121 := n12_; have NB121_102 := n13_; have NB116_121 := n14_; have NB121_116 := n15_; clear n0_ n1_ n2_ n3_ n4_ n5_ n6_ n7_ n8_ n9_ n10_ n11_ n12_ n13_ n14_ n15_; clear hb hbox hg; have hnb36 := NB121_101.out; have hnc36 := NB101_121.out; have hnb37 := NB121_102.out; have hnc37 := NB102_121.out; have hnb38 := NB121_116.out; have hnc38 := NB116_121.out; have hcz39_0 : w35.cell? ⟨gb121, 0, none⟩ = some (.int .i64 0) := (blk_cell BK121.out 0).trans rfl; have hcz39_1 : w35.cell? ⟨gb121, 1, none⟩ = some (.slice none 0 0) := (blk_cell BK121.out 1).trans rfl; have hfz39_0 := blk_frozen BK121.out 0; have hfz39_1 := blk_frozen BK121.out 1; obtain ⟨Ao40, co40, eo40⟩ := Kd.R_slice HO120.out; subst eo40))
  have n0_ : Aside0 (Kd.R k38 38 ((w35.setCell ⟨gb121, 0, none⟩ (.int .i64 t117)).setCell ⟨gb121, 1, none⟩ (.slice Ao40 t118.length co40)) w.heap.size (fun k_ => some k_ ≠ (.slice Ao30 t112.length co30 : Value).ownBlock ∧ some k_ ≠ (.slice Ao40 t118.length co40 : Value).ownBlock) v106 t105) := ⟨by (with_reducible repeat (first | apply Kd.R_alloc | apply Kd.R_drewN | apply Kd.R_drew)); exact Kd.R_mono (Kd.R_far (p := ⟨gb121, 1, none⟩) (Kd.R_far (p := ⟨gb121, 0, none⟩) (Kd.R_types HO107.out BK121.out (by decide)) (fun _ hk => hk.2) (.int .i64 t117)) (fun _ hk => hk.2) (.slice Ao40 t118.length co40)) (fun _ hk => ⟨hk.1.1, hk.1.2⟩)⟩
  have n1_ : Aside0 (Kd.R k38 38 ((w35.setCell ⟨gb121, 0, none⟩ (.int .i64 t117)).setCell ⟨gb121, 1, none⟩ (.slice Ao40 t118.length co40)) w.heap.size (fun k_ => some k_ ≠ (v106 : Value).ownBlock ∧ some k_ ≠ (.slice Ao40 t118.length co40 : Value).ownBlock) (.slice Ao30 t112.length co30) t112) := ⟨by (with_reducible repeat (first | apply Kd.R_alloc | apply Kd.R_drewN | apply Kd.R_drew)); exact Kd.R_mono (Kd.R_far (p := ⟨gb121, 1, none⟩) (Kd.R_far (p := ⟨gb121, 0, none⟩) (Kd.R_types HO114.out BK121.out (by decide)) (fun _ hk => hk.2) (.int .i64 t117)) (fun _ hk => hk.2) (.slice Ao40 t118.length co40)) (fun _ hk => ⟨hk.1.1, hk.1.2⟩)⟩
  have n2_ : Aside0 (Kd.R k38 38 ((w35.setCell ⟨gb121, 0, none⟩ (.int .i64 t117)).setCell ⟨gb121, 1, none⟩ (.slice Ao40 t118.length co40)) w.heap.size (fun k_ => some k_ ≠ (v106 : Value).ownBlock ∧ some k_ ≠ (.slice Ao30 t112.length co30 : Value).ownBlock) (.slice Ao40 t118.length co40) t118) := ⟨by (with_reducible repeat (first | apply Kd.R_alloc | apply Kd.R_drewN | apply Kd.R_drew)); exact Kd.R_mono (Kd.R_far (p := ⟨gb121, 1, none⟩) (Kd.R_far (p := ⟨gb121, 0, none⟩) (Kd.R_types HO120.out BK121.out (by decide)) (fun _ hk => hk.2) (.int .i64 t117)) (fun _ hk => hk.2) (.slice Ao40 t118.length co40)) (fun _ hk => ⟨hk.1.1.2, hk.1.2⟩)⟩
  have n3_ : Aside0 (((w35.setCell ⟨gb121, 0, none⟩ (.int .i64 t117)).setCell ⟨gb121, 1, none⟩ (.slice Ao40 t118.length co40)).heap[gb101]? = some (.cells #[.int .i64 a0_0, .slice A0_1 l0_1.length c0_1] 32 (0, 0))) := ⟨by (with_reducible repeat (first | refine blk_drewN ?_ _ | refine blk_drew ?_ | refine blk_alloc ?_ _)); refine blk_far ?_ NB101_121.out _; (with_reducible repeat (first | refine blk_drewN ?_ _ | refine blk_drew ?_ | refine blk_alloc ?_ _)); refine blk_far ?_ NB101_121.out _; (with_reducible repeat (first | refine blk_drewN ?_ _ | refine blk_drew ?_ | refine blk_alloc ?_ _)); exact BK101.out⟩
  have n4_ : Aside0 (((w35.setCell ⟨gb121, 0, none⟩ (.int .i64 t117)).setCell ⟨gb121, 1, none⟩ (.slice Ao40 t118.length co40)).heap[gb102]? = some (.cells #[.int .i64 a1_0, .int .i64 a1_1, .int .i64 a1_2] 34 (0, 0))) := ⟨by (with_reducible repeat (first | refine blk_drewN ?_ _ | refine blk_drew ?_ | refine blk_alloc ?_ _)); refine blk_far ?_ NB102_121.out _; (with_reducible repeat (first | refine blk_drewN ?_ _ | refine blk_drew ?_ | refine blk_alloc ?_ _)); refine blk_far ?_ NB102_121.out _; (with_reducible repeat (first | refine blk_drewN ?_ _ | refine blk_drew ?_ | refine blk_alloc ?_ _)); exact BK102.out⟩
  have n5_ : Aside0 (((w35.setCell ⟨gb121, 0, none⟩ (.int .i64 t117)).setCell ⟨gb121, 1, none⟩ (.slice Ao40 t118.length co40)).heap[gb116]? = some (.cells #[.int .i64 t111, .slice Ao30 t112.length co30] 24 (0, 0))) := ⟨by (with_reducible repeat (first | refine blk_drewN ?_ _ | refine blk_drew ?_ | refine blk_alloc ?_ _)); refine blk_far ?_ NB116_121.out _; (with_reducible repeat (first | refine blk_drewN ?_ _ | refine blk_drew ?_ | refine blk_alloc ?_ _)); refine blk_far ?_ NB116_121.out _; (with_reducible repeat (first | refine blk_drewN ?_ _ | refine blk_drew ?_ | refine blk_alloc ?_ _)); exact BK116.out⟩
  have n6_ : Aside0 (((w35.setCell ⟨gb121, 0, none⟩ (.int .i64 t117)).setCell ⟨gb121, 1, none⟩ (.slice Ao40 t118.length co40)).heap[gb121]? = some (.cells #[.int .i64 t117, .slice Ao40 t118.length co40] 24 (0, 0))) := ⟨by (with_reducible repeat (first | refine blk_drewN ?_ _ | refine blk_drew ?_ | refine blk_alloc ?_ _)); refine blk_put (cs := #[.int .i64 t117, .slice none 0 0]) ?_ 1 _ rfl; (with_reducible repeat (first | refine blk_drewN ?_ _ | refine blk_drew ?_ | refine blk_alloc ?_ _)); refine blk_put (cs := #[.int .i64 0, .slice none 0 0]) ?_ 0 _ rfl; (with_reducible repeat (first | refine blk_drewN ?_ _ | refine blk_drew ?_ | refine blk_alloc ?_ _)); exact BK121.out⟩
  have n7_ : Aside0 (Below w.heap.size w ((w35.setCell ⟨gb121, 0, none⟩ (.int .i64 t117)).setCell ⟨gb121, 1, none⟩ (.slice Ao40 t118.length co40))) := ⟨(kb4 HB GE101 GE102 GE116 GE121)⟩
  (try clear HO107)
  (try clear HO114)
  (try clear HO120)
  (try clear BK101)
  (try clear BK102)
  (try clear BK116)
  (try clear BK121)
  (try clear HB)
  generalize ((w35.setCell ⟨gb121, 0, none⟩ (.int .i64 t117)).setCell ⟨gb121, 1, none⟩ (.slice Ao40 t118.length co40)) = w41 at n0_ n1_ n2_ n3_ n4_ n5_ n6_ n7_ ⊢
  have HO107 := n0_
  have HO114 := n1_
  have HO120 := n2_
  have BK101 := n3_
  have BK102 := n4_
  have BK116 := n5_
  have BK121 := n6_
  have HB := n7_
  clear n0_ n1_ n2_ n3_ n4_ n5_ n6_ n7_
  have n0_ := aM (Kd.R_drew HO107.out)
  have n1_ := aM (Kd.R_drew HO114.out)
  have n2_ := aM (Kd.R_drew HO120.out)
  have n3_ := aM (blk_drew BK101.out)
  have n4_ := aM (blk_drew BK102.out)
  have n5_ := aM (blk_drew BK116.out)
  have n6_ := aM (blk_drew BK121.out)
  have n7_ := aM (below_drew1 HB.out)
  clear HO107
  clear HO114
  clear HO120
  clear BK101
  clear BK102
  clear BK116
  clear BK121
  clear HB
  have HO107 := n0_
  have HO114 := n1_
  have HO120 := n2_
  have BK101 := n3_
  have BK102 := n4_
  have BK116 := n5_
  have BK121 := n6_
  have HB := n7_
  clear n0_ n1_ n2_ n3_ n4_ n5_ n6_ n7_
  refine start_ (n := 10) (S := fun w' => w'.cell? ⟨gb121, 0, none⟩ = some (.int .i64 t117) ∧ w'.cell? ⟨gb121, 1, none⟩ = some (.slice Ao40 t118.length co40) ∧ w'.cell? ⟨gb102, 0, none⟩ = some (.int .i64 a1_0) ∧ w'.cell? ⟨gb102, 1, none⟩ = some (.int .i64 a1_1) ∧ w'.cell? ⟨gb102, 2, none⟩ = some (.int .i64 a1_2)) (ds := []) #[false, false, false, false, false, false, false, false, false, false] (by kernel_rfl) rfl rfl ⟨(blk_cell BK121.out 0).trans rfl, (blk_cell BK121.out 1).trans rfl, (blk_cell BK102.out 0).trans rfl, (blk_cell BK102.out 1).trans rfl, (blk_cell BK102.out 2).trans rfl⟩ (fun hHeld => ?_); refine with_tabW laws_FnExactAddClue.tab7 laws_FnExactAddClue.bits7 (fun HT_ HW_ => ?_)
  generalize w41.drew = w42 at HO107 HO114 HO120 BK101 BK102 BK116 BK121 HB hHeld ⊢
  refine take_ (i := 0) (N := some 32) (v := ?_) (a' := ?_) #[true, false, false, false, false, false, false, false, false, false] rfl rfl (take_ofW HT_.out HW_.out (by kernel_rfl)) (fun _ _ _ h => h) (Or.inl ⟨by rfl, ?_⟩) hHeld ?_ ?_
  rotate_left
  ·
   rintro w' ⟨s0, s1, s2, s3, s4⟩
   go_simp
   with_reducible rfl
  rotate_left
  ·
   simp only [Act.put, q1, q2, q3, i64_w, i32_w]
   rfl
  refine take_ (i := 1) (N := some 33) (v := ?_) (a' := ?_) #[true, true, false, false, false, false, false, false, false, false] rfl rfl (take_ofW HT_.out HW_.out (by kernel_rfl)) (fun _ _ _ h => h) (Or.inl ⟨by rfl, ?_⟩) hHeld ?_ ?_
  rotate_left
  ·
   rintro w' ⟨s0, s1, s2, s3, s4⟩
   go_simp
   with_reducible rfl
  rotate_left
  ·
   simp only [Act.put, q1, q2, q3, i64_w, i32_w]
   rfl
  refine join_ (σ := Value × Nat) 2 #[true, true, true, true, true, true, true, true, false, false] (fun s_ => [(34, .agg #[.int .i64 t122, .int .i64 t123, .int .i64 t124]), (35, .tuple #[.agg #[.int .i64 t125, s_.1], .bool t129]), (9, .pointer (some ⟨s_.2, 0, none⟩)), (31, .tuple #[.agg #[.int .i64 t125, s_.1], .bool t129]), (36, .agg #[.int .i64 t125, s_.1]), (37, .bool t129)]) (fun s_ w' => (w'.cell? ⟨gb121, 0, none⟩ = some (.int .i64 t117) ∧ w'.cell? ⟨gb121, 1, none⟩ = some (.slice Ao40 t118.length co40) ∧ w'.cell? ⟨gb102, 0, none⟩ = some (.int .i64 a1_0) ∧ w'.cell? ⟨gb102, 1, none⟩ = some (.int .i64 a1_1) ∧ w'.cell? ⟨gb102, 2, none⟩ = some (.int .i64 a1_2)) ∧ (Kd.R k38 38 w' w.heap.size (fun k_ => some k_ ≠ (.slice Ao30 t112.length co30 : Value).ownBlock ∧ some k_ ≠ (.slice Ao40 t118.length co40 : Value).ownBlock ∧ some k_ ≠ (s_.1 : Value).ownBlock) v106 t105) ∧ (Kd.R k38 38 w' w.heap.size (fun k_ => some k_ ≠ (v106 : Value).ownBlock ∧ some k_ ≠ (.slice Ao40 t118.length co40 : Value).ownBlock ∧ some k_ ≠ (s_.1 : Value).ownBlock) (.slice Ao30 t112.length co30) t112) ∧ (Kd.R k38 38 w' w.heap.size (fun k_ => some k_ ≠ (v106 : Value).ownBlock ∧ some k_ ≠ (.slice Ao30 t112.length co30 : Value).ownBlock ∧ some k_ ≠ (s_.1 : Value).ownBlock) (.slice Ao40 t118.length co40) t118) ∧ (Kd.R k38 38 w' w.heap.size (fun k_ => some k_ ≠ (v106 : Value).ownBlock ∧ some k_ ≠ (.slice Ao30 t112.length co30 : Value).ownBlock ∧ some k_ ≠ (.slice Ao40 t118.length co40 : Value).ownBlock) s_.1 t126) ∧ (w'.heap[gb101]? = some (.cells #[.int .i64 a0_0, .slice A0_1 l0_1.length c0_1] 32 (0, 0))) ∧ (w'.heap[gb102]? = some (.cells #[.int .i64 a1_0, .int .i64 a1_1, .int .i64 a1_2] 34 (0, 0))) ∧ (w'.heap[gb116]? = some (.cells #[.int .i64 t111, .slice Ao30 t112.length co30] 24 (0, 0))) ∧ (w'.heap[gb121]? = some (.cells #[.int .i64 t117, .slice Ao40 t118.length co40] 24 (0, 0))) ∧ (w'.heap[s_.2]? = some (.cells #[.int .i64 0, .slice none 0 0] 24 (0, 0))) ∧ (w.heap.size ≤ s_.2) ∧ (w.heap.size ≤ s_.2) ∧ (gb101 ≠ s_.2) ∧ (s_.2 ≠ gb101) ∧ (gb102 ≠ s_.2) ∧ (s_.2 ≠ gb102) ∧ (gb116 ≠ s_.2) ∧ (s_.2 ≠ gb116) ∧ (gb121 ≠ s_.2) ∧ (s_.2 ≠ gb121) ∧ (Below w.heap.size w w')) ?_ ?_
  rotate_left
  ·
   intro hCont
   refine two_ (i := 2) (j := 7) (Ni := some 34) (Nj := some 9) #[true, true, true, false, false, false, false, false, false, false] #[true, true, false, false, false, false, false, true, false, false] rfl rfl rfl rfl (two_of HT_.out (by kernel_rfl)) (by decide) (by decide) (fun K hK => ?_) (fun K hK => ?_)
   ·
    skip
    refine goes_ Try.func15 (by kernel_rfl) rfl #[.agg #[.int .i64 a1_0, .int .i64 a1_1, .int .i64 a1_2]] (by rfl) rfl rfl ka ?_
    with_reducible refine (laws_toClue.calls a1_0 a1_1 a1_2 t122 t123 t124 _ A14.out).mono ?_
    rintro e w43 ⟨rfl, hb⟩
    refine ⟨_, rfl, ?_⟩
    have n0_ := aM (Kd.R_below (kr HO107) hb)
    have n1_ := aM (Kd.R_below (kr HO114) hb)
    have n2_ := aM (Kd.R_below (kr HO120) hb)
    have n3_ := aM (blk_below (kq BK101) hb)
    have n4_ := aM (blk_below (kq BK102) hb)
    have n5_ := aM (blk_below (kq BK116) hb)
    have n6_ := aM (blk_below (kq BK121) hb)
    have n7_ := aM (below_step (kb4 HB GE101 GE102 GE116 GE121) hb)
    clear HO107
    clear HO114
    clear HO120
    clear BK101
    clear BK102
    clear BK116
    clear BK121
    clear HB
    have HO107 := n0_
    have HO114 := n1_
    have HO120 := n2_
    have BK101 := n3_
    have BK102 := n4_
    have BK116 := n5_
    have BK121 := n6_
    have HB := n7_
    clear n0_ n1_ n2_ n3_ n4_ n5_ n6_ n7_
    (try clear hb)
    (try clear hb2)
    (try clear hk)
    (try clear hi)
    refine hK.out _ _ ⟨(blk_cell BK121.out 0).trans rfl, (blk_cell BK121.out 1).trans rfl, (blk_cell BK102.out 0).trans rfl, (blk_cell BK102.out 1).trans rfl, (blk_cell BK102.out 2).trans rfl⟩ (fun hHeld => ?_)
    clear hK K
    refine norm_ (a' := ?_) ?_ ?_
    rotate_left
    ·
     show Act.put _ (some 34) _ = _
     simp only [Act.put, q1, q2, q3, i64_w, i32_w]
     rfl
    refine two_ (i := 3) (j := 7) (Ni := some 35) (Nj := some 9) #[true, true, true, true, false, false, false, false, false, false] #[true, true, true, false, false, false, false, true, false, false] rfl rfl rfl rfl (two_of HT_.out (by kernel_rfl)) (by decide) (by decide) (fun K hK => ?_) (fun K hK => ?_)
    ·
     skip
     refine goes_ Try.func16 (by kernel_rfl) rfl #[.agg #[.int .i64 t117, .slice Ao40 t118.length co40], .agg #[.int .i64 t122, .int .i64 t123, .int .i64 t124]] (by rfl) rfl rfl ka ?_
     with_reducible refine (impl_AddClue.calls k t117 _ _ t118 t122 t123 t124 t125 t126 t129 _ ?side1 ?side2 A15.out).mono ?_
     (case side1 => repeat (first | exact (Kd.R_reads' HO120.out).2.2 | (with_reducible refine Kd.C_alloc ?_ _) | (with_reducible refine Kd.C_drewN ?_ _) | (with_reducible refine Kd.C_drew ?_)))
     (case side2 => exact (Kd.R_reads' HO120.out).2.1)
     rintro e w44 ⟨v127, rfl, ho0, hb⟩
     refine ⟨_, rfl, ?_⟩
     have n0_ := aM (Kd.R_elder' (kr HO107) (Kd.R_base ho0) hb)
     have n1_ := aM (Kd.R_elder' (kr HO114) (Kd.R_base ho0) hb)
     have n2_ := aM (Kd.R_elder' (kr HO120) (Kd.R_base ho0) hb)
     have n3_ := aM (Kd.R_lower (Kd.R_new' (Kd.R_new' (Kd.R_new' ho0 (Kd.R_lt (kr HO107))) (Kd.R_lt (kr HO114))) (Kd.R_lt (kr HO120))) (below_size (kb4 HB GE101 GE102 GE116 GE121)))
     have n4_ := aM (blk_below (kq BK101) hb)
     have n5_ := aM (blk_below (kq BK102) hb)
     have n6_ := aM (blk_below (kq BK116) hb)
     have n7_ := aM (blk_below (kq BK121) hb)
     have n8_ := aM (below_step (kb4 HB GE101 GE102 GE116 GE121) hb)
     clear HO107
     clear HO114
     clear HO120
     clear BK101
     clear BK102
     clear BK116
     clear BK121
     clear HB
     have HO107 := n0_
     have HO114 := n1_
     have HO120 := n2_
     have HO128 := n3_
     have BK101 := n4_
     have BK102 := n5_
     have BK116 := n6_
     have BK121 := n7_
     have HB := n8_
     clear n0_ n1_ n2_ n3_ n4_ n5_ n6_ n7_ n8_
     (try clear hb)
     (try clear hb2)
     (try clear hk)
     (try clear hi)
     (try clear ho0)
     refine hK.out _ _ ⟨(blk_cell BK121.out 0).trans rfl, (blk_cell BK121.out 1).trans rfl, (blk_cell BK102.out 0).trans rfl, (blk_cell BK102.out 1).trans rfl, (blk_cell BK102.out 2).trans rfl⟩ (fun hHeld => ?_)
     clear hK K
     refine norm_ (a' := ?_) ?_ ?_
     rotate_left
     ·
      show Act.put _ (some 35) _ = _
      simp only [Act.put, q1, q2, q3, i64_w, i32_w]
      rfl
     refine pure_ (i := 4) (N := some 31) (v := ?_) (a' := ?_) #[true, true, true, true, true, false, false, false, false, false] rfl rfl (any_of HT_.out (by kernel_rfl)) (fun _ _ _ h => h) (Or.inl ⟨by rfl, ?_⟩) ?_ ?_
     rotate_left
     ·
      intro w'
      go_simp
      with_reducible rfl
     rotate_left
     ·
      simp only [Act.put, q1, q2, q3, i64_w, i32_w]
      rfl
     refine pure_ (i := 5) (N := some 36) (v := ?_) (a' := ?_) #[true, true, true, true, true, true, false, false, false, false] rfl rfl (any_of HT_.out (by kernel_rfl)) (fun _ _ _ h => h) (Or.inl ⟨by rfl, ?_⟩) ?_ ?_
     rotate_left
     ·
      intro w'
      go_simp
      with_reducible rfl
     rotate_left
     ·
      simp only [Act.put, q1, q2, q3, i64_w, i32_w]
      rfl
     refine pure_ (i := 6) (N := some 37) (v := ?_) (a' := ?_) #[true, true, true, true, true, true, true, false, false, false] rfl rfl (any_of HT_.out (by kernel_rfl)) (fun _ _ _ h => h) (Or.inl ⟨by rfl, ?_⟩) ?_ ?_
     rotate_left
     ·
      intro w'
      go_simp
      with_reducible rfl
     rotate_left
     ·
      simp only [Act.put, q1, q2, q3, i64_w, i32_w]
      rfl
     refine one_ (i := 7) (N := some 9) #[true, true, true, true, true, true, true, true, false, false] rfl rfl (one_of HT_.out (by kernel_rfl)) (by decide) (fun K hK => ?_)
     refine box_step ?hg (N := 9) ?hd (cs := #[.int .i64 0, .slice none 0 0]) (t := 24) ?hr ?_; (case hd => rfl); (case hg => rfl); (case hr => first | (go_simp; done) | (go_simp; rfl))
     intro gb130 hg w45 hbox hb
     have n0_ := aM (Kd.R_below (kr HO107) hb)
     have n1_ := aM (Kd.R_below (kr HO114) hb)
     have n2_ := aM (Kd.R_below (kr HO120) hb)
     have n3_ := aM (Kd.R_below (kr HO128) hb)
     have n4_ := aM (blk_below (kq BK101) hb)
     have n5_ := aM (blk_below (kq BK102) hb)
     have n6_ := aM (blk_below (kq BK116) hb)
     have n7_ := aM (blk_below (kq BK121) hb)
     have n8_ := aM (below_step (kb4 HB GE101 GE102 GE116 GE121) hb)
     have n9_ := aM (hbox)
     have n10_ := aM ((by rw [hg]; exact (below_size (kb4 HB GE101 GE102 GE116 GE121)) : w.heap.size ≤ gb130))
     have n11_ := aM ((by rw [hg]; exact (below_size (kb4 HB GE101 GE102 GE116 GE121)) : w.heap.size ≤ gb130))
     have n12_ := aM ((by rw [hg]; exact Nat.ne_of_lt (blk_lt (kq BK101)) : gb101 ≠ gb130))
     have n13_ := aM ((by rw [hg]; exact Nat.ne_of_gt (blk_lt (kq BK101)) : gb130 ≠ gb101))
     have n14_ := aM ((by rw [hg]; exact Nat.ne_of_lt (blk_lt (kq BK102)) : gb102 ≠ gb130))
     have n15_ := aM ((by rw [hg]; exact Nat.ne_of_gt (blk_lt (kq BK102)) : gb130 ≠ gb102))
     have n16_ := aM ((by rw [hg]; exact Nat.ne_of_lt (blk_lt (kq BK116)) : gb116 ≠ gb130))
     have n17_ := aM ((by rw [hg]; exact Nat.ne_of_gt (blk_lt (kq BK116)) : gb130 ≠ gb116))
     have n18_ := aM ((by rw [hg]; exact Nat.ne_of_lt (blk_lt (kq BK121)) : gb121 ≠ gb130))
     have n19_ := aM ((by rw [hg]; exact Nat.ne_of_gt (blk_lt (kq BK121)) : gb130 ≠ gb121))
     clear HO107
     clear HO114
     clear HO120
     clear HO128
     clear BK101
     clear BK102
     clear BK116
     clear BK121
     clear HB
     have HO107 := n0_
     have HO114 := n1_
     have HO120 := n2_
     have HO128 := n3_
     have BK101 := n4_
     have BK102 := n5_
     have BK116 := n6_
     have BK121 := n7_
     have HB := n8_
     have BK130 := n9_
     have GW130 := n10_
     have GE130 := n11_
     have NB101_130 := n12_
     have NB130_101 := n13_
     have NB102_130 := n14_
     have NB130_102 := n15_
     have NB116_130 := n16_
     have NB130_116 := n17_
     have NB121_130 := n18_
     have NB130_121 := n19_
     clear n0_ n1_ n2_ n3_ n4_ n5_ n6_ n7_ n8_ n9_ n10_ n11_ n12_ n13_ n14_ n15_ n16_ n17_ n18_ n19_
     clear hb hbox hg
     refine hK.out _ _ ⟨(blk_cell BK121.out 0).trans rfl, (blk_cell BK121.out 1).trans rfl, (blk_cell BK102.out 0).trans rfl, (blk_cell BK102.out 1).trans rfl, (blk_cell BK102.out 2).trans rfl⟩ (fun hHeld => ?_)
     clear hK K
     refine norm_ (a' := ?_) ?_ ?_
     rotate_left
     ·
      show Act.put _ (some 9) _ = _
      simp only [Act.put, q1, q2, q3, i64_w, i32_w]
      rfl
     exact norm_ (by simp only [putAll, Act.put, q1, q2, q3]) (hCont (v127, gb130) _ ⟨hHeld, (by (with_reducible repeat (first | apply Kd.R_alloc | apply Kd.R_drewN | apply Kd.R_drew)); exact Kd.R_mono HO107.out (fun _ hk => ⟨hk.1.1, ⟨hk.1.2, hk.2⟩⟩)), (by (with_reducible repeat (first | apply Kd.R_alloc | apply Kd.R_drewN | apply Kd.R_drew)); exact Kd.R_mono HO114.out (fun _ hk => ⟨hk.1.1, ⟨hk.1.2, hk.2⟩⟩)), (by (with_reducible repeat (first | apply Kd.R_alloc | apply Kd.R_drewN | apply Kd.R_drew)); exact Kd.R_mono HO120.out (fun _ hk => ⟨hk.1.1, ⟨hk.1.2, hk.2⟩⟩)), (by (with_reducible repeat (first | apply Kd.R_alloc | apply Kd.R_drewN | apply Kd.R_drew)); exact Kd.R_mono HO128.out (fun _ hk => ⟨hk.1.1.2, ⟨hk.1.2, hk.2⟩⟩)), (kq BK101), (kq BK102), (kq BK116), (kq BK121), (kq BK130), GW130.out, GE130.out, NB101_130.out, NB130_101.out, NB102_130.out, NB130_102.out, NB116_130.out, NB130_116.out, NB121_130.out, NB130_121.out, (kb5 HB GE101 GE102 GE116 GE121 GE130)⟩)
    ·
     skip
     refine box_step ?hg (N := 9) ?hd (cs := #[.int .i64 0, .slice none 0 0]) (t := 24) ?hr ?_; (case hd => rfl); (case hg => rfl); (case hr => first | (go_simp; done) | (go_simp; rfl))
     intro gb130 hg w44 hbox hb
     have n0_ := aM (Kd.R_below (kr HO107) hb)
     have n1_ := aM (Kd.R_below (kr HO114) hb)
     have n2_ := aM (Kd.R_below (kr HO120) hb)
     have n3_ := aM (blk_below (kq BK101) hb)
     have n4_ := aM (blk_below (kq BK102) hb)
     have n5_ := aM (blk_below (kq BK116) hb)
     have n6_ := aM (blk_below (kq BK121) hb)
     have n7_ := aM (below_step (kb4 HB GE101 GE102 GE116 GE121) hb)
     have n8_ := aM (hbox)
     have n9_ := aM ((by rw [hg]; exact (below_size (kb4 HB GE101 GE102 GE116 GE121)) : w.heap.size ≤ gb130))
     have n10_ := aM ((by rw [hg]; exact (below_size (kb4 HB GE101 GE102 GE116 GE121)) : w.heap.size ≤ gb130))
     have n11_ := aM ((by rw [hg]; exact Nat.ne_of_lt (blk_lt (kq BK101)) : gb101 ≠ gb130))
     have n12_ := aM ((by rw [hg]; exact Nat.ne_of_gt (blk_lt (kq BK101)) : gb130 ≠ gb101))
     have n13_ := aM ((by rw [hg]; exact Nat.ne_of_lt (blk_lt (kq BK102)) : gb102 ≠ gb130))
     have n14_ := aM ((by rw [hg]; exact Nat.ne_of_gt (blk_lt (kq BK102)) : gb130 ≠ gb102))
     have n15_ := aM ((by rw [hg]; exact Nat.ne_of_lt (blk_lt (kq BK116)) : gb116 ≠ gb130))
     have n16_ := aM ((by rw [hg]; exact Nat.ne_of_gt (blk_lt (kq BK116)) : gb130 ≠ gb116))
     have n17_ := aM ((by rw [hg]; exact Nat.ne_of_lt (blk_lt (kq BK121)) : gb121 ≠ gb130))
     have n18_ := aM ((by rw [hg]; exact Nat.ne_of_gt (blk_lt (kq BK121)) : gb130 ≠ gb121))
     clear HO107
     clear HO114
     clear HO120
     clear BK101
     clear BK102
     clear BK116
     clear BK121
     clear HB
     have HO107 := n0_
     have HO114 := n1_
     have HO120 := n2_
     have BK101 := n3_
     have BK102 := n4_
     have BK116 := n5_
     have BK121 := n6_
     have HB := n7_
     have BK130 := n8_
     have GW130 := n9_
     have GE130 := n10_
     have NB101_130 := n11_
     have NB130_101 := n12_
     have NB102_130 := n13_
     have NB130_102 := n14_
     have NB116_130 := n15_
     have NB130_116 := n16_
     have NB121_130 := n17_
     have NB130_121 := n18_
     clear n0_ n1_ n2_ n3_ n4_ n5_ n6_ n7_ n8_ n9_ n10_ n11_ n12_ n13_ n14_ n15_ n16_ n17_ n18_
     clear hb hbox hg
     refine hK.out _ _ ⟨(blk_cell BK121.out 0).trans rfl, (blk_cell BK121.out 1).trans rfl, (blk_cell BK102.out 0).trans rfl, (blk_cell BK102.out 1).trans rfl, (blk_cell BK102.out 2).trans rfl⟩ (fun hHeld => ?_)
     clear hK K
     refine norm_ (a' := ?_) ?_ ?_
     rotate_left
     ·
      show Act.put _ (some 9) _ = _
      simp only [Act.put, q1, q2, q3, i64_w, i32_w]
      rfl
     refine one_ (i := 3) (N := some 35) #[true, true, true, true, false, false, false, true, false, false] rfl rfl (one_of HT_.out (by kernel_rfl)) (by decide) (fun K hK => ?_)
     refine goes_ Try.func16 (by kernel_rfl) rfl #[.agg #[.int .i64 t117, .slice Ao40 t118.length co40], .agg #[.int .i64 t122, .int .i64 t123, .int .i64 t124]] (by rfl) rfl rfl ka ?_
     with_reducible refine (impl_AddClue.calls k t117 _ _ t118 t122 t123 t124 t125 t126 t129 _ ?side1 ?side2 A15.out).mono ?_
     (case side1 => repeat (first | exact (Kd.R_reads' HO120.out).2.2 | (with_reducible refine Kd.C_alloc ?_ _) | (with_reducible refine Kd.C_drewN ?_ _) | (with_reducible refine Kd.C_drew ?_)))
     (case side2 => exact (Kd.R_reads' HO120.out).2.1)
     rintro e w45 ⟨v127, rfl, ho0, hb⟩
     refine ⟨_, rfl, ?_⟩
     have n0_ := aM (Kd.R_elder' (kr HO107) (Kd.R_base ho0) hb)
     have n1_ := aM (Kd.R_elder' (kr HO114) (Kd.R_base ho0) hb)
     have n2_ := aM (Kd.R_elder' (kr HO120) (Kd.R_base ho0) hb)
     have n3_ := aM (Kd.R_lower (Kd.R_new' (Kd.R_new' (Kd.R_new' ho0 (Kd.R_lt (kr HO107))) (Kd.R_lt (kr HO114))) (Kd.R_lt (kr HO120))) (below_size (kb5 HB GE101 GE102 GE116 GE121 GE130)))
     have n4_ := aM (blk_below (kq BK101) hb)
     have n5_ := aM (blk_below (kq BK102) hb)
     have n6_ := aM (blk_below (kq BK116) hb)
     have n7_ := aM (blk_below (kq BK121) hb)
     have n8_ := aM (blk_below (kq BK130) hb)
     have n9_ := aM (below_step (kb5 HB GE101 GE102 GE116 GE121 GE130) hb)
     clear HO107
     clear HO114
     clear HO120
     clear BK101
     clear BK102
     clear BK116
     clear BK121
     clear BK130
     clear HB
     have HO107 := n0_
     have HO114 := n1_
     have HO120 := n2_
     have HO128 := n3_
     have BK101 := n4_
     have BK102 := n5_
     have BK116 := n6_
     have BK121 := n7_
     have BK130 := n8_
     have HB := n9_
     clear n0_ n1_ n2_ n3_ n4_ n5_ n6_ n7_ n8_ n9_
     (try clear hb)
     (try clear hb2)
     (try clear hk)
     (try clear hi)
     (try clear ho0)
     refine hK.out _ _ ⟨(blk_cell BK121.out 0).trans rfl, (blk_cell BK121.out 1).trans rfl, (blk_cell BK102.out 0).trans rfl, (blk_cell BK102.out 1).trans rfl, (blk_cell BK102.out 2).trans rfl⟩ (fun hHeld => ?_)
     clear hK K
     refine norm_ (a' := ?_) ?_ ?_
     rotate_left
     ·
      show Act.put _ (some 35) _ = _
      simp only [Act.put, q1, q2, q3, i64_w, i32_w]
      rfl
     refine pure_ (i := 4) (N := some 31) (v := ?_) (a' := ?_) #[true, true, true, true, true, false, false, true, false, false] rfl rfl (any_of HT_.out (by kernel_rfl)) (fun _ _ _ h => h) (Or.inl ⟨by rfl, ?_⟩) ?_ ?_
     rotate_left
     ·
      intro w'
      go_simp
      with_reducible rfl
     rotate_left
     ·
      simp only [Act.put, q1, q2, q3, i64_w, i32_w]
      rfl
     refine pure_ (i := 5) (N := some 36) (v := ?_) (a' := ?_) #[true, true, true, true, true, true, false, true, false, false] rfl rfl (any_of HT_.out (by kernel_rfl)) (fun _ _ _ h => h) (Or.inl ⟨by rfl, ?_⟩) ?_ ?_
     rotate_left
     ·
      intro w'
      go_simp
      with_reducible rfl
     rotate_left
     ·
      simp only [Act.put, q1, q2, q3, i64_w, i32_w]
      rfl
     refine pure_ (i := 6) (N := some 37) (v := ?_) (a' := ?_) #[true, true, true, true, true, true, true, true, false, false] rfl rfl (any_of HT_.out (by kernel_rfl)) (fun _ _ _ h => h) (Or.inl ⟨by rfl, ?_⟩) ?_ ?_
     rotate_left
     ·
      intro w'
      go_simp
      with_reducible rfl
     rotate_left
     ·
      simp only [Act.put, q1, q2, q3, i64_w, i32_w]
      rfl
     exact norm_ (by simp only [putAll, Act.put, q1, q2, q3]) (hCont (v127, gb130) _ ⟨hHeld, (by (with_reducible repeat (first | apply Kd.R_alloc | apply Kd.R_drewN | apply Kd.R_drew)); exact Kd.R_mono HO107.out (fun _ hk => ⟨hk.1.1, ⟨hk.1.2, hk.2⟩⟩)), (by (with_reducible repeat (first | apply Kd.R_alloc | apply Kd.R_drewN | apply Kd.R_drew)); exact Kd.R_mono HO114.out (fun _ hk => ⟨hk.1.1, ⟨hk.1.2, hk.2⟩⟩)), (by (with_reducible repeat (first | apply Kd.R_alloc | apply Kd.R_drewN | apply Kd.R_drew)); exact Kd.R_mono HO120.out (fun _ hk => ⟨hk.1.1, ⟨hk.1.2, hk.2⟩⟩)), (by (with_reducible repeat (first | apply Kd.R_alloc | apply Kd.R_drewN | apply Kd.R_drew)); exact Kd.R_mono HO128.out (fun _ hk => ⟨hk.1.1.2, ⟨hk.1.2, hk.2⟩⟩)), (kq BK101), (kq BK102), (kq BK116), (kq BK121), (kq BK130), GW130.out, GE130.out, NB101_130.out, NB130_101.out, NB102_130.out, NB130_102.out, NB116_130.out, NB130_116.out, NB121_130.out, NB130_121.out, (kb5 HB GE101 GE102 GE116 GE121 GE130)⟩)
   ·
    skip
    refine box_step ?hg (N := 9) ?hd (cs := #[.int .i64 0, .slice none 0 0]) (t := 24) ?hr ?_; (case hd => rfl); (case hg => rfl); (case hr => first | (go_simp; done) | (go_simp; rfl))
    intro gb130 hg w43 hbox hb
    have n0_ := aM (Kd.R_below (kr HO107) hb)
    have n1_ := aM (Kd.R_below (kr HO114) hb)
    have n2_ := aM (Kd.R_below (kr HO120) hb)
    have n3_ := aM (blk_below (kq BK101) hb)
    have n4_ := aM (blk_below (kq BK102) hb)
    have n5_ := aM (blk_below (kq BK116) hb)
    have n6_ := aM (blk_below (kq BK121) hb)
    have n7_ := aM (below_step (kb4 HB GE101 GE102 GE116 GE121) hb)
    have n8_ := aM (hbox)
    have n9_ := aM ((by rw [hg]; exact (below_size (kb4 HB GE101 GE102 GE116 GE121)) : w.heap.size ≤ gb130))
    have n10_ := aM ((by rw [hg]; exact (below_size (kb4 HB GE101 GE102 GE116 GE121)) : w.heap.size ≤ gb130))
    have n11_ := aM ((by rw [hg]; exact Nat.ne_of_lt (blk_lt (kq BK101)) : gb101 ≠ gb130))
    have n12_ := aM ((by rw [hg]; exact Nat.ne_of_gt (blk_lt (kq BK101)) : gb130 ≠ gb101))
    have n13_ := aM ((by rw [hg]; exact Nat.ne_of_lt (blk_lt (kq BK102)) : gb102 ≠ gb130))
    have n14_ := aM ((by rw [hg]; exact Nat.ne_of_gt (blk_lt (kq BK102)) : gb130 ≠ gb102))
    have n15_ := aM ((by rw [hg]; exact Nat.ne_of_lt (blk_lt (kq BK116)) : gb116 ≠ gb130))
    have n16_ := aM ((by rw [hg]; exact Nat.ne_of_gt (blk_lt (kq BK116)) : gb130 ≠ gb116))
    have n17_ := aM ((by rw [hg]; exact Nat.ne_of_lt (blk_lt (kq BK121)) : gb121 ≠ gb130))
    have n18_ := aM ((by rw [hg]; exact Nat.ne_of_gt (blk_lt (kq BK121)) : gb130 ≠ gb121))
    clear HO107
    clear HO114
    clear HO120
    clear BK101
    clear BK102
    clear BK116
    clear BK121
    clear HB
    have HO107 := n0_
    have HO114 := n1_
    have HO120 := n2_
    have BK101 := n3_
    have BK102 := n4_
    have BK116 := n5_
    have BK121 := n6_
    have HB := n7_
    have BK130 := n8_
    have GW130 := n9_
    have GE130 := n10_
    have NB101_130 := n11_
    have NB130_101 := n12_
    have NB102_130 := n13_
    have NB130_102 := n14_
    have NB116_130 := n15_
    have NB130_116 := n16_
    have NB121_130 := n17_
    have NB130_121 := n18_
    clear n0_ n1_ n2_ n3_ n4_ n5_ n6_ n7_ n8_ n9_ n10_ n11_ n12_ n13_ n14_ n15_ n16_ n17_ n18_
    clear hb hbox hg
    refine hK.out _ _ ⟨(blk_cell BK121.out 0).trans rfl, (blk_cell BK121.out 1).trans rfl, (blk_cell BK102.out 0).trans rfl, (blk_cell BK102.out 1).trans rfl, (blk_cell BK102.out 2).trans rfl⟩ (fun hHeld => ?_)
    clear hK K
    refine norm_ (a' := ?_) ?_ ?_
    rotate_left
    ·
     show Act.put _ (some 9) _ = _
     simp only [Act.put, q1, q2, q3, i64_w, i32_w]
     rfl
    refine one_ (i := 2) (N := some 34) #[true, true, true, false, false, false, false, true, false, false] rfl rfl (one_of HT_.out (by kernel_rfl)) (by decide) (fun K hK => ?_)
    refine goes_ Try.func15 (by kernel_rfl) rfl #[.agg #[.int .i64 a1_0, .int .i64 a1_1, .int .i64 a1_2]] (by rfl) rfl rfl ka ?_
    with_reducible refine (laws_toClue.calls a1_0 a1_1 a1_2 t122 t123 t124 _ A14.out).mono ?_
    rintro e w44 ⟨rfl, hb⟩
    refine ⟨_, rfl, ?_⟩
    have n0_ := aM (Kd.R_below (kr HO107) hb)
    have n1_ := aM (Kd.R_below (kr HO114) hb)
    have n2_ := aM (Kd.R_below (kr HO120) hb)
    have n3_ := aM (blk_below (kq BK101) hb)
    have n4_ := aM (blk_below (kq BK102) hb)
    have n5_ := aM (blk_below (kq BK116) hb)
    have n6_ := aM (blk_below (kq BK121) hb)
    have n7_ := aM (blk_below (kq BK130) hb)
    have n8_ := aM (below_step (kb5 HB GE101 GE102 GE116 GE121 GE130) hb)
    clear HO107
    clear HO114
    clear HO120
    clear BK101
    clear BK102
    clear BK116
    clear BK121
    clear BK130
    clear HB
    have HO107 := n0_
    have HO114 := n1_
    have HO120 := n2_
    have BK101 := n3_
    have BK102 := n4_
    have BK116 := n5_
    have BK121 := n6_
    have BK130 := n7_
    have HB := n8_
    clear n0_ n1_ n2_ n3_ n4_ n5_ n6_ n7_ n8_
    (try clear hb)
    (try clear hb2)
    (try clear hk)
    (try clear hi)
    refine hK.out _ _ ⟨(blk_cell BK121.out 0).trans rfl, (blk_cell BK121.out 1).trans rfl, (blk_cell BK102.out 0).trans rfl, (blk_cell BK102.out 1).trans rfl, (blk_cell BK102.out 2).trans rfl⟩ (fun hHeld => ?_)
    clear hK K
    refine norm_ (a' := ?_) ?_ ?_
    rotate_left
    ·
     show Act.put _ (some 34) _ = _
     simp only [Act.put, q1, q2, q3, i64_w, i32_w]
     rfl
    refine one_ (i := 3) (N := some 35) #[true, true, true, true, false, false, false, true, false, false] rfl rfl (one_of HT_.out (by kernel_rfl)) (by decide) (fun K hK => ?_)
    refine goes_ Try.func16 (by kernel_rfl) rfl #[.agg #[.int .i64 t117, .slice Ao40 t118.length co40], .agg #[.int .i64 t122, .int .i64 t123, .int .i64 t124]] (by rfl) rfl rfl ka ?_
    with_reducible refine (impl_AddClue.calls k t117 _ _ t118 t122 t123 t124 t125 t126 t129 _ ?side1 ?side2 A15.out).mono ?_
    (case side1 => repeat (first | exact (Kd.R_reads' HO120.out).2.2 | (with_reducible refine Kd.C_alloc ?_ _) | (with_reducible refine Kd.C_drewN ?_ _) | (with_reducible refine Kd.C_drew ?_)))
    (case side2 => exact (Kd.R_reads' HO120.out).2.1)
    rintro e w45 ⟨v127, rfl, ho0, hb⟩
    refine ⟨_, rfl, ?_⟩
    have n0_ := aM (Kd.R_elder' (kr HO107) (Kd.R_base ho0) hb)
    have n1_ := aM (Kd.R_elder' (kr HO114) (Kd.R_base ho0) hb)
    have n2_ := aM (Kd.R_elder' (kr HO120) (Kd.R_base ho0) hb)
    have n3_ := aM (Kd.R_lower (Kd.R_new' (Kd.R_new' (Kd.R_new' ho0 (Kd.R_lt (kr HO107))) (Kd.R_lt (kr HO114))) (Kd.R_lt (kr HO120))) (below_size (kb5 HB GE101 GE102 GE116 GE121 GE130)))
    have n4_ := aM (blk_below (kq BK101) hb)
    have n5_ := aM (blk_below (kq BK102) hb)
    have n6_ := aM (blk_below (kq BK116) hb)
    have n7_ := aM (blk_below (kq BK121) hb)
    have n8_ := aM (blk_below (kq BK130) hb)
    have n9_ := aM (below_step (kb5 HB GE101 GE102 GE116 GE121 GE130) hb)
    clear HO107
    clear HO114
    clear HO120
    clear BK101
    clear BK102
    clear BK116
    clear BK121
    clear BK130
    clear HB
    have HO107 := n0_
    have HO114 := n1_
    have HO120 := n2_
    have HO128 := n3_
    have BK101 := n4_
    have BK102 := n5_
    have BK116 := n6_
    have BK121 := n7_
    have BK130 := n8_
    have HB := n9_
    clear n0_ n1_ n2_ n3_ n4_ n5_ n6_ n7_ n8_ n9_
    (try clear hb)
    (try clear hb2)
    (try clear hk)
    (try clear hi)
    (try clear ho0)
    refine hK.out _ _ ⟨(blk_cell BK121.out 0).trans rfl, (blk_cell BK121.out 1).trans rfl, (blk_cell BK102.out 0).trans rfl, (blk_cell BK102.out 1).trans rfl, (blk_cell BK102.out 2).trans rfl⟩ (fun hHeld => ?_)
    clear hK K
    refine norm_ (a' := ?_) ?_ ?_
    rotate_left
    ·
     show Act.put _ (some 35) _ = _
     simp only [Act.put, q1, q2, q3, i64_w, i32_w]
     rfl
    refine pure_ (i := 4) (N := some 31) (v := ?_) (a' := ?_) #[true, true, true, true, true, false, false, true, false, false] rfl rfl (any_of HT_.out (by kernel_rfl)) (fun _ _ _ h => h) (Or.inl ⟨by rfl, ?_⟩) ?_ ?_
    rotate_left
    ·
     intro w'
     go_simp
     with_reducible rfl
    rotate_left
    ·
     simp only [Act.put, q1, q2, q3, i64_w, i32_w]
     rfl
    refine pure_ (i := 5) (N := some 36) (v := ?_) (a' := ?_) #[true, true, true, true, true, true, false, true, false, false] rfl rfl (any_of HT_.out (by kernel_rfl)) (fun _ _ _ h => h) (Or.inl ⟨by rfl, ?_⟩) ?_ ?_
    rotate_left
    ·
     intro w'
     go_simp
     with_reducible rfl
    rotate_left
    ·
     simp only [Act.put, q1, q2, q3, i64_w, i32_w]
     rfl
    refine pure_ (i := 6) (N := some 37) (v := ?_) (a' := ?_) #[true, true, true, true, true, true, true, true, false, false] rfl rfl (any_of HT_.out (by kernel_rfl)) (fun _ _ _ h => h) (Or.inl ⟨by rfl, ?_⟩) ?_ ?_
    rotate_left
    ·
     intro w'
     go_simp
     with_reducible rfl
    rotate_left
    ·
     simp only [Act.put, q1, q2, q3, i64_w, i32_w]
     rfl
    exact norm_ (by simp only [putAll, Act.put, q1, q2, q3]) (hCont (v127, gb130) _ ⟨hHeld, (by (with_reducible repeat (first | apply Kd.R_alloc | apply Kd.R_drewN | apply Kd.R_drew)); exact Kd.R_mono HO107.out (fun _ hk => ⟨hk.1.1, ⟨hk.1.2, hk.2⟩⟩)), (by (with_reducible repeat (first | apply Kd.R_alloc | apply Kd.R_drewN | apply Kd.R_drew)); exact Kd.R_mono HO114.out (fun _ hk => ⟨hk.1.1, ⟨hk.1.2, hk.2⟩⟩)), (by (with_reducible repeat (first | apply Kd.R_alloc | apply Kd.R_drewN | apply Kd.R_drew)); exact Kd.R_mono HO120.out (fun _ hk => ⟨hk.1.1, ⟨hk.1.2, hk.2⟩⟩)), (by (with_reducible repeat (first | apply Kd.R_alloc | apply Kd.R_drewN | apply Kd.R_drew)); exact Kd.R_mono HO128.out (fun _ hk => ⟨hk.1.1.2, ⟨hk.1.2, hk.2⟩⟩)), (kq BK101), (kq BK102), (kq BK116), (kq BK121), (kq BK130), GW130.out, GE130.out, NB101_130.out, NB130_101.out, NB102_130.out, NB130_102.out, NB116_130.out, NB130_116.out, NB121_130.out, NB130_121.out, (kb5 HB GE101 GE102 GE116 GE121 GE130)⟩)
  rintro ⟨v127, gb130⟩ w46 ⟨hS_, h0_, h1_, h2_, h3_, h4_, h5_, h6_, h7_, h8_, h9_, h10_, h11_, h12_, h13_, h14_, h15_, h16_, h17_, h18_, h19_⟩
  have n0_ : Aside0 (Kd.R k38 38 w46 w.heap.size (fun k_ => some k_ ≠ (.slice Ao30 t112.length co30 : Value).ownBlock ∧ some k_ ≠ (.slice Ao40 t118.length co40 : Value).ownBlock ∧ some k_ ≠ (v127 : Value).ownBlock) v106 t105) := ⟨h0_⟩
  have n1_ : Aside0 (Kd.R k38 38 w46 w.heap.size (fun k_ => some k_ ≠ (v106 : Value).ownBlock ∧ some k_ ≠ (.slice Ao40 t118.length co40 : Value).ownBlock ∧ some k_ ≠ (v127 : Value).ownBlock) (.slice Ao30 t112.length co30) t112) := ⟨h1_⟩
  have n2_ : Aside0 (Kd.R k38 38 w46 w.heap.size (fun k_ => some k_ ≠ (v106 : Value).ownBlock ∧ some k_ ≠ (.slice Ao30 t112.length co30 : Value).ownBlock ∧ some k_ ≠ (v127 : Value).ownBlock) (.slice Ao40 t118.length co40) t118) := ⟨h2_⟩
  have n3_ : Aside0 (Kd.R k38 38 w46 w.heap.size (fun k_ => some k_ ≠ (v106 : Value).ownBlock ∧ some k_ ≠ (.slice Ao30 t112.length co30 : Value).ownBlock ∧ some k_ ≠ (.slice Ao40 t118.length co40 : Value).ownBlock) v127 t126) := ⟨h3_⟩
  have n4_ : Aside0 (w46.heap[gb101]? = some (.cells #[.int .i64 a0_0, .slice A0_1 l0_1.length c0_1] 32 (0, 0))) := ⟨h4_⟩
  have n5_ : Aside0 (w46.heap[gb102]? = some (.cells #[.int .i64 a1_0, .int .i64 a1_1, .int .i64 a1_2] 34 (0, 0))) := ⟨h5_⟩
  have n6_ : Aside0 (w46.heap[gb116]? = some (.cells #[.int .i64 t111, .slice Ao30 t112.length co30] 24 (0, 0))) := ⟨h6_⟩
  have n7_ : Aside0 (w46.heap[gb121]? = some (.cells #[.int .i64 t117, .slice Ao40 t118.length co40] 24 (0, 0))) := ⟨h7_⟩
  have n8_ : Aside0 (w46.heap[gb130]? = some (.cells #[.int .i64 0, .slice none 0 0] 24 (0, 0))) := ⟨h8_⟩
  have n9_ : Aside0 (w.heap.size ≤ gb130) := ⟨h9_⟩
  have n10_ : Aside0 (w.heap.size ≤ gb130) := ⟨h10_⟩
  have n11_ : Aside0 (gb101 ≠ gb130) := ⟨h11_⟩
  have n12_ : Aside0 (gb130 ≠ gb101) := ⟨h12_⟩
  have n13_ : Aside0 (gb102 ≠ gb130) := ⟨h13_⟩
  have n14_ : Aside0 (gb130 ≠ gb102) := ⟨h14_⟩
  have n15_ : Aside0 (gb116 ≠ gb130) := ⟨h15_⟩
  have n16_ : Aside0 (gb130 ≠ gb116) := ⟨h16_⟩
  have n17_ : Aside0 (gb121 ≠ gb130) := ⟨h17_⟩
  have n18_ : Aside0 (gb130 ≠ gb121) := ⟨h18_⟩
  have n19_ : Aside0 (Below w.heap.size w w46) := ⟨h19_⟩
  clear HO107
  clear HO114
  clear HO120
  clear BK101
  clear BK102
  clear BK116
  clear BK121
  clear HB
  clear h0_ h1_ h2_ h3_ h4_ h5_ h6_ h7_ h8_ h9_ h10_ h11_ h12_ h13_ h14_ h15_ h16_ h17_ h18_ h19_
  have HO107 := n0_
  have HO114 := n1_
  have HO120 := n2_
  have HO128 := n3_
  have BK101 := n4_
  have BK102 := n5_
  have BK116 := n6_
  have BK121 := n7_
  have BK130 := n8_
  have GW130 := n9_
  have GE130 := n10_
  have NB101_130 := n11_
  have NB130_101 := n12_
  have NB102_130 := n13_
  have NB130_102 := n14_
  have NB116_130 := n15_
  have NB130_116 := n16_
  have NB121_130 := n17_
  have NB130_121 := n18_
  have HB := n19_
  clear n0_ n1_ n2_ n3_ n4_ n5_ n6_ n7_ n8_ n9_ n10_ n11_ n12_ n13_ n14_ n15_ n16_ n17_ n18_ n19_
  have hHeld : w46.cell? ⟨gb121, 0, none⟩ = some (.int .i64 t117) ∧ w46.cell? ⟨gb121, 1, none⟩ = some (.slice Ao40 t118.length co40) ∧ w46.cell? ⟨gb102, 0, none⟩ = some (.int .i64 a1_0) ∧ w46.cell? ⟨gb102, 1, none⟩ = some (.int .i64 a1_1) ∧ w46.cell? ⟨gb102, 2, none⟩ = some (.int .i64 a1_2) := hS_
  obtain ⟨Ao48, co48, eo48⟩ := Kd.R_slice HO128.out
  (first | subst eo48 | (injection eo48 with f1_ f2_ f3_; have f4_ := f1_.symm; have f5_ := f3_.symm; clear f1_ f2_ f3_; subst f4_; subst f5_))
  refine norm_ (a' := ?_) ?_ ?_
  rotate_left
  ·
   simp only [putAll, Act.put, q1, q2, q3]
   rfl
  refine one_ (i := 8) (N := none) #[true, true, true, true, true, true, true, true, true, false] rfl rfl (one_of HT_.out (by kernel_rfl)) (by decide) (fun K hK => ?_)
  have hs47 : w46.cell? ⟨gb130, 0, none⟩ = some (.int .i64 0) := (blk_cell BK130.out 0).trans rfl
  have hfs47 := blk_frozen BK130.out 0
  have hns47_0 := NB101_130.out
  have hns47_1 := NB102_130.out
  have hns47_2 := NB116_130.out
  have hns47_3 := NB121_130.out
  have hms47_0 := NB130_101.out
  have hms47_1 := NB130_102.out
  have hms47_2 := NB130_116.out
  have hms47_3 := NB130_121.out
  have hs49 : w46.cell? ⟨gb130, 1, none⟩ = some (.slice none 0 0) := (blk_cell BK130.out 1).trans rfl
  have hfs49 := blk_frozen BK130.out 1
  have hns49_0 := NB101_130.out
  have hns49_1 := NB102_130.out
  have hns49_2 := NB116_130.out
  have hns49_3 := NB121_130.out
  have hms49_0 := NB130_101.out
  have hms49_1 := NB130_102.out
  have hms49_2 := NB130_116.out
  have hms49_3 := NB130_121.out
  refine skip_ (w1 := ?_) (by rfl) rfl ?_ ?_
  rotate_left
  ·
   go_simp
   rfl
  refine hK.out _ _ ⟨((cell_far (p := ⟨gb130, _, none⟩) NB121_130.out _).trans (((cell_far (p := ⟨gb130, _, none⟩) NB121_130.out _).trans (hHeld.1)))), ((cell_far (p := ⟨gb130, _, none⟩) NB121_130.out _).trans (((cell_far (p := ⟨gb130, _, none⟩) NB121_130.out _).trans (hHeld.2.1)))), ((cell_far (p := ⟨gb130, _, none⟩) NB102_130.out _).trans (((cell_far (p := ⟨gb130, _, none⟩) NB102_130.out _).trans (hHeld.2.2.1)))), ((cell_far (p := ⟨gb130, _, none⟩) NB102_130.out _).trans (((cell_far (p := ⟨gb130, _, none⟩) NB102_130.out _).trans (hHeld.2.2.2.1)))), ((cell_far (p := ⟨gb130, _, none⟩) NB102_130.out _).trans (((cell_far (p := ⟨gb130, _, none⟩) NB102_130.out _).trans (hHeld.2.2.2.2))))⟩ (fun hHeld => ?_)
  clear hK K
  refine pure_ (i := 9) (N := some 10) (v := ?_) (a' := ?_) #[true, true, true, true, true, true, true, true, true, true] rfl rfl (any_of HT_.out (by kernel_rfl)) (fun _ _ _ h => h) (Or.inl ⟨by rfl, ?_⟩) ?_ ?_
  rotate_left
  ·
   intro w'
   go_simp
   with_reducible rfl
  rotate_left
  ·
   simp only [Act.put, q1, q2, q3, i64_w, i32_w]
   rfl
  refine done_ (done_of HT_.out (by kernel_rfl)) ?_
  go_upto_region 8 with (fail)
  go_cut [46] (fun v46 wc => ∃ (kq : Nat) (x46_15 : Bool), v46 = .bool x46_15 ∧ Aside0 (laws_FnExactAddClue.j0 kq t115 t129 x46_15 a0_0 l0_1 a1_0 a1_1 a1_2 t111 t112 t117 t118 t125 t126 = some r) ∧ Aside0 (kq ≤ k) ∧ Aside0 (Kd.R k38 38 wc w.heap.size (fun k_ => some k_ ≠ ((.slice Ao40 t118.length co40) : Value).ownBlock ∧ some k_ ≠ ((.slice Ao48 t126.length co48) : Value).ownBlock) (.slice Ao30 t112.length co30) t112) ∧ Aside0 (Kd.R k38 38 wc w.heap.size (fun k_ => some k_ ≠ ((.slice Ao30 t112.length co30) : Value).ownBlock ∧ some k_ ≠ ((.slice Ao48 t126.length co48) : Value).ownBlock) (.slice Ao40 t118.length co40) t118) ∧ Aside0 (Kd.R k38 38 wc w.heap.size (fun k_ => some k_ ≠ ((.slice Ao30 t112.length co30) : Value).ownBlock ∧ some k_ ≠ ((.slice Ao40 t118.length co40) : Value).ownBlock) (.slice Ao48 t126.length co48) t126) ∧ Aside0 (wc.heap[gb101]? = some (.cells #[.int .i64 a0_0, (.slice A0_1 l0_1.length c0_1)] 32 (0, 0))) ∧ Aside0 (wc.heap[gb102]? = some (.cells #[.int .i64 a1_0, .int .i64 a1_1, .int .i64 a1_2] 34 (0, 0))) ∧ Aside0 (wc.heap[gb116]? = some (.cells #[.int .i64 t111, (.slice Ao30 t112.length co30)] 24 (0, 0))) ∧ Aside0 (wc.heap[gb121]? = some (.cells #[.int .i64 t117, (.slice Ao40 t118.length co40)] 24 (0, 0))) ∧ Aside0 (wc.heap[gb130]? = some (.cells #[.int .i64 t125, (.slice Ao48 t126.length co48)] 24 (0, 0))) ∧ Aside0 (Below w.heap.size w wc))
  case first =>
   have H := HC16.out
   clear HC16
   replace H := Option.bind_eq_some_iff.mp H
   obtain ⟨t131, A500, H⟩ := H
   replace H : (if t131 = true then (laws_FnExactAddClue.j0 k t115 t129 (t129 != t115) a0_0 l0_1 a1_0 a1_1 a1_2 t111 t112 t117 t118 t125 t126) else (laws_FnExactAddClue.j0 k t115 t129 true a0_0 l0_1 a1_0 a1_1 a1_2 t111 t112 t117 t118 t125 t126)) = some r := H
   have A50 := aM A500
   clear A500
   by_cases c51 : t131 = true
   ·
    subst c51
    have H1 : (laws_FnExactAddClue.j0 k t115 t129 (t129 != t115) a0_0 l0_1 a1_0 a1_1 a1_2 t111 t112 t117 t118 t125 t126) = some r := by rw [if_pos rfl] at H; exact H
    clear H
    have H := H1
    clear H1
    have H' := aM H
    clear H
    have hnb52 := NB130_101.out
    have hnc52 := NB101_130.out
    have hnb53 := NB130_102.out
    have hnc53 := NB102_130.out
    have hnb54 := NB130_116.out
    have hnc54 := NB116_130.out
    have hnb55 := NB130_121.out
    have hnc55 := NB121_130.out
    have hcz56_0 : w46.cell? ⟨gb130, 0, none⟩ = some (.int .i64 0) := (blk_cell BK130.out 0).trans rfl
    have hcz56_1 : w46.cell? ⟨gb130, 1, none⟩ = some (.slice none 0 0) := (blk_cell BK130.out 1).trans rfl
    have hfz56_0 := blk_frozen BK130.out 0
    have hfz56_1 := blk_frozen BK130.out 1
    have hnb57 := NB116_101.out
    have hnc57 := NB101_116.out
    have hnb58 := NB116_102.out
    have hnc58 := NB102_116.out
    have hnb59 := NB116_121.out
    have hnc59 := NB121_116.out
    have hcz60_0 : w46.cell? ⟨gb116, 0, none⟩ = some (.int .i64 t111) := (blk_cell BK116.out 0).trans rfl
    have hcz60_1 : w46.cell? ⟨gb116, 1, none⟩ = some (.slice Ao30 t112.length co30) := (blk_cell BK116.out 1).trans rfl
    have hfz60_0 := blk_frozen BK116.out 0
    have hfz60_1 := blk_frozen BK116.out 1
    go_wp2_with (first | ((with_reducible refine gate_callee (f := 9) rfl ?_); refine goesL_ (some 40) rfl rfl Try.func9 (by kernel_rfl) rfl #[.agg #[.int .i64 t125, .slice Ao48 t126.length co48], .agg #[.int .i64 t111, .slice Ao30 t112.length co30]] rfl ka ?_; (with_reducible refine (laws_eqPuzzle.calls k t125 _ _ t126 t111 _ _ t112 true _ ?side1 ?side2 ?side3 ?side4 A50.out).mono ?_); (case side1 => refine (Kd.R_reads' (e := 38) (base := w.heap.size) (ok := fun k_ => (some k_ ≠ (v106 : Value).ownBlock ∧ (some k_ ≠ (.slice Ao30 t112.length co30 : Value).ownBlock ∧ some k_ ≠ (.slice Ao40 t118.length co40 : Value).ownBlock))) (n := t126.length) (c := co48) ?_).2.2; exact (by (with_reducible repeat (first | apply Kd.R_alloc | apply Kd.R_drewN | apply Kd.R_drew)); exact (Kd.R_mono (Kd.R_far (p := ⟨gb130, 1, none⟩) (Kd.R_far (p := ⟨gb130, 0, none⟩) (Kd.R_types HO128.out BK130.out (by decide)) (fun _ hk => hk.2) (.int .i64 t125)) (fun _ hk => hk.2) (.slice Ao48 t126.length co48)) (fun _ h_ => h_.1)))); (case side2 => exact (Kd.R_reads' HO128.out).2.1); (case side3 => refine (Kd.R_reads' (e := 38) (base := w.heap.size) (ok := fun k_ => (some k_ ≠ (v106 : Value).ownBlock ∧ (some k_ ≠ (.slice Ao40 t118.length co40 : Value).ownBlock ∧ some k_ ≠ (.slice Ao48 t126.length co48 : Value).ownBlock))) (n := t112.length) (c := co30) ?_).2.2; exact (by (with_reducible repeat (first | apply Kd.R_alloc | apply Kd.R_drewN | apply Kd.R_drew)); exact (Kd.R_mono (Kd.R_far (p := ⟨gb130, 1, none⟩) (Kd.R_far (p := ⟨gb130, 0, none⟩) (Kd.R_types HO114.out BK130.out (by decide)) (fun _ hk => hk.2) (.int .i64 t125)) (fun _ hk => hk.2) (.slice Ao48 t126.length co48)) (fun _ h_ => h_.1)))); (case side4 => exact (Kd.R_reads' HO114.out).2.1); rintro e w61 ⟨rfl, hb⟩; refine ⟨_, rfl, ?_⟩; have n0_ := aM (Kd.R_below (by (with_reducible repeat (first | apply Kd.R_alloc | apply Kd.R_drewN | apply Kd.R_drew)); exact (Kd.R_mono (Kd.R_far (p := ⟨gb130, 1, none⟩) (Kd.R_far (p := ⟨gb130, 0, none⟩) (Kd.R_types HO107.out BK130.out (by decide)) (fun _ hk => hk.2) (.int .i64 t125)) (fun _ hk => hk.2) (.slice Ao48 t126.length co48)) (fun _ h_ => h_.1))) hb); have n1_ := aM (Kd.R_below (by (with_reducible repeat (first | apply Kd.R_alloc | apply Kd.R_drewN | apply Kd.R_drew)); exact (Kd.R_mono (Kd.R_far (p := ⟨gb130, 1, none⟩) (Kd.R_far (p := ⟨gb130, 0, none⟩) (Kd.R_types HO114.out BK130.out (by decide)) (fun _ hk => hk.2) (.int .i64 t125)) (fun _ hk => hk.2) (.slice Ao48 t126.length co48)) (fun _ h_ => h_.1))) hb); have n2_ := aM (Kd.R_below (by (with_reducible repeat (first | apply Kd.R_alloc | apply Kd.R_drewN | apply Kd.R_drew)); exact (Kd.R_mono (Kd.R_far (p := ⟨gb130, 1, none⟩) (Kd.R_far (p := ⟨gb130, 0, none⟩) (Kd.R_types HO120.out BK130.out (by decide)) (fun _ hk => hk.2) (.int .i64 t125)) (fun _ hk => hk.2) (.slice Ao48 t126.length co48)) (fun _ h_ => h_.1))) hb); have n3_ := aM (Kd.R_below (by (with_reducible repeat (first | apply Kd.R_alloc | apply Kd.R_drewN | apply Kd.R_drew)); exact (Kd.R_mono (Kd.R_far (p := ⟨gb130, 1, none⟩) (Kd.R_far (p := ⟨gb130, 0, none⟩) (Kd.R_types HO128.out BK130.out (by decide)) (fun _ hk => hk.2) (.int .i64 t125)) (fun _ hk => hk.2) (.slice Ao48 t126.length co48)) (fun _ h_ => h_.1))) hb); have n4_ := aM (blk_below (blk_far (p := ⟨gb130, 1, none⟩) (blk_far (p := ⟨gb130, 0, none⟩) BK101.out NB101_130.out _) NB101_130.out _) hb); have n5_ := aM (blk_below (blk_far (p := ⟨gb130, 1, none⟩) (blk_far (p := ⟨gb130, 0, none⟩) BK102.out NB102_130.out _) NB102_130.out _) hb); have n6_ := aM (blk_below (blk_far (p := ⟨gb130, 1, none⟩) (blk_far (p := ⟨gb130, 0, none⟩) BK116.out NB116_130.out _) NB116_130.out _) hb); have n7_ := aM (blk_below (blk_far (p := ⟨gb130, 1, none⟩) (blk_far (p := ⟨gb130, 0, none⟩) BK121.out NB121_130.out _) NB121_130.out _) hb); have n8_ := aM (blk_below (g := gb130) (o := .cells #[.int .i64 t125, .slice Ao48 t126.length co48] 24 (0, 0)) (by (with_reducible repeat (first | refine blk_drewN ?_ _ | refine blk_drew ?_ | refine blk_alloc ?_ _)); refine blk_put (cs := #[.int .i64 t125, .slice none 0 0]) ?_ 1 _ rfl; (with_reducible repeat (first | refine blk_drewN ?_ _ | refine blk_drew ?_ | refine blk_alloc ?_ _)); refine blk_put (cs := #[.int .i64 0, .slice none 0 0]) ?_ 0 _ rfl; (with_reducible repeat (first | refine blk_drewN ?_ _ | refine blk_drew ?_ | refine blk_alloc ?_ _)); exact BK130.out) hb); have n9_ := aM (below_step (kb5 HB GE101 GE102 GE116 GE121 GE130) hb); clear HO107; clear HO114; clear HO120; clear HO128; clear BK101; clear BK102; clear BK116; clear BK121; clear BK130; clear HB; have HO107 := n0_; have HO114 := n1_; have HO120 := n2_; have HO128 := n3_; have BK101 := n4_; have BK102 := n5_; have BK116 := n6_; have BK121 := n7_; have BK130 := n8_; have HB := n9_; clear n0_ n1_ n2_ n3_ n4_ n5_ n6_ n7_ n8_ n9_; (try clear hb); (try clear hb2); (try clear hk); (try clear hi)))
    go_meet
    case rel => exact ⟨_, ((t129 != t115)), tq, H', ⟨by first | omega | exact Nat.le_refl _⟩, ⟨by (with_reducible repeat (first | apply Kd.R_alloc | apply Kd.R_drewN | apply Kd.R_drew)); exact Kd.R_mono HO114.out (fun _ hk => ⟨hk.2.1, hk.2.2⟩)⟩, ⟨by (with_reducible repeat (first | apply Kd.R_alloc | apply Kd.R_drewN | apply Kd.R_drew)); exact Kd.R_mono HO120.out (fun _ hk => ⟨hk.2.1, hk.2.2⟩)⟩, ⟨by (with_reducible repeat (first | apply Kd.R_alloc | apply Kd.R_drewN | apply Kd.R_drew)); exact Kd.R_mono HO128.out (fun _ hk => ⟨hk.2.1, hk.2.2⟩)⟩, ⟨by (with_reducible repeat (first | refine blk_drewN ?_ _ | refine blk_drew ?_ | refine blk_alloc ?_ _)); exact BK101.out⟩, ⟨by (with_reducible repeat (first | refine blk_drewN ?_ _ | refine blk_drew ?_ | refine blk_alloc ?_ _)); exact BK102.out⟩, ⟨by (with_reducible repeat (first | refine blk_drewN ?_ _ | refine blk_drew ?_ | refine blk_alloc ?_ _)); exact BK116.out⟩, ⟨by (with_reducible repeat (first | refine blk_drewN ?_ _ | refine blk_drew ?_ | refine blk_alloc ?_ _)); exact BK121.out⟩, ⟨by (with_reducible repeat (first | refine blk_drewN ?_ _ | refine blk_drew ?_ | refine blk_alloc ?_ _)); exact BK130.out⟩, ⟨(kb5 HB GE101 GE102 GE116 GE121 GE130)⟩⟩
   ·
    replace c51 := Bool.eq_false_iff.mpr c51
    subst c51
    have H1 : (laws_FnExactAddClue.j0 k t115 t129 true a0_0 l0_1 a1_0 a1_1 a1_2 t111 t112 t117 t118 t125 t126) = some r := by rw [if_neg (show ¬ (false = true) by decide)] at H; exact H
    clear H
    have H := H1
    clear H1
    have H' := aM H
    clear H
    have hnb62 := NB130_101.out
    have hnc62 := NB101_130.out
    have hnb63 := NB130_102.out
    have hnc63 := NB102_130.out
    have hnb64 := NB130_116.out
    have hnc64 := NB116_130.out
    have hnb65 := NB130_121.out
    have hnc65 := NB121_130.out
    have hcz66_0 : w46.cell? ⟨gb130, 0, none⟩ = some (.int .i64 0) := (blk_cell BK130.out 0).trans rfl
    have hcz66_1 : w46.cell? ⟨gb130, 1, none⟩ = some (.slice none 0 0) := (blk_cell BK130.out 1).trans rfl
    have hfz66_0 := blk_frozen BK130.out 0
    have hfz66_1 := blk_frozen BK130.out 1
    have hnb67 := NB116_101.out
    have hnc67 := NB101_116.out
    have hnb68 := NB116_102.out
    have hnc68 := NB102_116.out
    have hnb69 := NB116_121.out
    have hnc69 := NB121_116.out
    have hcz70_0 : w46.cell? ⟨gb116, 0, none⟩ = some (.int .i64 t111) := (blk_cell BK116.out 0).trans rfl
    have hcz70_1 : w46.cell? ⟨gb116, 1, none⟩ = some (.slice Ao30 t112.length co30) := (blk_cell BK116.out 1).trans rfl
    have hfz70_0 := blk_frozen BK116.out 0
    have hfz70_1 := blk_frozen BK116.out 1
    go_wp2_with (first | ((with_reducible refine gate_callee (f := 9) rfl ?_); refine goesL_ (some 40) rfl rfl Try.func9 (by kernel_rfl) rfl #[.agg #[.int .i64 t125, .slice Ao48 t126.length co48], .agg #[.int .i64 t111, .slice Ao30 t112.length co30]] rfl ka ?_; (with_reducible refine (laws_eqPuzzle.calls k t125 _ _ t126 t111 _ _ t112 false _ ?side1 ?side2 ?side3 ?side4 A50.out).mono ?_); (case side1 => refine (Kd.R_reads' (e := 38) (base := w.heap.size) (ok := fun k_ => (some k_ ≠ (v106 : Value).ownBlock ∧ (some k_ ≠ (.slice Ao30 t112.length co30 : Value).ownBlock ∧ some k_ ≠ (.slice Ao40 t118.length co40 : Value).ownBlock))) (n := t126.length) (c := co48) ?_).2.2; exact (by (with_reducible repeat (first | apply Kd.R_alloc | apply Kd.R_drewN | apply Kd.R_drew)); exact (Kd.R_mono (Kd.R_far (p := ⟨gb130, 1, none⟩) (Kd.R_far (p := ⟨gb130, 0, none⟩) (Kd.R_types HO128.out BK130.out (by decide)) (fun _ hk => hk.2) (.int .i64 t125)) (fun _ hk => hk.2) (.slice Ao48 t126.length co48)) (fun _ h_ => h_.1)))); (case side2 => exact (Kd.R_reads' HO128.out).2.1); (case side3 => refine (Kd.R_reads' (e := 38) (base := w.heap.size) (ok := fun k_ => (some k_ ≠ (v106 : Value).ownBlock ∧ (some k_ ≠ (.slice Ao40 t118.length co40 : Value).ownBlock ∧ some k_ ≠ (.slice Ao48 t126.length co48 : Value).ownBlock))) (n := t112.length) (c := co30) ?_).2.2; exact (by (with_reducible repeat (first | apply Kd.R_alloc | apply Kd.R_drewN | apply Kd.R_drew)); exact (Kd.R_mono (Kd.R_far (p := ⟨gb130, 1, none⟩) (Kd.R_far (p := ⟨gb130, 0, none⟩) (Kd.R_types HO114.out BK130.out (by decide)) (fun _ hk => hk.2) (.int .i64 t125)) (fun _ hk => hk.2) (.slice Ao48 t126.length co48)) (fun _ h_ => h_.1)))); (case side4 => exact (Kd.R_reads' HO114.out).2.1); rintro e w71 ⟨rfl, hb⟩; refine ⟨_, rfl, ?_⟩; have n0_ := aM (Kd.R_below (by (with_reducible repeat (first | apply Kd.R_alloc | apply Kd.R_drewN | apply Kd.R_drew)); exact (Kd.R_mono (Kd.R_far (p := ⟨gb130, 1, none⟩) (Kd.R_far (p := ⟨gb130, 0, none⟩) (Kd.R_types HO107.out BK130.out (by decide)) (fun _ hk => hk.2) (.int .i64 t125)) (fun _ hk => hk.2) (.slice Ao48 t126.length co48)) (fun _ h_ => h_.1))) hb); have n1_ := aM (Kd.R_below (by (with_reducible repeat (first | apply Kd.R_alloc | apply Kd.R_drewN | apply Kd.R_drew)); exact (Kd.R_mono (Kd.R_far (p := ⟨gb130, 1, none⟩) (Kd.R_far (p := ⟨gb130, 0, none⟩) (Kd.R_types HO114.out BK130.out (by decide)) (fun _ hk => hk.2) (.int .i64 t125)) (fun _ hk => hk.2) (.slice Ao48 t126.length co48)) (fun _ h_ => h_.1))) hb); have n2_ := aM (Kd.R_below (by (with_reducible repeat (first | apply Kd.R_alloc | apply Kd.R_drewN | apply Kd.R_drew)); exact (Kd.R_mono (Kd.R_far (p := ⟨gb130, 1, none⟩) (Kd.R_far (p := ⟨gb130, 0, none⟩) (Kd.R_types HO120.out BK130.out (by decide)) (fun _ hk => hk.2) (.int .i64 t125)) (fun _ hk => hk.2) (.slice Ao48 t126.length co48)) (fun _ h_ => h_.1))) hb); have n3_ := aM (Kd.R_below (by (with_reducible repeat (first | apply Kd.R_alloc | apply Kd.R_drewN | apply Kd.R_drew)); exact (Kd.R_mono (Kd.R_far (p := ⟨gb130, 1, none⟩) (Kd.R_far (p := ⟨gb130, 0, none⟩) (Kd.R_types HO128.out BK130.out (by decide)) (fun _ hk => hk.2) (.int .i64 t125)) (fun _ hk => hk.2) (.slice Ao48 t126.length co48)) (fun _ h_ => h_.1))) hb); have n4_ := aM (blk_below (blk_far (p := ⟨gb130, 1, none⟩) (blk_far (p := ⟨gb130, 0, none⟩) BK101.out NB101_130.out _) NB101_130.out _) hb); have n5_ := aM (blk_below (blk_far (p := ⟨gb130, 1, none⟩) (blk_far (p := ⟨gb130, 0, none⟩) BK102.out NB102_130.out _) NB102_130.out _) hb); have n6_ := aM (blk_below (blk_far (p := ⟨gb130, 1, none⟩) (blk_far (p := ⟨gb130, 0, none⟩) BK116.out NB116_130.out _) NB116_130.out _) hb); have n7_ := aM (blk_below (blk_far (p := ⟨gb130, 1, none⟩) (blk_far (p := ⟨gb130, 0, none⟩) BK121.out NB121_130.out _) NB121_130.out _) hb); have n8_ := aM (blk_below (g := gb130) (o := .cells #[.int .i64 t125, .slice Ao48 t126.length co48] 24 (0, 0)) (by (with_reducible repeat (first | refine blk_drewN ?_ _ | refine blk_drew ?_ | refine blk_alloc ?_ _)); refine blk_put (cs := #[.int .i64 t125, .slice none 0 0]) ?_ 1 _ rfl; (with_reducible repeat (first | refine blk_drewN ?_ _ | refine blk_drew ?_ | refine blk_alloc ?_ _)); refine blk_put (cs := #[.int .i64 0, .slice none 0 0]) ?_ 0 _ rfl; (with_reducible repeat (first | refine blk_drewN ?_ _ | refine blk_drew ?_ | refine blk_alloc ?_ _)); exact BK130.out) hb); have n9_ := aM (below_step (kb5 HB GE101 GE102 GE116 GE121 GE130) hb); clear HO107; clear HO114; clear HO120; clear HO128; clear BK101; clear BK102; clear BK116; clear BK121; clear BK130; clear HB; have HO107 := n0_; have HO114 := n1_; have HO120 := n2_; have HO128 := n3_; have BK101 := n4_; have BK102 := n5_; have BK116 := n6_; have BK121 := n7_; have BK130 := n8_; have HB := n9_; clear n0_ n1_ n2_ n3_ n4_ n5_ n6_ n7_ n8_ n9_; (try clear hb); (try clear hb2); (try clear hk); (try clear hi)))
    go_meet
    case rel => exact ⟨_, (true), tq, H', ⟨by first | omega | exact Nat.le_refl _⟩, ⟨by (with_reducible repeat (first | apply Kd.R_alloc | apply Kd.R_drewN | apply Kd.R_drew)); exact Kd.R_mono HO114.out (fun _ hk => ⟨hk.2.1, hk.2.2⟩)⟩, ⟨by (with_reducible repeat (first | apply Kd.R_alloc | apply Kd.R_drewN | apply Kd.R_drew)); exact Kd.R_mono HO120.out (fun _ hk => ⟨hk.2.1, hk.2.2⟩)⟩, ⟨by (with_reducible repeat (first | apply Kd.R_alloc | apply Kd.R_drewN | apply Kd.R_drew)); exact Kd.R_mono HO128.out (fun _ hk => ⟨hk.2.1, hk.2.2⟩)⟩, ⟨by (with_reducible repeat (first | refine blk_drewN ?_ _ | refine blk_drew ?_ | refine blk_alloc ?_ _)); exact BK101.out⟩, ⟨by (with_reducible repeat (first | refine blk_drewN ?_ _ | refine blk_drew ?_ | refine blk_alloc ?_ _)); exact BK102.out⟩, ⟨by (with_reducible repeat (first | refine blk_drewN ?_ _ | refine blk_drew ?_ | refine blk_alloc ?_ _)); exact BK116.out⟩, ⟨by (with_reducible repeat (first | refine blk_drewN ?_ _ | refine blk_drew ?_ | refine blk_alloc ?_ _)); exact BK121.out⟩, ⟨by (with_reducible repeat (first | refine blk_drewN ?_ _ | refine blk_drew ?_ | refine blk_alloc ?_ _)); exact BK130.out⟩, ⟨(kb5 HB GE101 GE102 GE116 GE121 GE130)⟩⟩
  case rest =>
   clear HC16
   try clear c51
   try clear hcz56_0
   try clear hcz56_1
   try clear hcz60_0
   try clear hcz60_1
   try clear hcz66_0
   try clear hcz66_1
   try clear hcz70_0
   try clear hcz70_1
   try clear hfz56_0
   try clear hfz56_1
   try clear hfz60_0
   try clear hfz60_1
   try clear hfz66_0
   try clear hfz66_1
   try clear hfz70_0
   try clear hfz70_1
   obtain ⟨kq, x46_15, rfl, HA, HJ15, HO_117001, HO_122001, HO_131001, BK101, BK102, BK116, BK121, BK130, HB⟩ := hcut
   cases kq with
   | zero => exact absurd HA.out (by simp [laws_FnExactAddClue.j0])
   | succ kj15 =>
    have H := HA.out
    clear HA
    simp only [laws_FnExactAddClue.j0] at H
    by_cases c72 : x46_15 = true
    ·
     subst c72
     have H1 : (some false) = some r := by rw [if_pos rfl] at H; exact H
     clear H
     have H := H1
     clear H1
     obtain rfl := Option.some.inj H
     go_wp2
     go_ret
     exact ⟨ea, (kb5 HB GE101 GE102 GE116 GE121 GE130)⟩
    ·
     replace c72 := Bool.eq_false_iff.mpr c72
     subst c72
     rw [if_neg (show ¬ (false = true) by decide)] at H
     replace H := Option.bind_eq_some_iff.mp H
     obtain ⟨⟨t132, t133⟩, A730, H⟩ := H
     try dsimp only at H
     have A73 := aM A730
     clear A730
     replace H := Option.bind_eq_some_iff.mp H
     obtain ⟨t136, A740, H⟩ := H
     try dsimp only at H
     have A74 := aM A740
     clear A740
     by_cases c75 : t136 = true
     ·
      subst c75
      rw [if_pos rfl] at H
      replace H := Option.bind_eq_some_iff.mp H
      obtain ⟨⟨t137, t138⟩, A760, H⟩ := H
      try dsimp only at H
      have A76 := aM A760
      clear A760
      have HC77 := aM H
      clear H
      try go_wp2
      have n0_ := aM (Kd.R_drew HO_117001.out)
      have n1_ := aM (Kd.R_drew HO_122001.out)
      have n2_ := aM (Kd.R_drew HO_131001.out)
      have n3_ := aM (blk_drew BK101.out)
      have n4_ := aM (blk_drew BK102.out)
      have n5_ := aM (blk_drew BK116.out)
      have n6_ := aM (blk_drew BK121.out)
      have n7_ := aM (blk_drew BK130.out)
      have n8_ := aM (below_drew1 HB.out)
      clear HO_117001
      clear HO_122001
      clear HO_131001
      clear BK101
      clear BK102
      clear BK116
      clear BK121
      clear BK130
      clear HB
      have HO_117001 := n0_
      have HO_122001 := n1_
      have HO_131001 := n2_
      have BK101 := n3_
      have BK102 := n4_
      have BK116 := n5_
      have BK121 := n6_
      have BK130 := n7_
      have HB := n8_
      clear n0_ n1_ n2_ n3_ n4_ n5_ n6_ n7_ n8_
      refine start_ (n := 5) (S := fun w' => w'.cell? ⟨gb121, 0, none⟩ = some (.int .i64 t117) ∧ w'.cell? ⟨gb121, 1, none⟩ = some (.slice Ao40 t118.length co40) ∧ w'.cell? ⟨gb101, 0, none⟩ = some (.int .i64 a0_0) ∧ w'.cell? ⟨gb101, 1, none⟩ = some (.slice A0_1 l0_1.length c0_1)) (ds := []) #[false, false, false, false, false] (by kernel_rfl) rfl rfl ⟨(blk_cell BK121.out 0).trans rfl, (blk_cell BK121.out 1).trans rfl, (blk_cell BK101.out 0).trans rfl, (blk_cell BK101.out 1).trans rfl⟩ (fun hHeld => ?_)
      generalize wc.drew = w78 at HO_117001 HO_122001 HO_131001 BK101 BK102 BK116 BK121 BK130 HB hHeld ⊢
      refine take_ (i := 0) (N := some 47) (v := ?_) (a' := ?_) #[true, false, false, false, false] rfl rfl (by kernel_rfl) (fun _ _ _ h => h) (Or.inl ⟨by rfl, ?_⟩) hHeld ?_ ?_
      rotate_left
      ·
       rintro w' ⟨s0, s1, s2, s3⟩
       go_simp
       with_reducible rfl
      rotate_left
      ·
       simp only [Act.put, q1, q2, q3, i64_w, i32_w]
       rfl
      refine take_ (i := 1) (N := some 48) (v := ?_) (a' := ?_) #[true, true, false, false, false] rfl rfl (by kernel_rfl) (fun _ _ _ h => h) (Or.inl ⟨by rfl, ?_⟩) hHeld ?_ ?_
      rotate_left
      ·
       rintro w' ⟨s0, s1, s2, s3⟩
       go_simp
       with_reducible rfl
      rotate_left
      ·
       simp only [Act.put, q1, q2, q3, i64_w, i32_w]
       rfl
      refine one_ (i := 2) (N := some 49) #[true, true, true, false, false] rfl rfl (by kernel_rfl) (by decide) (fun K hK => ?_)
      refine goes_ Try.func14 (by kernel_rfl) rfl #[.agg #[.int .i64 a0_0, .slice A0_1 l0_1.length c0_1]] (by rfl) rfl rfl ka ?_
      with_reducible refine (laws_toPuzzle.calls kj15 a0_0 _ _ l0_1 t132 t133 _ ?side1 ?side2 A73.out).mono ?_
      (case side1 => repeat (first | exact (Kd.C_below HR0_1.out HB.out) | (with_reducible refine Kd.C_alloc ?_ _) | (with_reducible refine Kd.C_drewN ?_ _) | (with_reducible refine Kd.C_drew ?_)))
      (case side2 => exact HC0_1.out)
      rintro e w79 ⟨v134, rfl, ho0, hb⟩
      refine ⟨_, rfl, ?_⟩
      have n0_ := aM (Kd.R_elder' (kr HO_117001) (Kd.R_base ho0) hb)
      have n1_ := aM (Kd.R_elder' (kr HO_122001) (Kd.R_base ho0) hb)
      have n2_ := aM (Kd.R_elder' (kr HO_131001) (Kd.R_base ho0) hb)
      have n3_ := aM (Kd.R_lower (Kd.R_new' (Kd.R_new' (Kd.R_new' ho0 (Kd.R_lt (kr HO_117001))) (Kd.R_lt (kr HO_122001))) (Kd.R_lt (kr HO_131001))) (below_size (kb5 HB GE101 GE102 GE116 GE121 GE130)))
      have n4_ := aM (blk_below (kq BK101) hb)
      have n5_ := aM (blk_below (kq BK102) hb)
      have n6_ := aM (blk_below (kq BK116) hb)
      have n7_ := aM (blk_below (kq BK121) hb)
      have n8_ := aM (blk_below (kq BK130) hb)
      have n9_ := aM (below_step (kb5 HB GE101 GE102 GE116 GE121 GE130) hb)
      clear HO_117001
      clear HO_122001
      clear HO_131001
      clear BK101
      clear BK102
      clear BK116
      clear BK121
      clear BK130
      clear HB
      have HO_117001 := n0_
      have HO_122001 := n1_
      have HO_131001 := n2_
      have HO135 := n3_
      have BK101 := n4_
      have BK102 := n5_
      have BK116 := n6_
      have BK121 := n7_
      have BK130 := n8_
      have HB := n9_
      clear n0_ n1_ n2_ n3_ n4_ n5_ n6_ n7_ n8_ n9_
      (try clear hb)
      (try clear hb2)
      (try clear hk)
      (try clear hi)
      (try clear ho0)
      obtain ⟨Ao80, co80, eo80⟩ := Kd.R_slice HO135.out
      (first | subst eo80 | (injection eo80 with f1_ f2_ f3_; have f4_ := f1_.symm; have f5_ := f3_.symm; clear f1_ f2_ f3_; subst f4_; subst f5_))
      refine hK.out _ _ ⟨(blk_cell BK121.out 0).trans rfl, (blk_cell BK121.out 1).trans rfl, (blk_cell BK101.out 0).trans rfl, (blk_cell BK101.out 1).trans rfl⟩ (fun hHeld => ?_)
      clear hK K
      refine norm_ (a' := ?_) ?_ ?_
      rotate_left
      ·
       show Act.put _ (some 49) _ = _
       simp only [Act.put, q1, q2, q3, i64_w, i32_w]
       rfl
      refine one_ (i := 3) (N := some 50) #[true, true, true, true, false] rfl rfl (by kernel_rfl) (by decide) (fun K hK => ?_)
      refine goes_ Try.func9 (by kernel_rfl) rfl #[.agg #[.int .i64 t117, .slice Ao40 t118.length co40], .agg #[.int .i64 t132, .slice Ao80 t133.length co80]] (by rfl) rfl rfl ka ?_
      with_reducible refine (laws_eqPuzzle.calls kj15 t117 _ _ t118 t132 _ _ t133 true _ ?side1 ?side2 ?side3 ?side4 A74.out).mono ?_
      (case side1 => repeat (first | exact (Kd.R_reads' HO_122001.out).2.2 | (with_reducible refine Kd.C_alloc ?_ _) | (with_reducible refine Kd.C_drewN ?_ _) | (with_reducible refine Kd.C_drew ?_)))
      (case side2 => exact (Kd.R_reads' HO_122001.out).2.1)
      (case side3 => repeat (first | exact (Kd.R_reads' HO135.out).2.2 | (with_reducible refine Kd.C_alloc ?_ _) | (with_reducible refine Kd.C_drewN ?_ _) | (with_reducible refine Kd.C_drew ?_)))
      (case side4 => exact (Kd.R_reads' HO135.out).2.1)
      rintro e w81 ⟨rfl, hb⟩
      refine ⟨_, rfl, ?_⟩
      have n0_ := aM (Kd.R_below (kr HO_117001) hb)
      have n1_ := aM (Kd.R_below (kr HO_122001) hb)
      have n2_ := aM (Kd.R_below (kr HO_131001) hb)
      have n3_ := aM (Kd.R_below (kr HO135) hb)
      have n4_ := aM (blk_below (kq BK101) hb)
      have n5_ := aM (blk_below (kq BK102) hb)
      have n6_ := aM (blk_below (kq BK116) hb)
      have n7_ := aM (blk_below (kq BK121) hb)
      have n8_ := aM (blk_below (kq BK130) hb)
      have n9_ := aM (below_step (kb5 HB GE101 GE102 GE116 GE121 GE130) hb)
      clear HO_117001
      clear HO_122001
      clear HO_131001
      clear HO135
      clear BK101
      clear BK102
      clear BK116
      clear BK121
      clear BK130
      clear HB
      have HO_117001 := n0_
      have HO_122001 := n1_
      have HO_131001 := n2_
      have HO135 := n3_
      have BK101 := n4_
      have BK102 := n5_
      have BK116 := n6_
      have BK121 := n7_
      have BK130 := n8_
      have HB := n9_
      clear n0_ n1_ n2_ n3_ n4_ n5_ n6_ n7_ n8_ n9_
      (try clear hb)
      (try clear hb2)
      (try clear hk)
      (try clear hi)
      refine hK.out _ _ ⟨(blk_cell BK121.out 0).trans rfl, (blk_cell BK121.out 1).trans rfl, (blk_cell BK101.out 0).trans rfl, (blk_cell BK101.out 1).trans rfl⟩ (fun hHeld => ?_)
      clear hK K
      refine norm_ (a' := ?_) ?_ ?_
      rotate_left
      ·
       show Act.put _ (some 50) _ = _
       simp only [Act.put, q1, q2, q3, i64_w, i32_w]
       rfl
      refine pure_ (i := 4) (N := some 51) (v := ?_) (a' := ?_) #[true, true, true, true, true] rfl rfl (by kernel_rfl) (fun _ _ _ h => h) (Or.inl ⟨by rfl, ?_⟩) ?_ ?_
      rotate_left
      ·
       intro w'
       go_simp
       with_reducible rfl
      rotate_left
      ·
       simp only [Act.put, q1, q2, q3, i64_w, i32_w]
       rfl
      refine done_ (by kernel_rfl) ?_
      have hnb82 := NB121_101.out
      have hnc82 := NB101_121.out
      have hnb83 := NB121_102.out
      have hnc83 := NB102_121.out
      have hnb84 := NB121_116.out
      have hnc84 := NB116_121.out
      have hnb85 := NB121_130.out
      have hnc85 := NB130_121.out
      have hcz86_0 : w81.cell? ⟨gb121, 0, none⟩ = some (.int .i64 t117) := (blk_cell BK121.out 0).trans rfl
      have hcz86_1 : w81.cell? ⟨gb121, 1, none⟩ = some (.slice Ao40 t118.length co40) := (blk_cell BK121.out 1).trans rfl
      have hfz86_0 := blk_frozen BK121.out 0
      have hfz86_1 := blk_frozen BK121.out 1
      go_upto_region 14 with (first | ((with_reducible refine gate_callee (f := 10) rfl ?_); refine goesL_ (some 54) rfl rfl Try.func10 (by kernel_rfl) rfl #[.agg #[.int .i64 t117, .slice Ao40 t118.length co40], .int .i64 1] rfl ka ?_; (with_reducible refine (laws_markPuzzle.calls kj15 t117 (fun k_ => some k_ = (.slice Ao40 t118.length co40 : Value).ownBlock) (.slice Ao40 t118.length co40) t118 1 t137 t138 w _ ?side1 ?side2 A76.out).mono ?_); (case side1 => repeat (first | (with_reducible first | exact HB.out | apply below_alloc | apply pw_below_drewN | apply below_drew1 | refine below_set ?_ GE101.out | refine below_set ?_ GE102.out | refine below_set ?_ GE116.out | refine below_set ?_ GE121.out | refine below_set ?_ GE130.out) | exact HB.out)); (case side2 => exact Kd.R_tight rfl HO_122001.out); rintro e w87 ⟨rfl, hy0, hb, hkp⟩; refine ⟨_, rfl, ?_⟩; have n0_ := aM (Kd.R_mono (ok' := fun k_ => some k_ ≠ (.slice Ao40 t118.length co40 : Value).ownBlock ∧ some k_ ≠ (.slice Ao48 t126.length co48 : Value).ownBlock ∧ some k_ ≠ (.slice Ao80 t133.length co80 : Value).ownBlock) (Kd.R_keptB (HO_117001.out) hkp (fun k_ hk_ hs_ => (hk_.1.1) hs_)) (fun k_ hk_ => ⟨hk_.1.1.1, hk_.1.1.2, hk_.1.2⟩)); have n1_ := aM (Kd.R_reok rfl hy0 (fun k_ e_ => HO_122001.out.1 k_ e_)); have n2_ := aM (Kd.R_mono (ok' := fun k_ => some k_ ≠ (.slice Ao30 t112.length co30 : Value).ownBlock ∧ some k_ ≠ (.slice Ao40 t118.length co40 : Value).ownBlock ∧ some k_ ≠ (.slice Ao80 t133.length co80 : Value).ownBlock) (Kd.R_keptB (HO_131001.out) hkp (fun k_ hk_ hs_ => (hk_.1.2) hs_)) (fun k_ hk_ => ⟨hk_.1.1.1, hk_.1.1.2, hk_.1.2⟩)); have n3_ := aM (blk_kept (kq BK101) hkp (fun hs_ => (fun e_ => (Kd.R_ne HO_122001.out BK101.out (by decide)) e_) hs_)); have n4_ := aM (blk_kept (kq BK102) hkp (fun hs_ => (fun e_ => (Kd.R_ne HO_122001.out BK102.out (by decide)) e_) hs_)); have n5_ := aM (blk_kept (kq BK116) hkp (fun hs_ => (fun e_ => (Kd.R_ne HO_122001.out BK116.out (by decide)) e_) hs_)); have n6_ := aM (blk_kept (kq BK121) hkp (fun hs_ => (fun e_ => (Kd.R_ne HO_122001.out BK121.out (by decide)) e_) hs_)); have n7_ := aM (blk_kept (kq BK130) hkp (fun hs_ => (fun e_ => (Kd.R_ne HO_122001.out BK130.out (by decide)) e_) hs_)); have n8_ := aM (Kd.R_mono (ok' := fun k_ => some k_ ≠ (.slice Ao30 t112.length co30 : Value).ownBlock ∧ some k_ ≠ (.slice Ao40 t118.length co40 : Value).ownBlock ∧ some k_ ≠ (.slice Ao48 t126.length co48 : Value).ownBlock) (Kd.R_keptB (HO135.out) hkp (fun k_ hk_ hs_ => (hk_.1.2) hs_)) (fun k_ hk_ => ⟨hk_.1.1.1.2, hk_.1.1.2, hk_.1.2⟩)); have n9_ := aM (hb); clear HO_117001; clear HO_122001; clear HO_131001; clear BK101; clear BK102; clear BK116; clear BK121; clear BK130; clear HO135; clear HB; have HO_117001 := n0_; have HO_122001 := n1_; have HO_131001 := n2_; have BK101 := n3_; have BK102 := n4_; have BK116 := n5_; have BK121 := n6_; have BK130 := n7_; have HO135 := n8_; have HB := n9_; clear n0_ n1_ n2_ n3_ n4_ n5_ n6_ n7_ n8_ n9_; (try clear hb); (try clear hkp); (try clear hy0)))
      (try simp only [Act.put, q1, q2, q3])
      go_cut [67] (fun v67 wc => ∃ (kq : Nat) (x67_76 : Bool), v67 = .bool x67_76 ∧ Aside0 (laws_FnExactAddClue.j1 kq t115 x67_76 a0_0 l0_1 a1_0 a1_1 a1_2 t111 t112 t125 t126 = some r) ∧ Aside0 (kq ≤ kj15) ∧ Aside0 (Kd.R k38 38 wc w.heap.size (fun k_ => some k_ ≠ ((.slice Ao40 t118.length co40) : Value).ownBlock ∧ some k_ ≠ ((.slice Ao48 t126.length co48) : Value).ownBlock) (.slice Ao30 t112.length co30) t112) ∧ Aside0 (Kd.R k38 38 wc w.heap.size (fun k_ => some k_ ≠ ((.slice Ao30 t112.length co30) : Value).ownBlock ∧ some k_ ≠ ((.slice Ao48 t126.length co48) : Value).ownBlock) (.slice Ao40 t118.length co40) t138) ∧ Aside0 (Kd.R k38 38 wc w.heap.size (fun k_ => some k_ ≠ ((.slice Ao30 t112.length co30) : Value).ownBlock ∧ some k_ ≠ ((.slice Ao40 t118.length co40) : Value).ownBlock) (.slice Ao48 t126.length co48) t126) ∧ Aside0 (wc.heap[gb101]? = some (.cells #[.int .i64 a0_0, (.slice A0_1 l0_1.length c0_1)] 32 (0, 0))) ∧ Aside0 (wc.heap[gb102]? = some (.cells #[.int .i64 a1_0, .int .i64 a1_1, .int .i64 a1_2] 34 (0, 0))) ∧ Aside0 (wc.heap[gb116]? = some (.cells #[.int .i64 t111, (.slice Ao30 t112.length co30)] 24 (0, 0))) ∧ Aside0 (wc.heap[gb121]? = some (.cells #[.int .i64 t117, (.slice Ao40 t118.length co40)] 24 (0, 0))) ∧ Aside0 (wc.heap[gb130]? = some (.cells #[.int .i64 t125, (.slice Ao48 t126.length co48)] 24 (0, 0))) ∧ Aside0 (Below w.heap.size w wc))
      case first =>
       have H := HC77.out
       clear HC77
       by_cases c88 : t137 < 0
       ·
        rw [if_pos c88] at H
        have c88b0 : decide (t137 < 0) = true := decide_eq_true c88
        clear c88
        (first | rw [c88b0] | (simp only [i64_w, i32_w]; rw [c88b0]) | skip)
        have H' := aM H
        clear H
        go_wp2
        go_meet
        case rel => exact ⟨_, (true), tq, H', ⟨by have := HJ15.out; first | omega | exact Nat.le_refl _⟩, ⟨by (with_reducible repeat (first | apply Kd.R_alloc | apply Kd.R_drewN | apply Kd.R_drew)); exact Kd.R_mono HO_117001.out (fun _ hk => ⟨hk.1, hk.2.1⟩)⟩, ⟨by (with_reducible repeat (first | apply Kd.R_alloc | apply Kd.R_drewN | apply Kd.R_drew)); exact Kd.R_mono HO_122001.out (fun _ hk => ⟨hk.1.1, hk.1.2⟩)⟩, ⟨by (with_reducible repeat (first | apply Kd.R_alloc | apply Kd.R_drewN | apply Kd.R_drew)); exact Kd.R_mono HO_131001.out (fun _ hk => ⟨hk.1, hk.2.1⟩)⟩, ⟨by (with_reducible repeat (first | refine blk_drewN ?_ _ | refine blk_drew ?_ | refine blk_alloc ?_ _)); exact BK101.out⟩, ⟨by (with_reducible repeat (first | refine blk_drewN ?_ _ | refine blk_drew ?_ | refine blk_alloc ?_ _)); exact BK102.out⟩, ⟨by (with_reducible repeat (first | refine blk_drewN ?_ _ | refine blk_drew ?_ | refine blk_alloc ?_ _)); exact BK116.out⟩, ⟨by (with_reducible repeat (first | refine blk_drewN ?_ _ | refine blk_drew ?_ | refine blk_alloc ?_ _)); exact BK121.out⟩, ⟨by (with_reducible repeat (first | refine blk_drewN ?_ _ | refine blk_drew ?_ | refine blk_alloc ?_ _)); exact BK130.out⟩, ⟨(kb5 HB GE101 GE102 GE116 GE121 GE130)⟩⟩
       ·
        rw [if_neg c88] at H
        have c88b0 : decide (t137 < 0) = false := decide_eq_false c88
        clear c88
        (first | rw [c88b0] | (simp only [i64_w, i32_w]; rw [c88b0]) | skip)
        replace H := Option.bind_eq_some_iff.mp H
        obtain ⟨t139, A890, H⟩ := H
        replace H : (if t139 = true then (laws_FnExactAddClue.j1 kj15 t115 (t129 != t115) a0_0 l0_1 a1_0 a1_1 a1_2 t111 t112 t125 t126) else (laws_FnExactAddClue.j1 kj15 t115 true a0_0 l0_1 a1_0 a1_1 a1_2 t111 t112 t125 t126)) = some r := H
        have A89 := aM A890
        clear A890
        by_cases c90 : t139 = true
        ·
         subst c90
         have H1 : (laws_FnExactAddClue.j1 kj15 t115 (t129 != t115) a0_0 l0_1 a1_0 a1_1 a1_2 t111 t112 t125 t126) = some r := by rw [if_pos rfl] at H; exact H
         clear H
         have H := H1
         clear H1
         have H' := aM H
         clear H
         have hnb91 := NB130_101.out
         have hnc91 := NB101_130.out
         have hnb92 := NB130_102.out
         have hnc92 := NB102_130.out
         have hnb93 := NB130_116.out
         have hnc93 := NB116_130.out
         have hnb94 := NB130_121.out
         have hnc94 := NB121_130.out
         have hcz95_0 : w87.cell? ⟨gb130, 0, none⟩ = some (.int .i64 t125) := (blk_cell BK130.out 0).trans rfl
         have hcz95_1 : w87.cell? ⟨gb130, 1, none⟩ = some (.slice Ao48 t126.length co48) := (blk_cell BK130.out 1).trans rfl
         have hfz95_0 := blk_frozen BK130.out 0
         have hfz95_1 := blk_frozen BK130.out 1
         have hnb96 := NB116_101.out
         have hnc96 := NB101_116.out
         have hnb97 := NB116_102.out
         have hnc97 := NB102_116.out
         have hnb98 := NB116_121.out
         have hnc98 := NB121_116.out
         have hcz99_0 : w87.cell? ⟨gb116, 0, none⟩ = some (.int .i64 t111) := (blk_cell BK116.out 0).trans rfl
         have hcz99_1 : w87.cell? ⟨gb116, 1, none⟩ = some (.slice Ao30 t112.length co30) := (blk_cell BK116.out 1).trans rfl
         have hfz99_0 := blk_frozen BK116.out 0
         have hfz99_1 := blk_frozen BK116.out 1
         go_wp2_with (first | (go_at_call 9; (with_reducible refine (laws_eqPuzzle.calls kj15 t125 _ _ t126 t111 _ _ t112 true _ ?side1 ?side2 ?side3 ?side4 A89.out).mono ?_); (case side1 => repeat (first | exact (Kd.R_reads' HO_131001.out).2.2 | (with_reducible refine Kd.C_alloc ?_ _) | (with_reducible refine Kd.C_drewN ?_ _) | (with_reducible refine Kd.C_drew ?_))); (case side2 => exact (Kd.R_reads' HO_131001.out).2.1); (case side3 => repeat (first | exact (Kd.R_reads' HO_117001.out).2.2 | (with_reducible refine Kd.C_alloc ?_ _) | (with_reducible refine Kd.C_drewN ?_ _) | (with_reducible refine Kd.C_drew ?_))); (case side4 => exact (Kd.R_reads' HO_117001.out).2.1); rintro e w100 ⟨rfl, hb⟩; have n0_ := aM (Kd.R_below (kr HO_117001) hb); have n1_ := aM (Kd.R_below (kr HO_122001) hb); have n2_ := aM (Kd.R_below (kr HO_131001) hb); have n3_ := aM (Kd.R_below (kr HO135) hb); have n4_ := aM (blk_below (kq BK101) hb); have n5_ := aM (blk_below (kq BK102) hb); have n6_ := aM (blk_below (kq BK116) hb); have n7_ := aM (blk_below (kq BK121) hb); have n8_ := aM (blk_below (kq BK130) hb); have n9_ := aM (below_step (kb5 HB GE101 GE102 GE116 GE121 GE130) hb); clear HO_117001; clear HO_122001; clear HO_131001; clear HO135; clear BK101; clear BK102; clear BK116; clear BK121; clear BK130; clear HB; have HO_117001 := n0_; have HO_122001 := n1_; have HO_131001 := n2_; have HO135 := n3_; have BK101 := n4_; have BK102 := n5_; have BK116 := n6_; have BK121 := n7_; have BK130 := n8_; have HB := n9_; clear n0_ n1_ n2_ n3_ n4_ n5_ n6_ n7_ n8_ n9_; (try clear hb); (try clear hb2); (try clear hk); (try clear hi)))
         go_meet
         case rel => exact ⟨_, ((t129 != t115)), tq, H', ⟨by have := HJ15.out; first | omega | exact Nat.le_refl _⟩, ⟨by (with_reducible repeat (first | apply Kd.R_alloc | apply Kd.R_drewN | apply Kd.R_drew)); exact Kd.R_mono HO_117001.out (fun _ hk => ⟨hk.1, hk.2.1⟩)⟩, ⟨by (with_reducible repeat (first | apply Kd.R_alloc | apply Kd.R_drewN | apply Kd.R_drew)); exact Kd.R_mono HO_122001.out (fun _ hk => ⟨hk.1.1, hk.1.2⟩)⟩, ⟨by (with_reducible repeat (first | apply Kd.R_alloc | apply Kd.R_drewN | apply Kd.R_drew)); exact Kd.R_mono HO_131001.out (fun _ hk => ⟨hk.1, hk.2.1⟩)⟩, ⟨by (with_reducible repeat (first | refine blk_drewN ?_ _ | refine blk_drew ?_ | refine blk_alloc ?_ _)); exact BK101.out⟩, ⟨by (with_reducible repeat (first | refine blk_drewN ?_ _ | refine blk_drew ?_ | refine blk_alloc ?_ _)); exact BK102.out⟩, ⟨by (with_reducible repeat (first | refine blk_drewN ?_ _ | refine blk_drew ?_ | refine blk_alloc ?_ _)); exact BK116.out⟩, ⟨by (with_reducible repeat (first | refine blk_drewN ?_ _ | refine blk_drew ?_ | refine blk_alloc ?_ _)); exact BK121.out⟩, ⟨by (with_reducible repeat (first | refine blk_drewN ?_ _ | refine blk_drew ?_ | refine blk_alloc ?_ _)); exact BK130.out⟩, ⟨(kb5 HB GE101 GE102 GE116 GE121 GE130)⟩⟩
        ·
         replace c90 := Bool.eq_false_iff.mpr c90
         subst c90
         have H1 : (laws_FnExactAddClue.j1 kj15 t115 true a0_0 l0_1 a1_0 a1_1 a1_2 t111 t112 t125 t126) = some r := by rw [if_neg (show ¬ (false = true) by decide)] at H; exact H
         clear H
         have H := H1
         clear H1
         have H' := aM H
         clear H
         have hnb101 := NB130_101.out
         have hnc101 := NB101_130.out
         have hnb102 := NB130_102.out
         have hnc102 := NB102_130.out
         have hnb103 := NB130_116.out
         have hnc103 := NB116_130.out
         have hnb104 := NB130_121.out
         have hnc104 := NB121_130.out
         have hcz105_0 : w87.cell? ⟨gb130, 0, none⟩ = some (.int .i64 t125) := (blk_cell BK130.out 0).trans rfl
         have hcz105_1 : w87.cell? ⟨gb130, 1, none⟩ = some (.slice Ao48 t126.length co48) := (blk_cell BK130.out 1).trans rfl
         have hfz105_0 := blk_frozen BK130.out 0
         have hfz105_1 := blk_frozen BK130.out 1
         have hnb106 := NB116_101.out
         have hnc106 := NB101_116.out
         have hnb107 := NB116_102.out
         have hnc107 := NB102_116.out
         have hnb108 := NB116_121.out
         have hnc108 := NB121_116.out
         have hcz109_0 : w87.cell? ⟨gb116, 0, none⟩ = some (.int .i64 t111) := (blk_cell BK116.out 0).trans rfl
         have hcz109_1 : w87.cell? ⟨gb116, 1, none⟩ = some (.slice Ao30 t112.length co30) := (blk_cell BK116.out 1).trans rfl
         have hfz109_0 := blk_frozen BK116.out 0
         have hfz109_1 := blk_frozen BK116.out 1
         go_wp2_with (first | (go_at_call 9; (with_reducible refine (laws_eqPuzzle.calls kj15 t125 _ _ t126 t111 _ _ t112 false _ ?side1 ?side2 ?side3 ?side4 A89.out).mono ?_); (case side1 => repeat (first | exact (Kd.R_reads' HO_131001.out).2.2 | (with_reducible refine Kd.C_alloc ?_ _) | (with_reducible refine Kd.C_drewN ?_ _) | (with_reducible refine Kd.C_drew ?_))); (case side2 => exact (Kd.R_reads' HO_131001.out).2.1); (case side3 => repeat (first | exact (Kd.R_reads' HO_117001.out).2.2 | (with_reducible refine Kd.C_alloc ?_ _) | (with_reducible refine Kd.C_drewN ?_ _) | (with_reducible refine Kd.C_drew ?_))); (case side4 => exact (Kd.R_reads' HO_117001.out).2.1); rintro e w110 ⟨rfl, hb⟩; have n0_ := aM (Kd.R_below (kr HO_117001) hb); have n1_ := aM (Kd.R_below (kr HO_122001) hb); have n2_ := aM (Kd.R_below (kr HO_131001) hb); have n3_ := aM (Kd.R_below (kr HO135) hb); have n4_ := aM (blk_below (kq BK101) hb); have n5_ := aM (blk_below (kq BK102) hb); have n6_ := aM (blk_below (kq BK116) hb); have n7_ := aM (blk_below (kq BK121) hb); have n8_ := aM (blk_below (kq BK130) hb); have n9_ := aM (below_step (kb5 HB GE101 GE102 GE116 GE121 GE130) hb); clear HO_117001; clear HO_122001; clear HO_131001; clear HO135; clear BK101; clear BK102; clear BK116; clear BK121; clear BK130; clear HB; have HO_117001 := n0_; have HO_122001 := n1_; have HO_131001 := n2_; have HO135 := n3_; have BK101 := n4_; have BK102 := n5_; have BK116 := n6_; have BK121 := n7_; have BK130 := n8_; have HB := n9_; clear n0_ n1_ n2_ n3_ n4_ n5_ n6_ n7_ n8_ n9_; (try clear hb); (try clear hb2); (try clear hk); (try clear hi)))
         go_meet
         case rel => exact ⟨_, (true), tq, H', ⟨by have := HJ15.out; first | omega | exact Nat.le_refl _⟩, ⟨by (with_reducible repeat (first | apply Kd.R_alloc | apply Kd.R_drewN | apply Kd.R_drew)); exact Kd.R_mono HO_117001.out (fun _ hk => ⟨hk.1, hk.2.1⟩)⟩, ⟨by (with_reducible repeat (first | apply Kd.R_alloc | apply Kd.R_drewN | apply Kd.R_drew)); exact Kd.R_mono HO_122001.out (fun _ hk => ⟨hk.1.1, hk.1.2⟩)⟩, ⟨by (with_reducible repeat (first | apply Kd.R_alloc | apply Kd.R_drewN | apply Kd.R_drew)); exact Kd.R_mono HO_131001.out (fun _ hk => ⟨hk.1, hk.2.1⟩)⟩, ⟨by (with_reducible repeat (first | refine blk_drewN ?_ _ | refine blk_drew ?_ | refine blk_alloc ?_ _)); exact BK101.out⟩, ⟨by (with_reducible repeat (first | refine blk_drewN ?_ _ | refine blk_drew ?_ | refine blk_alloc ?_ _)); exact BK102.out⟩, ⟨by (with_reducible repeat (first | refine blk_drewN ?_ _ | refine blk_drew ?_ | refine blk_alloc ?_ _)); exact BK116.out⟩, ⟨by (with_reducible repeat (first | refine blk_drewN ?_ _ | refine blk_drew ?_ | refine blk_alloc ?_ _)); exact BK121.out⟩, ⟨by (with_reducible repeat (first | refine blk_drewN ?_ _ | refine blk_drew ?_ | refine blk_alloc ?_ _)); exact BK130.out⟩, ⟨(kb5 HB GE101 GE102 GE116 GE121 GE130)⟩⟩
      case rest =>
       clear HC77
       try clear c51
       try clear c72
       try clear c75
       try clear c88
       try clear c88b0
       try clear c90
       try clear hcz105_0
       try clear hcz105_1
       try clear hcz109_0
       try clear hcz109_1
       try clear hcz56_0
       try clear hcz56_1
       try clear hcz60_0
       try clear hcz60_1
       try clear hcz66_0
       try clear hcz66_1
       try clear hcz70_0
       try clear hcz70_1
       try clear hcz86_0
       try clear hcz86_1
       try clear hcz95_0
       try clear hcz95_1
       try clear hcz99_0
       try clear hcz99_1
       try clear hfz105_0
       try clear hfz105_1
       try clear hfz109_0
       try clear hfz109_1
       try clear hfz56_0
       try clear hfz56_1
       try clear hfz60_0
       try clear hfz60_1
       try clear hfz66_0
       try clear hfz66_1
       try clear hfz70_0
       try clear hfz70_1
       try clear hfz86_0
       try clear hfz86_1
       try clear hfz95_0
       try clear hfz95_1
       try clear hfz99_0
       try clear hfz99_1
       obtain ⟨kq, x67_76, rfl, HA, HJ76, HO_117001, HO_122001, HO_131001, BK101, BK102, BK116, BK121, BK130, HB⟩ := hcut
       have hl122001_76 := (Kd.R_reads' HO_122001.out).1
       rw [hl122001_76] at HO_122001
       (try simp only [hl122001_76])
       (try simp only [hl122001_76] at BK101)
       (try simp only [hl122001_76] at BK102)
       (try simp only [hl122001_76] at BK116)
       (try simp only [hl122001_76] at BK121)
       (try simp only [hl122001_76] at BK130)
       (try simp only [hl122001_76] at HO_117001)
       (try simp only [hl122001_76] at HO_131001)
       cases kq with
       | zero => exact absurd HA.out (by simp [laws_FnExactAddClue.j1])
       | succ kj76 =>
        have H := HA.out
        clear HA
        simp only [laws_FnExactAddClue.j1] at H
        by_cases c111 : x67_76 = true
        ·
         subst c111
         have H1 : (some false) = some r := by rw [if_pos rfl] at H; exact H
         clear H
         have H := H1
         clear H1
         obtain rfl := Option.some.inj H
         go_wp2
         go_ret
         exact ⟨ea, (kb5 HB GE101 GE102 GE116 GE121 GE130)⟩
        ·
         replace c111 := Bool.eq_false_iff.mpr c111
         subst c111
         rw [if_neg (show ¬ (false = true) by decide)] at H
         replace H := Option.bind_eq_some_iff.mp H
         obtain ⟨⟨t140, t141⟩, A1120, H⟩ := H
         try dsimp only at H
         have A112 := aM A1120
         clear A1120
         replace H := Option.bind_eq_some_iff.mp H
         obtain ⟨t142, A1130, H⟩ := H
         try dsimp only at H
         have A113 := aM A1130
         clear A1130
         by_cases c114 : t142 < 0
         ·
          rw [if_pos c114] at H
          have c114b0 : decide (t142 < 0) = true := decide_eq_true c114
          clear c114
          obtain rfl := Option.some.inj H
          have hnb115 := NB130_101.out
          have hnc115 := NB101_130.out
          have hnb116 := NB130_102.out
          have hnc116 := NB102_130.out
          have hnb117 := NB130_116.out
          have hnc117 := NB116_130.out
          have hnb118 := NB130_121.out
          have hnc118 := NB121_130.out
          have hcz119_0 : wc.cell? ⟨gb130, 0, none⟩ = some (.int .i64 t125) := (blk_cell BK130.out 0).trans rfl
          have hcz119_1 : wc.cell? ⟨gb130, 1, none⟩ = some (.slice Ao48 t126.length co48) := (blk_cell BK130.out 1).trans rfl
          have hfz119_0 := blk_frozen BK130.out 0
          have hfz119_1 := blk_frozen BK130.out 1
          go_wp2_with (first | ((with_reducible refine gate_callee (f := 10) rfl ?_); refine goesL_ (some 70) rfl rfl Try.func10 (by kernel_rfl) rfl #[.agg #[.int .i64 t125, .slice Ao48 t126.length co48], .int .i64 1] rfl ka ?_; (with_reducible refine (laws_markPuzzle.calls kj76 t125 (fun k_ => some k_ = (.slice Ao48 t126.length co48 : Value).ownBlock) (.slice Ao48 t126.length co48) t126 1 t140 t141 w _ ?side1 ?side2 A112.out).mono ?_); (case side1 => repeat (first | (with_reducible first | exact HB.out | apply below_alloc | apply pw_below_drewN | apply below_drew1 | refine below_set ?_ GE101.out | refine below_set ?_ GE102.out | refine below_set ?_ GE116.out | refine below_set ?_ GE121.out | refine below_set ?_ GE130.out) | exact HB.out)); (case side2 => exact Kd.R_tight rfl HO_131001.out); rintro e w120 ⟨rfl, hy0, hb, hkp⟩; refine ⟨_, rfl, ?_⟩; have n0_ := aM (Kd.R_mono (ok' := fun k_ => some k_ ≠ (.slice Ao40 t138.length co40 : Value).ownBlock ∧ some k_ ≠ (.slice Ao48 t126.length co48 : Value).ownBlock) (Kd.R_keptB (HO_117001.out) hkp (fun k_ hk_ hs_ => (hk_.2) hs_)) (fun k_ hk_ => ⟨hk_.1.1, hk_.1.2⟩)); have n1_ := aM (Kd.R_mono (ok' := fun k_ => some k_ ≠ (.slice Ao30 t112.length co30 : Value).ownBlock ∧ some k_ ≠ (.slice Ao48 t126.length co48 : Value).ownBlock) (Kd.R_keptB (HO_122001.out) hkp (fun k_ hk_ hs_ => (hk_.2) hs_)) (fun k_ hk_ => ⟨hk_.1.1, hk_.1.2⟩)); have n2_ := aM (Kd.R_reok rfl hy0 (fun k_ e_ => HO_131001.out.1 k_ e_)); have n3_ := aM (blk_kept (kq BK101) hkp (fun hs_ => (fun e_ => (Kd.R_ne HO_131001.out BK101.out (by decide)) e_) hs_)); have n4_ := aM (blk_kept (kq BK102) hkp (fun hs_ => (fun e_ => (Kd.R_ne HO_131001.out BK102.out (by decide)) e_) hs_)); have n5_ := aM (blk_kept (kq BK116) hkp (fun hs_ => (fun e_ => (Kd.R_ne HO_131001.out BK116.out (by decide)) e_) hs_)); have n6_ := aM (blk_kept (kq BK121) hkp (fun hs_ => (fun e_ => (Kd.R_ne HO_131001.out BK121.out (by decide)) e_) hs_)); have n7_ := aM (blk_kept (kq BK130) hkp (fun hs_ => (fun e_ => (Kd.R_ne HO_131001.out BK130.out (by decide)) e_) hs_)); have n8_ := aM (hb); clear HO_117001; clear HO_122001; clear HO_131001; clear BK101; clear BK102; clear BK116; clear BK121; clear BK130; clear HB; have HO_117001 := n0_; have HO_122001 := n1_; have HO_131001 := n2_; have BK101 := n3_; have BK102 := n4_; have BK116 := n5_; have BK121 := n6_; have BK130 := n7_; have HB := n8_; clear n0_ n1_ n2_ n3_ n4_ n5_ n6_ n7_ n8_; (try clear hb); (try clear hkp); (try clear hy0); have hcz121_0 : w120.cell? ⟨gb130, 0, none⟩ = some (.int .i64 t125) := (blk_cell BK130.out 0).trans rfl; have hcz121_1 : w120.cell? ⟨gb130, 1, none⟩ = some (.slice Ao48 t126.length co48) := (blk_cell BK130.out 1).trans rfl; have hfz121_0 := blk_frozen BK130.out 0; have hfz121_1 := blk_frozen BK130.out 1) | ((with_reducible refine gate_callee (f := 11) rfl ?_); refine goesL_ (some 73) rfl rfl Try.func11 (by kernel_rfl) rfl #[.agg #[.int .i64 t125, .slice Ao48 t141.length co48], .int .i64 1] rfl (by (try simp only [List.map_toArray, List.map_cons, List.map_nil]); first | done | (rw [show t141.length = t126.length from (Kd.R_reads' HO_131001.out).1.symm] <;> rfl) | rfl | (simp only [List.length_drop, List.length_take]; rfl)) ?_; (with_reducible refine (laws_heldPuzzle.calls kj76 t125 _ _ t141 1 t142 _ ?side1 ?side2 A113.out).mono ?_); (case side1 => repeat (first | exact (Kd.R_reads' HO_131001.out).2.2 | (with_reducible refine Kd.C_alloc ?_ _) | (with_reducible refine Kd.C_drewN ?_ _) | (with_reducible refine Kd.C_drew ?_))); (case side2 => rw [show t141.length = t126.length from (Kd.R_reads' HO_131001.out).1.symm]; exact (Kd.R_reads' HO_131001.out).2.1); rintro e w122 ⟨rfl, hb⟩; refine ⟨_, rfl, ?_⟩; have n0_ := aM (Kd.R_below (kr HO_117001) hb); have n1_ := aM (Kd.R_below (kr HO_122001) hb); have n2_ := aM (Kd.R_below (kr HO_131001) hb); have n3_ := aM (blk_below (kq BK101) hb); have n4_ := aM (blk_below (kq BK102) hb); have n5_ := aM (blk_below (kq BK116) hb); have n6_ := aM (blk_below (kq BK121) hb); have n7_ := aM (blk_below (kq BK130) hb); have n8_ := aM (below_step (kb5 HB GE101 GE102 GE116 GE121 GE130) hb); clear HO_117001; clear HO_122001; clear HO_131001; clear BK101; clear BK102; clear BK116; clear BK121; clear BK130; clear HB; have HO_117001 := n0_; have HO_122001 := n1_; have HO_131001 := n2_; have BK101 := n3_; have BK102 := n4_; have BK116 := n5_; have BK121 := n6_; have BK130 := n7_; have HB := n8_; clear n0_ n1_ n2_ n3_ n4_ n5_ n6_ n7_ n8_; (try clear hb); (try clear hb2); (try clear hk); (try clear hi)))
          go_ret
          exact ⟨ea, (kb5 HB GE101 GE102 GE116 GE121 GE130)⟩
         ·
          rw [if_neg c114] at H
          have c114b0 : decide (t142 < 0) = false := decide_eq_false c114
          clear c114
          by_cases c123 : t142 = t140
          ·
           rw [if_pos c123] at H
           have c123b0 : (t142 == t140) = true := beq_iff_eq.mpr c123
           have c123b1 : (t142 != t140) = false := bne_eq_false_iff_eq.mpr c123
           clear c123
           replace H := Option.bind_eq_some_iff.mp H
           obtain ⟨⟨t143, t144⟩, A1240, H⟩ := H
           try dsimp only at H
           have A124 := aM A1240
           clear A1240
           replace H := Option.bind_eq_some_iff.mp H
           obtain ⟨⟨t147, t148, t149⟩, A1250, H⟩ := H
           replace H : ((impl_AddClue.f kj76 t143 t144 t147 t148 t149).bind fun bt150 => ((laws_eqPuzzle.f kj76 bt150.1 bt150.2.1 t111 t112).bind fun t156 => (if t156 = true then (laws_FnExactAddClue.j2 kj76 t140 (bt150.2.2 != t115) t125 t141) else (laws_FnExactAddClue.j2 kj76 t140 true t125 t141)))) = some r := H
           have A125 := aM A1250
           clear A1250
           replace H := Option.bind_eq_some_iff.mp H
           obtain ⟨⟨t150, t151, t154⟩, A1260, H⟩ := H
           replace H : ((laws_eqPuzzle.f kj76 t150 t151 t111 t112).bind fun t156 => (if t156 = true then (laws_FnExactAddClue.j2 kj76 t140 (t154 != t115) t125 t141) else (laws_FnExactAddClue.j2 kj76 t140 true t125 t141))) = some r := H
           have A126 := aM A1260
           clear A1260
           have HC127 := aM H
           clear H
           have hnb128 := NB130_101.out
           have hnc128 := NB101_130.out
           have hnb129 := NB130_102.out
           have hnc129 := NB102_130.out
           have hnb130 := NB130_116.out
           have hnc130 := NB116_130.out
           have hnb131 := NB130_121.out
           have hnc131 := NB121_130.out
           have hcz132_0 : wc.cell? ⟨gb130, 0, none⟩ = some (.int .i64 t125) := (blk_cell BK130.out 0).trans rfl
           have hcz132_1 : wc.cell? ⟨gb130, 1, none⟩ = some (.slice Ao48 t126.length co48) := (blk_cell BK130.out 1).trans rfl
           have hfz132_0 := blk_frozen BK130.out 0
           have hfz132_1 := blk_frozen BK130.out 1
           try go_wp2_with (first | ((with_reducible refine gate_callee (f := 10) rfl ?_); refine goesL_ (some 70) rfl rfl Try.func10 (by kernel_rfl) rfl #[.agg #[.int .i64 t125, .slice Ao48 t126.length co48], .int .i64 1] rfl ka ?_; (with_reducible refine (laws_markPuzzle.calls kj76 t125 (fun k_ => some k_ = (.slice Ao48 t126.length co48 : Value).ownBlock) (.slice Ao48 t126.length co48) t126 1 t140 t141 w _ ?side1 ?side2 A112.out).mono ?_); (case side1 => repeat (first | (with_reducible first | exact HB.out | apply below_alloc | apply pw_below_drewN | apply below_drew1 | refine below_set ?_ GE101.out | refine below_set ?_ GE102.out | refine below_set ?_ GE116.out | refine below_set ?_ GE121.out | refine below_set ?_ GE130.out) | exact HB.out)); (case side2 => exact Kd.R_tight rfl HO_131001.out); rintro e w133 ⟨rfl, hy0, hb, hkp⟩; refine ⟨_, rfl, ?_⟩; have n0_ := aM (Kd.R_mono (ok' := fun k_ => some k_ ≠ (.slice Ao40 t138.length co40 : Value).ownBlock ∧ some k_ ≠ (.slice Ao48 t126.length co48 : Value).ownBlock) (Kd.R_keptB (HO_117001.out) hkp (fun k_ hk_ hs_ => (hk_.2) hs_)) (fun k_ hk_ => ⟨hk_.1.1, hk_.1.2⟩)); have n1_ := aM (Kd.R_mono (ok' := fun k_ => some k_ ≠ (.slice Ao30 t112.length co30 : Value).ownBlock ∧ some k_ ≠ (.slice Ao48 t126.length co48 : Value).ownBlock) (Kd.R_keptB (HO_122001.out) hkp (fun k_ hk_ hs_ => (hk_.2) hs_)) (fun k_ hk_ => ⟨hk_.1.1, hk_.1.2⟩)); have n2_ := aM (Kd.R_reok rfl hy0 (fun k_ e_ => HO_131001.out.1 k_ e_)); have n3_ := aM (blk_kept (kq BK101) hkp (fun hs_ => (fun e_ => (Kd.R_ne HO_131001.out BK101.out (by decide)) e_) hs_)); have n4_ := aM (blk_kept (kq BK102) hkp (fun hs_ => (fun e_ => (Kd.R_ne HO_131001.out BK102.out (by decide)) e_) hs_)); have n5_ := aM (blk_kept (kq BK116) hkp (fun hs_ => (fun e_ => (Kd.R_ne HO_131001.out BK116.out (by decide)) e_) hs_)); have n6_ := aM (blk_kept (kq BK121) hkp (fun hs_ => (fun e_ => (Kd.R_ne HO_131001.out BK121.out (by decide)) e_) hs_)); have n7_ := aM (blk_kept (kq BK130) hkp (fun hs_ => (fun e_ => (Kd.R_ne HO_131001.out BK130.out (by decide)) e_) hs_)); have n8_ := aM (hb); clear HO_117001; clear HO_122001; clear HO_131001; clear BK101; clear BK102; clear BK116; clear BK121; clear BK130; clear HB; have HO_117001 := n0_; have HO_122001 := n1_; have HO_131001 := n2_; have BK101 := n3_; have BK102 := n4_; have BK116 := n5_; have BK121 := n6_; have BK130 := n7_; have HB := n8_; clear n0_ n1_ n2_ n3_ n4_ n5_ n6_ n7_ n8_; (try clear hb); (try clear hkp); (try clear hy0); have hcz134_0 : w133.cell? ⟨gb130, 0, none⟩ = some (.int .i64 t125) := (blk_cell BK130.out 0).trans rfl; have hcz134_1 : w133.cell? ⟨gb130, 1, none⟩ = some (.slice Ao48 t126.length co48) := (blk_cell BK130.out 1).trans rfl; have hfz134_0 := blk_frozen BK130.out 0; have hfz134_1 := blk_frozen BK130.out 1) | ((with_reducible refine gate_callee (f := 11) rfl ?_); refine goesL_ (some 73) rfl rfl Try.func11 (by kernel_rfl) rfl #[.agg #[.int .i64 t125, .slice Ao48 t141.length co48], .int .i64 1] rfl (by (try simp only [List.map_toArray, List.map_cons, List.map_nil]); first | done | (rw [show t141.length = t126.length from (Kd.R_reads' HO_131001.out).1.symm] <;> rfl) | rfl | (simp only [List.length_drop, List.length_take]; rfl)) ?_; (with_reducible refine (laws_heldPuzzle.calls kj76 t125 _ _ t141 1 t142 _ ?side1 ?side2 A113.out).mono ?_); (case side1 => repeat (first | exact (Kd.R_reads' HO_131001.out).2.2 | (with_reducible refine Kd.C_alloc ?_ _) | (with_reducible refine Kd.C_drewN ?_ _) | (with_reducible refine Kd.C_drew ?_))); (case side2 => rw [show t141.length = t126.length from (Kd.R_reads' HO_131001.out).1.symm]; exact (Kd.R_reads' HO_131001.out).2.1); rintro e w135 ⟨rfl, hb⟩; refine ⟨_, rfl, ?_⟩; have n0_ := aM (Kd.R_below (kr HO_117001) hb); have n1_ := aM (Kd.R_below (kr HO_122001) hb); have n2_ := aM (Kd.R_below (kr HO_131001) hb); have n3_ := aM (blk_below (kq BK101) hb); have n4_ := aM (blk_below (kq BK102) hb); have n5_ := aM (blk_below (kq BK116) hb); have n6_ := aM (blk_below (kq BK121) hb); have n7_ := aM (blk_below (kq BK130) hb); have n8_ := aM (below_step (kb5 HB GE101 GE102 GE116 GE121 GE130) hb); clear HO_117001; clear HO_122001; clear HO_131001; clear BK101; clear BK102; clear BK116; clear BK121; clear BK130; clear HB; have HO_117001 := n0_; have HO_122001 := n1_; have HO_131001 := n2_; have BK101 := n3_; have BK102 := n4_; have BK116 := n5_; have BK121 := n6_; have BK130 := n7_; have HB := n8_; clear n0_ n1_ n2_ n3_ n4_ n5_ n6_ n7_ n8_; (try clear hb); (try clear hb2); (try clear hk); (try clear hi)))
           have n0_ := aM (Kd.R_drew HO_117001.out)
           have n1_ := aM (Kd.R_drew HO_122001.out)
           have n2_ := aM (Kd.R_drew HO_131001.out)
           have n3_ := aM (blk_drew BK101.out)
           have n4_ := aM (blk_drew BK102.out)
           have n5_ := aM (blk_drew BK116.out)
           have n6_ := aM (blk_drew BK121.out)
           have n7_ := aM (blk_drew BK130.out)
           have n8_ := aM (below_drew1 HB.out)
           clear HO_117001
           clear HO_122001
           clear HO_131001
           clear BK101
           clear BK102
           clear BK116
           clear BK121
           clear BK130
           clear HB
           have HO_117001 := n0_
           have HO_122001 := n1_
           have HO_131001 := n2_
           have BK101 := n3_
           have BK102 := n4_
           have BK116 := n5_
           have BK121 := n6_
           have BK130 := n7_
           have HB := n8_
           clear n0_ n1_ n2_ n3_ n4_ n5_ n6_ n7_ n8_
           refine start_ (n := 11) (S := fun w' => w'.cell? ⟨gb101, 0, none⟩ = some (.int .i64 a0_0) ∧ w'.cell? ⟨gb101, 1, none⟩ = some (.slice A0_1 l0_1.length c0_1) ∧ w'.cell? ⟨gb102, 0, none⟩ = some (.int .i64 a1_0) ∧ w'.cell? ⟨gb102, 1, none⟩ = some (.int .i64 a1_1) ∧ w'.cell? ⟨gb102, 2, none⟩ = some (.int .i64 a1_2)) (ds := []) #[false, false, false, false, false, false, false, false, false, false, false] (by kernel_rfl) rfl rfl ⟨(blk_cell BK101.out 0).trans rfl, (blk_cell BK101.out 1).trans rfl, (blk_cell BK102.out 0).trans rfl, (blk_cell BK102.out 1).trans rfl, (blk_cell BK102.out 2).trans rfl⟩ (fun hHeld => ?_); refine with_tabW laws_FnExactAddClue.tab24 laws_FnExactAddClue.bits24 (fun HT_ HW_ => ?_)
           generalize w135.drew = w136 at HO_117001 HO_122001 HO_131001 BK101 BK102 BK116 BK121 BK130 HB hHeld ⊢
           refine take_ (i := 0) (N := some 80) (v := ?_) (a' := ?_) #[true, false, false, false, false, false, false, false, false, false, false] rfl rfl (take_ofW HT_.out HW_.out (by kernel_rfl)) (fun _ _ _ h => h) (Or.inl ⟨by rfl, ?_⟩) hHeld ?_ ?_
           rotate_left
           ·
            rintro w' ⟨s0, s1, s2, s3, s4⟩
            go_simp
            with_reducible rfl
           rotate_left
           ·
            simp only [Act.put, q1, q2, q3, i64_w, i32_w]
            rfl
           refine take_ (i := 2) (N := some 82) (v := ?_) (a' := ?_) #[true, false, true, false, false, false, false, false, false, false, false] rfl rfl (take_ofW HT_.out HW_.out (by kernel_rfl)) (fun _ _ _ h => h) (Or.inl ⟨by rfl, ?_⟩) hHeld ?_ ?_
           rotate_left
           ·
            rintro w' ⟨s0, s1, s2, s3, s4⟩
            go_simp
            with_reducible rfl
           rotate_left
           ·
            simp only [Act.put, q1, q2, q3, i64_w, i32_w]
            rfl
           refine join_ (σ := Value × Value × Nat) 2 #[true, true, true, true, true, true, true, true, true, false, false] (fun s_ => [(81, .agg #[.int .i64 t143, s_.1]), (83, .agg #[.int .i64 t147, .int .i64 t148, .int .i64 t149]), (84, .tuple #[.agg #[.int .i64 t150, s_.2.1], .bool t154]), (14, .pointer (some ⟨s_.2.2, 0, none⟩)), (79, .tuple #[.agg #[.int .i64 t150, s_.2.1], .bool t154]), (85, .agg #[.int .i64 t150, s_.2.1]), (86, .bool t154)]) (fun s_ w' => (w'.cell? ⟨gb101, 0, none⟩ = some (.int .i64 a0_0) ∧ w'.cell? ⟨gb101, 1, none⟩ = some (.slice A0_1 l0_1.length c0_1) ∧ w'.cell? ⟨gb102, 0, none⟩ = some (.int .i64 a1_0) ∧ w'.cell? ⟨gb102, 1, none⟩ = some (.int .i64 a1_1) ∧ w'.cell? ⟨gb102, 2, none⟩ = some (.int .i64 a1_2)) ∧ (Kd.R k38 38 w' w.heap.size (fun k_ => some k_ ≠ (s_.2.1 : Value).ownBlock ∧ some k_ ≠ (.slice Ao30 t112.length co30 : Value).ownBlock ∧ some k_ ≠ (.slice Ao40 t138.length co40 : Value).ownBlock ∧ some k_ ≠ (.slice Ao48 t126.length co48 : Value).ownBlock) s_.1 t144) ∧ (Kd.R k38 38 w' w.heap.size (fun k_ => some k_ ≠ (s_.1 : Value).ownBlock ∧ some k_ ≠ (.slice Ao30 t112.length co30 : Value).ownBlock ∧ some k_ ≠ (.slice Ao40 t138.length co40 : Value).ownBlock ∧ some k_ ≠ (.slice Ao48 t126.length co48 : Value).ownBlock) s_.2.1 t151) ∧ (Kd.R k38 38 w' w.heap.size (fun k_ => some k_ ≠ (s_.1 : Value).ownBlock ∧ some k_ ≠ (s_.2.1 : Value).ownBlock ∧ some k_ ≠ (.slice Ao40 t138.length co40 : Value).ownBlock ∧ some k_ ≠ (.slice Ao48 t126.length co48 : Value).ownBlock) (.slice Ao30 t112.length co30) t112) ∧ (Kd.R k38 38 w' w.heap.size (fun k_ => some k_ ≠ (s_.1 : Value).ownBlock ∧ some k_ ≠ (s_.2.1 : Value).ownBlock ∧ some k_ ≠ (.slice Ao30 t112.length co30 : Value).ownBlock ∧ some k_ ≠ (.slice Ao48 t126.length co48 : Value).ownBlock) (.slice Ao40 t138.length co40) t138) ∧ (Kd.R k38 38 w' w.heap.size (fun k_ => some k_ ≠ (s_.1 : Value).ownBlock ∧ some k_ ≠ (s_.2.1 : Value).ownBlock ∧ some k_ ≠ (.slice Ao30 t112.length co30 : Value).ownBlock ∧ some k_ ≠ (.slice Ao40 t138.length co40 : Value).ownBlock) (.slice Ao48 t126.length co48) t141) ∧ (w'.heap[gb101]? = some (.cells #[.int .i64 a0_0, .slice A0_1 l0_1.length c0_1] 32 (0, 0))) ∧ (w'.heap[gb102]? = some (.cells #[.int .i64 a1_0, .int .i64 a1_1, .int .i64 a1_2] 34 (0, 0))) ∧ (w'.heap[gb116]? = some (.cells #[.int .i64 t111, .slice Ao30 t112.length co30] 24 (0, 0))) ∧ (w'.heap[gb121]? = some (.cells #[.int .i64 t117, .slice Ao40 t138.length co40] 24 (0, 0))) ∧ (w'.heap[gb130]? = some (.cells #[.int .i64 t125, .slice Ao48 t126.length co48] 24 (0, 0))) ∧ (w'.heap[s_.2.2]? = some (.cells #[.int .i64 0, .slice none 0 0] 24 (0, 0))) ∧ (w.heap.size ≤ s_.2.2) ∧ (w.heap.size ≤ s_.2.2) ∧ (gb101 ≠ s_.2.2) ∧ (s_.2.2 ≠ gb101) ∧ (gb102 ≠ s_.2.2) ∧ (s_.2.2 ≠ gb102) ∧ (gb116 ≠ s_.2.2) ∧ (s_.2.2 ≠ gb116) ∧ (gb121 ≠ s_.2.2) ∧ (s_.2.2 ≠ gb121) ∧ (gb130 ≠ s_.2.2) ∧ (s_.2.2 ≠ gb130) ∧ (Below w.heap.size w w')) ?_ ?_
           rotate_left
           ·
            intro hCont
            refine two_ (i := 1) (j := 8) (Ni := some 81) (Nj := some 14) #[true, true, true, false, false, false, false, false, false, false, false] #[true, false, true, false, false, false, false, false, true, false, false] rfl rfl rfl rfl (two_of HT_.out (by kernel_rfl)) (by decide) (by decide) (fun K hK => ?_) (fun K hK => ?_)
            ·
             skip
             refine goes_ Try.func14 (by kernel_rfl) rfl #[.agg #[.int .i64 a0_0, .slice A0_1 l0_1.length c0_1]] (by rfl) rfl rfl ka ?_
             with_reducible refine (laws_toPuzzle.calls kj76 a0_0 _ _ l0_1 t143 t144 _ ?side1 ?side2 A124.out).mono ?_
             (case side1 => repeat (first | exact (Kd.C_below HR0_1.out HB.out) | (with_reducible refine Kd.C_alloc ?_ _) | (with_reducible refine Kd.C_drewN ?_ _) | (with_reducible refine Kd.C_drew ?_)))
             (case side2 => exact HC0_1.out)
             rintro e w137 ⟨v145, rfl, ho0, hb⟩
             refine ⟨_, rfl, ?_⟩
             have n0_ := aM (Kd.R_elder' (kr HO_117001) (Kd.R_base ho0) hb)
             have n1_ := aM (Kd.R_elder' (kr HO_122001) (Kd.R_base ho0) hb)
             have n2_ := aM (Kd.R_elder' (kr HO_131001) (Kd.R_base ho0) hb)
             have n3_ := aM (Kd.R_lower (Kd.R_new' (Kd.R_new' (Kd.R_new' ho0 (Kd.R_lt (kr HO_117001))) (Kd.R_lt (kr HO_122001))) (Kd.R_lt (kr HO_131001))) (below_size (kb5 HB GE101 GE102 GE116 GE121 GE130)))
             have n4_ := aM (blk_below (kq BK101) hb)
             have n5_ := aM (blk_below (kq BK102) hb)
             have n6_ := aM (blk_below (kq BK116) hb)
             have n7_ := aM (blk_below (kq BK121) hb)
             have n8_ := aM (blk_below (kq BK130) hb)
             have n9_ := aM (below_step (kb5 HB GE101 GE102 GE116 GE121 GE130) hb)
             clear HO_117001
             clear HO_122001
             clear HO_131001
             clear BK101
             clear BK102
             clear BK116
             clear BK121
             clear BK130
             clear HB
             have HO_117001 := n0_
             have HO_122001 := n1_
             have HO_131001 := n2_
             have HO146 := n3_
             have BK101 := n4_
             have BK102 := n5_
             have BK116 := n6_
             have BK121 := n7_
             have BK130 := n8_
             have HB := n9_
             clear n0_ n1_ n2_ n3_ n4_ n5_ n6_ n7_ n8_ n9_
             (try clear hb)
             (try clear hb2)
             (try clear hk)
             (try clear hi)
             (try clear ho0)
             refine hK.out _ _ ⟨(blk_cell BK101.out 0).trans rfl, (blk_cell BK101.out 1).trans rfl, (blk_cell BK102.out 0).trans rfl, (blk_cell BK102.out 1).trans rfl, (blk_cell BK102.out 2).trans rfl⟩ (fun hHeld => ?_)
             clear hK K
             refine norm_ (a' := ?_) ?_ ?_
             rotate_left
             ·
              show Act.put _ (some 81) _ = _
              simp only [Act.put, q1, q2, q3, i64_w, i32_w]
              rfl
             refine two_ (i := 3) (j := 8) (Ni := some 83) (Nj := some 14) #[true, true, true, true, false, false, false, false, false, false, false] #[true, true, true, false, false, false, false, false, true, false, false] rfl rfl rfl rfl (two_of HT_.out (by kernel_rfl)) (by decide) (by decide) (fun K hK => ?_) (fun K hK => ?_)
             ·
              skip
              refine goes_ Try.func15 (by kernel_rfl) rfl #[.agg #[.int .i64 a1_0, .int .i64 a1_1, .int .i64 a1_2]] (by rfl) rfl rfl ka ?_
              with_reducible refine (laws_toClue.calls a1_0 a1_1 a1_2 t147 t148 t149 _ A125.out).mono ?_
              rintro e w138 ⟨rfl, hb⟩
              refine ⟨_, rfl, ?_⟩
              have n0_ := aM (Kd.R_below (kr HO_117001) hb)
              have n1_ := aM (Kd.R_below (kr HO_122001) hb)
              have n2_ := aM (Kd.R_below (kr HO_131001) hb)
              have n3_ := aM (Kd.R_below (kr HO146) hb)
              have n4_ := aM (blk_below (kq BK101) hb)
              have n5_ := aM (blk_below (kq BK102) hb)
              have n6_ := aM (blk_below (kq BK116) hb)
              have n7_ := aM (blk_below (kq BK121) hb)
              have n8_ := aM (blk_below (kq BK130) hb)
              have n9_ := aM (below_step (kb5 HB GE101 GE102 GE116 GE121 GE130) hb)
              clear HO_117001
              clear HO_122001
              clear HO_131001
              clear HO146
              clear BK101
              clear BK102
              clear BK116
              clear BK121
              clear BK130
              clear HB
              have HO_117001 := n0_
              have HO_122001 := n1_
              have HO_131001 := n2_
              have HO146 := n3_
              have BK101 := n4_
              have BK102 := n5_
              have BK116 := n6_
              have BK121 := n7_
              have BK130 := n8_
              have HB := n9_
              clear n0_ n1_ n2_ n3_ n4_ n5_ n6_ n7_ n8_ n9_
              (try clear hb)
              (try clear hb2)
              (try clear hk)
              (try clear hi)
              obtain ⟨Ao139, co139, eo139⟩ := Kd.R_slice HO146.out
              (first | subst eo139 | (injection eo139 with f1_ f2_ f3_; have f4_ := f1_.symm; have f5_ := f3_.symm; clear f1_ f2_ f3_; subst f4_; subst f5_))
              refine hK.out _ _ ⟨(blk_cell BK101.out 0).trans rfl, (blk_cell BK101.out 1).trans rfl, (blk_cell BK102.out 0).trans rfl, (blk_cell BK102.out 1).trans rfl, (blk_cell BK102.out 2).trans rfl⟩ (fun hHeld => ?_)
              clear hK K
              refine norm_ (a' := ?_) ?_ ?_
              rotate_left
              ·
               show Act.put _ (some 83) _ = _
               simp only [Act.put, q1, q2, q3, i64_w, i32_w]
               rfl
              refine two_ (i := 4) (j := 8) (Ni := some 84) (Nj := some 14) #[true, true, true, true, true, false, false, false, false, false, false] #[true, true, true, true, false, false, false, false, true, false, false] rfl rfl rfl rfl (two_of HT_.out (by kernel_rfl)) (by decide) (by decide) (fun K hK => ?_) (fun K hK => ?_)
              ·
               skip
               refine goes_ Try.func16 (by kernel_rfl) rfl #[.agg #[.int .i64 t143, .slice Ao139 t144.length co139], .agg #[.int .i64 t147, .int .i64 t148, .int .i64 t149]] (by rfl) rfl rfl ka ?_
               with_reducible refine (impl_AddClue.calls kj76 t143 _ _ t144 t147 t148 t149 t150 t151 t154 _ ?side1 ?side2 A126.out).mono ?_
               (case side1 => repeat (first | exact (Kd.R_reads' HO146.out).2.2 | (with_reducible refine Kd.C_alloc ?_ _) | (with_reducible refine Kd.C_drewN ?_ _) | (with_reducible refine Kd.C_drew ?_)))
               (case side2 => exact (Kd.R_reads' HO146.out).2.1)
               rintro e w140 ⟨v152, rfl, ho0, hb⟩
               refine ⟨_, rfl, ?_⟩
               have n0_ := aM (Kd.R_elder' (kr HO_117001) (Kd.R_base ho0) hb)
               have n1_ := aM (Kd.R_elder' (kr HO_122001) (Kd.R_base ho0) hb)
               have n2_ := aM (Kd.R_elder' (kr HO_131001) (Kd.R_base ho0) hb)
               have n3_ := aM (Kd.R_elder' (kr HO146) (Kd.R_base ho0) hb)
               have n4_ := aM (Kd.R_lower (Kd.R_new' (Kd.R_new' (Kd.R_new' (Kd.R_new' ho0 (Kd.R_lt (kr HO_117001))) (Kd.R_lt (kr HO_122001))) (Kd.R_lt (kr HO_131001))) (Kd.R_lt (kr HO146))) (below_size (kb5 HB GE101 GE102 GE116 GE121 GE130)))
               have n5_ := aM (blk_below (kq BK101) hb)
               have n6_ := aM (blk_below (kq BK102) hb)
               have n7_ := aM (blk_below (kq BK116) hb)
               have n8_ := aM (blk_below (kq BK121) hb)
               have n9_ := aM (blk_below (kq BK130) hb)
               have n10_ := aM (below_step (kb5 HB GE101 GE102 GE116 GE121 GE130) hb)
               clear HO_117001
               clear HO_122001
               clear HO_131001
               clear HO146
               clear BK101
               clear BK102
               clear BK116
               clear BK121
               clear BK130
               clear HB
               have HO_117001 := n0_
               have HO_122001 := n1_
               have HO_131001 := n2_
               have HO146 := n3_
               have HO153 := n4_
               have BK101 := n5_
               have BK102 := n6_
               have BK116 := n7_
               have BK121 := n8_
               have BK130 := n9_
               have HB := n10_
               clear n0_ n1_ n2_ n3_ n4_ n5_ n6_ n7_ n8_ n9_ n10_
               (try clear hb)
               (try clear hb2)
               (try clear hk)
               (try clear hi)
               (try clear ho0)
               refine hK.out _ _ ⟨(blk_cell BK101.out 0).trans rfl, (blk_cell BK101.out 1).trans rfl, (blk_cell BK102.out 0).trans rfl, (blk_cell BK102.out 1).trans rfl, (blk_cell BK102.out 2).trans rfl⟩ (fun hHeld => ?_)
               clear hK K
               refine norm_ (a' := ?_) ?_ ?_
               rotate_left
               ·
                show Act.put _ (some 84) _ = _
                simp only [Act.put, q1, q2, q3, i64_w, i32_w]
                rfl
               refine pure_ (i := 5) (N := some 79) (v := ?_) (a' := ?_) #[true, true, true, true, true, true, false, false, false, false, false] rfl rfl (any_of HT_.out (by kernel_rfl)) (fun _ _ _ h => h) (Or.inl ⟨by rfl, ?_⟩) ?_ ?_
               rotate_left
               ·
                intro w'
                go_simp
                with_reducible rfl
               rotate_left
               ·
                simp only [Act.put, q1, q2, q3, i64_w, i32_w]
                rfl
               refine pure_ (i := 6) (N := some 85) (v := ?_) (a' := ?_) #[true, true, true, true, true, true, true, false, false, false, false] rfl rfl (any_of HT_.out (by kernel_rfl)) (fun _ _ _ h => h) (Or.inl ⟨by rfl, ?_⟩) ?_ ?_
               rotate_left
               ·
                intro w'
                go_simp
                with_reducible rfl
               rotate_left
               ·
                simp only [Act.put, q1, q2, q3, i64_w, i32_w]
                rfl
               refine pure_ (i := 7) (N := some 86) (v := ?_) (a' := ?_) #[true, true, true, true, true, true, true, true, false, false, false] rfl rfl (any_of HT_.out (by kernel_rfl)) (fun _ _ _ h => h) (Or.inl ⟨by rfl, ?_⟩) ?_ ?_
               rotate_left
               ·
                intro w'
                go_simp
                with_reducible rfl
               rotate_left
               ·
                simp only [Act.put, q1, q2, q3, i64_w, i32_w]
                rfl
               refine one_ (i := 8) (N := some 14) #[true, true, true, true, true, true, true, true, true, false, false] rfl rfl (one_of HT_.out (by kernel_rfl)) (by decide) (fun K hK => ?_)
               refine box_step ?hg (N := 14) ?hd (cs := #[.int .i64 0, .slice none 0 0]) (t := 24) ?hr ?_; (case hd => rfl); (case hg => rfl); (case hr => first | (go_simp; done) | (go_simp; rfl))
               intro gb155 hg w141 hbox hb
               have n0_ := aM (Kd.R_below (kr HO_117001) hb)
               have n1_ := aM (Kd.R_below (kr HO_122001) hb)
               have n2_ := aM (Kd.R_below (kr HO_131001) hb)
               have n3_ := aM (Kd.R_below (kr HO146) hb)
               have n4_ := aM (Kd.R_below (kr HO153) hb)
               have n5_ := aM (blk_below (kq BK101) hb)
               have n6_ := aM (blk_below (kq BK102) hb)
               have n7_ := aM (blk_below (kq BK116) hb)
               have n8_ := aM (blk_below (kq BK121) hb)
               have n9_ := aM (blk_below (kq BK130) hb)
               have n10_ := aM (below_step (kb5 HB GE101 GE102 GE116 GE121 GE130) hb)
               have n11_ := aM (hbox)
               have n12_ := aM ((by rw [hg]; exact (below_size (kb5 HB GE101 GE102 GE116 GE121 GE130)) : w.heap.size ≤ gb155))
               have n13_ := aM ((by rw [hg]; exact (below_size (kb5 HB GE101 GE102 GE116 GE121 GE130)) : w.heap.size ≤ gb155))
               have n14_ := aM ((by rw [hg]; exact Nat.ne_of_lt (blk_lt (kq BK101)) : gb101 ≠ gb155))
               have n15_ := aM ((by rw [hg]; exact Nat.ne_of_gt (blk_lt (kq BK101)) : gb155 ≠ gb101))
               have n16_ := aM ((by rw [hg]; exact Nat.ne_of_lt (blk_lt (kq BK102)) : gb102 ≠ gb155))
               have n17_ := aM ((by rw [hg]; exact Nat.ne_of_gt (blk_lt (kq BK102)) : gb155 ≠ gb102))
               have n18_ := aM ((by rw [hg]; exact Nat.ne_of_lt (blk_lt (kq BK116)) : gb116 ≠ gb155))
               have n19_ := aM ((by rw [hg]; exact Nat.ne_of_gt (blk_lt (kq BK116)) : gb155 ≠ gb116))
               have n20_ := aM ((by rw [hg]; exact Nat.ne_of_lt (blk_lt (kq BK121)) : gb121 ≠ gb155))
               have n21_ := aM ((by rw [hg]; exact Nat.ne_of_gt (blk_lt (kq BK121)) : gb155 ≠ gb121))
               have n22_ := aM ((by rw [hg]; exact Nat.ne_of_lt (blk_lt (kq BK130)) : gb130 ≠ gb155))
               have n23_ := aM ((by rw [hg]; exact Nat.ne_of_gt (blk_lt (kq BK130)) : gb155 ≠ gb130))
               clear HO_117001
               clear HO_122001
               clear HO_131001
               clear HO146
               clear HO153
               clear BK101
               clear BK102
               clear BK116
               clear BK121
               clear BK130
               clear HB
               have HO_117001 := n0_
               have HO_122001 := n1_
               have HO_131001 := n2_
               have HO146 := n3_
               have HO153 := n4_
               have BK101 := n5_
               have BK102 := n6_
               have BK116 := n7_
               have BK121 := n8_
               have BK130 := n9_
               have HB := n10_
               have BK155 := n11_
               have GW155 := n12_
               have GE155 := n13_
               have NB101_155 := n14_
               have NB155_101 := n15_
               have NB102_155 := n16_
               have NB155_102 := n17_
               have NB116_155 := n18_
               have NB155_116 := n19_
               have NB121_155 := n20_
               have NB155_121 := n21_
               have NB130_155 := n22_
               have NB155_130 := n23_
               clear n0_ n1_ n2_ n3_ n4_ n5_ n6_ n7_ n8_ n9_ n10_ n11_ n12_ n13_ n14_ n15_ n16_ n17_ n18_ n19_ n20_ n21_ n22_ n23_
               clear hb hbox hg
               refine hK.out _ _ ⟨(blk_cell BK101.out 0).trans rfl, (blk_cell BK101.out 1).trans rfl, (blk_cell BK102.out 0).trans rfl, (blk_cell BK102.out 1).trans rfl, (blk_cell BK102.out 2).trans rfl⟩ (fun hHeld => ?_)
               clear hK K
               refine norm_ (a' := ?_) ?_ ?_
               rotate_left
               ·
                show Act.put _ (some 14) _ = _
                simp only [Act.put, q1, q2, q3, i64_w, i32_w]
                rfl
               exact norm_ (by simp only [putAll, Act.put, q1, q2, q3]) (hCont (.slice Ao139 t144.length co139, v152, gb155) _ ⟨hHeld, (by (with_reducible repeat (first | apply Kd.R_alloc | apply Kd.R_drewN | apply Kd.R_drew)); exact Kd.R_mono HO146.out (fun _ hk => ⟨hk.2, ⟨hk.1.1.1.2, ⟨hk.1.1.2, hk.1.2⟩⟩⟩)), (by (with_reducible repeat (first | apply Kd.R_alloc | apply Kd.R_drewN | apply Kd.R_drew)); exact Kd.R_mono HO153.out (fun _ hk => ⟨hk.2, ⟨hk.1.1.1.2, ⟨hk.1.1.2, hk.1.2⟩⟩⟩)), (by (with_reducible repeat (first | apply Kd.R_alloc | apply Kd.R_drewN | apply Kd.R_drew)); exact Kd.R_mono HO_117001.out (fun _ hk => ⟨hk.1.2, ⟨hk.2, ⟨hk.1.1.1, hk.1.1.2⟩⟩⟩)), (by (with_reducible repeat (first | apply Kd.R_alloc | apply Kd.R_drewN | apply Kd.R_drew)); exact Kd.R_mono HO_122001.out (fun _ hk => ⟨hk.1.2, ⟨hk.2, ⟨hk.1.1.1, hk.1.1.2⟩⟩⟩)), (by (with_reducible repeat (first | apply Kd.R_alloc | apply Kd.R_drewN | apply Kd.R_drew)); exact Kd.R_mono HO_131001.out (fun _ hk => ⟨hk.1.2, ⟨hk.2, ⟨hk.1.1.1, hk.1.1.2⟩⟩⟩)), (kq BK101), (kq BK102), (kq BK116), (kq BK121), (kq BK130), (kq BK155), GW155.out, GE155.out, NB101_155.out, NB155_101.out, NB102_155.out, NB155_102.out, NB116_155.out, NB155_116.out, NB121_155.out, NB155_121.out, NB130_155.out, NB155_130.out, (kb6 HB GE101 GE102 GE116 GE121 GE130 GE155)⟩)
              ·
               skip
               refine box_step ?hg (N := 14) ?hd (cs := #[.int .i64 0, .slice none 0 0]) (t := 24) ?hr ?_; (case hd => rfl); (case hg => rfl); (case hr => first | (go_simp; done) | (go_simp; rfl))
               intro gb155 hg w139 hbox hb
               have n0_ := aM (Kd.R_below (kr HO_117001) hb)
               have n1_ := aM (Kd.R_below (kr HO_122001) hb)
               have n2_ := aM (Kd.R_below (kr HO_131001) hb)
               have n3_ := aM (Kd.R_below (kr HO146) hb)
               have n4_ := aM (blk_below (kq BK101) hb)
               have n5_ := aM (blk_below (kq BK102) hb)
               have n6_ := aM (blk_below (kq BK116) hb)
               have n7_ := aM (blk_below (kq BK121) hb)
               have n8_ := aM (blk_below (kq BK130) hb)
               have n9_ := aM (below_step (kb5 HB GE101 GE102 GE116 GE121 GE130) hb)
               have n10_ := aM (hbox)
               have n11_ := aM ((by rw [hg]; exact (below_size (kb5 HB GE101 GE102 GE116 GE121 GE130)) : w.heap.size ≤ gb155))
               have n12_ := aM ((by rw [hg]; exact (below_size (kb5 HB GE101 GE102 GE116 GE121 GE130)) : w.heap.size ≤ gb155))
               have n13_ := aM ((by rw [hg]; exact Nat.ne_of_lt (blk_lt (kq BK101)) : gb101 ≠ gb155))
               have n14_ := aM ((by rw [hg]; exact Nat.ne_of_gt (blk_lt (kq BK101)) : gb155 ≠ gb101))
               have n15_ := aM ((by rw [hg]; exact Nat.ne_of_lt (blk_lt (kq BK102)) : gb102 ≠ gb155))
               have n16_ := aM ((by rw [hg]; exact Nat.ne_of_gt (blk_lt (kq BK102)) : gb155 ≠ gb102))
               have n17_ := aM ((by rw [hg]; exact Nat.ne_of_lt (blk_lt (kq BK116)) : gb116 ≠ gb155))
               have n18_ := aM ((by rw [hg]; exact Nat.ne_of_gt (blk_lt (kq BK116)) : gb155 ≠ gb116))
               have n19_ := aM ((by rw [hg]; exact Nat.ne_of_lt (blk_lt (kq BK121)) : gb121 ≠ gb155))
               have n20_ := aM ((by rw [hg]; exact Nat.ne_of_gt (blk_lt (kq BK121)) : gb155 ≠ gb121))
               have n21_ := aM ((by rw [hg]; exact Nat.ne_of_lt (blk_lt (kq BK130)) : gb130 ≠ gb155))
               have n22_ := aM ((by rw [hg]; exact Nat.ne_of_gt (blk_lt (kq BK130)) : gb155 ≠ gb130))
               clear HO_117001
               clear HO_122001
               clear HO_131001
               clear HO146
               clear BK101
               clear BK102
               clear BK116
               clear BK121
               clear BK130
               clear HB
               have HO_117001 := n0_
               have HO_122001 := n1_
               have HO_131001 := n2_
               have HO146 := n3_
               have BK101 := n4_
               have BK102 := n5_
               have BK116 := n6_
               have BK121 := n7_
               have BK130 := n8_
               have HB := n9_
               have BK155 := n10_
               have GW155 := n11_
               have GE155 := n12_
               have NB101_155 := n13_
               have NB155_101 := n14_
               have NB102_155 := n15_
               have NB155_102 := n16_
               have NB116_155 := n17_
               have NB155_116 := n18_
               have NB121_155 := n19_
               have NB155_121 := n20_
               have NB130_155 := n21_
               have NB155_130 := n22_
               clear n0_ n1_ n2_ n3_ n4_ n5_ n6_ n7_ n8_ n9_ n10_ n11_ n12_ n13_ n14_ n15_ n16_ n17_ n18_ n19_ n20_ n21_ n22_
               clear hb hbox hg
               obtain ⟨Ao140, co140, eo140⟩ := Kd.R_slice HO146.out
               (first | subst eo140 | (injection eo140 with f1_ f2_ f3_; have f4_ := f1_.symm; have f5_ := f3_.symm; clear f1_ f2_ f3_; subst f4_; subst f5_))
               refine hK.out _ _ ⟨(blk_cell BK101.out 0).trans rfl, (blk_cell BK101.out 1).trans rfl, (blk_cell BK102.out 0).trans rfl, (blk_cell BK102.out 1).trans rfl, (blk_cell BK102.out 2).trans rfl⟩ (fun hHeld => ?_)
               clear hK K
               refine norm_ (a' := ?_) ?_ ?_
               rotate_left
               ·
                show Act.put _ (some 14) _ = _
                simp only [Act.put, q1, q2, q3, i64_w, i32_w]
                rfl
               refine one_ (i := 4) (N := some 84) #[true, true, true, true, true, false, false, false, true, false, false] rfl rfl (one_of HT_.out (by kernel_rfl)) (by decide) (fun K hK => ?_)
               refine goes_ Try.func16 (by kernel_rfl) rfl #[.agg #[.int .i64 t143, .slice Ao140 t144.length co140], .agg #[.int .i64 t147, .int .i64 t148, .int .i64 t149]] (by rfl) rfl rfl ka ?_
               with_reducible refine (impl_AddClue.calls kj76 t143 _ _ t144 t147 t148 t149 t150 t151 t154 _ ?side1 ?side2 A126.out).mono ?_
               (case side1 => repeat (first | exact (Kd.R_reads' HO146.out).2.2 | (with_reducible refine Kd.C_alloc ?_ _) | (with_reducible refine Kd.C_drewN ?_ _) | (with_reducible refine Kd.C_drew ?_)))
               (case side2 => exact (Kd.R_reads' HO146.out).2.1)
               rintro e w141 ⟨v152, rfl, ho0, hb⟩
               refine ⟨_, rfl, ?_⟩
               have n0_ := aM (Kd.R_elder' (kr HO_117001) (Kd.R_base ho0) hb)
               have n1_ := aM (Kd.R_elder' (kr HO_122001) (Kd.R_base ho0) hb)
               have n2_ := aM (Kd.R_elder' (kr HO_131001) (Kd.R_base ho0) hb)
               have n3_ := aM (Kd.R_elder' (kr HO146) (Kd.R_base ho0) hb)
               have n4_ := aM (Kd.R_lower (Kd.R_new' (Kd.R_new' (Kd.R_new' (Kd.R_new' ho0 (Kd.R_lt (kr HO_117001))) (Kd.R_lt (kr HO_122001))) (Kd.R_lt (kr HO_131001))) (Kd.R_lt (kr HO146))) (below_size (kb6 HB GE101 GE102 GE116 GE121 GE130 GE155)))
               have n5_ := aM (blk_below (kq BK101) hb)
               have n6_ := aM (blk_below (kq BK102) hb)
               have n7_ := aM (blk_below (kq BK116) hb)
               have n8_ := aM (blk_below (kq BK121) hb)
               have n9_ := aM (blk_below (kq BK130) hb)
               have n10_ := aM (blk_below (kq BK155) hb)
               have n11_ := aM (below_step (kb6 HB GE101 GE102 GE116 GE121 GE130 GE155) hb)
               clear HO_117001
               clear HO_122001
               clear HO_131001
               clear HO146
               clear BK101
               clear BK102
               clear BK116
               clear BK121
               clear BK130
               clear BK155
               clear HB
               have HO_117001 := n0_
               have HO_122001 := n1_
               have HO_131001 := n2_
               have HO146 := n3_
               have HO153 := n4_
               have BK101 := n5_
               have BK102 := n6_
               have BK116 := n7_
               have BK121 := n8_
               have BK130 := n9_
               have BK155 := n10_
               have HB := n11_
               clear n0_ n1_ n2_ n3_ n4_ n5_ n6_ n7_ n8_ n9_ n10_ n11_
               (try clear hb)
               (try clear hb2)
               (try clear hk)
               (try clear hi)
               (try clear ho0)
               refine hK.out _ _ ⟨(blk_cell BK101.out 0).trans rfl, (blk_cell BK101.out 1).trans rfl, (blk_cell BK102.out 0).trans rfl, (blk_cell BK102.out 1).trans rfl, (blk_cell BK102.out 2).trans rfl⟩ (fun hHeld => ?_)
               clear hK K
               refine norm_ (a' := ?_) ?_ ?_
               rotate_left
               ·
                show Act.put _ (some 84) _ = _
                simp only [Act.put, q1, q2, q3, i64_w, i32_w]
                rfl
               refine pure_ (i := 5) (N := some 79) (v := ?_) (a' := ?_) #[true, true, true, true, true, true, false, false, true, false, false] rfl rfl (any_of HT_.out (by kernel_rfl)) (fun _ _ _ h => h) (Or.inl ⟨by rfl, ?_⟩) ?_ ?_
               rotate_left
               ·
                intro w'
                go_simp
                with_reducible rfl
               rotate_left
               ·
                simp only [Act.put, q1, q2, q3, i64_w, i32_w]
                rfl
               refine pure_ (i := 6) (N := some 85) (v := ?_) (a' := ?_) #[true, true, true, true, true, true, true, false, true, false, false] rfl rfl (any_of HT_.out (by kernel_rfl)) (fun _ _ _ h => h) (Or.inl ⟨by rfl, ?_⟩) ?_ ?_
               rotate_left
               ·
                intro w'
                go_simp
                with_reducible rfl
               rotate_left
               ·
                simp only [Act.put, q1, q2, q3, i64_w, i32_w]
                rfl
               refine pure_ (i := 7) (N := some 86) (v := ?_) (a' := ?_) #[true, true, true, true, true, true, true, true, true, false, false] rfl rfl (any_of HT_.out (by kernel_rfl)) (fun _ _ _ h => h) (Or.inl ⟨by rfl, ?_⟩) ?_ ?_
               rotate_left
               ·
                intro w'
                go_simp
                with_reducible rfl
               rotate_left
               ·
                simp only [Act.put, q1, q2, q3, i64_w, i32_w]
                rfl
               exact norm_ (by simp only [putAll, Act.put, q1, q2, q3]) (hCont (.slice Ao140 t144.length co140, v152, gb155) _ ⟨hHeld, (by (with_reducible repeat (first | apply Kd.R_alloc | apply Kd.R_drewN | apply Kd.R_drew)); exact Kd.R_mono HO146.out (fun _ hk => ⟨hk.2, ⟨hk.1.1.1.2, ⟨hk.1.1.2, hk.1.2⟩⟩⟩)), (by (with_reducible repeat (first | apply Kd.R_alloc | apply Kd.R_drewN | apply Kd.R_drew)); exact Kd.R_mono HO153.out (fun _ hk => ⟨hk.2, ⟨hk.1.1.1.2, ⟨hk.1.1.2, hk.1.2⟩⟩⟩)), (by (with_reducible repeat (first | apply Kd.R_alloc | apply Kd.R_drewN | apply Kd.R_drew)); exact Kd.R_mono HO_117001.out (fun _ hk => ⟨hk.1.2, ⟨hk.2, ⟨hk.1.1.1, hk.1.1.2⟩⟩⟩)), (by (with_reducible repeat (first | apply Kd.R_alloc | apply Kd.R_drewN | apply Kd.R_drew)); exact Kd.R_mono HO_122001.out (fun _ hk => ⟨hk.1.2, ⟨hk.2, ⟨hk.1.1.1, hk.1.1.2⟩⟩⟩)), (by (with_reducible repeat (first | apply Kd.R_alloc | apply Kd.R_drewN | apply Kd.R_drew)); exact Kd.R_mono HO_131001.out (fun _ hk => ⟨hk.1.2, ⟨hk.2, ⟨hk.1.1.1, hk.1.1.2⟩⟩⟩)), (kq BK101), (kq BK102), (kq BK116), (kq BK121), (kq BK130), (kq BK155), GW155.out, GE155.out, NB101_155.out, NB155_101.out, NB102_155.out, NB155_102.out, NB116_155.out, NB155_116.out, NB121_155.out, NB155_121.out, NB130_155.out, NB155_130.out, (kb6 HB GE101 GE102 GE116 GE121 GE130 GE155)⟩)
             ·
              skip
              refine box_step ?hg (N := 14) ?hd (cs := #[.int .i64 0, .slice none 0 0]) (t := 24) ?hr ?_; (case hd => rfl); (case hg => rfl); (case hr => first | (go_simp; done) | (go_simp; rfl))
              intro gb155 hg w138 hbox hb
              have n0_ := aM (Kd.R_below (kr HO_117001) hb)
              have n1_ := aM (Kd.R_below (kr HO_122001) hb)
              have n2_ := aM (Kd.R_below (kr HO_131001) hb)
              have n3_ := aM (Kd.R_below (kr HO146) hb)
              have n4_ := aM (blk_below (kq BK101) hb)
              have n5_ := aM (blk_below (kq BK102) hb)
              have n6_ := aM (blk_below (kq BK116) hb)
              have n7_ := aM (blk_below (kq BK121) hb)
              have n8_ := aM (blk_below (kq BK130) hb)
              have n9_ := aM (below_step (kb5 HB GE101 GE102 GE116 GE121 GE130) hb)
              have n10_ := aM (hbox)
              have n11_ := aM ((by rw [hg]; exact (below_size (kb5 HB GE101 GE102 GE116 GE121 GE130)) : w.heap.size ≤ gb155))
              have n12_ := aM ((by rw [hg]; exact (below_size (kb5 HB GE101 GE102 GE116 GE121 GE130)) : w.heap.size ≤ gb155))
              have n13_ := aM ((by rw [hg]; exact Nat.ne_of_lt (blk_lt (kq BK101)) : gb101 ≠ gb155))
              have n14_ := aM ((by rw [hg]; exact Nat.ne_of_gt (blk_lt (kq BK101)) : gb155 ≠ gb101))
              have n15_ := aM ((by rw [hg]; exact Nat.ne_of_lt (blk_lt (kq BK102)) : gb102 ≠ gb155))
              have n16_ := aM ((by rw [hg]; exact Nat.ne_of_gt (blk_lt (kq BK102)) : gb155 ≠ gb102))
              have n17_ := aM ((by rw [hg]; exact Nat.ne_of_lt (blk_lt (kq BK116)) : gb116 ≠ gb155))
              have n18_ := aM ((by rw [hg]; exact Nat.ne_of_gt (blk_lt (kq BK116)) : gb155 ≠ gb116))
              have n19_ := aM ((by rw [hg]; exact Nat.ne_of_lt (blk_lt (kq BK121)) : gb121 ≠ gb155))
              have n20_ := aM ((by rw [hg]; exact Nat.ne_of_gt (blk_lt (kq BK121)) : gb155 ≠ gb121))
              have n21_ := aM ((by rw [hg]; exact Nat.ne_of_lt (blk_lt (kq BK130)) : gb130 ≠ gb155))
              have n22_ := aM ((by rw [hg]; exact Nat.ne_of_gt (blk_lt (kq BK130)) : gb155 ≠ gb130))
              clear HO_117001
              clear HO_122001
              clear HO_131001
              clear HO146
              clear BK101
              clear BK102
              clear BK116
              clear BK121
              clear BK130
              clear HB
              have HO_117001 := n0_
              have HO_122001 := n1_
              have HO_131001 := n2_
              have HO146 := n3_
              have BK101 := n4_
              have BK102 := n5_
              have BK116 := n6_
              have BK121 := n7_
              have BK130 := n8_
              have HB := n9_
              have BK155 := n10_
              have GW155 := n11_
              have GE155 := n12_
              have NB101_155 := n13_
              have NB155_101 := n14_
              have NB102_155 := n15_
              have NB155_102 := n16_
              have NB116_155 := n17_
              have NB155_116 := n18_
              have NB121_155 := n19_
              have NB155_121 := n20_
              have NB130_155 := n21_
              have NB155_130 := n22_
              clear n0_ n1_ n2_ n3_ n4_ n5_ n6_ n7_ n8_ n9_ n10_ n11_ n12_ n13_ n14_ n15_ n16_ n17_ n18_ n19_ n20_ n21_ n22_
              clear hb hbox hg
              refine hK.out _ _ ⟨(blk_cell BK101.out 0).trans rfl, (blk_cell BK101.out 1).trans rfl, (blk_cell BK102.out 0).trans rfl, (blk_cell BK102.out 1).trans rfl, (blk_cell BK102.out 2).trans rfl⟩ (fun hHeld => ?_)
              clear hK K
              refine norm_ (a' := ?_) ?_ ?_
              rotate_left
              ·
               show Act.put _ (some 14) _ = _
               simp only [Act.put, q1, q2, q3, i64_w, i32_w]
               rfl
              refine one_ (i := 3) (N := some 83) #[true, true, true, true, false, false, false, false, true, false, false] rfl rfl (one_of HT_.out (by kernel_rfl)) (by decide) (fun K hK => ?_)
              refine goes_ Try.func15 (by kernel_rfl) rfl #[.agg #[.int .i64 a1_0, .int .i64 a1_1, .int .i64 a1_2]] (by rfl) rfl rfl ka ?_
              with_reducible refine (laws_toClue.calls a1_0 a1_1 a1_2 t147 t148 t149 _ A125.out).mono ?_
              rintro e w139 ⟨rfl, hb⟩
              refine ⟨_, rfl, ?_⟩
              have n0_ := aM (Kd.R_below (kr HO_117001) hb)
              have n1_ := aM (Kd.R_below (kr HO_122001) hb)
              have n2_ := aM (Kd.R_below (kr HO_131001) hb)
              have n3_ := aM (Kd.R_below (kr HO146) hb)
              have n4_ := aM (blk_below (kq BK101) hb)
              have n5_ := aM (blk_below (kq BK102) hb)
              have n6_ := aM (blk_below (kq BK116) hb)
              have n7_ := aM (blk_below (kq BK121) hb)
              have n8_ := aM (blk_below (kq BK130) hb)
              have n9_ := aM (blk_below (kq BK155) hb)
              have n10_ := aM (below_step (kb6 HB GE101 GE102 GE116 GE121 GE130 GE155) hb)
              clear HO_117001
              clear HO_122001
              clear HO_131001
              clear HO146
              clear BK101
              clear BK102
              clear BK116
              clear BK121
              clear BK130
              clear BK155
              clear HB
              have HO_117001 := n0_
              have HO_122001 := n1_
              have HO_131001 := n2_
              have HO146 := n3_
              have BK101 := n4_
              have BK102 := n5_
              have BK116 := n6_
              have BK121 := n7_
              have BK130 := n8_
              have BK155 := n9_
              have HB := n10_
              clear n0_ n1_ n2_ n3_ n4_ n5_ n6_ n7_ n8_ n9_ n10_
              (try clear hb)
              (try clear hb2)
              (try clear hk)
              (try clear hi)
              obtain ⟨Ao140, co140, eo140⟩ := Kd.R_slice HO146.out
              (first | subst eo140 | (injection eo140 with f1_ f2_ f3_; have f4_ := f1_.symm; have f5_ := f3_.symm; clear f1_ f2_ f3_; subst f4_; subst f5_))
              refine hK.out _ _ ⟨(blk_cell BK101.out 0).trans rfl, (blk_cell BK101.out 1).trans rfl, (blk_cell BK102.out 0).trans rfl, (blk_cell BK102.out 1).trans rfl, (blk_cell BK102.out 2).trans rfl⟩ (fun hHeld => ?_)
              clear hK K
              refine norm_ (a' := ?_) ?_ ?_
              rotate_left
              ·
               show Act.put _ (some 83) _ = _
               simp only [Act.put, q1, q2, q3, i64_w, i32_w]
               rfl
              refine one_ (i := 4) (N := some 84) #[true, true, true, true, true, false, false, false, true, false, false] rfl rfl (one_of HT_.out (by kernel_rfl)) (by decide) (fun K hK => ?_)
              refine goes_ Try.func16 (by kernel_rfl) rfl #[.agg #[.int .i64 t143, .slice Ao140 t144.length co140], .agg #[.int .i64 t147, .int .i64 t148, .int .i64 t149]] (by rfl) rfl rfl ka ?_
              with_reducible refine (impl_AddClue.calls kj76 t143 _ _ t144 t147 t148 t149 t150 t151 t154 _ ?side1 ?side2 A126.out).mono ?_
              (case side1 => repeat (first | exact (Kd.R_reads' HO146.out).2.2 | (with_reducible refine Kd.C_alloc ?_ _) | (with_reducible refine Kd.C_drewN ?_ _) | (with_reducible refine Kd.C_drew ?_)))
              (case side2 => exact (Kd.R_reads' HO146.out).2.1)
              rintro e w141 ⟨v152, rfl, ho0, hb⟩
              refine ⟨_, rfl, ?_⟩
              have n0_ := aM (Kd.R_elder' (kr HO_117001) (Kd.R_base ho0) hb)
              have n1_ := aM (Kd.R_elder' (kr HO_122001) (Kd.R_base ho0) hb)
              have n2_ := aM (Kd.R_elder' (kr HO_131001) (Kd.R_base ho0) hb)
              have n3_ := aM (Kd.R_elder' (kr HO146) (Kd.R_base ho0) hb)
              have n4_ := aM (Kd.R_lower (Kd.R_new' (Kd.R_new' (Kd.R_new' (Kd.R_new' ho0 (Kd.R_lt (kr HO_117001))) (Kd.R_lt (kr HO_122001))) (Kd.R_lt (kr HO_131001))) (Kd.R_lt (kr HO146))) (below_size (kb6 HB GE101 GE102 GE116 GE121 GE130 GE155)))
              have n5_ := aM (blk_below (kq BK101) hb)
              have n6_ := aM (blk_below (kq BK102) hb)
              have n7_ := aM (blk_below (kq BK116) hb)
              have n8_ := aM (blk_below (kq BK121) hb)
              have n9_ := aM (blk_below (kq BK130) hb)
              have n10_ := aM (blk_below (kq BK155) hb)
              have n11_ := aM (below_step (kb6 HB GE101 GE102 GE116 GE121 GE130 GE155) hb)
              clear HO_117001
              clear HO_122001
              clear HO_131001
              clear HO146
              clear BK101
              clear BK102
              clear BK116
              clear BK121
              clear BK130
              clear BK155
              clear HB
              have HO_117001 := n0_
              have HO_122001 := n1_
              have HO_131001 := n2_
              have HO146 := n3_
              have HO153 := n4_
              have BK101 := n5_
              have BK102 := n6_
              have BK116 := n7_
              have BK121 := n8_
              have BK130 := n9_
              have BK155 := n10_
              have HB := n11_
              clear n0_ n1_ n2_ n3_ n4_ n5_ n6_ n7_ n8_ n9_ n10_ n11_
              (try clear hb)
              (try clear hb2)
              (try clear hk)
              (try clear hi)
              (try clear ho0)
              refine hK.out _ _ ⟨(blk_cell BK101.out 0).trans rfl, (blk_cell BK101.out 1).trans rfl, (blk_cell BK102.out 0).trans rfl, (blk_cell BK102.out 1).trans rfl, (blk_cell BK102.out 2).trans rfl⟩ (fun hHeld => ?_)
              clear hK K
              refine norm_ (a' := ?_) ?_ ?_
              rotate_left
              ·
               show Act.put _ (some 84) _ = _
               simp only [Act.put, q1, q2, q3, i64_w, i32_w]
               rfl
              refine pure_ (i := 5) (N := some 79) (v := ?_) (a' := ?_) #[true, true, true, true, true, true, false, false, true, false, false] rfl rfl (any_of HT_.out (by kernel_rfl)) (fun _ _ _ h => h) (Or.inl ⟨by rfl, ?_⟩) ?_ ?_
              rotate_left
              ·
               intro w'
               go_simp
               with_reducible rfl
              rotate_left
              ·
               simp only [Act.put, q1, q2, q3, i64_w, i32_w]
               rfl
              refine pure_ (i := 6) (N := some 85) (v := ?_) (a' := ?_) #[true, true, true, true, true, true, true, false, true, false, false] rfl rfl (any_of HT_.out (by kernel_rfl)) (fun _ _ _ h => h) (Or.inl ⟨by rfl, ?_⟩) ?_ ?_
              rotate_left
              ·
               intro w'
               go_simp
               with_reducible rfl
              rotate_left
              ·
               simp only [Act.put, q1, q2, q3, i64_w, i32_w]
               rfl
              refine pure_ (i := 7) (N := some 86) (v := ?_) (a' := ?_) #[true, true, true, true, true, true, true, true, true, false, false] rfl rfl (any_of HT_.out (by kernel_rfl)) (fun _ _ _ h => h) (Or.inl ⟨by rfl, ?_⟩) ?_ ?_
              rotate_left
              ·
               intro w'
               go_simp
               with_reducible rfl
              rotate_left
              ·
               simp only [Act.put, q1, q2, q3, i64_w, i32_w]
               rfl
              exact norm_ (by simp only [putAll, Act.put, q1, q2, q3]) (hCont (.slice Ao140 t144.length co140, v152, gb155) _ ⟨hHeld, (by (with_reducible repeat (first | apply Kd.R_alloc | apply Kd.R_drewN | apply Kd.R_drew)); exact Kd.R_mono HO146.out (fun _ hk => ⟨hk.2, ⟨hk.1.1.1.2, ⟨hk.1.1.2, hk.1.2⟩⟩⟩)), (by (with_reducible repeat (first | apply Kd.R_alloc | apply Kd.R_drewN | apply Kd.R_drew)); exact Kd.R_mono HO153.out (fun _ hk => ⟨hk.2, ⟨hk.1.1.1.2, ⟨hk.1.1.2, hk.1.2⟩⟩⟩)), (by (with_reducible repeat (first | apply Kd.R_alloc | apply Kd.R_drewN | apply Kd.R_drew)); exact Kd.R_mono HO_117001.out (fun _ hk => ⟨hk.1.2, ⟨hk.2, ⟨hk.1.1.1, hk.1.1.2⟩⟩⟩)), (by (with_reducible repeat (first | apply Kd.R_alloc | apply Kd.R_drewN | apply Kd.R_drew)); exact Kd.R_mono HO_122001.out (fun _ hk => ⟨hk.1.2, ⟨hk.2, ⟨hk.1.1.1, hk.1.1.2⟩⟩⟩)), (by (with_reducible repeat (first | apply Kd.R_alloc | apply Kd.R_drewN | apply Kd.R_drew)); exact Kd.R_mono HO_131001.out (fun _ hk => ⟨hk.1.2, ⟨hk.2, ⟨hk.1.1.1, hk.1.1.2⟩⟩⟩)), (kq BK101), (kq BK102), (kq BK116), (kq BK121), (kq BK130), (kq BK155), GW155.out, GE155.out, NB101_155.out, NB155_101.out, NB102_155.out, NB155_102.out, NB116_155.out, NB155_116.out, NB121_155.out, NB155_121.out, NB130_155.out, NB155_130.out, (kb6 HB GE101 GE102 GE116 GE121 GE130 GE155)⟩)
            ·
             skip
             refine box_step ?hg (N := 14) ?hd (cs := #[.int .i64 0, .slice none 0 0]) (t := 24) ?hr ?_; (case hd => rfl); (case hg => rfl); (case hr => first | (go_simp; done) | (go_simp; rfl))
             intro gb155 hg w137 hbox hb
             have n0_ := aM (Kd.R_below (kr HO_117001) hb)
             have n1_ := aM (Kd.R_below (kr HO_122001) hb)
             have n2_ := aM (Kd.R_below (kr HO_131001) hb)
             have n3_ := aM (blk_below (kq BK101) hb)
             have n4_ := aM (blk_below (kq BK102) hb)
             have n5_ := aM (blk_below (kq BK116) hb)
             have n6_ := aM (blk_below (kq BK121) hb)
             have n7_ := aM (blk_below (kq BK130) hb)
             have n8_ := aM (below_step (kb5 HB GE101 GE102 GE116 GE121 GE130) hb)
             have n9_ := aM (hbox)
             have n10_ := aM ((by rw [hg]; exact (below_size (kb5 HB GE101 GE102 GE116 GE121 GE130)) : w.heap.size ≤ gb155))
             have n11_ := aM ((by rw [hg]; exact (below_size (kb5 HB GE101 GE102 GE116 GE121 GE130)) : w.heap.size ≤ gb155))
             have n12_ := aM ((by rw [hg]; exact Nat.ne_of_lt (blk_lt (kq BK101)) : gb101 ≠ gb155))
             have n13_ := aM ((by rw [hg]; exact Nat.ne_of_gt (blk_lt (kq BK101)) : gb155 ≠ gb101))
             have n14_ := aM ((by rw [hg]; exact Nat.ne_of_lt (blk_lt (kq BK102)) : gb102 ≠ gb155))
             have n15_ := aM ((by rw [hg]; exact Nat.ne_of_gt (blk_lt (kq BK102)) : gb155 ≠ gb102))
             have n16_ := aM ((by rw [hg]; exact Nat.ne_of_lt (blk_lt (kq BK116)) : gb116 ≠ gb155))
             have n17_ := aM ((by rw [hg]; exact Nat.ne_of_gt (blk_lt (kq BK116)) : gb155 ≠ gb116))
             have n18_ := aM ((by rw [hg]; exact Nat.ne_of_lt (blk_lt (kq BK121)) : gb121 ≠ gb155))
             have n19_ := aM ((by rw [hg]; exact Nat.ne_of_gt (blk_lt (kq BK121)) : gb155 ≠ gb121))
             have n20_ := aM ((by rw [hg]; exact Nat.ne_of_lt (blk_lt (kq BK130)) : gb130 ≠ gb155))
             have n21_ := aM ((by rw [hg]; exact Nat.ne_of_gt (blk_lt (kq BK130)) : gb155 ≠ gb130))
             clear HO_117001
             clear HO_122001
             clear HO_131001
             clear BK101
             clear BK102
             clear BK116
             clear BK121
             clear BK130
             clear HB
             have HO_117001 := n0_
             have HO_122001 := n1_
             have HO_131001 := n2_
             have BK101 := n3_
             have BK102 := n4_
             have BK116 := n5_
             have BK121 := n6_
             have BK130 := n7_
             have HB := n8_
             have BK155 := n9_
             have GW155 := n10_
             have GE155 := n11_
             have NB101_155 := n12_
             have NB155_101 := n13_
             have NB102_155 := n14_
             have NB155_102 := n15_
             have NB116_155 := n16_
             have NB155_116 := n17_
             have NB121_155 := n18_
             have NB155_121 := n19_
             have NB130_155 := n20_
             have NB155_130 := n21_
             clear n0_ n1_ n2_ n3_ n4_ n5_ n6_ n7_ n8_ n9_ n10_ n11_ n12_ n13_ n14_ n15_ n16_ n17_ n18_ n19_ n20_ n21_
             clear hb hbox hg
             refine hK.out _ _ ⟨(blk_cell BK101.out 0).trans rfl, (blk_cell BK101.out 1).trans rfl, (blk_cell BK102.out 0).trans rfl, (blk_cell BK102.out 1).trans rfl, (blk_cell BK102.out 2).trans rfl⟩ (fun hHeld => ?_)
             clear hK K
             refine norm_ (a' := ?_) ?_ ?_
             rotate_left
             ·
              show Act.put _ (some 14) _ = _
              simp only [Act.put, q1, q2, q3, i64_w, i32_w]
              rfl
             refine one_ (i := 1) (N := some 81) #[true, true, true, false, false, false, false, false, true, false, false] rfl rfl (one_of HT_.out (by kernel_rfl)) (by decide) (fun K hK => ?_)
             refine goes_ Try.func14 (by kernel_rfl) rfl #[.agg #[.int .i64 a0_0, .slice A0_1 l0_1.length c0_1]] (by rfl) rfl rfl ka ?_
             with_reducible refine (laws_toPuzzle.calls kj76 a0_0 _ _ l0_1 t143 t144 _ ?side1 ?side2 A124.out).mono ?_
             (case side1 => repeat (first | exact (Kd.C_below HR0_1.out HB.out) | (with_reducible refine Kd.C_alloc ?_ _) | (with_reducible refine Kd.C_drewN ?_ _) | (with_reducible refine Kd.C_drew ?_)))
             (case side2 => exact HC0_1.out)
             rintro e w138 ⟨v145, rfl, ho0, hb⟩
             refine ⟨_, rfl, ?_⟩
             have n0_ := aM (Kd.R_elder' (kr HO_117001) (Kd.R_base ho0) hb)
             have n1_ := aM (Kd.R_elder' (kr HO_122001) (Kd.R_base ho0) hb)
             have n2_ := aM (Kd.R_elder' (kr HO_131001) (Kd.R_base ho0) hb)
             have n3_ := aM (Kd.R_lower (Kd.R_new' (Kd.R_new' (Kd.R_new' ho0 (Kd.R_lt (kr HO_117001))) (Kd.R_lt (kr HO_122001))) (Kd.R_lt (kr HO_131001))) (below_size (kb6 HB GE101 GE102 GE116 GE121 GE130 GE155)))
             have n4_ := aM (blk_below (kq BK101) hb)
             have n5_ := aM (blk_below (kq BK102) hb)
             have n6_ := aM (blk_below (kq BK116) hb)
             have n7_ := aM (blk_below (kq BK121) hb)
             have n8_ := aM (blk_below (kq BK130) hb)
             have n9_ := aM (blk_below (kq BK155) hb)
             have n10_ := aM (below_step (kb6 HB GE101 GE102 GE116 GE121 GE130 GE155) hb)
             clear HO_117001
             clear HO_122001
             clear HO_131001
             clear BK101
             clear BK102
             clear BK116
             clear BK121
             clear BK130
             clear BK155
             clear HB
             have HO_117001 := n0_
             have HO_122001 := n1_
             have HO_131001 := n2_
             have HO146 := n3_
             have BK101 := n4_
             have BK102 := n5_
             have BK116 := n6_
             have BK121 := n7_
             have BK130 := n8_
             have BK155 := n9_
             have HB := n10_
             clear n0_ n1_ n2_ n3_ n4_ n5_ n6_ n7_ n8_ n9_ n10_
             (try clear hb)
             (try clear hb2)
             (try clear hk)
             (try clear hi)
             (try clear ho0)
             refine hK.out _ _ ⟨(blk_cell BK101.out 0).trans rfl, (blk_cell BK101.out 1).trans rfl, (blk_cell BK102.out 0).trans rfl, (blk_cell BK102.out 1).trans rfl, (blk_cell BK102.out 2).trans rfl⟩ (fun hHeld => ?_)
             clear hK K
             refine norm_ (a' := ?_) ?_ ?_
             rotate_left
             ·
              show Act.put _ (some 81) _ = _
              simp only [Act.put, q1, q2, q3, i64_w, i32_w]
              rfl
             refine one_ (i := 3) (N := some 83) #[true, true, true, true, false, false, false, false, true, false, false] rfl rfl (one_of HT_.out (by kernel_rfl)) (by decide) (fun K hK => ?_)
             refine goes_ Try.func15 (by kernel_rfl) rfl #[.agg #[.int .i64 a1_0, .int .i64 a1_1, .int .i64 a1_2]] (by rfl) rfl rfl ka ?_
             with_reducible refine (laws_toClue.calls a1_0 a1_1 a1_2 t147 t148 t149 _ A125.out).mono ?_
             rintro e w139 ⟨rfl, hb⟩
             refine ⟨_, rfl, ?_⟩
             have n0_ := aM (Kd.R_below (kr HO_117001) hb)
             have n1_ := aM (Kd.R_below (kr HO_122001) hb)
             have n2_ := aM (Kd.R_below (kr HO_131001) hb)
             have n3_ := aM (Kd.R_below (kr HO146) hb)
             have n4_ := aM (blk_below (kq BK101) hb)
             have n5_ := aM (blk_below (kq BK102) hb)
             have n6_ := aM (blk_below (kq BK116) hb)
             have n7_ := aM (blk_below (kq BK121) hb)
             have n8_ := aM (blk_below (kq BK130) hb)
             have n9_ := aM (blk_below (kq BK155) hb)
             have n10_ := aM (below_step (kb6 HB GE101 GE102 GE116 GE121 GE130 GE155) hb)
             clear HO_117001
             clear HO_122001
             clear HO_131001
             clear HO146
             clear BK101
             clear BK102
             clear BK116
             clear BK121
             clear BK130
             clear BK155
             clear HB
             have HO_117001 := n0_
             have HO_122001 := n1_
             have HO_131001 := n2_
             have HO146 := n3_
             have BK101 := n4_
             have BK102 := n5_
             have BK116 := n6_
             have BK121 := n7_
             have BK130 := n8_
             have BK155 := n9_
             have HB := n10_
             clear n0_ n1_ n2_ n3_ n4_ n5_ n6_ n7_ n8_ n9_ n10_
             (try clear hb)
             (try clear hb2)
             (try clear hk)
             (try clear hi)
             obtain ⟨Ao140, co140, eo140⟩ := Kd.R_slice HO146.out
             (first | subst eo140 | (injection eo140 with f1_ f2_ f3_; have f4_ := f1_.symm; have f5_ := f3_.symm; clear f1_ f2_ f3_; subst f4_; subst f5_))
             refine hK.out _ _ ⟨(blk_cell BK101.out 0).trans rfl, (blk_cell BK101.out 1).trans rfl, (blk_cell BK102.out 0).trans rfl, (blk_cell BK102.out 1).trans rfl, (blk_cell BK102.out 2).trans rfl⟩ (fun hHeld => ?_)
             clear hK K
             refine norm_ (a' := ?_) ?_ ?_
             rotate_left
             ·
              show Act.put _ (some 83) _ = _
              simp only [Act.put, q1, q2, q3, i64_w, i32_w]
              rfl
             refine one_ (i := 4) (N := some 84) #[true, true, true, true, true, false, false, false, true, false, false] rfl rfl (one_of HT_.out (by kernel_rfl)) (by decide) (fun K hK => ?_)
             refine goes_ Try.func16 (by kernel_rfl) rfl #[.agg #[.int .i64 t143, .slice Ao140 t144.length co140], .agg #[.int .i64 t147, .int .i64 t148, .int .i64 t149]] (by rfl) rfl rfl ka ?_
             with_reducible refine (impl_AddClue.calls kj76 t143 _ _ t144 t147 t148 t149 t150 t151 t154 _ ?side1 ?side2 A126.out).mono ?_
             (case side1 => repeat (first | exact (Kd.R_reads' HO146.out).2.2 | (with_reducible refine Kd.C_alloc ?_ _) | (with_reducible refine Kd.C_drewN ?_ _) | (with_reducible refine Kd.C_drew ?_)))
             (case side2 => exact (Kd.R_reads' HO146.out).2.1)
             rintro e w141 ⟨v152, rfl, ho0, hb⟩
             refine ⟨_, rfl, ?_⟩
             have n0_ := aM (Kd.R_elder' (kr HO_117001) (Kd.R_base ho0) hb)
             have n1_ := aM (Kd.R_elder' (kr HO_122001) (Kd.R_base ho0) hb)
             have n2_ := aM (Kd.R_elder' (kr HO_131001) (Kd.R_base ho0) hb)
             have n3_ := aM (Kd.R_elder' (kr HO146) (Kd.R_base ho0) hb)
             have n4_ := aM (Kd.R_lower (Kd.R_new' (Kd.R_new' (Kd.R_new' (Kd.R_new' ho0 (Kd.R_lt (kr HO_117001))) (Kd.R_lt (kr HO_122001))) (Kd.R_lt (kr HO_131001))) (Kd.R_lt (kr HO146))) (below_size (kb6 HB GE101 GE102 GE116 GE121 GE130 GE155)))
             have n5_ := aM (blk_below (kq BK101) hb)
             have n6_ := aM (blk_below (kq BK102) hb)
             have n7_ := aM (blk_below (kq BK116) hb)
             have n8_ := aM (blk_below (kq BK121) hb)
             have n9_ := aM (blk_below (kq BK130) hb)
             have n10_ := aM (blk_below (kq BK155) hb)
             have n11_ := aM (below_step (kb6 HB GE101 GE102 GE116 GE121 GE130 GE155) hb)
             clear HO_117001
             clear HO_122001
             clear HO_131001
             clear HO146
             clear BK101
             clear BK102
             clear BK116
             clear BK121
             clear BK130
             clear BK155
             clear HB
             have HO_117001 := n0_
             have HO_122001 := n1_
             have HO_131001 := n2_
             have HO146 := n3_
             have HO153 := n4_
             have BK101 := n5_
             have BK102 := n6_
             have BK116 := n7_
             have BK121 := n8_
             have BK130 := n9_
             have BK155 := n10_
             have HB := n11_
             clear n0_ n1_ n2_ n3_ n4_ n5_ n6_ n7_ n8_ n9_ n10_ n11_
             (try clear hb)
             (try clear hb2)
             (try clear hk)
             (try clear hi)
             (try clear ho0)
             refine hK.out _ _ ⟨(blk_cell BK101.out 0).trans rfl, (blk_cell BK101.out 1).trans rfl, (blk_cell BK102.out 0).trans rfl, (blk_cell BK102.out 1).trans rfl, (blk_cell BK102.out 2).trans rfl⟩ (fun hHeld => ?_)
             clear hK K
             refine norm_ (a' := ?_) ?_ ?_
             rotate_left
             ·
              show Act.put _ (some 84) _ = _
              simp only [Act.put, q1, q2, q3, i64_w, i32_w]
              rfl
             refine pure_ (i := 5) (N := some 79) (v := ?_) (a' := ?_) #[true, true, true, true, true, true, false, false, true, false, false] rfl rfl (any_of HT_.out (by kernel_rfl)) (fun _ _ _ h => h) (Or.inl ⟨by rfl, ?_⟩) ?_ ?_
             rotate_left
             ·
              intro w'
              go_simp
              with_reducible rfl
             rotate_left
             ·
              simp only [Act.put, q1, q2, q3, i64_w, i32_w]
              rfl
             refine pure_ (i := 6) (N := some 85) (v := ?_) (a' := ?_) #[true, true, true, true, true, true, true, false, true, false, false] rfl rfl (any_of HT_.out (by kernel_rfl)) (fun _ _ _ h => h) (Or.inl ⟨by rfl, ?_⟩) ?_ ?_
             rotate_left
             ·
              intro w'
              go_simp
              with_reducible rfl
             rotate_left
             ·
              simp only [Act.put, q1, q2, q3, i64_w, i32_w]
              rfl
             refine pure_ (i := 7) (N := some 86) (v := ?_) (a' := ?_) #[true, true, true, true, true, true, true, true, true, false, false] rfl rfl (any_of HT_.out (by kernel_rfl)) (fun _ _ _ h => h) (Or.inl ⟨by rfl, ?_⟩) ?_ ?_
             rotate_left
             ·
              intro w'
              go_simp
              with_reducible rfl
             rotate_left
             ·
              simp only [Act.put, q1, q2, q3, i64_w, i32_w]
              rfl
             exact norm_ (by simp only [putAll, Act.put, q1, q2, q3]) (hCont (.slice Ao140 t144.length co140, v152, gb155) _ ⟨hHeld, (by (with_reducible repeat (first | apply Kd.R_alloc | apply Kd.R_drewN | apply Kd.R_drew)); exact Kd.R_mono HO146.out (fun _ hk => ⟨hk.2, ⟨hk.1.1.1.2, ⟨hk.1.1.2, hk.1.2⟩⟩⟩)), (by (with_reducible repeat (first | apply Kd.R_alloc | apply Kd.R_drewN | apply Kd.R_drew)); exact Kd.R_mono HO153.out (fun _ hk => ⟨hk.2, ⟨hk.1.1.1.2, ⟨hk.1.1.2, hk.1.2⟩⟩⟩)), (by (with_reducible repeat (first | apply Kd.R_alloc | apply Kd.R_drewN | apply Kd.R_drew)); exact Kd.R_mono HO_117001.out (fun _ hk => ⟨hk.1.2, ⟨hk.2, ⟨hk.1.1.1, hk.1.1.2⟩⟩⟩)), (by (with_reducible repeat (first | apply Kd.R_alloc | apply Kd.R_drewN | apply Kd.R_drew)); exact Kd.R_mono HO_122001.out (fun _ hk => ⟨hk.1.2, ⟨hk.2, ⟨hk.1.1.1, hk.1.1.2⟩⟩⟩)), (by (with_reducible repeat (first | apply Kd.R_alloc | apply Kd.R_drewN | apply Kd.R_drew)); exact Kd.R_mono HO_131001.out (fun _ hk => ⟨hk.1.2, ⟨hk.2, ⟨hk.1.1.1, hk.1.1.2⟩⟩⟩)), (kq BK101), (kq BK102), (kq BK116), (kq BK121), (kq BK130), (kq BK155), GW155.out, GE155.out, NB101_155.out, NB155_101.out, NB102_155.out, NB155_102.out, NB116_155.out, NB155_116.out, NB121_155.out, NB155_121.out, NB130_155.out, NB155_130.out, (kb6 HB GE101 GE102 GE116 GE121 GE130 GE155)⟩)
           rintro ⟨v145, v152, gb155⟩ w142 ⟨hS_, h0_, h1_, h2_, h3_, h4_, h5_, h6_, h7_, h8_, h9_, h10_, h11_, h12_, h13_, h14_, h15_, h16_, h17_, h18_, h19_, h20_, h21_, h22_, h23_⟩
           have n0_ : Aside0 (Kd.R k38 38 w142 w.heap.size (fun k_ => some k_ ≠ (v152 : Value).ownBlock ∧ some k_ ≠ (.slice Ao30 t112.length co30 : Value).ownBlock ∧ some k_ ≠ (.slice Ao40 t138.length co40 : Value).ownBlock ∧ some k_ ≠ (.slice Ao48 t126.length co48 : Value).ownBlock) v145 t144) := ⟨h0_⟩
           have n1_ : Aside0 (Kd.R k38 38 w142 w.heap.size (fun k_ => some k_ ≠ (v145 : Value).ownBlock ∧ some k_ ≠ (.slice Ao30 t112.length co30 : Value).ownBlock ∧ some k_ ≠ (.slice Ao40 t138.length co40 : Value).ownBlock ∧ some k_ ≠ (.slice Ao48 t126.length co48 : Value).ownBlock) v152 t151) := ⟨h1_⟩
           have n2_ : Aside0 (Kd.R k38 38 w142 w.heap.size (fun k_ => some k_ ≠ (v145 : Value).ownBlock ∧ some k_ ≠ (v152 : Value).ownBlock ∧ some k_ ≠ (.slice Ao40 t138.length co40 : Value).ownBlock ∧ some k_ ≠ (.slice Ao48 t126.length co48 : Value).ownBlock) (.slice Ao30 t112.length co30) t112) := ⟨h2_⟩
           have n3_ : Aside0 (Kd.R k38 38 w142 w.heap.size (fun k_ => some k_ ≠ (v145 : Value).ownBlock ∧ some k_ ≠ (v152 : Value).ownBlock ∧ some k_ ≠ (.slice Ao30 t112.length co30 : Value).ownBlock ∧ some k_ ≠ (.slice Ao48 t126.length co48 : Value).ownBlock) (.slice Ao40 t138.length co40) t138) := ⟨h3_⟩
           have n4_ : Aside0 (Kd.R k38 38 w142 w.heap.size (fun k_ => some k_ ≠ (v145 : Value).ownBlock ∧ some k_ ≠ (v152 : Value).ownBlock ∧ some k_ ≠ (.slice Ao30 t112.length co30 : Value).ownBlock ∧ some k_ ≠ (.slice Ao40 t138.length co40 : Value).ownBlock) (.slice Ao48 t126.length co48) t141) := ⟨h4_⟩
           have n5_ : Aside0 (w142.heap[gb101]? = some (.cells #[.int .i64 a0_0, .slice A0_1 l0_1.length c0_1] 32 (0, 0))) := ⟨h5_⟩
           have n6_ : Aside0 (w142.heap[gb102]? = some (.cells #[.int .i64 a1_0, .int .i64 a1_1, .int .i64 a1_2] 34 (0, 0))) := ⟨h6_⟩
           have n7_ : Aside0 (w142.heap[gb116]? = some (.cells #[.int .i64 t111, .slice Ao30 t112.length co30] 24 (0, 0))) := ⟨h7_⟩
           have n8_ : Aside0 (w142.heap[gb121]? = some (.cells #[.int .i64 t117, .slice Ao40 t138.length co40] 24 (0, 0))) := ⟨h8_⟩
           have n9_ : Aside0 (w142.heap[gb130]? = some (.cells #[.int .i64 t125, .slice Ao48 t126.length co48] 24 (0, 0))) := ⟨h9_⟩
           have n10_ : Aside0 (w142.heap[gb155]? = some (.cells #[.int .i64 0, .slice none 0 0] 24 (0, 0))) := ⟨h10_⟩
           have n11_ : Aside0 (w.heap.size ≤ gb155) := ⟨h11_⟩
           have n12_ : Aside0 (w.heap.size ≤ gb155) := ⟨h12_⟩
           have n13_ : Aside0 (gb101 ≠ gb155) := ⟨h13_⟩
           have n14_ : Aside0 (gb155 ≠ gb101) := ⟨h14_⟩
           have n15_ : Aside0 (gb102 ≠ gb155) := ⟨h15_⟩
           have n16_ : Aside0 (gb155 ≠ gb102) := ⟨h16_⟩
           have n17_ : Aside0 (gb116 ≠ gb155) := ⟨h17_⟩
           have n18_ : Aside0 (gb155 ≠ gb116) := ⟨h18_⟩
           have n19_ : Aside0 (gb121 ≠ gb155) := ⟨h19_⟩
           have n20_ : Aside0 (gb155 ≠ gb121) := ⟨h20_⟩
           have n21_ : Aside0 (gb130 ≠ gb155) := ⟨h21_⟩
           have n22_ : Aside0 (gb155 ≠ gb130) := ⟨h22_⟩
           have n23_ : Aside0 (Below w.heap.size w w142) := ⟨h23_⟩
           clear HO_117001
           clear HO_122001
           clear HO_131001
           clear BK101
           clear BK102
           clear BK116
           clear BK121
           clear BK130
           clear HB
           clear h0_ h1_ h2_ h3_ h4_ h5_ h6_ h7_ h8_ h9_ h10_ h11_ h12_ h13_ h14_ h15_ h16_ h17_ h18_ h19_ h20_ h21_ h22_ h23_
           have HO146 := n0_
           have HO153 := n1_
           have HO_117001 := n2_
           have HO_122001 := n3_
           have HO_131001 := n4_
           have BK101 := n5_
           have BK102 := n6_
           have BK116 := n7_
           have BK121 := n8_
           have BK130 := n9_
           have BK155 := n10_
           have GW155 := n11_
           have GE155 := n12_
           have NB101_155 := n13_
           have NB155_101 := n14_
           have NB102_155 := n15_
           have NB155_102 := n16_
           have NB116_155 := n17_
           have NB155_116 := n18_
           have NB121_155 := n19_
           have NB155_121 := n20_
           have NB130_155 := n21_
           have NB155_130 := n22_
           have HB := n23_
           clear n0_ n1_ n2_ n3_ n4_ n5_ n6_ n7_ n8_ n9_ n10_ n11_ n12_ n13_ n14_ n15_ n16_ n17_ n18_ n19_ n20_ n21_ n22_ n23_
           have hHeld : w142.cell? ⟨gb101, 0, none⟩ = some (.int .i64 a0_0) ∧ w142.cell? ⟨gb101, 1, none⟩ = some (.slice A0_1 l0_1.length c0_1) ∧ w142.cell? ⟨gb102, 0, none⟩ = some (.int .i64 a1_0) ∧ w142.cell? ⟨gb102, 1, none⟩ = some (.int .i64 a1_1) ∧ w142.cell? ⟨gb102, 2, none⟩ = some (.int .i64 a1_2) := hS_
           obtain ⟨Ao144, co144, eo144⟩ := Kd.R_slice HO153.out
           (first | subst eo144 | (injection eo144 with f1_ f2_ f3_; have f4_ := f1_.symm; have f5_ := f3_.symm; clear f1_ f2_ f3_; subst f4_; subst f5_))
           refine norm_ (a' := ?_) ?_ ?_
           rotate_left
           ·
            simp only [putAll, Act.put, q1, q2, q3]
            rfl
           refine one_ (i := 9) (N := none) #[true, true, true, true, true, true, true, true, true, true, false] rfl rfl (one_of HT_.out (by kernel_rfl)) (by decide) (fun K hK => ?_)
           have hs143 : w142.cell? ⟨gb155, 0, none⟩ = some (.int .i64 0) := (blk_cell BK155.out 0).trans rfl
           have hfs143 := blk_frozen BK155.out 0
           have hns143_0 := NB101_155.out
           have hns143_1 := NB102_155.out
           have hns143_2 := NB116_155.out
           have hns143_3 := NB121_155.out
           have hns143_4 := NB130_155.out
           have hms143_0 := NB155_101.out
           have hms143_1 := NB155_102.out
           have hms143_2 := NB155_116.out
           have hms143_3 := NB155_121.out
           have hms143_4 := NB155_130.out
           have hs145 : w142.cell? ⟨gb155, 1, none⟩ = some (.slice none 0 0) := (blk_cell BK155.out 1).trans rfl
           have hfs145 := blk_frozen BK155.out 1
           have hns145_0 := NB101_155.out
           have hns145_1 := NB102_155.out
           have hns145_2 := NB116_155.out
           have hns145_3 := NB121_155.out
           have hns145_4 := NB130_155.out
           have hms145_0 := NB155_101.out
           have hms145_1 := NB155_102.out
           have hms145_2 := NB155_116.out
           have hms145_3 := NB155_121.out
           have hms145_4 := NB155_130.out
           refine skip_ (w1 := ?_) (by rfl) rfl ?_ ?_
           rotate_left
           ·
            go_simp
            rfl
           refine hK.out _ _ ⟨((cell_far (p := ⟨gb155, _, none⟩) NB101_155.out _).trans (((cell_far (p := ⟨gb155, _, none⟩) NB101_155.out _).trans (hHeld.1)))), ((cell_far (p := ⟨gb155, _, none⟩) NB101_155.out _).trans (((cell_far (p := ⟨gb155, _, none⟩) NB101_155.out _).trans (hHeld.2.1)))), ((cell_far (p := ⟨gb155, _, none⟩) NB102_155.out _).trans (((cell_far (p := ⟨gb155, _, none⟩) NB102_155.out _).trans (hHeld.2.2.1)))), ((cell_far (p := ⟨gb155, _, none⟩) NB102_155.out _).trans (((cell_far (p := ⟨gb155, _, none⟩) NB102_155.out _).trans (hHeld.2.2.2.1)))), ((cell_far (p := ⟨gb155, _, none⟩) NB102_155.out _).trans (((cell_far (p := ⟨gb155, _, none⟩) NB102_155.out _).trans (hHeld.2.2.2.2))))⟩ (fun hHeld => ?_)
           clear hK K
           refine pure_ (i := 10) (N := some 15) (v := ?_) (a' := ?_) #[true, true, true, true, true, true, true, true, true, true, true] rfl rfl (any_of HT_.out (by kernel_rfl)) (fun _ _ _ h => h) (Or.inl ⟨by rfl, ?_⟩) ?_ ?_
           rotate_left
           ·
            intro w'
            go_simp
            with_reducible rfl
           rotate_left
           ·
            simp only [Act.put, q1, q2, q3, i64_w, i32_w]
            rfl
           refine done_ (done_of HT_.out (by kernel_rfl)) ?_
           go_upto_region 25 with (fail)
           go_cut [95] (fun v95 wc => ∃ (kq : Nat) (x95_126 : Bool), v95 = .bool x95_126 ∧ Aside0 (laws_FnExactAddClue.j2 kq t140 x95_126 t125 t141 = some r) ∧ Aside0 (kq ≤ kj76) ∧ Aside0 (Kd.R k38 38 wc w.heap.size (fun k_ => some k_ ≠ ((.slice Ao40 t138.length co40) : Value).ownBlock ∧ some k_ ≠ ((.slice Ao48 t126.length co48) : Value).ownBlock ∧ some k_ ≠ ((.slice Ao144 t151.length co144) : Value).ownBlock) (.slice Ao30 t112.length co30) t112) ∧ Aside0 (Kd.R k38 38 wc w.heap.size (fun k_ => some k_ ≠ ((.slice Ao30 t112.length co30) : Value).ownBlock ∧ some k_ ≠ ((.slice Ao48 t126.length co48) : Value).ownBlock ∧ some k_ ≠ ((.slice Ao144 t151.length co144) : Value).ownBlock) (.slice Ao40 t138.length co40) t138) ∧ Aside0 (Kd.R k38 38 wc w.heap.size (fun k_ => some k_ ≠ ((.slice Ao30 t112.length co30) : Value).ownBlock ∧ some k_ ≠ ((.slice Ao40 t138.length co40) : Value).ownBlock ∧ some k_ ≠ ((.slice Ao144 t151.length co144) : Value).ownBlock) (.slice Ao48 t126.length co48) t141) ∧ Aside0 (Kd.R k38 38 wc w.heap.size (fun k_ => some k_ ≠ ((.slice Ao30 t112.length co30) : Value).ownBlock ∧ some k_ ≠ ((.slice Ao40 t138.length co40) : Value).ownBlock ∧ some k_ ≠ ((.slice Ao48 t126.length co48) : Value).ownBlock) (.slice Ao144 t151.length co144) t151) ∧ Aside0 (wc.heap[gb101]? = some (.cells #[.int .i64 a0_0, (.slice A0_1 l0_1.length c0_1)] 32 (0, 0))) ∧ Aside0 (wc.heap[gb102]? = some (.cells #[.int .i64 a1_0, .int .i64 a1_1, .int .i64 a1_2] 34 (0, 0))) ∧ Aside0 (wc.heap[gb116]? = some (.cells #[.int .i64 t111, (.slice Ao30 t112.length co30)] 24 (0, 0))) ∧ Aside0 (wc.heap[gb121]? = some (.cells #[.int .i64 t117, (.slice Ao40 t138.length co40)] 24 (0, 0))) ∧ Aside0 (wc.heap[gb130]? = some (.cells #[.int .i64 t125, (.slice Ao48 t126.length co48)] 24 (0, 0))) ∧ Aside0 (wc.heap[gb155]? = some (.cells #[.int .i64 t150, (.slice Ao144 t151.length co144)] 24 (0, 0))) ∧ Aside0 (Below w.heap.size w wc))
           case first =>
            have H := HC127.out
            clear HC127
            replace H := Option.bind_eq_some_iff.mp H
            obtain ⟨t156, A1460, H⟩ := H
            replace H : (if t156 = true then (laws_FnExactAddClue.j2 kj76 t140 (t154 != t115) t125 t141) else (laws_FnExactAddClue.j2 kj76 t140 true t125 t141)) = some r := H
            have A146 := aM A1460
            clear A1460
            by_cases c147 : t156 = true
            ·
             subst c147
             have H1 : (laws_FnExactAddClue.j2 kj76 t140 (t154 != t115) t125 t141) = some r := by rw [if_pos rfl] at H; exact H
             clear H
             have H := H1
             clear H1
             have H' := aM H
             clear H
             have hnb148 := NB155_101.out
             have hnc148 := NB101_155.out
             have hnb149 := NB155_102.out
             have hnc149 := NB102_155.out
             have hnb150 := NB155_116.out
             have hnc150 := NB116_155.out
             have hnb151 := NB155_121.out
             have hnc151 := NB121_155.out
             have hnb152 := NB155_130.out
             have hnc152 := NB130_155.out
             have hcz153_0 : w142.cell? ⟨gb155, 0, none⟩ = some (.int .i64 0) := (blk_cell BK155.out 0).trans rfl
             have hcz153_1 : w142.cell? ⟨gb155, 1, none⟩ = some (.slice none 0 0) := (blk_cell BK155.out 1).trans rfl
             have hfz153_0 := blk_frozen BK155.out 0
             have hfz153_1 := blk_frozen BK155.out 1
             have hnb154 := NB116_101.out
             have hnc154 := NB101_116.out
             have hnb155 := NB116_102.out
             have hnc155 := NB102_116.out
             have hnb156 := NB116_121.out
             have hnc156 := NB121_116.out
             have hnb157 := NB116_130.out
             have hnc157 := NB130_116.out
             have hcz158_0 : w142.cell? ⟨gb116, 0, none⟩ = some (.int .i64 t111) := (blk_cell BK116.out 0).trans rfl
             have hcz158_1 : w142.cell? ⟨gb116, 1, none⟩ = some (.slice Ao30 t112.length co30) := (blk_cell BK116.out 1).trans rfl
             have hfz158_0 := blk_frozen BK116.out 0
             have hfz158_1 := blk_frozen BK116.out 1
             go_wp2_with (first | ((with_reducible refine gate_callee (f := 9) rfl ?_); refine goesL_ (some 89) rfl rfl Try.func9 (by kernel_rfl) rfl #[.agg #[.int .i64 t150, .slice Ao144 t151.length co144], .agg #[.int .i64 t111, .slice Ao30 t112.length co30]] rfl ka ?_; (with_reducible refine (laws_eqPuzzle.calls kj76 t150 _ _ t151 t111 _ _ t112 true _ ?side1 ?side2 ?side3 ?side4 A146.out).mono ?_); (case side1 => refine (Kd.R_reads' (e := 38) (base := w.heap.size) (ok := fun k_ => (some k_ ≠ (v145 : Value).ownBlock ∧ (some k_ ≠ (.slice Ao30 t112.length co30 : Value).ownBlock ∧ (some k_ ≠ (.slice Ao40 t138.length co40 : Value).ownBlock ∧ some k_ ≠ (.slice Ao48 t126.length co48 : Value).ownBlock)))) (n := t151.length) (c := co144) ?_).2.2; exact (by (with_reducible repeat (first | apply Kd.R_alloc | apply Kd.R_drewN | apply Kd.R_drew)); exact (Kd.R_mono (Kd.R_far (p := ⟨gb155, 1, none⟩) (Kd.R_far (p := ⟨gb155, 0, none⟩) (Kd.R_types HO153.out BK155.out (by decide)) (fun _ hk => hk.2) (.int .i64 t150)) (fun _ hk => hk.2) (.slice Ao144 t151.length co144)) (fun _ h_ => h_.1)))); (case side2 => exact (Kd.R_reads' HO153.out).2.1); (case side3 => refine (Kd.R_reads' (e := 38) (base := w.heap.size) (ok := fun k_ => (some k_ ≠ (v145 : Value).ownBlock ∧ (some k_ ≠ (.slice Ao144 t151.length co144 : Value).ownBlock ∧ (some k_ ≠ (.slice Ao40 t138.length co40 : Value).ownBlock ∧ some k_ ≠ (.slice Ao48 t126.length co48 : Value).ownBlock)))) (n := t112.length) (c := co30) ?_).2.2; exact (by (with_reducible repeat (first | apply Kd.R_alloc | apply Kd.R_drewN | apply Kd.R_drew)); exact (Kd.R_mono (Kd.R_far (p := ⟨gb155, 1, none⟩) (Kd.R_far (p := ⟨gb155, 0, none⟩) (Kd.R_types HO_117001.out BK155.out (by decide)) (fun _ hk => hk.2) (.int .i64 t150)) (fun _ hk => hk.2) (.slice Ao144 t151.length co144)) (fun _ h_ => h_.1)))); (case side4 => exact (Kd.R_reads' HO_117001.out).2.1); rintro e w159 ⟨rfl, hb⟩; refine ⟨_, rfl, ?_⟩; have n0_ := aM (Kd.R_below (by (with_reducible repeat (first | apply Kd.R_alloc | apply Kd.R_drewN | apply Kd.R_drew)); exact (Kd.R_mono (Kd.R_far (p := ⟨gb155, 1, none⟩) (Kd.R_far (p := ⟨gb155, 0, none⟩) (Kd.R_types HO_117001.out BK155.out (by decide)) (fun _ hk => hk.2) (.int .i64 t150)) (fun _ hk => hk.2) (.slice Ao144 t151.length co144)) (fun _ h_ => h_.1))) hb); have n1_ := aM (Kd.R_below (by (with_reducible repeat (first | apply Kd.R_alloc | apply Kd.R_drewN | apply Kd.R_drew)); exact (Kd.R_mono (Kd.R_far (p := ⟨gb155, 1, none⟩) (Kd.R_far (p := ⟨gb155, 0, none⟩) (Kd.R_types HO_122001.out BK155.out (by decide)) (fun _ hk => hk.2) (.int .i64 t150)) (fun _ hk => hk.2) (.slice Ao144 t151.length co144)) (fun _ h_ => h_.1))) hb); have n2_ := aM (Kd.R_below (by (with_reducible repeat (first | apply Kd.R_alloc | apply Kd.R_drewN | apply Kd.R_drew)); exact (Kd.R_mono (Kd.R_far (p := ⟨gb155, 1, none⟩) (Kd.R_far (p := ⟨gb155, 0, none⟩) (Kd.R_types HO_131001.out BK155.out (by decide)) (fun _ hk => hk.2) (.int .i64 t150)) (fun _ hk => hk.2) (.slice Ao144 t151.length co144)) (fun _ h_ => h_.1))) hb); have n3_ := aM (Kd.R_below (by (with_reducible repeat (first | apply Kd.R_alloc | apply Kd.R_drewN | apply Kd.R_drew)); exact (Kd.R_mono (Kd.R_far (p := ⟨gb155, 1, none⟩) (Kd.R_far (p := ⟨gb155, 0, none⟩) (Kd.R_types HO146.out BK155.out (by decide)) (fun _ hk => hk.2) (.int .i64 t150)) (fun _ hk => hk.2) (.slice Ao144 t151.length co144)) (fun _ h_ => h_.1))) hb); have n4_ := aM (Kd.R_below (by (with_reducible repeat (first | apply Kd.R_alloc | apply Kd.R_drewN | apply Kd.R_drew)); exact (Kd.R_mono (Kd.R_far (p := ⟨gb155, 1, none⟩) (Kd.R_far (p := ⟨gb155, 0, none⟩) (Kd.R_types HO153.out BK155.out (by decide)) (fun _ hk => hk.2) (.int .i64 t150)) (fun _ hk => hk.2) (.slice Ao144 t151.length co144)) (fun _ h_ => h_.1))) hb); have n5_ := aM (blk_below (blk_far (p := ⟨gb155, 1, none⟩) (blk_far (p := ⟨gb155, 0, none⟩) BK101.out NB101_155.out _) NB101_155.out _) hb); have n6_ := aM (blk_below (blk_far (p := ⟨gb155, 1, none⟩) (blk_far (p := ⟨gb155, 0, none⟩) BK102.out NB102_155.out _) NB102_155.out _) hb); have n7_ := aM (blk_below (blk_far (p := ⟨gb155, 1, none⟩) (blk_far (p := ⟨gb155, 0, none⟩) BK116.out NB116_155.out _) NB116_155.out _) hb); have n8_ := aM (blk_below (blk_far (p := ⟨gb155, 1, none⟩) (blk_far (p := ⟨gb155, 0, none⟩) BK121.out NB121_155.out _) NB121_155.out _) hb); have n9_ := aM (blk_below (blk_far (p := ⟨gb155, 1, none⟩) (blk_far (p := ⟨gb155, 0, none⟩) BK130.out NB130_155.out _) NB130_155.out _) hb); have n10_ := aM (blk_below (g := gb155) (o := .cells #[.int .i64 t150, .slice Ao144 t151.length co144] 24 (0, 0)) (by (with_reducible repeat (first | refine blk_drewN ?_ _ | refine blk_drew ?_ | refine blk_alloc ?_ _)); refine blk_put (cs := #[.int .i64 t150, .slice none 0 0]) ?_ 1 _ rfl; (with_reducible repeat (first | refine blk_drewN ?_ _ | refine blk_drew ?_ | refine blk_alloc ?_ _)); refine blk_put (cs := #[.int .i64 0, .slice none 0 0]) ?_ 0 _ rfl; (with_reducible repeat (first | refine blk_drewN ?_ _ | refine blk_drew ?_ | refine blk_alloc ?_ _)); exact BK155.out) hb); have n11_ := aM (below_step (kb6 HB GE101 GE102 GE116 GE121 GE130 GE155) hb); clear HO_117001; clear HO_122001; clear HO_131001; clear HO146; clear HO153; clear BK101; clear BK102; clear BK116; clear BK121; clear BK130; clear BK155; clear HB; have HO_117001 := n0_; have HO_122001 := n1_; have HO_131001 := n2_; have HO146 := n3_; have HO153 := n4_; have BK101 := n5_; have BK102 := n6_; have BK116 := n7_; have BK121 := n8_; have BK130 := n9_; have BK155 := n10_; have HB := n11_; clear n0_ n1_ n2_ n3_ n4_ n5_ n6_ n7_ n8_ n9_ n10_ n11_; (try clear hb); (try clear hb2); (try clear hk); (try clear hi)))
             go_meet
             case rel => exact ⟨_, ((t154 != t115)), tq, H', ⟨by have := HJ15.out; have := HJ76.out; first | omega | exact Nat.le_refl _⟩, ⟨by (try simp only [hl122001_76]); (with_reducible repeat (first | apply Kd.R_alloc | apply Kd.R_drewN | apply Kd.R_drew)); exact Kd.R_mono HO_117001.out (fun _ hk => ⟨hk.2.2.1, ⟨hk.2.2.2, hk.2.1⟩⟩)⟩, ⟨by (try simp only [hl122001_76]); (with_reducible repeat (first | apply Kd.R_alloc | apply Kd.R_drewN | apply Kd.R_drew)); exact Kd.R_mono HO_122001.out (fun _ hk => ⟨hk.2.2.1, ⟨hk.2.2.2, hk.2.1⟩⟩)⟩, ⟨by (try simp only [hl122001_76]); (with_reducible repeat (first | apply Kd.R_alloc | apply Kd.R_drewN | apply Kd.R_drew)); exact Kd.R_mono HO_131001.out (fun _ hk => ⟨hk.2.2.1, ⟨hk.2.2.2, hk.2.1⟩⟩)⟩, ⟨by (try simp only [hl122001_76]); (with_reducible repeat (first | apply Kd.R_alloc | apply Kd.R_drewN | apply Kd.R_drew)); exact Kd.R_mono HO153.out (fun _ hk => ⟨hk.2.1, ⟨hk.2.2.1, hk.2.2.2⟩⟩)⟩, ⟨by (try simp only [hl122001_76]); (with_reducible repeat (first | refine blk_drewN ?_ _ | refine blk_drew ?_ | refine blk_alloc ?_ _)); exact BK101.out⟩, ⟨by (try simp only [hl122001_76]); (with_reducible repeat (first | refine blk_drewN ?_ _ | refine blk_drew ?_ | refine blk_alloc ?_ _)); exact BK102.out⟩, ⟨by (try simp only [hl122001_76]); (with_reducible repeat (first | refine blk_drewN ?_ _ | refine blk_drew ?_ | refine blk_alloc ?_ _)); exact BK116.out⟩, ⟨by (try simp only [hl122001_76]); (with_reducible repeat (first | refine blk_drewN ?_ _ | refine blk_drew ?_ | refine blk_alloc ?_ _)); exact BK121.out⟩, ⟨by (try simp only [hl122001_76]); (with_reducible repeat (first | refine blk_drewN ?_ _ | refine blk_drew ?_ | refine blk_alloc ?_ _)); exact BK130.out⟩, ⟨by (try simp only [hl122001_76]); (with_reducible repeat (first | refine blk_drewN ?_ _ | refine blk_drew ?_ | refine blk_alloc ?_ _)); exact BK155.out⟩, ⟨(kb6 HB GE101 GE102 GE116 GE121 GE130 GE155)⟩⟩
            ·
             replace c147 := Bool.eq_false_iff.mpr c147
             subst c147
             have H1 : (laws_FnExactAddClue.j2 kj76 t140 true t125 t141) = some r := by rw [if_neg (show ¬ (false = true) by decide)] at H; exact H
             clear H
             have H := H1
             clear H1
             have H' := aM H
             clear H
             have hnb160 := NB155_101.out
             have hnc160 := NB101_155.out
             have hnb161 := NB155_102.out
             have hnc161 := NB102_155.out
             have hnb162 := NB155_116.out
             have hnc162 := NB116_155.out
             have hnb163 := NB155_121.out
             have hnc163 := NB121_155.out
             have hnb164 := NB155_130.out
             have hnc164 := NB130_155.out
             have hcz165_0 : w142.cell? ⟨gb155, 0, none⟩ = some (.int .i64 0) := (blk_cell BK155.out 0).trans rfl
             have hcz165_1 : w142.cell? ⟨gb155, 1, none⟩ = some (.slice none 0 0) := (blk_cell BK155.out 1).trans rfl
             have hfz165_0 := blk_frozen BK155.out 0
             have hfz165_1 := blk_frozen BK155.out 1
             have hnb166 := NB116_101.out
             have hnc166 := NB101_116.out
             have hnb167 := NB116_102.out
             have hnc167 := NB102_116.out
             have hnb168 := NB116_121.out
             have hnc168 := NB121_116.out
             have hnb169 := NB116_130.out
             have hnc169 := NB130_116.out
             have hcz170_0 : w142.cell? ⟨gb116, 0, none⟩ = some (.int .i64 t111) := (blk_cell BK116.out 0).trans rfl
             have hcz170_1 : w142.cell? ⟨gb116, 1, none⟩ = some (.slice Ao30 t112.length co30) := (blk_cell BK116.out 1).trans rfl
             have hfz170_0 := blk_frozen BK116.out 0
             have hfz170_1 := blk_frozen BK116.out 1
             go_wp2_with (first | ((with_reducible refine gate_callee (f := 9) rfl ?_); refine goesL_ (some 89) rfl rfl Try.func9 (by kernel_rfl) rfl #[.agg #[.int .i64 t150, .slice Ao144 t151.length co144], .agg #[.int .i64 t111, .slice Ao30 t112.length co30]] rfl ka ?_; (with_reducible refine (laws_eqPuzzle.calls kj76 t150 _ _ t151 t111 _ _ t112 false _ ?side1 ?side2 ?side3 ?side4 A146.out).mono ?_); (case side1 => refine (Kd.R_reads' (e := 38) (base := w.heap.size) (ok := fun k_ => (some k_ ≠ (v145 : Value).ownBlock ∧ (some k_ ≠ (.slice Ao30 t112.length co30 : Value).ownBlock ∧ (some k_ ≠ (.slice Ao40 t138.length co40 : Value).ownBlock ∧ some k_ ≠ (.slice Ao48 t126.length co48 : Value).ownBlock)))) (n := t151.length) (c := co144) ?_).2.2; exact (by (with_reducible repeat (first | apply Kd.R_alloc | apply Kd.R_drewN | apply Kd.R_drew)); exact (Kd.R_mono (Kd.R_far (p := ⟨gb155, 1, none⟩) (Kd.R_far (p := ⟨gb155, 0, none⟩) (Kd.R_types HO153.out BK155.out (by decide)) (fun _ hk => hk.2) (.int .i64 t150)) (fun _ hk => hk.2) (.slice Ao144 t151.length co144)) (fun _ h_ => h_.1)))); (case side2 => exact (Kd.R_reads' HO153.out).2.1); (case side3 => refine (Kd.R_reads' (e := 38) (base := w.heap.size) (ok := fun k_ => (some k_ ≠ (v145 : Value).ownBlock ∧ (some k_ ≠ (.slice Ao144 t151.length co144 : Value).ownBlock ∧ (some k_ ≠ (.slice Ao40 t138.length co40 : Value).ownBlock ∧ some k_ ≠ (.slice Ao48 t126.length co48 : Value).ownBlock)))) (n := t112.length) (c := co30) ?_).2.2; exact (by (with_reducible repeat (first | apply Kd.R_alloc | apply Kd.R_drewN | apply Kd.R_drew)); exact (Kd.R_mono (Kd.R_far (p := ⟨gb155, 1, none⟩) (Kd.R_far (p := ⟨gb155, 0, none⟩) (Kd.R_types HO_117001.out BK155.out (by decide)) (fun _ hk => hk.2) (.int .i64 t150)) (fun _ hk => hk.2) (.slice Ao144 t151.length co144)) (fun _ h_ => h_.1)))); (case side4 => exact (Kd.R_reads' HO_117001.out).2.1); rintro e w171 ⟨rfl, hb⟩; refine ⟨_, rfl, ?_⟩; have n0_ := aM (Kd.R_below (by (with_reducible repeat (first | apply Kd.R_alloc | apply Kd.R_drewN | apply Kd.R_drew)); exact (Kd.R_mono (Kd.R_far (p := ⟨gb155, 1, none⟩) (Kd.R_far (p := ⟨gb155, 0, none⟩) (Kd.R_types HO_117001.out BK155.out (by decide)) (fun _ hk => hk.2) (.int .i64 t150)) (fun _ hk => hk.2) (.slice Ao144 t151.length co144)) (fun _ h_ => h_.1))) hb); have n1_ := aM (Kd.R_below (by (with_reducible repeat (first | apply Kd.R_alloc | apply Kd.R_drewN | apply Kd.R_drew)); exact (Kd.R_mono (Kd.R_far (p := ⟨gb155, 1, none⟩) (Kd.R_far (p := ⟨gb155, 0, none⟩) (Kd.R_types HO_122001.out BK155.out (by decide)) (fun _ hk => hk.2) (.int .i64 t150)) (fun _ hk => hk.2) (.slice Ao144 t151.length co144)) (fun _ h_ => h_.1))) hb); have n2_ := aM (Kd.R_below (by (with_reducible repeat (first | apply Kd.R_alloc | apply Kd.R_drewN | apply Kd.R_drew)); exact (Kd.R_mono (Kd.R_far (p := ⟨gb155, 1, none⟩) (Kd.R_far (p := ⟨gb155, 0, none⟩) (Kd.R_types HO_131001.out BK155.out (by decide)) (fun _ hk => hk.2) (.int .i64 t150)) (fun _ hk => hk.2) (.slice Ao144 t151.length co144)) (fun _ h_ => h_.1))) hb); have n3_ := aM (Kd.R_below (by (with_reducible repeat (first | apply Kd.R_alloc | apply Kd.R_drewN | apply Kd.R_drew)); exact (Kd.R_mono (Kd.R_far (p := ⟨gb155, 1, none⟩) (Kd.R_far (p := ⟨gb155, 0, none⟩) (Kd.R_types HO146.out BK155.out (by decide)) (fun _ hk => hk.2) (.int .i64 t150)) (fun _ hk => hk.2) (.slice Ao144 t151.length co144)) (fun _ h_ => h_.1))) hb); have n4_ := aM (Kd.R_below (by (with_reducible repeat (first | apply Kd.R_alloc | apply Kd.R_drewN | apply Kd.R_drew)); exact (Kd.R_mono (Kd.R_far (p := ⟨gb155, 1, none⟩) (Kd.R_far (p := ⟨gb155, 0, none⟩) (Kd.R_types HO153.out BK155.out (by decide)) (fun _ hk => hk.2) (.int .i64 t150)) (fun _ hk => hk.2) (.slice Ao144 t151.length co144)) (fun _ h_ => h_.1))) hb); have n5_ := aM (blk_below (blk_far (p := ⟨gb155, 1, none⟩) (blk_far (p := ⟨gb155, 0, none⟩) BK101.out NB101_155.out _) NB101_155.out _) hb); have n6_ := aM (blk_below (blk_far (p := ⟨gb155, 1, none⟩) (blk_far (p := ⟨gb155, 0, none⟩) BK102.out NB102_155.out _) NB102_155.out _) hb); have n7_ := aM (blk_below (blk_far (p := ⟨gb155, 1, none⟩) (blk_far (p := ⟨gb155, 0, none⟩) BK116.out NB116_155.out _) NB116_155.out _) hb); have n8_ := aM (blk_below (blk_far (p := ⟨gb155, 1, none⟩) (blk_far (p := ⟨gb155, 0, none⟩) BK121.out NB121_155.out _) NB121_155.out _) hb); have n9_ := aM (blk_below (blk_far (p := ⟨gb155, 1, none⟩) (blk_far (p := ⟨gb155, 0, none⟩) BK130.out NB130_155.out _) NB130_155.out _) hb); have n10_ := aM (blk_below (g := gb155) (o := .cells #[.int .i64 t150, .slice Ao144 t151.length co144] 24 (0, 0)) (by (with_reducible repeat (first | refine blk_drewN ?_ _ | refine blk_drew ?_ | refine blk_alloc ?_ _)); refine blk_put (cs := #[.int .i64 t150, .slice none 0 0]) ?_ 1 _ rfl; (with_reducible repeat (first | refine blk_drewN ?_ _ | refine blk_drew ?_ | refine blk_alloc ?_ _)); refine blk_put (cs := #[.int .i64 0, .slice none 0 0]) ?_ 0 _ rfl; (with_reducible repeat (first | refine blk_drewN ?_ _ | refine blk_drew ?_ | refine blk_alloc ?_ _)); exact BK155.out) hb); have n11_ := aM (below_step (kb6 HB GE101 GE102 GE116 GE121 GE130 GE155) hb); clear HO_117001; clear HO_122001; clear HO_131001; clear HO146; clear HO153; clear BK101; clear BK102; clear BK116; clear BK121; clear BK130; clear BK155; clear HB; have HO_117001 := n0_; have HO_122001 := n1_; have HO_131001 := n2_; have HO146 := n3_; have HO153 := n4_; have BK101 := n5_; have BK102 := n6_; have BK116 := n7_; have BK121 := n8_; have BK130 := n9_; have BK155 := n10_; have HB := n11_; clear n0_ n1_ n2_ n3_ n4_ n5_ n6_ n7_ n8_ n9_ n10_ n11_; (try clear hb); (try clear hb2); (try clear hk); (try clear hi)))
             go_meet
             case rel => exact ⟨_, (true), tq, H', ⟨by have := HJ15.out; have := HJ76.out; first | omega | exact Nat.le_refl _⟩, ⟨by (try simp only [hl122001_76]); (with_reducible repeat (first | apply Kd.R_alloc | apply Kd.R_drewN | apply Kd.R_drew)); exact Kd.R_mono HO_117001.out (fun _ hk => ⟨hk.2.2.1, ⟨hk.2.2.2, hk.2.1⟩⟩)⟩, ⟨by (try simp only [hl122001_76]); (with_reducible repeat (first | apply Kd.R_alloc | apply Kd.R_drewN | apply Kd.R_drew)); exact Kd.R_mono HO_122001.out (fun _ hk => ⟨hk.2.2.1, ⟨hk.2.2.2, hk.2.1⟩⟩)⟩, ⟨by (try simp only [hl122001_76]); (with_reducible repeat (first | apply Kd.R_alloc | apply Kd.R_drewN | apply Kd.R_drew)); exact Kd.R_mono HO_131001.out (fun _ hk => ⟨hk.2.2.1, ⟨hk.2.2.2, hk.2.1⟩⟩)⟩, ⟨by (try simp only [hl122001_76]); (with_reducible repeat (first | apply Kd.R_alloc | apply Kd.R_drewN | apply Kd.R_drew)); exact Kd.R_mono HO153.out (fun _ hk => ⟨hk.2.1, ⟨hk.2.2.1, hk.2.2.2⟩⟩)⟩, ⟨by (try simp only [hl122001_76]); (with_reducible repeat (first | refine blk_drewN ?_ _ | refine blk_drew ?_ | refine blk_alloc ?_ _)); exact BK101.out⟩, ⟨by (try simp only [hl122001_76]); (with_reducible repeat (first | refine blk_drewN ?_ _ | refine blk_drew ?_ | refine blk_alloc ?_ _)); exact BK102.out⟩, ⟨by (try simp only [hl122001_76]); (with_reducible repeat (first | refine blk_drewN ?_ _ | refine blk_drew ?_ | refine blk_alloc ?_ _)); exact BK116.out⟩, ⟨by (try simp only [hl122001_76]); (with_reducible repeat (first | refine blk_drewN ?_ _ | refine blk_drew ?_ | refine blk_alloc ?_ _)); exact BK121.out⟩, ⟨by (try simp only [hl122001_76]); (with_reducible repeat (first | refine blk_drewN ?_ _ | refine blk_drew ?_ | refine blk_alloc ?_ _)); exact BK130.out⟩, ⟨by (try simp only [hl122001_76]); (with_reducible repeat (first | refine blk_drewN ?_ _ | refine blk_drew ?_ | refine blk_alloc ?_ _)); exact BK155.out⟩, ⟨(kb6 HB GE101 GE102 GE116 GE121 GE130 GE155)⟩⟩
           case rest =>
            clear HC127
            try clear c147
            try clear hcz153_0
            try clear hcz153_1
            try clear hcz158_0
            try clear hcz158_1
            try clear hcz165_0
            try clear hcz165_1
            try clear hcz170_0
            try clear hcz170_1
            try clear hfz153_0
            try clear hfz153_1
            try clear hfz158_0
            try clear hfz158_1
            try clear hfz165_0
            try clear hfz165_1
            try clear hfz170_0
            try clear hfz170_1
            obtain ⟨kq, x95_126, rfl, HA, HJ126, HO_117001, HO_122001, HO_131001, HO_156001, BK101, BK102, BK116, BK121, BK130, BK155, HB⟩ := hcut
            have hl131001_126 := (Kd.R_reads' HO_131001.out).1
            rw [hl131001_126] at HO_131001
            (try simp only [hl131001_126])
            (try simp only [hl131001_126] at BK101)
            (try simp only [hl131001_126] at BK102)
            (try simp only [hl131001_126] at BK116)
            (try simp only [hl131001_126] at BK121)
            (try simp only [hl131001_126] at BK130)
            (try simp only [hl131001_126] at BK155)
            (try simp only [hl131001_126] at HO_117001)
            (try simp only [hl131001_126] at HO_122001)
            (try simp only [hl131001_126] at HO_156001)
            cases kq with
            | zero => exact absurd HA.out (by simp [laws_FnExactAddClue.j2])
            | succ kj126 =>
             have H := HA.out
             clear HA
             simp only [laws_FnExactAddClue.j2] at H
             by_cases c172 : x95_126 = true
             ·
              subst c172
              have H1 : (some false) = some r := by rw [if_pos rfl] at H; exact H
              clear H
              have H := H1
              clear H1
              obtain rfl := Option.some.inj H
              go_wp2
              go_ret
              exact ⟨ea, (kb6 HB GE101 GE102 GE116 GE121 GE130 GE155)⟩
             ·
              replace c172 := Bool.eq_false_iff.mpr c172
              subst c172
              have H1 : ((laws_heldPuzzle.f kj126 t125 t141 1).bind fun t157 => (if t157 < 0 then (some false) else (if t157 = t140 then (some true) else (some false)))) = some r := by rw [if_neg (show ¬ (false = true) by decide)] at H; exact H
              clear H
              have H := H1
              clear H1
              replace H := Option.bind_eq_some_iff.mp H
              obtain ⟨t157, A1730, H⟩ := H
              replace H : (if t157 < 0 then (some false) else (if t157 = t140 then (some true) else (some false))) = some r := H
              have A173 := aM A1730
              clear A1730
              by_cases c174 : t157 < 0
              ·
               rw [if_pos c174] at H
               have c174b0 : decide (t157 < 0) = true := decide_eq_true c174
               clear c174
               obtain rfl := Option.some.inj H
               have hnb175 := NB130_101.out
               have hnc175 := NB101_130.out
               have hnb176 := NB130_102.out
               have hnc176 := NB102_130.out
               have hnb177 := NB130_116.out
               have hnc177 := NB116_130.out
               have hnb178 := NB130_121.out
               have hnc178 := NB121_130.out
               have hnb179 := NB130_155.out
               have hnc179 := NB155_130.out
               have hcz180_0 : wc.cell? ⟨gb130, 0, none⟩ = some (.int .i64 t125) := (blk_cell BK130.out 0).trans rfl
               have hcz180_1 : wc.cell? ⟨gb130, 1, none⟩ = some (.slice Ao48 t141.length co48) := (blk_cell BK130.out 1).trans rfl
               have hfz180_0 := blk_frozen BK130.out 0
               have hfz180_1 := blk_frozen BK130.out 1
               go_wp2_with (first | ((with_reducible refine gate_callee (f := 11) rfl ?_); refine goesL_ (some 98) rfl rfl Try.func11 (by kernel_rfl) rfl #[.agg #[.int .i64 t125, .slice Ao48 t141.length co48], .int .i64 1] rfl ka ?_; (with_reducible refine (laws_heldPuzzle.calls kj126 t125 _ _ t141 1 t157 _ ?side1 ?side2 A173.out).mono ?_); (case side1 => repeat (first | exact (Kd.R_reads' HO_131001.out).2.2 | (with_reducible refine Kd.C_alloc ?_ _) | (with_reducible refine Kd.C_drewN ?_ _) | (with_reducible refine Kd.C_drew ?_))); (case side2 => exact (Kd.R_reads' HO_131001.out).2.1); rintro e w181 ⟨rfl, hb⟩; refine ⟨_, rfl, ?_⟩; have n0_ := aM (Kd.R_below (kr HO_117001) hb); have n1_ := aM (Kd.R_below (kr HO_122001) hb); have n2_ := aM (Kd.R_below (kr HO_131001) hb); have n3_ := aM (Kd.R_below (kr HO_156001) hb); have n4_ := aM (blk_below (kq BK101) hb); have n5_ := aM (blk_below (kq BK102) hb); have n6_ := aM (blk_below (kq BK116) hb); have n7_ := aM (blk_below (kq BK121) hb); have n8_ := aM (blk_below (kq BK130) hb); have n9_ := aM (blk_below (kq BK155) hb); have n10_ := aM (below_step (kb6 HB GE101 GE102 GE116 GE121 GE130 GE155) hb); clear HO_117001; clear HO_122001; clear HO_131001; clear HO_156001; clear BK101; clear BK102; clear BK116; clear BK121; clear BK130; clear BK155; clear HB; have HO_117001 := n0_; have HO_122001 := n1_; have HO_131001 := n2_; have HO_156001 := n3_; have BK101 := n4_; have BK102 := n5_; have BK116 := n6_; have BK121 := n7_; have BK130 := n8_; have BK155 := n9_; have HB := n10_; clear n0_ n1_ n2_ n3_ n4_ n5_ n6_ n7_ n8_ n9_ n10_; (try clear hb); (try clear hb2); (try clear hk); (try clear hi)))
               go_ret
               exact ⟨ea, (kb6 HB GE101 GE102 GE116 GE121 GE130 GE155)⟩
              ·
               rw [if_neg c174] at H
               have c174b0 : decide (t157 < 0) = false := decide_eq_false c174
               clear c174
               by_cases c182 : t157 = t140
               ·
                rw [if_pos c182] at H
                have c182b0 : (t157 == t140) = true := beq_iff_eq.mpr c182
                have c182b1 : (t157 != t140) = false := bne_eq_false_iff_eq.mpr c182
                clear c182
                obtain rfl := Option.some.inj H
                have hnb183 := NB130_101.out
                have hnc183 := NB101_130.out
                have hnb184 := NB130_102.out
                have hnc184 := NB102_130.out
                have hnb185 := NB130_116.out
                have hnc185 := NB116_130.out
                have hnb186 := NB130_121.out
                have hnc186 := NB121_130.out
                have hnb187 := NB130_155.out
                have hnc187 := NB155_130.out
                have hcz188_0 : wc.cell? ⟨gb130, 0, none⟩ = some (.int .i64 t125) := (blk_cell BK130.out 0).trans rfl
                have hcz188_1 : wc.cell? ⟨gb130, 1, none⟩ = some (.slice Ao48 t141.length co48) := (blk_cell BK130.out 1).trans rfl
                have hfz188_0 := blk_frozen BK130.out 0
                have hfz188_1 := blk_frozen BK130.out 1
                go_wp2_with (first | ((with_reducible refine gate_callee (f := 11) rfl ?_); refine goesL_ (some 98) rfl rfl Try.func11 (by kernel_rfl) rfl #[.agg #[.int .i64 t125, .slice Ao48 t141.length co48], .int .i64 1] rfl ka ?_; (with_reducible refine (laws_heldPuzzle.calls kj126 t125 _ _ t141 1 t157 _ ?side1 ?side2 A173.out).mono ?_); (case side1 => repeat (first | exact (Kd.R_reads' HO_131001.out).2.2 | (with_reducible refine Kd.C_alloc ?_ _) | (with_reducible refine Kd.C_drewN ?_ _) | (with_reducible refine Kd.C_drew ?_))); (case side2 => exact (Kd.R_reads' HO_131001.out).2.1); rintro e w189 ⟨rfl, hb⟩; refine ⟨_, rfl, ?_⟩; have n0_ := aM (Kd.R_below (kr HO_117001) hb); have n1_ := aM (Kd.R_below (kr HO_122001) hb); have n2_ := aM (Kd.R_below (kr HO_131001) hb); have n3_ := aM (Kd.R_below (kr HO_156001) hb); have n4_ := aM (blk_below (kq BK101) hb); have n5_ := aM (blk_below (kq BK102) hb); have n6_ := aM (blk_below (kq BK116) hb); have n7_ := aM (blk_below (kq BK121) hb); have n8_ := aM (blk_below (kq BK130) hb); have n9_ := aM (blk_below (kq BK155) hb); have n10_ := aM (below_step (kb6 HB GE101 GE102 GE116 GE121 GE130 GE155) hb); clear HO_117001; clear HO_122001; clear HO_131001; clear HO_156001; clear BK101; clear BK102; clear BK116; clear BK121; clear BK130; clear BK155; clear HB; have HO_117001 := n0_; have HO_122001 := n1_; have HO_131001 := n2_; have HO_156001 := n3_; have BK101 := n4_; have BK102 := n5_; have BK116 := n6_; have BK121 := n7_; have BK130 := n8_; have BK155 := n9_; have HB := n10_; clear n0_ n1_ n2_ n3_ n4_ n5_ n6_ n7_ n8_ n9_ n10_; (try clear hb); (try clear hb2); (try clear hk); (try clear hi)))
                go_ret
                exact ⟨ea, (kb6 HB GE101 GE102 GE116 GE121 GE130 GE155)⟩
               ·
                rw [if_neg c182] at H
                have c182b0 : (t157 == t140) = false := beq_eq_false_iff_ne.mpr c182
                have c182b1 : (t157 != t140) = true := bne_iff_ne.mpr c182
                obtain rfl := Option.some.inj H
                have hnb190 := NB130_101.out
                have hnc190 := NB101_130.out
                have hnb191 := NB130_102.out
                have hnc191 := NB102_130.out
                have hnb192 := NB130_116.out
                have hnc192 := NB116_130.out
                have hnb193 := NB130_121.out
                have hnc193 := NB121_130.out
                have hnb194 := NB130_155.out
                have hnc194 := NB155_130.out
                have hcz195_0 : wc.cell? ⟨gb130, 0, none⟩ = some (.int .i64 t125) := (blk_cell BK130.out 0).trans rfl
                have hcz195_1 : wc.cell? ⟨gb130, 1, none⟩ = some (.slice Ao48 t141.length co48) := (blk_cell BK130.out 1).trans rfl
                have hfz195_0 := blk_frozen BK130.out 0
                have hfz195_1 := blk_frozen BK130.out 1
                go_wp2_with (first | ((with_reducible refine gate_callee (f := 11) rfl ?_); refine goesL_ (some 98) rfl rfl Try.func11 (by kernel_rfl) rfl #[.agg #[.int .i64 t125, .slice Ao48 t141.length co48], .int .i64 1] rfl ka ?_; (with_reducible refine (laws_heldPuzzle.calls kj126 t125 _ _ t141 1 t157 _ ?side1 ?side2 A173.out).mono ?_); (case side1 => repeat (first | exact (Kd.R_reads' HO_131001.out).2.2 | (with_reducible refine Kd.C_alloc ?_ _) | (with_reducible refine Kd.C_drewN ?_ _) | (with_reducible refine Kd.C_drew ?_))); (case side2 => exact (Kd.R_reads' HO_131001.out).2.1); rintro e w196 ⟨rfl, hb⟩; refine ⟨_, rfl, ?_⟩; have n0_ := aM (Kd.R_below (kr HO_117001) hb); have n1_ := aM (Kd.R_below (kr HO_122001) hb); have n2_ := aM (Kd.R_below (kr HO_131001) hb); have n3_ := aM (Kd.R_below (kr HO_156001) hb); have n4_ := aM (blk_below (kq BK101) hb); have n5_ := aM (blk_below (kq BK102) hb); have n6_ := aM (blk_below (kq BK116) hb); have n7_ := aM (blk_below (kq BK121) hb); have n8_ := aM (blk_below (kq BK130) hb); have n9_ := aM (blk_below (kq BK155) hb); have n10_ := aM (below_step (kb6 HB GE101 GE102 GE116 GE121 GE130 GE155) hb); clear HO_117001; clear HO_122001; clear HO_131001; clear HO_156001; clear BK101; clear BK102; clear BK116; clear BK121; clear BK130; clear BK155; clear HB; have HO_117001 := n0_; have HO_122001 := n1_; have HO_131001 := n2_; have HO_156001 := n3_; have BK101 := n4_; have BK102 := n5_; have BK116 := n6_; have BK121 := n7_; have BK130 := n8_; have BK155 := n9_; have HB := n10_; clear n0_ n1_ n2_ n3_ n4_ n5_ n6_ n7_ n8_ n9_ n10_; (try clear hb); (try clear hb2); (try clear hk); (try clear hi)))
                go_ret
                exact ⟨ea, (kb6 HB GE101 GE102 GE116 GE121 GE130 GE155)⟩
          ·
           rw [if_neg c123] at H
           have c123b0 : (t142 == t140) = false := beq_eq_false_iff_ne.mpr c123
           have c123b1 : (t142 != t140) = true := bne_iff_ne.mpr c123
           obtain rfl := Option.some.inj H
           have hnb197 := NB130_101.out
           have hnc197 := NB101_130.out
           have hnb198 := NB130_102.out
           have hnc198 := NB102_130.out
           have hnb199 := NB130_116.out
           have hnc199 := NB116_130.out
           have hnb200 := NB130_121.out
           have hnc200 := NB121_130.out
           have hcz201_0 : wc.cell? ⟨gb130, 0, none⟩ = some (.int .i64 t125) := (blk_cell BK130.out 0).trans rfl
           have hcz201_1 : wc.cell? ⟨gb130, 1, none⟩ = some (.slice Ao48 t126.length co48) := (blk_cell BK130.out 1).trans rfl
           have hfz201_0 := blk_frozen BK130.out 0
           have hfz201_1 := blk_frozen BK130.out 1
           go_wp2_with (first | ((with_reducible refine gate_callee (f := 10) rfl ?_); refine goesL_ (some 70) rfl rfl Try.func10 (by kernel_rfl) rfl #[.agg #[.int .i64 t125, .slice Ao48 t126.length co48], .int .i64 1] rfl ka ?_; (with_reducible refine (laws_markPuzzle.calls kj76 t125 (fun k_ => some k_ = (.slice Ao48 t126.length co48 : Value).ownBlock) (.slice Ao48 t126.length co48) t126 1 t140 t141 w _ ?side1 ?side2 A112.out).mono ?_); (case side1 => repeat (first | (with_reducible first | exact HB.out | apply below_alloc | apply pw_below_drewN | apply below_drew1 | refine below_set ?_ GE101.out | refine below_set ?_ GE102.out | refine below_set ?_ GE116.out | refine below_set ?_ GE121.out | refine below_set ?_ GE130.out) | exact HB.out)); (case side2 => exact Kd.R_tight rfl HO_131001.out); rintro e w202 ⟨rfl, hy0, hb, hkp⟩; refine ⟨_, rfl, ?_⟩; have n0_ := aM (Kd.R_mono (ok' := fun k_ => some k_ ≠ (.slice Ao40 t138.length co40 : Value).ownBlock ∧ some k_ ≠ (.slice Ao48 t126.length co48 : Value).ownBlock) (Kd.R_keptB (HO_117001.out) hkp (fun k_ hk_ hs_ => (hk_.2) hs_)) (fun k_ hk_ => ⟨hk_.1.1, hk_.1.2⟩)); have n1_ := aM (Kd.R_mono (ok' := fun k_ => some k_ ≠ (.slice Ao30 t112.length co30 : Value).ownBlock ∧ some k_ ≠ (.slice Ao48 t126.length co48 : Value).ownBlock) (Kd.R_keptB (HO_122001.out) hkp (fun k_ hk_ hs_ => (hk_.2) hs_)) (fun k_ hk_ => ⟨hk_.1.1, hk_.1.2⟩)); have n2_ := aM (Kd.R_reok rfl hy0 (fun k_ e_ => HO_131001.out.1 k_ e_)); have n3_ := aM (blk_kept (kq BK101) hkp (fun hs_ => (fun e_ => (Kd.R_ne HO_131001.out BK101.out (by decide)) e_) hs_)); have n4_ := aM (blk_kept (kq BK102) hkp (fun hs_ => (fun e_ => (Kd.R_ne HO_131001.out BK102.out (by decide)) e_) hs_)); have n5_ := aM (blk_kept (kq BK116) hkp (fun hs_ => (fun e_ => (Kd.R_ne HO_131001.out BK116.out (by decide)) e_) hs_)); have n6_ := aM (blk_kept (kq BK121) hkp (fun hs_ => (fun e_ => (Kd.R_ne HO_131001.out BK121.out (by decide)) e_) hs_)); have n7_ := aM (blk_kept (kq BK130) hkp (fun hs_ => (fun e_ => (Kd.R_ne HO_131001.out BK130.out (by decide)) e_) hs_)); have n8_ := aM (hb); clear HO_117001; clear HO_122001; clear HO_131001; clear BK101; clear BK102; clear BK116; clear BK121; clear BK130; clear HB; have HO_117001 := n0_; have HO_122001 := n1_; have HO_131001 := n2_; have BK101 := n3_; have BK102 := n4_; have BK116 := n5_; have BK121 := n6_; have BK130 := n7_; have HB := n8_; clear n0_ n1_ n2_ n3_ n4_ n5_ n6_ n7_ n8_; (try clear hb); (try clear hkp); (try clear hy0); have hcz203_0 : w202.cell? ⟨gb130, 0, none⟩ = some (.int .i64 t125) := (blk_cell BK130.out 0).trans rfl; have hcz203_1 : w202.cell? ⟨gb130, 1, none⟩ = some (.slice Ao48 t126.length co48) := (blk_cell BK130.out 1).trans rfl; have hfz203_0 := blk_frozen BK130.out 0; have hfz203_1 := blk_frozen BK130.out 1) | ((with_reducible refine gate_callee (f := 11) rfl ?_); refine goesL_ (some 73) rfl rfl Try.func11 (by kernel_rfl) rfl #[.agg #[.int .i64 t125, .slice Ao48 t141.length co48], .int .i64 1] rfl (by (try simp only [List.map_toArray, List.map_cons, List.map_nil]); first | done | (rw [show t141.length = t126.length from (Kd.R_reads' HO_131001.out).1.symm] <;> rfl) | rfl | (simp only [List.length_drop, List.length_take]; rfl)) ?_; (with_reducible refine (laws_heldPuzzle.calls kj76 t125 _ _ t141 1 t142 _ ?side1 ?side2 A113.out).mono ?_); (case side1 => repeat (first | exact (Kd.R_reads' HO_131001.out).2.2 | (with_reducible refine Kd.C_alloc ?_ _) | (with_reducible refine Kd.C_drewN ?_ _) | (with_reducible refine Kd.C_drew ?_))); (case side2 => rw [show t141.length = t126.length from (Kd.R_reads' HO_131001.out).1.symm]; exact (Kd.R_reads' HO_131001.out).2.1); rintro e w204 ⟨rfl, hb⟩; refine ⟨_, rfl, ?_⟩; have n0_ := aM (Kd.R_below (kr HO_117001) hb); have n1_ := aM (Kd.R_below (kr HO_122001) hb); have n2_ := aM (Kd.R_below (kr HO_131001) hb); have n3_ := aM (blk_below (kq BK101) hb); have n4_ := aM (blk_below (kq BK102) hb); have n5_ := aM (blk_below (kq BK116) hb); have n6_ := aM (blk_below (kq BK121) hb); have n7_ := aM (blk_below (kq BK130) hb); have n8_ := aM (below_step (kb5 HB GE101 GE102 GE116 GE121 GE130) hb); clear HO_117001; clear HO_122001; clear HO_131001; clear BK101; clear BK102; clear BK116; clear BK121; clear BK130; clear HB; have HO_117001 := n0_; have HO_122001 := n1_; have HO_131001 := n2_; have BK101 := n3_; have BK102 := n4_; have BK116 := n5_; have BK121 := n6_; have BK130 := n7_; have HB := n8_; clear n0_ n1_ n2_ n3_ n4_ n5_ n6_ n7_ n8_; (try clear hb); (try clear hb2); (try clear hk); (try clear hi)))
           go_ret
           exact ⟨ea, (kb5 HB GE101 GE102 GE116 GE121 GE130)⟩
     ·
      replace c75 := Bool.eq_false_iff.mpr c75
      subst c75
      have H1 : (some false) = some r := by rw [if_neg (show ¬ (false = true) by decide)] at H; exact H
      clear H
      have H := H1
      clear H1
      obtain rfl := Option.some.inj H
      try go_wp2
      have n0_ := aM (Kd.R_drew HO_117001.out)
      have n1_ := aM (Kd.R_drew HO_122001.out)
      have n2_ := aM (Kd.R_drew HO_131001.out)
      have n3_ := aM (blk_drew BK101.out)
      have n4_ := aM (blk_drew BK102.out)
      have n5_ := aM (blk_drew BK116.out)
      have n6_ := aM (blk_drew BK121.out)
      have n7_ := aM (blk_drew BK130.out)
      have n8_ := aM (below_drew1 HB.out)
      clear HO_117001
      clear HO_122001
      clear HO_131001
      clear BK101
      clear BK102
      clear BK116
      clear BK121
      clear BK130
      clear HB
      have HO_117001 := n0_
      have HO_122001 := n1_
      have HO_131001 := n2_
      have BK101 := n3_
      have BK102 := n4_
      have BK116 := n5_
      have BK121 := n6_
      have BK130 := n7_
      have HB := n8_
      clear n0_ n1_ n2_ n3_ n4_ n5_ n6_ n7_ n8_
      refine start_ (n := 5) (S := fun w' => w'.cell? ⟨gb121, 0, none⟩ = some (.int .i64 t117) ∧ w'.cell? ⟨gb121, 1, none⟩ = some (.slice Ao40 t118.length co40) ∧ w'.cell? ⟨gb101, 0, none⟩ = some (.int .i64 a0_0) ∧ w'.cell? ⟨gb101, 1, none⟩ = some (.slice A0_1 l0_1.length c0_1)) (ds := []) #[false, false, false, false, false] (by kernel_rfl) rfl rfl ⟨(blk_cell BK121.out 0).trans rfl, (blk_cell BK121.out 1).trans rfl, (blk_cell BK101.out 0).trans rfl, (blk_cell BK101.out 1).trans rfl⟩ (fun hHeld => ?_)
      generalize wc.drew = w205 at HO_117001 HO_122001 HO_131001 BK101 BK102 BK116 BK121 BK130 HB hHeld ⊢
      refine take_ (i := 0) (N := some 47) (v := ?_) (a' := ?_) #[true, false, false, false, false] rfl rfl (by kernel_rfl) (fun _ _ _ h => h) (Or.inl ⟨by rfl, ?_⟩) hHeld ?_ ?_
      rotate_left
      ·
       rintro w' ⟨s0, s1, s2, s3⟩
       go_simp
       with_reducible rfl
      rotate_left
      ·
       simp only [Act.put, q1, q2, q3, i64_w, i32_w]
       rfl
      refine take_ (i := 1) (N := some 48) (v := ?_) (a' := ?_) #[true, true, false, false, false] rfl rfl (by kernel_rfl) (fun _ _ _ h => h) (Or.inl ⟨by rfl, ?_⟩) hHeld ?_ ?_
      rotate_left
      ·
       rintro w' ⟨s0, s1, s2, s3⟩
       go_simp
       with_reducible rfl
      rotate_left
      ·
       simp only [Act.put, q1, q2, q3, i64_w, i32_w]
       rfl
      refine one_ (i := 2) (N := some 49) #[true, true, true, false, false] rfl rfl (by kernel_rfl) (by decide) (fun K hK => ?_)
      refine goes_ Try.func14 (by kernel_rfl) rfl #[.agg #[.int .i64 a0_0, .slice A0_1 l0_1.length c0_1]] (by rfl) rfl rfl ka ?_
      with_reducible refine (laws_toPuzzle.calls kj15 a0_0 _ _ l0_1 t132 t133 _ ?side1 ?side2 A73.out).mono ?_
      (case side1 => repeat (first | exact (Kd.C_below HR0_1.out HB.out) | (with_reducible refine Kd.C_alloc ?_ _) | (with_reducible refine Kd.C_drewN ?_ _) | (with_reducible refine Kd.C_drew ?_)))
      (case side2 => exact HC0_1.out)
      rintro e w206 ⟨v134, rfl, ho0, hb⟩
      refine ⟨_, rfl, ?_⟩
      have n0_ := aM (Kd.R_elder' (kr HO_117001) (Kd.R_base ho0) hb)
      have n1_ := aM (Kd.R_elder' (kr HO_122001) (Kd.R_base ho0) hb)
      have n2_ := aM (Kd.R_elder' (kr HO_131001) (Kd.R_base ho0) hb)
      have n3_ := aM (Kd.R_lower (Kd.R_new' (Kd.R_new' (Kd.R_new' ho0 (Kd.R_lt (kr HO_117001))) (Kd.R_lt (kr HO_122001))) (Kd.R_lt (kr HO_131001))) (below_size (kb5 HB GE101 GE102 GE116 GE121 GE130)))
      have n4_ := aM (blk_below (kq BK101) hb)
      have n5_ := aM (blk_below (kq BK102) hb)
      have n6_ := aM (blk_below (kq BK116) hb)
      have n7_ := aM (blk_below (kq BK121) hb)
      have n8_ := aM (blk_below (kq BK130) hb)
      have n9_ := aM (below_step (kb5 HB GE101 GE102 GE116 GE121 GE130) hb)
      clear HO_117001
      clear HO_122001
      clear HO_131001
      clear BK101
      clear BK102
      clear BK116
      clear BK121
      clear BK130
      clear HB
      have HO_117001 := n0_
      have HO_122001 := n1_
      have HO_131001 := n2_
      have HO135 := n3_
      have BK101 := n4_
      have BK102 := n5_
      have BK116 := n6_
      have BK121 := n7_
      have BK130 := n8_
      have HB := n9_
      clear n0_ n1_ n2_ n3_ n4_ n5_ n6_ n7_ n8_ n9_
      (try clear hb)
      (try clear hb2)
      (try clear hk)
      (try clear hi)
      (try clear ho0)
      obtain ⟨Ao207, co207, eo207⟩ := Kd.R_slice HO135.out
      (first | subst eo207 | (injection eo207 with f1_ f2_ f3_; have f4_ := f1_.symm; have f5_ := f3_.symm; clear f1_ f2_ f3_; subst f4_; subst f5_))
      refine hK.out _ _ ⟨(blk_cell BK121.out 0).trans rfl, (blk_cell BK121.out 1).trans rfl, (blk_cell BK101.out 0).trans rfl, (blk_cell BK101.out 1).trans rfl⟩ (fun hHeld => ?_)
      clear hK K
      refine norm_ (a' := ?_) ?_ ?_
      rotate_left
      ·
       show Act.put _ (some 49) _ = _
       simp only [Act.put, q1, q2, q3, i64_w, i32_w]
       rfl
      refine one_ (i := 3) (N := some 50) #[true, true, true, true, false] rfl rfl (by kernel_rfl) (by decide) (fun K hK => ?_)
      refine goes_ Try.func9 (by kernel_rfl) rfl #[.agg #[.int .i64 t117, .slice Ao40 t118.length co40], .agg #[.int .i64 t132, .slice Ao207 t133.length co207]] (by rfl) rfl rfl ka ?_
      with_reducible refine (laws_eqPuzzle.calls kj15 t117 _ _ t118 t132 _ _ t133 false _ ?side1 ?side2 ?side3 ?side4 A74.out).mono ?_
      (case side1 => repeat (first | exact (Kd.R_reads' HO_122001.out).2.2 | (with_reducible refine Kd.C_alloc ?_ _) | (with_reducible refine Kd.C_drewN ?_ _) | (with_reducible refine Kd.C_drew ?_)))
      (case side2 => exact (Kd.R_reads' HO_122001.out).2.1)
      (case side3 => repeat (first | exact (Kd.R_reads' HO135.out).2.2 | (with_reducible refine Kd.C_alloc ?_ _) | (with_reducible refine Kd.C_drewN ?_ _) | (with_reducible refine Kd.C_drew ?_)))
      (case side4 => exact (Kd.R_reads' HO135.out).2.1)
      rintro e w208 ⟨rfl, hb⟩
      refine ⟨_, rfl, ?_⟩
      have n0_ := aM (Kd.R_below (kr HO_117001) hb)
      have n1_ := aM (Kd.R_below (kr HO_122001) hb)
      have n2_ := aM (Kd.R_below (kr HO_131001) hb)
      have n3_ := aM (Kd.R_below (kr HO135) hb)
      have n4_ := aM (blk_below (kq BK101) hb)
      have n5_ := aM (blk_below (kq BK102) hb)
      have n6_ := aM (blk_below (kq BK116) hb)
      have n7_ := aM (blk_below (kq BK121) hb)
      have n8_ := aM (blk_below (kq BK130) hb)
      have n9_ := aM (below_step (kb5 HB GE101 GE102 GE116 GE121 GE130) hb)
      clear HO_117001
      clear HO_122001
      clear HO_131001
      clear HO135
      clear BK101
      clear BK102
      clear BK116
      clear BK121
      clear BK130
      clear HB
      have HO_117001 := n0_
      have HO_122001 := n1_
      have HO_131001 := n2_
      have HO135 := n3_
      have BK101 := n4_
      have BK102 := n5_
      have BK116 := n6_
      have BK121 := n7_
      have BK130 := n8_
      have HB := n9_
      clear n0_ n1_ n2_ n3_ n4_ n5_ n6_ n7_ n8_ n9_
      (try clear hb)
      (try clear hb2)
      (try clear hk)
      (try clear hi)
      refine hK.out _ _ ⟨(blk_cell BK121.out 0).trans rfl, (blk_cell BK121.out 1).trans rfl, (blk_cell BK101.out 0).trans rfl, (blk_cell BK101.out 1).trans rfl⟩ (fun hHeld => ?_)
      clear hK K
      refine norm_ (a' := ?_) ?_ ?_
      rotate_left
      ·
       show Act.put _ (some 50) _ = _
       simp only [Act.put, q1, q2, q3, i64_w, i32_w]
       rfl
      refine pure_ (i := 4) (N := some 51) (v := ?_) (a' := ?_) #[true, true, true, true, true] rfl rfl (by kernel_rfl) (fun _ _ _ h => h) (Or.inl ⟨by rfl, ?_⟩) ?_ ?_
      rotate_left
      ·
       intro w'
       go_simp
       with_reducible rfl
      rotate_left
      ·
       simp only [Act.put, q1, q2, q3, i64_w, i32_w]
       rfl
      refine done_ (by kernel_rfl) ?_
      try go_wp2
      go_ret
      exact ⟨ea, (kb5 HB GE101 GE102 GE116 GE121 GE130)⟩

end Go.Proofs.Ytpeleommbipeaaa.P
