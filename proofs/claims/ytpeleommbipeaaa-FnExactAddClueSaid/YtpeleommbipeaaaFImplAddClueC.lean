-- written by wip/gen.py (this session's) with the kit's printer; Lean checks it.
import Derived.Test.YtpeleommbipeaaaK
import Derived.Test.YtpeleommbipeaaaSq
import Derived.Test.YtpeleommbipeaaaFImplAddClue
import Derived.Test.YtpeleommbipeaaaFImplIsPuzzle
import Derived.Test.YtpeleommbipeaaaFSlicesCloneImplClue
namespace Go.Proofs.Ytpeleommbipeaaa.P
open Go.RowKit Go.Proofs.YtpeleommbipeaaaW.PrintWords Go.Proofs.YtpeleommbipeaaaW.PrintLast Go.Proofs.YtpeleommbipeaaaW.PrintMore
attribute [local go_sem] max2_int min2_int max_two min_two max_three min_three max_four min_four
open List renaming setIfInBounds_toArray → q1, set_cons_zero → q2, set_cons_succ → q3
open Aside0 renaming mk → aM
set_option linter.unusedVariables false
set_option linter.unusedSimpArgs false

set_option maxHeartbeats 8000000 in
set_option maxRecDepth 100000 in
theorem impl_AddClue.calls (k : Nat) (a0_0 : Int) (A0_1 : Option Addr) (c0_1 : Nat) (l0_1 : List (S38)) (a1_0 : Int) (a1_1 : Int) (a1_2 : Int) (r1 : Int) (r2 : List (S38)) (r3 : Bool) (w : World) (hr0_1 : Kd.C k38 w A0_1 l0_1.length l0_1) (hc0_1 : l0_1.length ≤ c0_1) (h : impl_AddClue.f k a0_0 l0_1 a1_0 a1_1 a1_2 = some (r1, r2, r3)) :
  Calls Try.prog 16 #[.agg #[.int .i64 a0_0, .slice A0_1 l0_1.length c0_1], .agg #[.int .i64 a1_0, .int .i64 a1_1, .int .i64 a1_2]] w fun e w' => ∃ v1_ : Value, e = .returned (.tuple #[.agg #[.int .i64 r1, v1_], .bool r3]) ∧ Kd.R k38 38 w' w.heap.size (fun _ => True) v1_ r2 ∧ Below w.heap.size w w' := by
 have hu24 := Try.underlying24
 have hu38 := Try.underlying38
 have HR0_1 := aM hr0_1
 have HC0_1 := aM hc0_1
 clear hr0_1 hc0_1
 have HB := aM (Below.refl w.heap.size w)
 have H : ((slices_Clone_impl_Clue.f l0_1).bind fun t104 => ((some (([(⟨a1_0, a1_1, a1_2⟩ : S38)] : List (S38)) : List (S38))).bind fun y107 => (if t104.length + y107.length < 5864062014805 then ((some (t104 ++ y107 : List (S38))).bind fun y110 => ((impl_IsPuzzle.f k a0_0 l0_1).bind fun t114 => (if t114 = true then ((impl_IsPuzzle.f k a0_0 y110).bind fun t115 => (if t115 = true then (some (a0_0, y110, true)) else (some (0, ([] : List (S38)), false)))) else (some (0, ([] : List (S38)), false))))) else (none)))) = some (r1, r2, r3) := h
 clear h
 replace H := Option.bind_eq_some_iff.mp H
 obtain ⟨t104, A30, H⟩ := H
 replace H : ((some (([(⟨a1_0, a1_1, a1_2⟩ : S38)] : List (S38)) : List (S38))).bind fun y107 => (if t104.length + y107.length < 5864062014805 then ((some (t104 ++ y107 : List (S38))).bind fun y110 => ((impl_IsPuzzle.f k a0_0 l0_1).bind fun t114 => (if t114 = true then ((impl_IsPuzzle.f k a0_0 y110).bind fun t115 => (if t115 = true then (some (a0_0, y110, true)) else (some (0, ([] : List (S38)), false)))) else (some (0, ([] : List (S38)), false))))) else (none))) = some (r1, r2, r3) := H
 have A3 := aM A30
 clear A30
 obtain ⟨y107, hy107⟩ : ∃ y_ : List (S38), y_ = (([(⟨a1_0, a1_1, a1_2⟩ : S38)] : List (S38))) := ⟨_, rfl⟩
 replace H : (if t104.length + y107.length < 5864062014805 then ((some (t104 ++ y107 : List (S38))).bind fun y110 => ((impl_IsPuzzle.f k a0_0 l0_1).bind fun t114 => (if t114 = true then ((impl_IsPuzzle.f k a0_0 y110).bind fun t115 => (if t115 = true then (some (a0_0, y110, true)) else (some (0, ([] : List (S38)), false)))) else (some (0, ([] : List (S38)), false))))) else (none)) = some (r1, r2, r3) := by first | (rw [hy107]; with_reducible exact H) | (have H2_ := (Option.bind_some _ _).symm.trans H; rw [hy107]; with_reducible exact H2_) | (have H2_ := (Option.bind_some _ _).symm.trans H; with_reducible exact H2_) | with_reducible exact H | (rw [hy107]; exact H) | exact H
 have Ny107 := aM hy107
 clear hy107
 by_cases c4 : t104.length + y107.length < 5864062014805
 ·
  rw [if_pos c4] at H
  have LMc4 := aM c4
  clear c4
  obtain ⟨y110, hy110⟩ : ∃ y_ : List (S38), y_ = (t104 ++ y107) := ⟨_, rfl⟩
  replace H : ((impl_IsPuzzle.f k a0_0 l0_1).bind fun t114 => (if t114 = true then ((impl_IsPuzzle.f k a0_0 y110).bind fun t115 => (if t115 = true then (some (a0_0, y110, true)) else (some (0, ([] : List (S38)), false)))) else (some (0, ([] : List (S38)), false)))) = some (r1, r2, r3) := by first | (rw [hy110]; with_reducible exact H) | (have H2_ := (Option.bind_some _ _).symm.trans H; rw [hy110]; with_reducible exact H2_) | (have H2_ := (Option.bind_some _ _).symm.trans H; with_reducible exact H2_) | with_reducible exact H | (rw [hy110]; exact H) | exact H
  have Ny110 := aM hy110
  clear hy110
  replace H := Option.bind_eq_some_iff.mp H
  obtain ⟨t114, A50, H⟩ := H
  replace H : (if t114 = true then ((impl_IsPuzzle.f k a0_0 y110).bind fun t115 => (if t115 = true then (some (a0_0, y110, true)) else (some (0, ([] : List (S38)), false)))) else (some (0, ([] : List (S38)), false))) = some (r1, r2, r3) := H
  have A5 := aM A50
  clear A50
  by_cases c6 : t114 = true
  ·
   subst c6
   have H1 : ((impl_IsPuzzle.f k a0_0 y110).bind fun t115 => (if t115 = true then (some (a0_0, y110, true)) else (some (0, ([] : List (S38)), false)))) = some (r1, r2, r3) := by rw [if_pos rfl] at H; exact H
   clear H
   have H := H1
   clear H1
   replace H := Option.bind_eq_some_iff.mp H
   obtain ⟨t115, A70, H⟩ := H
   replace H : (if t115 = true then (some (a0_0, y110, true)) else (some (0, ([] : List (S38)), false))) = some (r1, r2, r3) := H
   have A7 := aM A70
   clear A70
   by_cases c8 : t115 = true
   ·
    subst c8
    have H1 : (some (a0_0, y110, true)) = some (r1, r2, r3) := by rw [if_pos rfl] at H; exact H
    clear H
    have H := H1
    clear H1
    simp only [Option.some.injEq, Prod.mk.injEq] at H
    obtain ⟨rfl, rfl, rfl⟩ := H
    go_enter Try.func16, Try.ntmps16
    try go_wp2_with (first | ((with_reducible refine gate_dst (N := 2) rfl ?_); refine box_event ?hg (N := 2) ?hd (cs := #[.int .i64 a0_0, .slice A0_1 l0_1.length c0_1]) (t := 24) ?hr ?_; (case hd => rfl); (case hg => rfl); (case hr => first | (go_simp; done) | (go_simp; rfl)); intro gb101 hg w9 hbox hb; have n0_ := aM (below_step (kb0 HB) hb); have n1_ := aM (hbox); have n2_ := aM ((by rw [hg]; exact (below_size (kb0 HB)) : w.heap.size ≤ gb101)); have n3_ := aM ((by rw [hg]; exact (below_size (kb0 HB)) : w.heap.size ≤ gb101)); clear HB; have HB := n0_; have BK101 := n1_; have GW101 := n2_; have GE101 := n3_; clear n0_ n1_ n2_ n3_; clear hb hbox hg) | ((with_reducible refine gate_dst (N := 3) rfl ?_); refine box_event ?hg (N := 3) ?hd (cs := #[.int .i64 a1_0, .int .i64 a1_1, .int .i64 a1_2]) (t := 38) ?hr ?_; (case hd => rfl); (case hg => rfl); (case hr => first | (go_simp; done) | (go_simp; rfl)); intro gb102 hg w10 hbox hb; have n0_ := aM (blk_below (kq BK101) hb); have n1_ := aM (below_step (kb1 HB GE101) hb); have n2_ := aM (hbox); have n3_ := aM ((by rw [hg]; exact (below_size (kb1 HB GE101)) : w.heap.size ≤ gb102)); have n4_ := aM ((by rw [hg]; exact (below_size (kb1 HB GE101)) : w.heap.size ≤ gb102)); have n5_ := aM ((by rw [hg]; exact Nat.ne_of_lt (blk_lt (kq BK101)) : gb101 ≠ gb102)); have n6_ := aM ((by rw [hg]; exact Nat.ne_of_gt (blk_lt (kq BK101)) : gb102 ≠ gb101)); clear BK101; clear HB; have BK101 := n0_; have HB := n1_; have BK102 := n2_; have GW102 := n3_; have GE102 := n4_; have NB101_102 := n5_; have NB102_101 := n6_; clear n0_ n1_ n2_ n3_ n4_ n5_ n6_; clear hb hbox hg) | ((with_reducible refine gate_dst (N := 4) rfl ?_); refine box_event ?hg (N := 4) ?hd (cs := #[.int .i64 0, .slice none 0 0]) (t := 24) ?hr ?_; (case hd => rfl); (case hg => rfl); (case hr => first | (go_simp; done) | (go_simp; rfl)); intro gb103 hg w11 hbox hb; have n0_ := aM (blk_below (kq BK101) hb); have n1_ := aM (blk_below (kq BK102) hb); have n2_ := aM (below_step (kb2 HB GE101 GE102) hb); have n3_ := aM (hbox); have n4_ := aM ((by rw [hg]; exact (below_size (kb2 HB GE101 GE102)) : w.heap.size ≤ gb103)); have n5_ := aM ((by rw [hg]; exact (below_size (kb2 HB GE101 GE102)) : w.heap.size ≤ gb103)); have n6_ := aM ((by rw [hg]; exact Nat.ne_of_lt (blk_lt (kq BK101)) : gb101 ≠ gb103)); have n7_ := aM ((by rw [hg]; exact Nat.ne_of_gt (blk_lt (kq BK101)) : gb103 ≠ gb101)); have n8_ := aM ((by rw [hg]; exact Nat.ne_of_lt (blk_lt (kq BK102)) : gb102 ≠ gb103)); have n9_ := aM ((by rw [hg]; exact Nat.ne_of_gt (blk_lt (kq BK102)) : gb103 ≠ gb102)); clear BK101; clear BK102; clear HB; have BK101 := n0_; have BK102 := n1_; have HB := n2_; have BK103 := n3_; have GW103 := n4_; have GE103 := n5_; have NB101_103 := n6_; have NB103_101 := n7_; have NB102_103 := n8_; have NB103_102 := n9_; clear n0_ n1_ n2_ n3_ n4_ n5_ n6_ n7_ n8_ n9_; clear hb hbox hg))
    have n0_ := aM (blk_drew BK101.out)
    have n1_ := aM (blk_drew BK102.out)
    have n2_ := aM (blk_drew BK103.out)
    have n3_ := aM (below_drew1 HB.out)
    clear BK101
    clear BK102
    clear BK103
    clear HB
    have BK101 := n0_
    have BK102 := n1_
    have BK103 := n2_
    have HB := n3_
    clear n0_ n1_ n2_ n3_
    refine start_ (n := 11) (S := fun w' => w'.cell? ⟨gb101, 0, none⟩ = some (.int .i64 a0_0) ∧ w'.cell? ⟨gb101, 1, none⟩ = some (.slice A0_1 l0_1.length c0_1) ∧ w'.cell? ⟨gb102, 0, none⟩ = some (.int .i64 a1_0) ∧ w'.cell? ⟨gb102, 1, none⟩ = some (.int .i64 a1_1) ∧ w'.cell? ⟨gb102, 2, none⟩ = some (.int .i64 a1_2)) (ds := []) #[false, false, false, false, false, false, false, false, false, false, false] (by kernel_rfl) rfl rfl ⟨(blk_cell BK101.out 0).trans rfl, (blk_cell BK101.out 1).trans rfl, (blk_cell BK102.out 0).trans rfl, (blk_cell BK102.out 1).trans rfl, (blk_cell BK102.out 2).trans rfl⟩ (fun hHeld => ?_); refine with_tabW impl_AddClue.tab1 impl_AddClue.bits1 (fun HT_ HW_ => ?_)
    generalize w11.drew = w12 at BK101 BK102 BK103 HB hHeld ⊢
    refine pure_ (i := 0) (N := some 7) (v := ?_) (a' := ?_) #[true, false, false, false, false, false, false, false, false, false, false] rfl rfl (any_of HT_.out (by kernel_rfl)) (fun _ _ _ h => h) (Or.inl ⟨by rfl, ?_⟩) ?_ ?_
    rotate_left
    ·
     intro w'
     go_simp
     with_reducible rfl
    rotate_left
    ·
     simp only [Act.put, q1, q2, q3, i64_w, i32_w]
     rfl
    refine pure_ (i := 2) (N := some 9) (v := ?_) (a' := ?_) #[true, false, true, false, false, false, false, false, false, false, false] rfl rfl (any_of HT_.out (by kernel_rfl)) (fun _ _ _ h => h) (Or.inl ⟨by rfl, ?_⟩) ?_ ?_
    rotate_left
    ·
     intro w'
     go_simp
     with_reducible rfl
    rotate_left
    ·
     simp only [Act.put, q1, q2, q3, i64_w, i32_w]
     rfl
    refine take_ (i := 1) (N := some 8) (v := ?_) (a' := ?_) #[true, true, true, false, false, false, false, false, false, false, false] rfl rfl (take_ofW HT_.out HW_.out (by kernel_rfl)) (fun _ _ _ h => h) (Or.inl ⟨by rfl, ?_⟩) hHeld ?_ ?_
    rotate_left
    ·
     rintro w' ⟨s0, s1, s2, s3, s4⟩
     go_simp
     with_reducible rfl
    rotate_left
    ·
     simp only [Act.put, q1, q2, q3, i64_w, i32_w]
     rfl
    refine take_ (i := 3) (N := some 10) (v := ?_) (a' := ?_) #[true, true, true, true, false, false, false, false, false, false, false] rfl rfl (take_ofW HT_.out HW_.out (by kernel_rfl)) (fun _ _ _ h => h) (Or.inl ⟨by rfl, ?_⟩) hHeld ?_ ?_
    rotate_left
    ·
     rintro w' ⟨s0, s1, s2, s3, s4⟩
     go_simp
     with_reducible rfl
    rotate_left
    ·
     simp only [Act.put, q1, q2, q3, i64_w, i32_w]
     rfl
    refine take_ (i := 5) (N := some 12) (v := ?_) (a' := ?_) #[true, true, true, true, false, true, false, false, false, false, false] rfl rfl (take_ofW HT_.out HW_.out (by kernel_rfl)) (fun _ _ _ h => h) (Or.inl ⟨by rfl, ?_⟩) hHeld ?_ ?_
    rotate_left
    ·
     rintro w' ⟨s0, s1, s2, s3, s4⟩
     go_simp
     with_reducible rfl
    rotate_left
    ·
     simp only [Act.put, q1, q2, q3, i64_w, i32_w]
     rfl
    refine join_ (σ := Value × Value × Value × Nat) 1 #[true, true, true, true, true, true, true, true, true, true, false] (fun s_ => [(11, s_.1), (13, s_.2.1), (14, s_.2.2.1), (6, .pointer (some ⟨s_.2.2.2, 0, none⟩)), (15, .agg #[.int .i64 a0_0, s_.2.2.1])]) (fun s_ w' => (w'.cell? ⟨gb101, 0, none⟩ = some (.int .i64 a0_0) ∧ w'.cell? ⟨gb101, 1, none⟩ = some (.slice A0_1 l0_1.length c0_1) ∧ w'.cell? ⟨gb102, 0, none⟩ = some (.int .i64 a1_0) ∧ w'.cell? ⟨gb102, 1, none⟩ = some (.int .i64 a1_1) ∧ w'.cell? ⟨gb102, 2, none⟩ = some (.int .i64 a1_2)) ∧ (Kd.R k38 38 w' w.heap.size (fun k_ => some k_ ≠ (s_.2.2.1 : Value).ownBlock ∧ k_ ≠ gb102) s_.2.1 y107) ∧ (Kd.R k38 38 w' w.heap.size (fun k_ => some k_ ≠ (s_.2.1 : Value).ownBlock ∧ k_ ≠ gb102) s_.2.2.1 y110) ∧ (w'.heap[gb101]? = some (.cells #[.int .i64 a0_0, .slice A0_1 l0_1.length c0_1] 24 (0, 0))) ∧ (w'.heap[gb102]? = some (.cells #[.int .i64 a1_0, .int .i64 a1_1, .int .i64 a1_2] 38 (0, 0))) ∧ (w'.heap[gb103]? = some (.cells #[.int .i64 0, .slice none 0 0] 24 (0, 0))) ∧ (w'.heap[s_.2.2.2]? = some (.cells #[.int .i64 0, .slice none 0 0] 24 (0, 0))) ∧ (w.heap.size ≤ s_.2.2.2) ∧ (w.heap.size ≤ s_.2.2.2) ∧ (gb101 ≠ s_.2.2.2) ∧ (s_.2.2.2 ≠ gb101) ∧ (gb102 ≠ s_.2.2.2) ∧ (s_.2.2.2 ≠ gb102) ∧ (gb103 ≠ s_.2.2.2) ∧ (s_.2.2.2 ≠ gb103) ∧ (Below w.heap.size w w')) ?_ ?_
    rotate_left
    ·
     intro hJ4_6_7_9
     refine join_ (σ := Value × Value × Value) 2 #[true, true, true, true, true, true, true, true, true, false, false] (fun s_ => [(11, s_.1), (13, s_.2.1), (14, s_.2.2), (15, .agg #[.int .i64 a0_0, s_.2.2])]) (fun s_ w' => (w'.cell? ⟨gb101, 0, none⟩ = some (.int .i64 a0_0) ∧ w'.cell? ⟨gb101, 1, none⟩ = some (.slice A0_1 l0_1.length c0_1) ∧ w'.cell? ⟨gb102, 0, none⟩ = some (.int .i64 a1_0) ∧ w'.cell? ⟨gb102, 1, none⟩ = some (.int .i64 a1_1) ∧ w'.cell? ⟨gb102, 2, none⟩ = some (.int .i64 a1_2)) ∧ (Kd.R k38 38 w' w.heap.size (fun k_ => some k_ ≠ (s_.2.2 : Value).ownBlock ∧ k_ ≠ gb102) s_.2.1 y107) ∧ (Kd.R k38 38 w' w.heap.size (fun k_ => some k_ ≠ (s_.2.1 : Value).ownBlock ∧ k_ ≠ gb102) s_.2.2 y110) ∧ (w'.heap[gb101]? = some (.cells #[.int .i64 a0_0, .slice A0_1 l0_1.length c0_1] 24 (0, 0))) ∧ (w'.heap[gb102]? = some (.cells #[.int .i64 a1_0, .int .i64 a1_1, .int .i64 a1_2] 38 (0, 0))) ∧ (w'.heap[gb103]? = some (.cells #[.int .i64 0, .slice none 0 0] 24 (0, 0))) ∧ (Below w.heap.size w w')) ?_ ?_
     rotate_left
     ·
      intro hJ4_6_7
      refine join_ (σ := Value × Value × Nat) 3 #[true, true, true, true, true, true, true, false, false, true, false] (fun s_ => [(11, s_.1), (13, s_.2.1), (6, .pointer (some ⟨s_.2.2, 0, none⟩))]) (fun s_ w' => (w'.cell? ⟨gb101, 0, none⟩ = some (.int .i64 a0_0) ∧ w'.cell? ⟨gb101, 1, none⟩ = some (.slice A0_1 l0_1.length c0_1) ∧ w'.cell? ⟨gb102, 0, none⟩ = some (.int .i64 a1_0) ∧ w'.cell? ⟨gb102, 1, none⟩ = some (.int .i64 a1_1) ∧ w'.cell? ⟨gb102, 2, none⟩ = some (.int .i64 a1_2)) ∧ (Kd.R k38 38 w' w.heap.size (fun k_ => some k_ ≠ (s_.2.1 : Value).ownBlock ∧ k_ ≠ gb102) s_.1 t104) ∧ (Kd.R k38 38 w' w.heap.size (fun k_ => some k_ ≠ (s_.1 : Value).ownBlock ∧ k_ ≠ gb102) s_.2.1 y107) ∧ (w'.heap[gb101]? = some (.cells #[.int .i64 a0_0, .slice A0_1 l0_1.length c0_1] 24 (0, 0))) ∧ (w'.heap[gb102]? = some (.cells #[.int .i64 a1_0, .int .i64 a1_1, .int .i64 a1_2] 38 (0, 0))) ∧ (w'.heap[gb103]? = some (.cells #[.int .i64 0, .slice none 0 0] 24 (0, 0))) ∧ (w'.heap[s_.2.2]? = some (.cells #[.int .i64 0, .slice none 0 0] 24 (0, 0))) ∧ (w.heap.size ≤ s_.2.2) ∧ (w.heap.size ≤ s_.2.2) ∧ (gb101 ≠ s_.2.2) ∧ (s_.2.2 ≠ gb101) ∧ (gb102 ≠ s_.2.2) ∧ (s_.2.2 ≠ gb102) ∧ (gb103 ≠ s_.2.2) ∧ (s_.2.2 ≠ gb103) ∧ (Below w.heap.size w w')) ?_ ?_
      rotate_left
      ·
       intro hJ4_6_9
       refine join_ (σ := Value × Value) 4 #[true, true, true, true, true, true, true, false, false, false, false] (fun s_ => [(11, s_.1), (13, s_.2)]) (fun s_ w' => (w'.cell? ⟨gb101, 0, none⟩ = some (.int .i64 a0_0) ∧ w'.cell? ⟨gb101, 1, none⟩ = some (.slice A0_1 l0_1.length c0_1) ∧ w'.cell? ⟨gb102, 0, none⟩ = some (.int .i64 a1_0) ∧ w'.cell? ⟨gb102, 1, none⟩ = some (.int .i64 a1_1) ∧ w'.cell? ⟨gb102, 2, none⟩ = some (.int .i64 a1_2)) ∧ (Kd.R k38 38 w' w.heap.size (fun k_ => some k_ ≠ (s_.2 : Value).ownBlock ∧ k_ ≠ gb102) s_.1 t104) ∧ (Kd.R k38 38 w' w.heap.size (fun k_ => some k_ ≠ (s_.1 : Value).ownBlock ∧ k_ ≠ gb102) s_.2 y107) ∧ (w'.heap[gb101]? = some (.cells #[.int .i64 a0_0, .slice A0_1 l0_1.length c0_1] 24 (0, 0))) ∧ (w'.heap[gb102]? = some (.cells #[.int .i64 a1_0, .int .i64 a1_1, .int .i64 a1_2] 38 (0, 0))) ∧ (w'.heap[gb103]? = some (.cells #[.int .i64 0, .slice none 0 0] 24 (0, 0))) ∧ (Below w.heap.size w w')) ?_ ?_
       rotate_left
       ·
        intro hJ4_6
        refine join_ (σ := Value × Nat) 4 #[true, true, true, true, true, true, false, false, false, true, false] (fun s_ => [(11, s_.1), (6, .pointer (some ⟨s_.2, 0, none⟩))]) (fun s_ w' => (w'.cell? ⟨gb101, 0, none⟩ = some (.int .i64 a0_0) ∧ w'.cell? ⟨gb101, 1, none⟩ = some (.slice A0_1 l0_1.length c0_1) ∧ w'.cell? ⟨gb102, 0, none⟩ = some (.int .i64 a1_0) ∧ w'.cell? ⟨gb102, 1, none⟩ = some (.int .i64 a1_1) ∧ w'.cell? ⟨gb102, 2, none⟩ = some (.int .i64 a1_2)) ∧ (Kd.R k38 38 w' w.heap.size (fun k_ => k_ ≠ gb102) s_.1 t104) ∧ (w'.heap[gb101]? = some (.cells #[.int .i64 a0_0, .slice A0_1 l0_1.length c0_1] 24 (0, 0))) ∧ (w'.heap[gb102]? = some (.cells #[.int .i64 a1_0, .int .i64 a1_1, .int .i64 a1_2] 38 (0, 0))) ∧ (w'.heap[gb103]? = some (.cells #[.int .i64 0, .slice none 0 0] 24 (0, 0))) ∧ (w'.heap[s_.2]? = some (.cells #[.int .i64 0, .slice none 0 0] 24 (0, 0))) ∧ (w.heap.size ≤ s_.2) ∧ (w.heap.size ≤ s_.2) ∧ (gb101 ≠ s_.2) ∧ (s_.2 ≠ gb101) ∧ (gb102 ≠ s_.2) ∧ (s_.2 ≠ gb102) ∧ (gb103 ≠ s_.2) ∧ (s_.2 ≠ gb103) ∧ (Below w.heap.size w w')) ?_ ?_
        rotate_left
        ·
         intro hJ4_9
         refine join_ (σ := Value × Nat) 4 #[true, true, true, true, false, true, true, false, false, true, false] (fun s_ => [(13, s_.1), (6, .pointer (some ⟨s_.2, 0, none⟩))]) (fun s_ w' => (w'.cell? ⟨gb101, 0, none⟩ = some (.int .i64 a0_0) ∧ w'.cell? ⟨gb101, 1, none⟩ = some (.slice A0_1 l0_1.length c0_1) ∧ w'.cell? ⟨gb102, 0, none⟩ = some (.int .i64 a1_0) ∧ w'.cell? ⟨gb102, 1, none⟩ = some (.int .i64 a1_1) ∧ w'.cell? ⟨gb102, 2, none⟩ = some (.int .i64 a1_2)) ∧ (Kd.R k38 38 w' w.heap.size (fun k_ => k_ ≠ gb102) s_.1 y107) ∧ (w'.heap[gb101]? = some (.cells #[.int .i64 a0_0, .slice A0_1 l0_1.length c0_1] 24 (0, 0))) ∧ (w'.heap[gb102]? = some (.cells #[.int .i64 a1_0, .int .i64 a1_1, .int .i64 a1_2] 38 (0, 0))) ∧ (w'.heap[gb103]? = some (.cells #[.int .i64 0, .slice none 0 0] 24 (0, 0))) ∧ (w'.heap[s_.2]? = some (.cells #[.int .i64 0, .slice none 0 0] 24 (0, 0))) ∧ (w.heap.size ≤ s_.2) ∧ (w.heap.size ≤ s_.2) ∧ (gb101 ≠ s_.2) ∧ (s_.2 ≠ gb101) ∧ (gb102 ≠ s_.2) ∧ (s_.2 ≠ gb102) ∧ (gb103 ≠ s_.2) ∧ (s_.2 ≠ gb103) ∧ (Below w.heap.size w w')) ?_ ?_
         rotate_left
         ·
          intro hJ6_9
          refine join_ (σ := Value) 5 #[true, true, true, true, true, true, false, false, false, false, false] (fun s_ => [(11, s_)]) (fun s_ w' => (w'.cell? ⟨gb101, 0, none⟩ = some (.int .i64 a0_0) ∧ w'.cell? ⟨gb101, 1, none⟩ = some (.slice A0_1 l0_1.length c0_1) ∧ w'.cell? ⟨gb102, 0, none⟩ = some (.int .i64 a1_0) ∧ w'.cell? ⟨gb102, 1, none⟩ = some (.int .i64 a1_1) ∧ w'.cell? ⟨gb102, 2, none⟩ = some (.int .i64 a1_2)) ∧ (Kd.R k38 38 w' w.heap.size (fun k_ => k_ ≠ gb102) s_ t104) ∧ (w'.heap[gb101]? = some (.cells #[.int .i64 a0_0, .slice A0_1 l0_1.length c0_1] 24 (0, 0))) ∧ (w'.heap[gb102]? = some (.cells #[.int .i64 a1_0, .int .i64 a1_1, .int .i64 a1_2] 38 (0, 0))) ∧ (w'.heap[gb103]? = some (.cells #[.int .i64 0, .slice none 0 0] 24 (0, 0))) ∧ (Below w.heap.size w w')) ?_ ?_
          rotate_left
          ·
           intro hJ4
           refine join_ (σ := Value) 5 #[true, true, true, true, false, true, true, false, false, false, false] (fun s_ => [(13, s_)]) (fun s_ w' => (w'.cell? ⟨gb101, 0, none⟩ = some (.int .i64 a0_0) ∧ w'.cell? ⟨gb101, 1, none⟩ = some (.slice A0_1 l0_1.length c0_1) ∧ w'.cell? ⟨gb102, 0, none⟩ = some (.int .i64 a1_0) ∧ w'.cell? ⟨gb102, 1, none⟩ = some (.int .i64 a1_1) ∧ w'.cell? ⟨gb102, 2, none⟩ = some (.int .i64 a1_2)) ∧ (Kd.R k38 38 w' w.heap.size (fun k_ => k_ ≠ gb102) s_ y107) ∧ (w'.heap[gb101]? = some (.cells #[.int .i64 a0_0, .slice A0_1 l0_1.length c0_1] 24 (0, 0))) ∧ (w'.heap[gb102]? = some (.cells #[.int .i64 a1_0, .int .i64 a1_1, .int .i64 a1_2] 38 (0, 0))) ∧ (w'.heap[gb103]? = some (.cells #[.int .i64 0, .slice none 0 0] 24 (0, 0))) ∧ (Below w.heap.size w w')) ?_ ?_
           rotate_left
           ·
            intro hJ6
            refine join_ (σ := Nat) 5 #[true, true, true, true, false, true, false, false, false, true, false] (fun s_ => [(6, .pointer (some ⟨s_, 0, none⟩))]) (fun s_ w' => (w'.cell? ⟨gb101, 0, none⟩ = some (.int .i64 a0_0) ∧ w'.cell? ⟨gb101, 1, none⟩ = some (.slice A0_1 l0_1.length c0_1) ∧ w'.cell? ⟨gb102, 0, none⟩ = some (.int .i64 a1_0) ∧ w'.cell? ⟨gb102, 1, none⟩ = some (.int .i64 a1_1) ∧ w'.cell? ⟨gb102, 2, none⟩ = some (.int .i64 a1_2)) ∧ (w'.heap[gb101]? = some (.cells #[.int .i64 a0_0, .slice A0_1 l0_1.length c0_1] 24 (0, 0))) ∧ (w'.heap[gb102]? = some (.cells #[.int .i64 a1_0, .int .i64 a1_1, .int .i64 a1_2] 38 (0, 0))) ∧ (w'.heap[gb103]? = some (.cells #[.int .i64 0, .slice none 0 0] 24 (0, 0))) ∧ (w'.heap[s_]? = some (.cells #[.int .i64 0, .slice none 0 0] 24 (0, 0))) ∧ (w.heap.size ≤ s_) ∧ (w.heap.size ≤ s_) ∧ (gb101 ≠ s_) ∧ (s_ ≠ gb101) ∧ (gb102 ≠ s_) ∧ (s_ ≠ gb102) ∧ (gb103 ≠ s_) ∧ (s_ ≠ gb103) ∧ (Below w.heap.size w w')) ?_ ?_
            rotate_left
            ·
             intro hJ9
             refine three_ (i := 4) (j := 6) (k := 9) (Ni := some 11) (Nj := some 13) (Nk := some 6) #[true, true, true, true, true, true, false, false, false, false, false] #[true, true, true, true, false, true, true, false, false, false, false] #[true, true, true, true, false, true, false, false, false, true, false] rfl rfl rfl rfl rfl rfl (three_of HT_.out (by kernel_rfl)) (by decide) (by decide) (by decide) (fun K hK => ?_) (fun K hK => ?_) (fun K hK => ?_)
             ·
              skip
              refine goes_ Try.func52 (by kernel_rfl) rfl #[.slice A0_1 l0_1.length c0_1] (by rfl) rfl rfl ka ?_
              with_reducible refine (slices_Clone_impl_Clue.calls _ _ l0_1 t104 _ ?side1 ?side2 A3.out).mono ?_
              (case side1 => repeat (first | exact (Kd.C_below HR0_1.out HB.out) | (with_reducible refine Kd.C_alloc ?_ _) | (with_reducible refine Kd.C_drewN ?_ _) | (with_reducible refine Kd.C_drew ?_)))
              (case side2 => exact HC0_1.out)
              rintro e w13 ⟨v105, rfl, ho0, hb⟩
              refine ⟨_, rfl, ?_⟩
              have n0_ := aM (Kd.R_lower (Kd.R_newB ho0 (g := gb102) (o := .cells #[.int .i64 a1_0, .int .i64 a1_1, .int .i64 a1_2] 38 (0, 0)) (kq BK102)) (below_size (kb3 HB GE101 GE102 GE103)))
              have n1_ := aM (blk_below (kq BK101) hb)
              have n2_ := aM (blk_below (kq BK102) hb)
              have n3_ := aM (blk_below (kq BK103) hb)
              have n4_ := aM (below_step (kb3 HB GE101 GE102 GE103) hb)
              clear BK101
              clear BK102
              clear BK103
              clear HB
              have HO106 := n0_
              have BK101 := n1_
              have BK102 := n2_
              have BK103 := n3_
              have HB := n4_
              clear n0_ n1_ n2_ n3_ n4_
              (try clear hb)
              (try clear hb2)
              (try clear hk)
              (try clear hi)
              (try clear ho0)
              refine hK.out _ _ ⟨(blk_cell BK101.out 0).trans rfl, (blk_cell BK101.out 1).trans rfl, (blk_cell BK102.out 0).trans rfl, (blk_cell BK102.out 1).trans rfl, (blk_cell BK102.out 2).trans rfl⟩ (fun hHeld => ?_)
              clear hK K
              refine norm_ (a' := ?_) ?_ ?_
              rotate_left
              ·
               show Act.put _ (some 11) _ = _
               simp only [Act.put, q1, q2, q3, i64_w, i32_w]
               rfl
              exact norm_ (by first | (simp only [putAll, Act.put, q1, q2, q3]; done) | (simp only [putAll, Act.put, q1, q2, q3]; rfl)) (hJ4 (v105) _ ⟨hHeld, (by (with_reducible repeat (first | apply Kd.R_alloc | apply Kd.R_drewN | apply Kd.R_drew)); exact Kd.R_mono HO106.out (fun _ hk => hk.2)), (kq BK101), (kq BK102), (kq BK103), (kb3 HB GE101 GE102 GE103)⟩)
             ·
              skip
              refine Kd.R_lit_step k38 _ 38 ?hg (N := 13) ?hd (xs := ([(⟨a1_0, a1_1, a1_2⟩ : S38)] : List (S38))) (inner := [.int .i64 a1_0, .int .i64 a1_1, .int .i64 a1_2]) (ok := fun _ => True) (okp := fun _ => True) ?hr ?hp (fun _ hk => hk) trivial (Below.refl _ _) (Nat.le_refl _) (by simp) ?_; (case hd => rfl); (case hg => rfl); (case hr => first | (go_simp; done) | (go_simp; rfl)); (case hp => exact (Reps.c3 (show Kd.M k38 _ _ _ (⟨a1_0, a1_1, a1_2⟩ : S38) [.int .i64 a1_0, .int .i64 a1_1, .int .i64 a1_2] from (k38_mkM _ _ _ (⟨a1_0, a1_1, a1_2⟩ : S38) )) (Reps.none _ _)))
              intro v108 w13 ho14 hb hg_ hnew_
              clear hg_ hnew_
              (first | rw [← Ny107.out] at ho14 | (simp only [Int.reduceToNat] at ho14; rw [← Ny107.out] at ho14))
              have n0_ := aM (Kd.R_lower (Kd.R_newB ho14 (g := gb102) (o := .cells #[.int .i64 a1_0, .int .i64 a1_1, .int .i64 a1_2] 38 (0, 0)) (kq BK102)) (below_size (kb3 HB GE101 GE102 GE103)))
              have n1_ := aM (blk_below (kq BK101) hb)
              have n2_ := aM (blk_below (kq BK102) hb)
              have n3_ := aM (blk_below (kq BK103) hb)
              have n4_ := aM (below_step (kb3 HB GE101 GE102 GE103) hb)
              clear BK101
              clear BK102
              clear BK103
              clear HB
              have HO109 := n0_
              have BK101 := n1_
              have BK102 := n2_
              have BK103 := n3_
              have HB := n4_
              clear n0_ n1_ n2_ n3_ n4_
              clear hb ho14
              refine hK.out _ _ ⟨(blk_cell BK101.out 0).trans rfl, (blk_cell BK101.out 1).trans rfl, (blk_cell BK102.out 0).trans rfl, (blk_cell BK102.out 1).trans rfl, (blk_cell BK102.out 2).trans rfl⟩ (fun hHeld => ?_)
              clear hK K
              refine norm_ (a' := ?_) ?_ ?_
              rotate_left
              ·
               show Act.put _ (some 13) _ = _
               simp only [Act.put, q1, q2, q3, i64_w, i32_w]
               rfl
              exact norm_ (by first | (simp only [putAll, Act.put, q1, q2, q3]; done) | (simp only [putAll, Act.put, q1, q2, q3]; rfl)) (hJ6 (v108) _ ⟨hHeld, (by (with_reducible repeat (first | apply Kd.R_alloc | apply Kd.R_drewN | apply Kd.R_drew)); exact Kd.R_mono HO109.out (fun _ hk => hk.2)), (kq BK101), (kq BK102), (kq BK103), (kb3 HB GE101 GE102 GE103)⟩)
             ·
              skip
              refine box_step ?hg (N := 6) ?hd (cs := #[.int .i64 0, .slice none 0 0]) (t := 24) ?hr ?_; (case hd => rfl); (case hg => rfl); (case hr => first | (go_simp; done) | (go_simp; rfl))
              intro gb113 hg w13 hbox hb
              have n0_ := aM (blk_below (kq BK101) hb)
              have n1_ := aM (blk_below (kq BK102) hb)
              have n2_ := aM (blk_below (kq BK103) hb)
              have n3_ := aM (below_step (kb3 HB GE101 GE102 GE103) hb)
              have n4_ := aM (hbox)
              have n5_ := aM ((by rw [hg]; exact (below_size (kb3 HB GE101 GE102 GE103)) : w.heap.size ≤ gb113))
              have n6_ := aM ((by rw [hg]; exact (below_size (kb3 HB GE101 GE102 GE103)) : w.heap.size ≤ gb113))
              have n7_ := aM ((by rw [hg]; exact Nat.ne_of_lt (blk_lt (kq BK101)) : gb101 ≠ gb113))
              have n8_ := aM ((by rw [hg]; exact Nat.ne_of_gt (blk_lt (kq BK101)) : gb113 ≠ gb101))
              have n9_ := aM ((by rw [hg]; exact Nat.ne_of_lt (blk_lt (kq BK102)) : gb102 ≠ gb113))
              have n10_ := aM ((by rw [hg]; exact Nat.ne_of_gt (blk_lt (kq BK102)) : gb113 ≠ gb102))
              have n11_ := aM ((by rw [hg]; exact Nat.ne_of_lt (blk_lt (kq BK103)) : gb103 ≠ gb113))
              have n12_ := aM ((by rw [hg]; exact Nat.ne_of_gt (blk_lt (kq BK103)) : gb113 ≠ gb103))
              clear BK101
              clear BK102
              clear BK103
              clear HB
              have BK101 := n0_
              have BK102 := n1_
              have BK103 := n2_
              have HB := n3_
              have BK113 := n4_
              have GW113 := n5_
              have GE113 := n6_
              have NB101_113 := n7_
              have NB113_101 := n8_
              have NB102_113 := n9_
              have NB113_102 := n10_
              have NB103_113 := n11_
              have NB113_103 := n12_
              clear n0_ n1_ n2_ n3_ n4_ n5_ n6_ n7_ n8_ n9_ n10_ n11_ n12_
              clear hb hbox hg
              refine hK.out _ _ ⟨(blk_cell BK101.out 0).trans rfl, (blk_cell BK101.out 1).trans rfl, (blk_cell BK102.out 0).trans rfl, (blk_cell BK102.out 1).trans rfl, (blk_cell BK102.out 2).trans rfl⟩ (fun hHeld => ?_)
              clear hK K
              refine norm_ (a' := ?_) ?_ ?_
              rotate_left
              ·
               show Act.put _ (some 6) _ = _
               simp only [Act.put, q1, q2, q3, i64_w, i32_w]
               rfl
              exact norm_ (by first | (simp only [putAll, Act.put, q1, q2, q3]; done) | (simp only [putAll, Act.put, q1, q2, q3]; rfl)) (hJ9 (gb113) _ ⟨hHeld, (kq BK101), (kq BK102), (kq BK103), (kq BK113), GW113.out, GE113.out, NB101_113.out, NB113_101.out, NB102_113.out, NB113_102.out, NB103_113.out, NB113_103.out, (kb4 HB GE101 GE102 GE103 GE113)⟩)
            ·
             skip
             rintro gb113 w14 ⟨hS_, h0_, h1_, h2_, h3_, h4_, h5_, h6_, h7_, h8_, h9_, h10_, h11_, h12_⟩
             have n0_ : Aside0 (w14.heap[gb101]? = some (.cells #[.int .i64 a0_0, .slice A0_1 l0_1.length c0_1] 24 (0, 0))) := ⟨h0_⟩
             have n1_ : Aside0 (w14.heap[gb102]? = some (.cells #[.int .i64 a1_0, .int .i64 a1_1, .int .i64 a1_2] 38 (0, 0))) := ⟨h1_⟩
             have n2_ : Aside0 (w14.heap[gb103]? = some (.cells #[.int .i64 0, .slice none 0 0] 24 (0, 0))) := ⟨h2_⟩
             have n3_ : Aside0 (w14.heap[gb113]? = some (.cells #[.int .i64 0, .slice none 0 0] 24 (0, 0))) := ⟨h3_⟩
             have n4_ : Aside0 (w.heap.size ≤ gb113) := ⟨h4_⟩
             have n5_ : Aside0 (w.heap.size ≤ gb113) := ⟨h5_⟩
             have n6_ : Aside0 (gb101 ≠ gb113) := ⟨h6_⟩
             have n7_ : Aside0 (gb113 ≠ gb101) := ⟨h7_⟩
             have n8_ : Aside0 (gb102 ≠ gb113) := ⟨h8_⟩
             have n9_ : Aside0 (gb113 ≠ gb102) := ⟨h9_⟩
             have n10_ : Aside0 (gb103 ≠ gb113) := ⟨h10_⟩
             have n11_ : Aside0 (gb113 ≠ gb103) := ⟨h11_⟩
             have n12_ : Aside0 (Below w.heap.size w w14) := ⟨h12_⟩
             clear BK101
             clear BK102
             clear BK103
             clear HB
             clear h0_ h1_ h2_ h3_ h4_ h5_ h6_ h7_ h8_ h9_ h10_ h11_ h12_
             have BK101 := n0_
             have BK102 := n1_
             have BK103 := n2_
             have BK113 := n3_
             have GW113 := n4_
             have GE113 := n5_
             have NB101_113 := n6_
             have NB113_101 := n7_
             have NB102_113 := n8_
             have NB113_102 := n9_
             have NB103_113 := n10_
             have NB113_103 := n11_
             have HB := n12_
             clear n0_ n1_ n2_ n3_ n4_ n5_ n6_ n7_ n8_ n9_ n10_ n11_ n12_
             have hHeld : w14.cell? ⟨gb101, 0, none⟩ = some (.int .i64 a0_0) ∧ w14.cell? ⟨gb101, 1, none⟩ = some (.slice A0_1 l0_1.length c0_1) ∧ w14.cell? ⟨gb102, 0, none⟩ = some (.int .i64 a1_0) ∧ w14.cell? ⟨gb102, 1, none⟩ = some (.int .i64 a1_1) ∧ w14.cell? ⟨gb102, 2, none⟩ = some (.int .i64 a1_2) := hS_
             refine norm_ (a' := ?_) ?_ ?_
             rotate_left
             ·
              simp only [putAll, Act.put, q1, q2, q3]
              rfl
             refine two_ (i := 4) (j := 6) (Ni := some 11) (Nj := some 13) #[true, true, true, true, true, true, false, false, false, true, false] #[true, true, true, true, false, true, true, false, false, true, false] rfl rfl rfl rfl (two_of HT_.out (by kernel_rfl)) (by decide) (by decide) (fun K hK => ?_) (fun K hK => ?_)
             ·
              skip
              refine goes_ Try.func52 (by kernel_rfl) rfl #[.slice A0_1 l0_1.length c0_1] (by rfl) rfl rfl ka ?_
              with_reducible refine (slices_Clone_impl_Clue.calls _ _ l0_1 t104 _ ?side1 ?side2 A3.out).mono ?_
              (case side1 => repeat (first | exact (Kd.C_below HR0_1.out HB.out) | (with_reducible refine Kd.C_alloc ?_ _) | (with_reducible refine Kd.C_drewN ?_ _) | (with_reducible refine Kd.C_drew ?_)))
              (case side2 => exact HC0_1.out)
              rintro e w15 ⟨v105, rfl, ho0, hb⟩
              refine ⟨_, rfl, ?_⟩
              have n0_ := aM (Kd.R_lower (Kd.R_newB ho0 (g := gb102) (o := .cells #[.int .i64 a1_0, .int .i64 a1_1, .int .i64 a1_2] 38 (0, 0)) (kq BK102)) (below_size (kb4 HB GE101 GE102 GE103 GE113)))
              have n1_ := aM (blk_below (kq BK101) hb)
              have n2_ := aM (blk_below (kq BK102) hb)
              have n3_ := aM (blk_below (kq BK103) hb)
              have n4_ := aM (blk_below (kq BK113) hb)
              have n5_ := aM (below_step (kb4 HB GE101 GE102 GE103 GE113) hb)
              clear BK101
              clear BK102
              clear BK103
              clear BK113
              clear HB
              have HO106 := n0_
              have BK101 := n1_
              have BK102 := n2_
              have BK103 := n3_
              have BK113 := n4_
              have HB := n5_
              clear n0_ n1_ n2_ n3_ n4_ n5_
              (try clear hb)
              (try clear hb2)
              (try clear hk)
              (try clear hi)
              (try clear ho0)
              refine hK.out _ _ ⟨(blk_cell BK101.out 0).trans rfl, (blk_cell BK101.out 1).trans rfl, (blk_cell BK102.out 0).trans rfl, (blk_cell BK102.out 1).trans rfl, (blk_cell BK102.out 2).trans rfl⟩ (fun hHeld => ?_)
              clear hK K
              refine norm_ (a' := ?_) ?_ ?_
              rotate_left
              ·
               show Act.put _ (some 11) _ = _
               simp only [Act.put, q1, q2, q3, i64_w, i32_w]
               rfl
              exact norm_ (by first | (simp only [putAll, Act.put, q1, q2, q3]; done) | (simp only [putAll, Act.put, q1, q2, q3]; rfl)) (hJ4_9 (v105, gb113) _ ⟨hHeld, (by (with_reducible repeat (first | apply Kd.R_alloc | apply Kd.R_drewN | apply Kd.R_drew)); exact Kd.R_mono HO106.out (fun _ hk => hk.2)), (kq BK101), (kq BK102), (kq BK103), (kq BK113), GW113.out, GE113.out, NB101_113.out, NB113_101.out, NB102_113.out, NB113_102.out, NB103_113.out, NB113_103.out, (kb4 HB GE101 GE102 GE103 GE113)⟩)
             ·
              skip
              refine Kd.R_lit_step k38 _ 38 ?hg (N := 13) ?hd (xs := ([(⟨a1_0, a1_1, a1_2⟩ : S38)] : List (S38))) (inner := [.int .i64 a1_0, .int .i64 a1_1, .int .i64 a1_2]) (ok := fun _ => True) (okp := fun _ => True) ?hr ?hp (fun _ hk => hk) trivial (Below.refl _ _) (Nat.le_refl _) (by simp) ?_; (case hd => rfl); (case hg => rfl); (case hr => first | (go_simp; done) | (go_simp; rfl)); (case hp => exact (Reps.c3 (show Kd.M k38 _ _ _ (⟨a1_0, a1_1, a1_2⟩ : S38) [.int .i64 a1_0, .int .i64 a1_1, .int .i64 a1_2] from (k38_mkM _ _ _ (⟨a1_0, a1_1, a1_2⟩ : S38) )) (Reps.none _ _)))
              intro v108 w15 ho16 hb hg_ hnew_
              clear hg_ hnew_
              (first | rw [← Ny107.out] at ho16 | (simp only [Int.reduceToNat] at ho16; rw [← Ny107.out] at ho16))
              have n0_ := aM (Kd.R_lower (Kd.R_newB ho16 (g := gb102) (o := .cells #[.int .i64 a1_0, .int .i64 a1_1, .int .i64 a1_2] 38 (0, 0)) (kq BK102)) (below_size (kb4 HB GE101 GE102 GE103 GE113)))
              have n1_ := aM (blk_below (kq BK101) hb)
              have n2_ := aM (blk_below (kq BK102) hb)
              have n3_ := aM (blk_below (kq BK103) hb)
              have n4_ := aM (blk_below (kq BK113) hb)
              have n5_ := aM (below_step (kb4 HB GE101 GE102 GE103 GE113) hb)
              clear BK101
              clear BK102
              clear BK103
              clear BK113
              clear HB
              have HO109 := n0_
              have BK101 := n1_
              have BK102 := n2_
              have BK103 := n3_
              have BK113 := n4_
              have HB := n5_
              clear n0_ n1_ n2_ n3_ n4_ n5_
              clear hb ho16
              refine hK.out _ _ ⟨(blk_cell BK101.out 0).trans rfl, (blk_cell BK101.out 1).trans rfl, (blk_cell BK102.out 0).trans rfl, (blk_cell BK102.out 1).trans rfl, (blk_cell BK102.out 2).trans rfl⟩ (fun hHeld => ?_)
              clear hK K
              refine norm_ (a' := ?_) ?_ ?_
              rotate_left
              ·
               show Act.put _ (some 13) _ = _
               simp only [Act.put, q1, q2, q3, i64_w, i32_w]
               rfl
              exact norm_ (by first | (simp only [putAll, Act.put, q1, q2, q3]; done) | (simp only [putAll, Act.put, q1, q2, q3]; rfl)) (hJ6_9 (v108, gb113) _ ⟨hHeld, (by (with_reducible repeat (first | apply Kd.R_alloc | apply Kd.R_drewN | apply Kd.R_drew)); exact Kd.R_mono HO109.out (fun _ hk => hk.2)), (kq BK101), (kq BK102), (kq BK103), (kq BK113), GW113.out, GE113.out, NB101_113.out, NB113_101.out, NB102_113.out, NB113_102.out, NB103_113.out, NB113_103.out, (kb4 HB GE101 GE102 GE103 GE113)⟩)
           ·
            skip
            rintro v108 w15 ⟨hS_, h0_, h1_, h2_, h3_, h4_⟩
            have n0_ : Aside0 (Kd.R k38 38 w15 w.heap.size (fun k_ => k_ ≠ gb102) v108 y107) := ⟨h0_⟩
            have n1_ : Aside0 (w15.heap[gb101]? = some (.cells #[.int .i64 a0_0, .slice A0_1 l0_1.length c0_1] 24 (0, 0))) := ⟨h1_⟩
            have n2_ : Aside0 (w15.heap[gb102]? = some (.cells #[.int .i64 a1_0, .int .i64 a1_1, .int .i64 a1_2] 38 (0, 0))) := ⟨h2_⟩
            have n3_ : Aside0 (w15.heap[gb103]? = some (.cells #[.int .i64 0, .slice none 0 0] 24 (0, 0))) := ⟨h3_⟩
            have n4_ : Aside0 (Below w.heap.size w w15) := ⟨h4_⟩
            clear BK101
            clear BK102
            clear BK103
            clear HB
            clear h0_ h1_ h2_ h3_ h4_
            have HO109 := n0_
            have BK101 := n1_
            have BK102 := n2_
            have BK103 := n3_
            have HB := n4_
            clear n0_ n1_ n2_ n3_ n4_
            have hHeld : w15.cell? ⟨gb101, 0, none⟩ = some (.int .i64 a0_0) ∧ w15.cell? ⟨gb101, 1, none⟩ = some (.slice A0_1 l0_1.length c0_1) ∧ w15.cell? ⟨gb102, 0, none⟩ = some (.int .i64 a1_0) ∧ w15.cell? ⟨gb102, 1, none⟩ = some (.int .i64 a1_1) ∧ w15.cell? ⟨gb102, 2, none⟩ = some (.int .i64 a1_2) := hS_
            refine norm_ (a' := ?_) ?_ ?_
            rotate_left
            ·
             simp only [putAll, Act.put, q1, q2, q3]
             rfl
            refine two_ (i := 4) (j := 9) (Ni := some 11) (Nj := some 6) #[true, true, true, true, true, true, true, false, false, false, false] #[true, true, true, true, false, true, true, false, false, true, false] rfl rfl rfl rfl (two_of HT_.out (by kernel_rfl)) (by decide) (by decide) (fun K hK => ?_) (fun K hK => ?_)
            ·
             skip
             refine goes_ Try.func52 (by kernel_rfl) rfl #[.slice A0_1 l0_1.length c0_1] (by rfl) rfl rfl ka ?_
             with_reducible refine (slices_Clone_impl_Clue.calls _ _ l0_1 t104 _ ?side1 ?side2 A3.out).mono ?_
             (case side1 => repeat (first | exact (Kd.C_below HR0_1.out HB.out) | (with_reducible refine Kd.C_alloc ?_ _) | (with_reducible refine Kd.C_drewN ?_ _) | (with_reducible refine Kd.C_drew ?_)))
             (case side2 => exact HC0_1.out)
             rintro e w16 ⟨v105, rfl, ho0, hb⟩
             refine ⟨_, rfl, ?_⟩
             have n0_ := aM (Kd.R_elder' (kr HO109) (Kd.R_base ho0) hb)
             have n1_ := aM (Kd.R_lower (Kd.R_newB (Kd.R_new' ho0 (Kd.R_lt (kr HO109))) (g := gb102) (o := .cells #[.int .i64 a1_0, .int .i64 a1_1, .int .i64 a1_2] 38 (0, 0)) (kq BK102)) (below_size (kb3 HB GE101 GE102 GE103)))
             have n2_ := aM (blk_below (kq BK101) hb)
             have n3_ := aM (blk_below (kq BK102) hb)
             have n4_ := aM (blk_below (kq BK103) hb)
             have n5_ := aM (below_step (kb3 HB GE101 GE102 GE103) hb)
             clear HO109
             clear BK101
             clear BK102
             clear BK103
             clear HB
             have HO109 := n0_
             have HO106 := n1_
             have BK101 := n2_
             have BK102 := n3_
             have BK103 := n4_
             have HB := n5_
             clear n0_ n1_ n2_ n3_ n4_ n5_
             (try clear hb)
             (try clear hb2)
             (try clear hk)
             (try clear hi)
             (try clear ho0)
             refine hK.out _ _ ⟨(blk_cell BK101.out 0).trans rfl, (blk_cell BK101.out 1).trans rfl, (blk_cell BK102.out 0).trans rfl, (blk_cell BK102.out 1).trans rfl, (blk_cell BK102.out 2).trans rfl⟩ (fun hHeld => ?_)
             clear hK K
             refine norm_ (a' := ?_) ?_ ?_
             rotate_left
             ·
              show Act.put _ (some 11) _ = _
              simp only [Act.put, q1, q2, q3, i64_w, i32_w]
              rfl
             exact norm_ (by first | (simp only [putAll, Act.put, q1, q2, q3]; done) | (simp only [putAll, Act.put, q1, q2, q3]; rfl)) (hJ4_6 (v105, v108) _ ⟨hHeld, (by (with_reducible repeat (first | apply Kd.R_alloc | apply Kd.R_drewN | apply Kd.R_drew)); exact Kd.R_mono HO106.out (fun _ hk => ⟨hk.1.2, hk.2⟩)), (by (with_reducible repeat (first | apply Kd.R_alloc | apply Kd.R_drewN | apply Kd.R_drew)); exact Kd.R_mono HO109.out (fun _ hk => ⟨hk.2, hk.1⟩)), (kq BK101), (kq BK102), (kq BK103), (kb3 HB GE101 GE102 GE103)⟩)
            ·
             skip
             refine box_step ?hg (N := 6) ?hd (cs := #[.int .i64 0, .slice none 0 0]) (t := 24) ?hr ?_; (case hd => rfl); (case hg => rfl); (case hr => first | (go_simp; done) | (go_simp; rfl))
             intro gb113 hg w16 hbox hb
             have n0_ := aM (Kd.R_below (kr HO109) hb)
             have n1_ := aM (blk_below (kq BK101) hb)
             have n2_ := aM (blk_below (kq BK102) hb)
             have n3_ := aM (blk_below (kq BK103) hb)
             have n4_ := aM (below_step (kb3 HB GE101 GE102 GE103) hb)
             have n5_ := aM (hbox)
             have n6_ := aM ((by rw [hg]; exact (below_size (kb3 HB GE101 GE102 GE103)) : w.heap.size ≤ gb113))
             have n7_ := aM ((by rw [hg]; exact (below_size (kb3 HB GE101 GE102 GE103)) : w.heap.size ≤ gb113))
             have n8_ := aM ((by rw [hg]; exact Nat.ne_of_lt (blk_lt (kq BK101)) : gb101 ≠ gb113))
             have n9_ := aM ((by rw [hg]; exact Nat.ne_of_gt (blk_lt (kq BK101)) : gb113 ≠ gb101))
             have n10_ := aM ((by rw [hg]; exact Nat.ne_of_lt (blk_lt (kq BK102)) : gb102 ≠ gb113))
             have n11_ := aM ((by rw [hg]; exact Nat.ne_of_gt (blk_lt (kq BK102)) : gb113 ≠ gb102))
             have n12_ := aM ((by rw [hg]; exact Nat.ne_of_lt (blk_lt (kq BK103)) : gb103 ≠ gb113))
             have n13_ := aM ((by rw [hg]; exact Nat.ne_of_gt (blk_lt (kq BK103)) : gb113 ≠ gb103))
             clear HO109
             clear BK101
             clear BK102
             clear BK103
             clear HB
             have HO109 := n0_
             have BK101 := n1_
             have BK102 := n2_
             have BK103 := n3_
             have HB := n4_
             have BK113 := n5_
             have GW113 := n6_
             have GE113 := n7_
             have NB101_113 := n8_
             have NB113_101 := n9_
             have NB102_113 := n10_
             have NB113_102 := n11_
             have NB103_113 := n12_
             have NB113_103 := n13_
             clear n0_ n1_ n2_ n3_ n4_ n5_ n6_ n7_ n8_ n9_ n10_ n11_ n12_ n13_
             clear hb hbox hg
             refine hK.out _ _ ⟨(blk_cell BK101.out 0).trans rfl, (blk_cell BK101.out 1).trans rfl, (blk_cell BK102.out 0).trans rfl, (blk_cell BK102.out 1).trans rfl, (blk_cell BK102.out 2).trans rfl⟩ (fun hHeld => ?_)
             clear hK K
             refine norm_ (a' := ?_) ?_ ?_
             rotate_left
             ·
              show Act.put _ (some 6) _ = _
              simp only [Act.put, q1, q2, q3, i64_w, i32_w]
              rfl
             exact norm_ (by first | (simp only [putAll, Act.put, q1, q2, q3]; done) | (simp only [putAll, Act.put, q1, q2, q3]; rfl)) (hJ6_9 (v108, gb113) _ ⟨hHeld, (kr HO109), (kq BK101), (kq BK102), (kq BK103), (kq BK113), GW113.out, GE113.out, NB101_113.out, NB113_101.out, NB102_113.out, NB113_102.out, NB103_113.out, NB113_103.out, (kb4 HB GE101 GE102 GE103 GE113)⟩)
          ·
           skip
           rintro v105 w14 ⟨hS_, h0_, h1_, h2_, h3_, h4_⟩
           have n0_ : Aside0 (Kd.R k38 38 w14 w.heap.size (fun k_ => k_ ≠ gb102) v105 t104) := ⟨h0_⟩
           have n1_ : Aside0 (w14.heap[gb101]? = some (.cells #[.int .i64 a0_0, .slice A0_1 l0_1.length c0_1] 24 (0, 0))) := ⟨h1_⟩
           have n2_ : Aside0 (w14.heap[gb102]? = some (.cells #[.int .i64 a1_0, .int .i64 a1_1, .int .i64 a1_2] 38 (0, 0))) := ⟨h2_⟩
           have n3_ : Aside0 (w14.heap[gb103]? = some (.cells #[.int .i64 0, .slice none 0 0] 24 (0, 0))) := ⟨h3_⟩
           have n4_ : Aside0 (Below w.heap.size w w14) := ⟨h4_⟩
           clear BK101
           clear BK102
           clear BK103
           clear HB
           clear h0_ h1_ h2_ h3_ h4_
           have HO106 := n0_
           have BK101 := n1_
           have BK102 := n2_
           have BK103 := n3_
           have HB := n4_
           clear n0_ n1_ n2_ n3_ n4_
           have hHeld : w14.cell? ⟨gb101, 0, none⟩ = some (.int .i64 a0_0) ∧ w14.cell? ⟨gb101, 1, none⟩ = some (.slice A0_1 l0_1.length c0_1) ∧ w14.cell? ⟨gb102, 0, none⟩ = some (.int .i64 a1_0) ∧ w14.cell? ⟨gb102, 1, none⟩ = some (.int .i64 a1_1) ∧ w14.cell? ⟨gb102, 2, none⟩ = some (.int .i64 a1_2) := hS_
           refine norm_ (a' := ?_) ?_ ?_
           rotate_left
           ·
            simp only [putAll, Act.put, q1, q2, q3]
            rfl
           refine two_ (i := 6) (j := 9) (Ni := some 13) (Nj := some 6) #[true, true, true, true, true, true, true, false, false, false, false] #[true, true, true, true, true, true, false, false, false, true, false] rfl rfl rfl rfl (two_of HT_.out (by kernel_rfl)) (by decide) (by decide) (fun K hK => ?_) (fun K hK => ?_)
           ·
            skip
            refine Kd.R_lit_step k38 _ 38 ?hg (N := 13) ?hd (xs := ([(⟨a1_0, a1_1, a1_2⟩ : S38)] : List (S38))) (inner := [.int .i64 a1_0, .int .i64 a1_1, .int .i64 a1_2]) (ok := fun _ => True) (okp := fun _ => True) ?hr ?hp (fun _ hk => hk) trivial (Below.refl _ _) (Nat.le_refl _) (by simp) ?_; (case hd => rfl); (case hg => rfl); (case hr => first | (go_simp; done) | (go_simp; rfl)); (case hp => exact (Reps.c3 (show Kd.M k38 _ _ _ (⟨a1_0, a1_1, a1_2⟩ : S38) [.int .i64 a1_0, .int .i64 a1_1, .int .i64 a1_2] from (k38_mkM _ _ _ (⟨a1_0, a1_1, a1_2⟩ : S38) )) (Reps.none _ _)))
            intro v108 w15 ho16 hb hg_ hnew_
            clear hg_ hnew_
            (first | rw [← Ny107.out] at ho16 | (simp only [Int.reduceToNat] at ho16; rw [← Ny107.out] at ho16))
            have n0_ := aM (Kd.R_elder' (kr HO106) (Kd.R_base ho16) hb)
            have n1_ := aM (Kd.R_lower (Kd.R_newB (Kd.R_new' ho16 (Kd.R_lt (kr HO106))) (g := gb102) (o := .cells #[.int .i64 a1_0, .int .i64 a1_1, .int .i64 a1_2] 38 (0, 0)) (kq BK102)) (below_size (kb3 HB GE101 GE102 GE103)))
            have n2_ := aM (blk_below (kq BK101) hb)
            have n3_ := aM (blk_below (kq BK102) hb)
            have n4_ := aM (blk_below (kq BK103) hb)
            have n5_ := aM (below_step (kb3 HB GE101 GE102 GE103) hb)
            clear HO106
            clear BK101
            clear BK102
            clear BK103
            clear HB
            have HO106 := n0_
            have HO109 := n1_
            have BK101 := n2_
            have BK102 := n3_
            have BK103 := n4_
            have HB := n5_
            clear n0_ n1_ n2_ n3_ n4_ n5_
            clear hb ho16
            refine hK.out _ _ ⟨(blk_cell BK101.out 0).trans rfl, (blk_cell BK101.out 1).trans rfl, (blk_cell BK102.out 0).trans rfl, (blk_cell BK102.out 1).trans rfl, (blk_cell BK102.out 2).trans rfl⟩ (fun hHeld => ?_)
            clear hK K
            refine norm_ (a' := ?_) ?_ ?_
            rotate_left
            ·
             show Act.put _ (some 13) _ = _
             simp only [Act.put, q1, q2, q3, i64_w, i32_w]
             rfl
            exact norm_ (by first | (simp only [putAll, Act.put, q1, q2, q3]; done) | (simp only [putAll, Act.put, q1, q2, q3]; rfl)) (hJ4_6 (v105, v108) _ ⟨hHeld, (by (with_reducible repeat (first | apply Kd.R_alloc | apply Kd.R_drewN | apply Kd.R_drew)); exact Kd.R_mono HO106.out (fun _ hk => ⟨hk.2, hk.1⟩)), (by (with_reducible repeat (first | apply Kd.R_alloc | apply Kd.R_drewN | apply Kd.R_drew)); exact Kd.R_mono HO109.out (fun _ hk => ⟨hk.1.2, hk.2⟩)), (kq BK101), (kq BK102), (kq BK103), (kb3 HB GE101 GE102 GE103)⟩)
           ·
            skip
            refine box_step ?hg (N := 6) ?hd (cs := #[.int .i64 0, .slice none 0 0]) (t := 24) ?hr ?_; (case hd => rfl); (case hg => rfl); (case hr => first | (go_simp; done) | (go_simp; rfl))
            intro gb113 hg w15 hbox hb
            have n0_ := aM (Kd.R_below (kr HO106) hb)
            have n1_ := aM (blk_below (kq BK101) hb)
            have n2_ := aM (blk_below (kq BK102) hb)
            have n3_ := aM (blk_below (kq BK103) hb)
            have n4_ := aM (below_step (kb3 HB GE101 GE102 GE103) hb)
            have n5_ := aM (hbox)
            have n6_ := aM ((by rw [hg]; exact (below_size (kb3 HB GE101 GE102 GE103)) : w.heap.size ≤ gb113))
            have n7_ := aM ((by rw [hg]; exact (below_size (kb3 HB GE101 GE102 GE103)) : w.heap.size ≤ gb113))
            have n8_ := aM ((by rw [hg]; exact Nat.ne_of_lt (blk_lt (kq BK101)) : gb101 ≠ gb113))
            have n9_ := aM ((by rw [hg]; exact Nat.ne_of_gt (blk_lt (kq BK101)) : gb113 ≠ gb101))
            have n10_ := aM ((by rw [hg]; exact Nat.ne_of_lt (blk_lt (kq BK102)) : gb102 ≠ gb113))
            have n11_ := aM ((by rw [hg]; exact Nat.ne_of_gt (blk_lt (kq BK102)) : gb113 ≠ gb102))
            have n12_ := aM ((by rw [hg]; exact Nat.ne_of_lt (blk_lt (kq BK103)) : gb103 ≠ gb113))
            have n13_ := aM ((by rw [hg]; exact Nat.ne_of_gt (blk_lt (kq BK103)) : gb113 ≠ gb103))
            clear HO106
            clear BK101
            clear BK102
            clear BK103
            clear HB
            have HO106 := n0_
            have BK101 := n1_
            have BK102 := n2_
            have BK103 := n3_
            have HB := n4_
            have BK113 := n5_
            have GW113 := n6_
            have GE113 := n7_
            have NB101_113 := n8_
            have NB113_101 := n9_
            have NB102_113 := n10_
            have NB113_102 := n11_
            have NB103_113 := n12_
            have NB113_103 := n13_
            clear n0_ n1_ n2_ n3_ n4_ n5_ n6_ n7_ n8_ n9_ n10_ n11_ n12_ n13_
            clear hb hbox hg
            refine hK.out _ _ ⟨(blk_cell BK101.out 0).trans rfl, (blk_cell BK101.out 1).trans rfl, (blk_cell BK102.out 0).trans rfl, (blk_cell BK102.out 1).trans rfl, (blk_cell BK102.out 2).trans rfl⟩ (fun hHeld => ?_)
            clear hK K
            refine norm_ (a' := ?_) ?_ ?_
            rotate_left
            ·
             show Act.put _ (some 6) _ = _
             simp only [Act.put, q1, q2, q3, i64_w, i32_w]
             rfl
            exact norm_ (by first | (simp only [putAll, Act.put, q1, q2, q3]; done) | (simp only [putAll, Act.put, q1, q2, q3]; rfl)) (hJ4_9 (v105, gb113) _ ⟨hHeld, (kr HO106), (kq BK101), (kq BK102), (kq BK103), (kq BK113), GW113.out, GE113.out, NB101_113.out, NB113_101.out, NB102_113.out, NB113_102.out, NB103_113.out, NB113_103.out, (kb4 HB GE101 GE102 GE103 GE113)⟩)
         ·
          skip
          rintro ⟨v108, gb113⟩ w16 ⟨hS_, h0_, h1_, h2_, h3_, h4_, h5_, h6_, h7_, h8_, h9_, h10_, h11_, h12_, h13_⟩
          have n0_ : Aside0 (Kd.R k38 38 w16 w.heap.size (fun k_ => k_ ≠ gb102) v108 y107) := ⟨h0_⟩
          have n1_ : Aside0 (w16.heap[gb101]? = some (.cells #[.int .i64 a0_0, .slice A0_1 l0_1.length c0_1] 24 (0, 0))) := ⟨h1_⟩
          have n2_ : Aside0 (w16.heap[gb102]? = some (.cells #[.int .i64 a1_0, .int .i64 a1_1, .int .i64 a1_2] 38 (0, 0))) := ⟨h2_⟩
          have n3_ : Aside0 (w16.heap[gb103]? = some (.cells #[.int .i64 0, .slice none 0 0] 24 (0, 0))) := ⟨h3_⟩
          have n4_ : Aside0 (w16.heap[gb113]? = some (.cells #[.int .i64 0, .slice none 0 0] 24 (0, 0))) := ⟨h4_⟩
          have n5_ : Aside0 (w.heap.size ≤ gb113) := ⟨h5_⟩
          have n6_ : Aside0 (w.heap.size ≤ gb113) := ⟨h6_⟩
          have n7_ : Aside0 (gb101 ≠ gb113) := ⟨h7_⟩
          have n8_ : Aside0 (gb113 ≠ gb101) := ⟨h8_⟩
          have n9_ : Aside0 (gb102 ≠ gb113) := ⟨h9_⟩
          have n10_ : Aside0 (gb113 ≠ gb102) := ⟨h10_⟩
          have n11_ : Aside0 (gb103 ≠ gb113) := ⟨h11_⟩
          have n12_ : Aside0 (gb113 ≠ gb103) := ⟨h12_⟩
          have n13_ : Aside0 (Below w.heap.size w w16) := ⟨h13_⟩
          clear BK101
          clear BK102
          clear BK103
          clear HB
          clear h0_ h1_ h2_ h3_ h4_ h5_ h6_ h7_ h8_ h9_ h10_ h11_ h12_ h13_
          have HO109 := n0_
          have BK101 := n1_
          have BK102 := n2_
          have BK103 := n3_
          have BK113 := n4_
          have GW113 := n5_
          have GE113 := n6_
          have NB101_113 := n7_
          have NB113_101 := n8_
          have NB102_113 := n9_
          have NB113_102 := n10_
          have NB103_113 := n11_
          have NB113_103 := n12_
          have HB := n13_
          clear n0_ n1_ n2_ n3_ n4_ n5_ n6_ n7_ n8_ n9_ n10_ n11_ n12_ n13_
          have hHeld : w16.cell? ⟨gb101, 0, none⟩ = some (.int .i64 a0_0) ∧ w16.cell? ⟨gb101, 1, none⟩ = some (.slice A0_1 l0_1.length c0_1) ∧ w16.cell? ⟨gb102, 0, none⟩ = some (.int .i64 a1_0) ∧ w16.cell? ⟨gb102, 1, none⟩ = some (.int .i64 a1_1) ∧ w16.cell? ⟨gb102, 2, none⟩ = some (.int .i64 a1_2) := hS_
          refine norm_ (a' := ?_) ?_ ?_
          rotate_left
          ·
           simp only [putAll, Act.put, q1, q2, q3]
           rfl
          refine one_ (i := 4) (N := some 11) #[true, true, true, true, true, true, true, false, false, true, false] rfl rfl (one_of HT_.out (by kernel_rfl)) (by decide) (fun K hK => ?_)
          refine goes_ Try.func52 (by kernel_rfl) rfl #[.slice A0_1 l0_1.length c0_1] (by rfl) rfl rfl ka ?_
          with_reducible refine (slices_Clone_impl_Clue.calls _ _ l0_1 t104 _ ?side1 ?side2 A3.out).mono ?_
          (case side1 => repeat (first | exact (Kd.C_below HR0_1.out HB.out) | (with_reducible refine Kd.C_alloc ?_ _) | (with_reducible refine Kd.C_drewN ?_ _) | (with_reducible refine Kd.C_drew ?_)))
          (case side2 => exact HC0_1.out)
          rintro e w17 ⟨v105, rfl, ho0, hb⟩
          refine ⟨_, rfl, ?_⟩
          have n0_ := aM (Kd.R_elder' (kr HO109) (Kd.R_base ho0) hb)
          have n1_ := aM (Kd.R_lower (Kd.R_newB (Kd.R_new' ho0 (Kd.R_lt (kr HO109))) (g := gb102) (o := .cells #[.int .i64 a1_0, .int .i64 a1_1, .int .i64 a1_2] 38 (0, 0)) (kq BK102)) (below_size (kb4 HB GE101 GE102 GE103 GE113)))
          have n2_ := aM (blk_below (kq BK101) hb)
          have n3_ := aM (blk_below (kq BK102) hb)
          have n4_ := aM (blk_below (kq BK103) hb)
          have n5_ := aM (blk_below (kq BK113) hb)
          have n6_ := aM (below_step (kb4 HB GE101 GE102 GE103 GE113) hb)
          clear HO109
          clear BK101
          clear BK102
          clear BK103
          clear BK113
          clear HB
          have HO109 := n0_
          have HO106 := n1_
          have BK101 := n2_
          have BK102 := n3_
          have BK103 := n4_
          have BK113 := n5_
          have HB := n6_
          clear n0_ n1_ n2_ n3_ n4_ n5_ n6_
          (try clear hb)
          (try clear hb2)
          (try clear hk)
          (try clear hi)
          (try clear ho0)
          refine hK.out _ _ ⟨(blk_cell BK101.out 0).trans rfl, (blk_cell BK101.out 1).trans rfl, (blk_cell BK102.out 0).trans rfl, (blk_cell BK102.out 1).trans rfl, (blk_cell BK102.out 2).trans rfl⟩ (fun hHeld => ?_)
          clear hK K
          refine norm_ (a' := ?_) ?_ ?_
          rotate_left
          ·
           show Act.put _ (some 11) _ = _
           simp only [Act.put, q1, q2, q3, i64_w, i32_w]
           rfl
          exact norm_ (by first | (simp only [putAll, Act.put, q1, q2, q3]; done) | (simp only [putAll, Act.put, q1, q2, q3]; rfl)) (hJ4_6_9 (v105, v108, gb113) _ ⟨hHeld, (by (with_reducible repeat (first | apply Kd.R_alloc | apply Kd.R_drewN | apply Kd.R_drew)); exact Kd.R_mono HO106.out (fun _ hk => ⟨hk.1.2, hk.2⟩)), (by (with_reducible repeat (first | apply Kd.R_alloc | apply Kd.R_drewN | apply Kd.R_drew)); exact Kd.R_mono HO109.out (fun _ hk => ⟨hk.2, hk.1⟩)), (kq BK101), (kq BK102), (kq BK103), (kq BK113), GW113.out, GE113.out, NB101_113.out, NB113_101.out, NB102_113.out, NB113_102.out, NB103_113.out, NB113_103.out, (kb4 HB GE101 GE102 GE103 GE113)⟩)
        ·
         skip
         rintro ⟨v105, gb113⟩ w15 ⟨hS_, h0_, h1_, h2_, h3_, h4_, h5_, h6_, h7_, h8_, h9_, h10_, h11_, h12_, h13_⟩
         have n0_ : Aside0 (Kd.R k38 38 w15 w.heap.size (fun k_ => k_ ≠ gb102) v105 t104) := ⟨h0_⟩
         have n1_ : Aside0 (w15.heap[gb101]? = some (.cells #[.int .i64 a0_0, .slice A0_1 l0_1.length c0_1] 24 (0, 0))) := ⟨h1_⟩
         have n2_ : Aside0 (w15.heap[gb102]? = some (.cells #[.int .i64 a1_0, .int .i64 a1_1, .int .i64 a1_2] 38 (0, 0))) := ⟨h2_⟩
         have n3_ : Aside0 (w15.heap[gb103]? = some (.cells #[.int .i64 0, .slice none 0 0] 24 (0, 0))) := ⟨h3_⟩
         have n4_ : Aside0 (w15.heap[gb113]? = some (.cells #[.int .i64 0, .slice none 0 0] 24 (0, 0))) := ⟨h4_⟩
         have n5_ : Aside0 (w.heap.size ≤ gb113) := ⟨h5_⟩
         have n6_ : Aside0 (w.heap.size ≤ gb113) := ⟨h6_⟩
         have n7_ : Aside0 (gb101 ≠ gb113) := ⟨h7_⟩
         have n8_ : Aside0 (gb113 ≠ gb101) := ⟨h8_⟩
         have n9_ : Aside0 (gb102 ≠ gb113) := ⟨h9_⟩
         have n10_ : Aside0 (gb113 ≠ gb102) := ⟨h10_⟩
         have n11_ : Aside0 (gb103 ≠ gb113) := ⟨h11_⟩
         have n12_ : Aside0 (gb113 ≠ gb103) := ⟨h12_⟩
         have n13_ : Aside0 (Below w.heap.size w w15) := ⟨h13_⟩
         clear BK101
         clear BK102
         clear BK103
         clear HB
         clear h0_ h1_ h2_ h3_ h4_ h5_ h6_ h7_ h8_ h9_ h10_ h11_ h12_ h13_
         have HO106 := n0_
         have BK101 := n1_
         have BK102 := n2_
         have BK103 := n3_
         have BK113 := n4_
         have GW113 := n5_
         have GE113 := n6_
         have NB101_113 := n7_
         have NB113_101 := n8_
         have NB102_113 := n9_
         have NB113_102 := n10_
         have NB103_113 := n11_
         have NB113_103 := n12_
         have HB := n13_
         clear n0_ n1_ n2_ n3_ n4_ n5_ n6_ n7_ n8_ n9_ n10_ n11_ n12_ n13_
         have hHeld : w15.cell? ⟨gb101, 0, none⟩ = some (.int .i64 a0_0) ∧ w15.cell? ⟨gb101, 1, none⟩ = some (.slice A0_1 l0_1.length c0_1) ∧ w15.cell? ⟨gb102, 0, none⟩ = some (.int .i64 a1_0) ∧ w15.cell? ⟨gb102, 1, none⟩ = some (.int .i64 a1_1) ∧ w15.cell? ⟨gb102, 2, none⟩ = some (.int .i64 a1_2) := hS_
         refine norm_ (a' := ?_) ?_ ?_
         rotate_left
         ·
          simp only [putAll, Act.put, q1, q2, q3]
          rfl
         refine one_ (i := 6) (N := some 13) #[true, true, true, true, true, true, true, false, false, true, false] rfl rfl (one_of HT_.out (by kernel_rfl)) (by decide) (fun K hK => ?_)
         refine Kd.R_lit_step k38 _ 38 ?hg (N := 13) ?hd (xs := ([(⟨a1_0, a1_1, a1_2⟩ : S38)] : List (S38))) (inner := [.int .i64 a1_0, .int .i64 a1_1, .int .i64 a1_2]) (ok := fun _ => True) (okp := fun _ => True) ?hr ?hp (fun _ hk => hk) trivial (Below.refl _ _) (Nat.le_refl _) (by simp) ?_; (case hd => rfl); (case hg => rfl); (case hr => first | (go_simp; done) | (go_simp; rfl)); (case hp => exact (Reps.c3 (show Kd.M k38 _ _ _ (⟨a1_0, a1_1, a1_2⟩ : S38) [.int .i64 a1_0, .int .i64 a1_1, .int .i64 a1_2] from (k38_mkM _ _ _ (⟨a1_0, a1_1, a1_2⟩ : S38) )) (Reps.none _ _)))
         intro v108 w16 ho17 hb hg_ hnew_
         clear hg_ hnew_
         (first | rw [← Ny107.out] at ho17 | (simp only [Int.reduceToNat] at ho17; rw [← Ny107.out] at ho17))
         have n0_ := aM (Kd.R_elder' (kr HO106) (Kd.R_base ho17) hb)
         have n1_ := aM (Kd.R_lower (Kd.R_newB (Kd.R_new' ho17 (Kd.R_lt (kr HO106))) (g := gb102) (o := .cells #[.int .i64 a1_0, .int .i64 a1_1, .int .i64 a1_2] 38 (0, 0)) (kq BK102)) (below_size (kb4 HB GE101 GE102 GE103 GE113)))
         have n2_ := aM (blk_below (kq BK101) hb)
         have n3_ := aM (blk_below (kq BK102) hb)
         have n4_ := aM (blk_below (kq BK103) hb)
         have n5_ := aM (blk_below (kq BK113) hb)
         have n6_ := aM (below_step (kb4 HB GE101 GE102 GE103 GE113) hb)
         clear HO106
         clear BK101
         clear BK102
         clear BK103
         clear BK113
         clear HB
         have HO106 := n0_
         have HO109 := n1_
         have BK101 := n2_
         have BK102 := n3_
         have BK103 := n4_
         have BK113 := n5_
         have HB := n6_
         clear n0_ n1_ n2_ n3_ n4_ n5_ n6_
         clear hb ho17
         refine hK.out _ _ ⟨(blk_cell BK101.out 0).trans rfl, (blk_cell BK101.out 1).trans rfl, (blk_cell BK102.out 0).trans rfl, (blk_cell BK102.out 1).trans rfl, (blk_cell BK102.out 2).trans rfl⟩ (fun hHeld => ?_)
         clear hK K
         refine norm_ (a' := ?_) ?_ ?_
         rotate_left
         ·
          show Act.put _ (some 13) _ = _
          simp only [Act.put, q1, q2, q3, i64_w, i32_w]
          rfl
         exact norm_ (by first | (simp only [putAll, Act.put, q1, q2, q3]; done) | (simp only [putAll, Act.put, q1, q2, q3]; rfl)) (hJ4_6_9 (v105, v108, gb113) _ ⟨hHeld, (by (with_reducible repeat (first | apply Kd.R_alloc | apply Kd.R_drewN | apply Kd.R_drew)); exact Kd.R_mono HO106.out (fun _ hk => ⟨hk.2, hk.1⟩)), (by (with_reducible repeat (first | apply Kd.R_alloc | apply Kd.R_drewN | apply Kd.R_drew)); exact Kd.R_mono HO109.out (fun _ hk => ⟨hk.1.2, hk.2⟩)), (kq BK101), (kq BK102), (kq BK103), (kq BK113), GW113.out, GE113.out, NB101_113.out, NB113_101.out, NB102_113.out, NB113_102.out, NB103_113.out, NB113_103.out, (kb4 HB GE101 GE102 GE103 GE113)⟩)
       ·
        skip
        rintro ⟨v105, v108⟩ w16 ⟨hS_, h0_, h1_, h2_, h3_, h4_, h5_⟩
        have n0_ : Aside0 (Kd.R k38 38 w16 w.heap.size (fun k_ => some k_ ≠ (v108 : Value).ownBlock ∧ k_ ≠ gb102) v105 t104) := ⟨h0_⟩
        have n1_ : Aside0 (Kd.R k38 38 w16 w.heap.size (fun k_ => some k_ ≠ (v105 : Value).ownBlock ∧ k_ ≠ gb102) v108 y107) := ⟨h1_⟩
        have n2_ : Aside0 (w16.heap[gb101]? = some (.cells #[.int .i64 a0_0, .slice A0_1 l0_1.length c0_1] 24 (0, 0))) := ⟨h2_⟩
        have n3_ : Aside0 (w16.heap[gb102]? = some (.cells #[.int .i64 a1_0, .int .i64 a1_1, .int .i64 a1_2] 38 (0, 0))) := ⟨h3_⟩
        have n4_ : Aside0 (w16.heap[gb103]? = some (.cells #[.int .i64 0, .slice none 0 0] 24 (0, 0))) := ⟨h4_⟩
        have n5_ : Aside0 (Below w.heap.size w w16) := ⟨h5_⟩
        clear BK101
        clear BK102
        clear BK103
        clear HB
        clear h0_ h1_ h2_ h3_ h4_ h5_
        have HO106 := n0_
        have HO109 := n1_
        have BK101 := n2_
        have BK102 := n3_
        have BK103 := n4_
        have HB := n5_
        clear n0_ n1_ n2_ n3_ n4_ n5_
        have hHeld : w16.cell? ⟨gb101, 0, none⟩ = some (.int .i64 a0_0) ∧ w16.cell? ⟨gb101, 1, none⟩ = some (.slice A0_1 l0_1.length c0_1) ∧ w16.cell? ⟨gb102, 0, none⟩ = some (.int .i64 a1_0) ∧ w16.cell? ⟨gb102, 1, none⟩ = some (.int .i64 a1_1) ∧ w16.cell? ⟨gb102, 2, none⟩ = some (.int .i64 a1_2) := hS_
        obtain ⟨Ao18, co18, eo18⟩ := Kd.R_slice HO109.out
        (first | subst eo18 | (injection eo18 with f1_ f2_ f3_; have f4_ := f1_.symm; have f5_ := f3_.symm; clear f1_ f2_ f3_; subst f4_; subst f5_))
        refine norm_ (a' := ?_) ?_ ?_
        rotate_left
        ·
         simp only [putAll, Act.put, q1, q2, q3]
         rfl
        refine two_ (i := 7) (j := 9) (Ni := some 14) (Nj := some 6) #[true, true, true, true, true, true, true, true, false, false, false] #[true, true, true, true, true, true, true, false, false, true, false] rfl rfl rfl rfl (two_of HT_.out (by kernel_rfl)) (by decide) (by decide) (fun K hK => ?_) (fun K hK => ?_)
        ·
         skip
         refine Kd.R_append_rows_step k38 (w0 := w) w.heap.size (by rfl) (.tmp 11) (.tmp 13) 22 38 (.agg #[(.int .i64 0), (.int .i64 0), (.int .i64 0)]) 24 rfl Try.underlying22 info38 rfl (by decide) (by omega) v105 t104 y107 _ _ _ (fun k_ => some k_ ≠ (.slice Ao18 y107.length co18 : Value).ownBlock ∧ k_ ≠ gb102) (fun _ => False) rfl rfl ?aO ?aR (fun _ _ h => h) (fun _ h => h.elim) ?aF ?aB ?aS ?aL ?_
         (case aR => repeat (first | exact (Kd.R_reads' HO109.out).2.2 | (with_reducible refine Kd.C_alloc ?_ _) | (with_reducible refine Kd.C_drewN ?_ _) | (with_reducible refine Kd.C_drew ?_)))
         (case aB => exact (kb3 HB GE101 GE102 GE103))
         (case aF => exact (fun k_ hk => ⟨Kd.fresh' (Kd.R_lt (kr HO109)) k_ hk, Kd.freshB (g := gb102) (o := .cells #[.int .i64 a1_0, .int .i64 a1_1, .int .i64 a1_2] 38 (0, 0)) (kq BK102) k_ hk⟩))
         (case aO => exact (kr HO106))
         (case aS => exact (below_size (kb3 HB GE101 GE102 GE103)))
         (case aL => have := LMc4.out; omega)
         intro v111 w17 ho hb hg hat
         rw [← Ny110.out] at ho
         have n0_ := aM (blk_grown (kq BK101) hg (Kd.R_ne HO106.out BK101.out (by decide)))
         have n1_ := aM (blk_grown (kq BK102) hg (Kd.R_away HO106.out (fun _ hk => hk.2)))
         have n2_ := aM (blk_grown (kq BK103) hg (Kd.R_ne HO106.out BK103.out (by decide)))
         have n3_ := aM (Kd.R_after (ok := (fun k_ => k_ ≠ gb102)) (by (with_reducible repeat (first | apply Kd.R_alloc | apply Kd.R_drewN | apply Kd.R_drew)); exact Kd.R_mono HO109.out (fun _ hk => ⟨hk.2, hk.1⟩)) hg hat)
         have n4_ := aM (hb)
         have n5_ := aM (ho)
         clear BK101
         clear BK102
         clear BK103
         clear HO109
         clear HB
         clear HO106
         have BK101 := n0_
         have BK102 := n1_
         have BK103 := n2_
         have HO109 := n3_
         have HB := n4_
         have HO112 := n5_
         clear n0_ n1_ n2_ n3_ n4_ n5_
         clear ho hb hg hat
         obtain ⟨Ao19, co19, eo19⟩ := Kd.R_slice HO112.out
         (first | subst eo19 | (injection eo19 with f1_ f2_ f3_; have f4_ := f1_.symm; have f5_ := f3_.symm; clear f1_ f2_ f3_; subst f4_; subst f5_))
         refine hK.out _ _ ⟨(blk_cell BK101.out 0).trans rfl, (blk_cell BK101.out 1).trans rfl, (blk_cell BK102.out 0).trans rfl, (blk_cell BK102.out 1).trans rfl, (blk_cell BK102.out 2).trans rfl⟩ (fun hHeld => ?_)
         clear hK K
         refine norm_ (a' := ?_) ?_ ?_
         rotate_left
         ·
          show Act.put _ (some 14) _ = _
          simp only [Act.put, q1, q2, q3, i64_w, i32_w]
          rfl
         refine pure_ (i := 8) (N := some 15) (v := ?_) (a' := ?_) #[true, true, true, true, true, true, true, true, true, false, false] rfl rfl (any_of HT_.out (by kernel_rfl)) (fun _ _ _ h => h) (Or.inl ⟨by rfl, ?_⟩) ?_ ?_
         rotate_left
         ·
          intro w'
          go_simp
          with_reducible rfl
         rotate_left
         ·
          simp only [Act.put, q1, q2, q3, i64_w, i32_w]
          rfl
         exact norm_ (by first | (simp only [putAll, Act.put, q1, q2, q3]; done) | (simp only [putAll, Act.put, q1, q2, q3]; rfl)) (hJ4_6_7 (v105, .slice Ao18 y107.length co18, .slice Ao19 y110.length co19) _ ⟨hHeld, (by (with_reducible repeat (first | apply Kd.R_alloc | apply Kd.R_drewN | apply Kd.R_drew)); exact Kd.R_mono HO109.out (fun _ hk => ⟨hk.2, hk.1⟩)), (kr HO112), (kq BK101), (kq BK102), (kq BK103), (kb3 HB GE101 GE102 GE103)⟩)
        ·
         skip
         refine box_step ?hg (N := 6) ?hd (cs := #[.int .i64 0, .slice none 0 0]) (t := 24) ?hr ?_; (case hd => rfl); (case hg => rfl); (case hr => first | (go_simp; done) | (go_simp; rfl))
         intro gb113 hg w17 hbox hb
         have n0_ := aM (Kd.R_below (kr HO106) hb)
         have n1_ := aM (Kd.R_below (kr HO109) hb)
         have n2_ := aM (blk_below (kq BK101) hb)
         have n3_ := aM (blk_below (kq BK102) hb)
         have n4_ := aM (blk_below (kq BK103) hb)
         have n5_ := aM (below_step (kb3 HB GE101 GE102 GE103) hb)
         have n6_ := aM (hbox)
         have n7_ := aM ((by rw [hg]; exact (below_size (kb3 HB GE101 GE102 GE103)) : w.heap.size ≤ gb113))
         have n8_ := aM ((by rw [hg]; exact (below_size (kb3 HB GE101 GE102 GE103)) : w.heap.size ≤ gb113))
         have n9_ := aM ((by rw [hg]; exact Nat.ne_of_lt (blk_lt (kq BK101)) : gb101 ≠ gb113))
         have n10_ := aM ((by rw [hg]; exact Nat.ne_of_gt (blk_lt (kq BK101)) : gb113 ≠ gb101))
         have n11_ := aM ((by rw [hg]; exact Nat.ne_of_lt (blk_lt (kq BK102)) : gb102 ≠ gb113))
         have n12_ := aM ((by rw [hg]; exact Nat.ne_of_gt (blk_lt (kq BK102)) : gb113 ≠ gb102))
         have n13_ := aM ((by rw [hg]; exact Nat.ne_of_lt (blk_lt (kq BK103)) : gb103 ≠ gb113))
         have n14_ := aM ((by rw [hg]; exact Nat.ne_of_gt (blk_lt (kq BK103)) : gb113 ≠ gb103))
         clear HO106
         clear HO109
         clear BK101
         clear BK102
         clear BK103
         clear HB
         have HO106 := n0_
         have HO109 := n1_
         have BK101 := n2_
         have BK102 := n3_
         have BK103 := n4_
         have HB := n5_
         have BK113 := n6_
         have GW113 := n7_
         have GE113 := n8_
         have NB101_113 := n9_
         have NB113_101 := n10_
         have NB102_113 := n11_
         have NB113_102 := n12_
         have NB103_113 := n13_
         have NB113_103 := n14_
         clear n0_ n1_ n2_ n3_ n4_ n5_ n6_ n7_ n8_ n9_ n10_ n11_ n12_ n13_ n14_
         clear hb hbox hg
         refine hK.out _ _ ⟨(blk_cell BK101.out 0).trans rfl, (blk_cell BK101.out 1).trans rfl, (blk_cell BK102.out 0).trans rfl, (blk_cell BK102.out 1).trans rfl, (blk_cell BK102.out 2).trans rfl⟩ (fun hHeld => ?_)
         clear hK K
         refine norm_ (a' := ?_) ?_ ?_
         rotate_left
         ·
          show Act.put _ (some 6) _ = _
          simp only [Act.put, q1, q2, q3, i64_w, i32_w]
          rfl
         exact norm_ (by first | (simp only [putAll, Act.put, q1, q2, q3]; done) | (simp only [putAll, Act.put, q1, q2, q3]; rfl)) (hJ4_6_9 (v105, .slice Ao18 y107.length co18, gb113) _ ⟨hHeld, (kr HO106), (kr HO109), (kq BK101), (kq BK102), (kq BK103), (kq BK113), GW113.out, GE113.out, NB101_113.out, NB113_101.out, NB102_113.out, NB113_102.out, NB103_113.out, NB113_103.out, (kb4 HB GE101 GE102 GE103 GE113)⟩)
      ·
       skip
       rintro ⟨v105, v108, gb113⟩ w17 ⟨hS_, h0_, h1_, h2_, h3_, h4_, h5_, h6_, h7_, h8_, h9_, h10_, h11_, h12_, h13_, h14_⟩
       have n0_ : Aside0 (Kd.R k38 38 w17 w.heap.size (fun k_ => some k_ ≠ (v108 : Value).ownBlock ∧ k_ ≠ gb102) v105 t104) := ⟨h0_⟩
       have n1_ : Aside0 (Kd.R k38 38 w17 w.heap.size (fun k_ => some k_ ≠ (v105 : Value).ownBlock ∧ k_ ≠ gb102) v108 y107) := ⟨h1_⟩
       have n2_ : Aside0 (w17.heap[gb101]? = some (.cells #[.int .i64 a0_0, .slice A0_1 l0_1.length c0_1] 24 (0, 0))) := ⟨h2_⟩
       have n3_ : Aside0 (w17.heap[gb102]? = some (.cells #[.int .i64 a1_0, .int .i64 a1_1, .int .i64 a1_2] 38 (0, 0))) := ⟨h3_⟩
       have n4_ : Aside0 (w17.heap[gb103]? = some (.cells #[.int .i64 0, .slice none 0 0] 24 (0, 0))) := ⟨h4_⟩
       have n5_ : Aside0 (w17.heap[gb113]? = some (.cells #[.int .i64 0, .slice none 0 0] 24 (0, 0))) := ⟨h5_⟩
       have n6_ : Aside0 (w.heap.size ≤ gb113) := ⟨h6_⟩
       have n7_ : Aside0 (w.heap.size ≤ gb113) := ⟨h7_⟩
       have n8_ : Aside0 (gb101 ≠ gb113) := ⟨h8_⟩
       have n9_ : Aside0 (gb113 ≠ gb101) := ⟨h9_⟩
       have n10_ : Aside0 (gb102 ≠ gb113) := ⟨h10_⟩
       have n11_ : Aside0 (gb113 ≠ gb102) := ⟨h11_⟩
       have n12_ : Aside0 (gb103 ≠ gb113) := ⟨h12_⟩
       have n13_ : Aside0 (gb113 ≠ gb103) := ⟨h13_⟩
       have n14_ : Aside0 (Below w.heap.size w w17) := ⟨h14_⟩
       clear BK101
       clear BK102
       clear BK103
       clear HB
       clear h0_ h1_ h2_ h3_ h4_ h5_ h6_ h7_ h8_ h9_ h10_ h11_ h12_ h13_ h14_
       have HO106 := n0_
       have HO109 := n1_
       have BK101 := n2_
       have BK102 := n3_
       have BK103 := n4_
       have BK113 := n5_
       have GW113 := n6_
       have GE113 := n7_
       have NB101_113 := n8_
       have NB113_101 := n9_
       have NB102_113 := n10_
       have NB113_102 := n11_
       have NB103_113 := n12_
       have NB113_103 := n13_
       have HB := n14_
       clear n0_ n1_ n2_ n3_ n4_ n5_ n6_ n7_ n8_ n9_ n10_ n11_ n12_ n13_ n14_
       have hHeld : w17.cell? ⟨gb101, 0, none⟩ = some (.int .i64 a0_0) ∧ w17.cell? ⟨gb101, 1, none⟩ = some (.slice A0_1 l0_1.length c0_1) ∧ w17.cell? ⟨gb102, 0, none⟩ = some (.int .i64 a1_0) ∧ w17.cell? ⟨gb102, 1, none⟩ = some (.int .i64 a1_1) ∧ w17.cell? ⟨gb102, 2, none⟩ = some (.int .i64 a1_2) := hS_
       obtain ⟨Ao19, co19, eo19⟩ := Kd.R_slice HO109.out
       (first | subst eo19 | (injection eo19 with f1_ f2_ f3_; have f4_ := f1_.symm; have f5_ := f3_.symm; clear f1_ f2_ f3_; subst f4_; subst f5_))
       refine norm_ (a' := ?_) ?_ ?_
       rotate_left
       ·
        simp only [putAll, Act.put, q1, q2, q3]
        rfl
       refine one_ (i := 7) (N := some 14) #[true, true, true, true, true, true, true, true, false, true, false] rfl rfl (one_of HT_.out (by kernel_rfl)) (by decide) (fun K hK => ?_)
       refine Kd.R_append_rows_step k38 (w0 := w) w.heap.size (by rfl) (.tmp 11) (.tmp 13) 22 38 (.agg #[(.int .i64 0), (.int .i64 0), (.int .i64 0)]) 24 rfl Try.underlying22 info38 rfl (by decide) (by omega) v105 t104 y107 _ _ _ (fun k_ => some k_ ≠ (.slice Ao19 y107.length co19 : Value).ownBlock ∧ k_ ≠ gb102) (fun _ => False) rfl rfl ?aO ?aR (fun _ _ h => h) (fun _ h => h.elim) ?aF ?aB ?aS ?aL ?_
       (case aR => repeat (first | exact (Kd.R_reads' HO109.out).2.2 | (with_reducible refine Kd.C_alloc ?_ _) | (with_reducible refine Kd.C_drewN ?_ _) | (with_reducible refine Kd.C_drew ?_)))
       (case aB => exact (kb4 HB GE101 GE102 GE103 GE113))
       (case aF => exact (fun k_ hk => ⟨Kd.fresh' (Kd.R_lt (kr HO109)) k_ hk, Kd.freshB (g := gb102) (o := .cells #[.int .i64 a1_0, .int .i64 a1_1, .int .i64 a1_2] 38 (0, 0)) (kq BK102) k_ hk⟩))
       (case aO => exact (kr HO106))
       (case aS => exact (below_size (kb4 HB GE101 GE102 GE103 GE113)))
       (case aL => have := LMc4.out; omega)
       intro v111 w18 ho hb hg hat
       rw [← Ny110.out] at ho
       have n0_ := aM (blk_grown (kq BK101) hg (Kd.R_ne HO106.out BK101.out (by decide)))
       have n1_ := aM (blk_grown (kq BK102) hg (Kd.R_away HO106.out (fun _ hk => hk.2)))
       have n2_ := aM (blk_grown (kq BK103) hg (Kd.R_ne HO106.out BK103.out (by decide)))
       have n3_ := aM (Kd.R_after (ok := (fun k_ => k_ ≠ gb102)) (by (with_reducible repeat (first | apply Kd.R_alloc | apply Kd.R_drewN | apply Kd.R_drew)); exact Kd.R_mono HO109.out (fun _ hk => ⟨hk.2, hk.1⟩)) hg hat)
       have n4_ := aM (blk_grown (kq BK113) hg (Kd.R_ne HO106.out BK113.out (by decide)))
       have n5_ := aM (hb)
       have n6_ := aM (ho)
       clear BK101
       clear BK102
       clear BK103
       clear HO109
       clear BK113
       clear HB
       clear HO106
       have BK101 := n0_
       have BK102 := n1_
       have BK103 := n2_
       have HO109 := n3_
       have BK113 := n4_
       have HB := n5_
       have HO112 := n6_
       clear n0_ n1_ n2_ n3_ n4_ n5_ n6_
       clear ho hb hg hat
       obtain ⟨Ao20, co20, eo20⟩ := Kd.R_slice HO112.out
       (first | subst eo20 | (injection eo20 with f1_ f2_ f3_; have f4_ := f1_.symm; have f5_ := f3_.symm; clear f1_ f2_ f3_; subst f4_; subst f5_))
       refine hK.out _ _ ⟨(blk_cell BK101.out 0).trans rfl, (blk_cell BK101.out 1).trans rfl, (blk_cell BK102.out 0).trans rfl, (blk_cell BK102.out 1).trans rfl, (blk_cell BK102.out 2).trans rfl⟩ (fun hHeld => ?_)
       clear hK K
       refine norm_ (a' := ?_) ?_ ?_
       rotate_left
       ·
        show Act.put _ (some 14) _ = _
        simp only [Act.put, q1, q2, q3, i64_w, i32_w]
        rfl
       refine pure_ (i := 8) (N := some 15) (v := ?_) (a' := ?_) #[true, true, true, true, true, true, true, true, true, true, false] rfl rfl (any_of HT_.out (by kernel_rfl)) (fun _ _ _ h => h) (Or.inl ⟨by rfl, ?_⟩) ?_ ?_
       rotate_left
       ·
        intro w'
        go_simp
        with_reducible rfl
       rotate_left
       ·
        simp only [Act.put, q1, q2, q3, i64_w, i32_w]
        rfl
       exact norm_ (by first | (simp only [putAll, Act.put, q1, q2, q3]; done) | (simp only [putAll, Act.put, q1, q2, q3]; rfl)) (hJ4_6_7_9 (v105, .slice Ao19 y107.length co19, .slice Ao20 y110.length co20, gb113) _ ⟨hHeld, (by (with_reducible repeat (first | apply Kd.R_alloc | apply Kd.R_drewN | apply Kd.R_drew)); exact Kd.R_mono HO109.out (fun _ hk => ⟨hk.2, hk.1⟩)), (kr HO112), (kq BK101), (kq BK102), (kq BK103), (kq BK113), GW113.out, GE113.out, NB101_113.out, NB113_101.out, NB102_113.out, NB113_102.out, NB103_113.out, NB113_103.out, (kb4 HB GE101 GE102 GE103 GE113)⟩)
     ·
      skip
      rintro ⟨v105, v108, v111⟩ w19 ⟨hS_, h0_, h1_, h2_, h3_, h4_, h5_⟩
      have n0_ : Aside0 (Kd.R k38 38 w19 w.heap.size (fun k_ => some k_ ≠ (v111 : Value).ownBlock ∧ k_ ≠ gb102) v108 y107) := ⟨h0_⟩
      have n1_ : Aside0 (Kd.R k38 38 w19 w.heap.size (fun k_ => some k_ ≠ (v108 : Value).ownBlock ∧ k_ ≠ gb102) v111 y110) := ⟨h1_⟩
      have n2_ : Aside0 (w19.heap[gb101]? = some (.cells #[.int .i64 a0_0, .slice A0_1 l0_1.length c0_1] 24 (0, 0))) := ⟨h2_⟩
      have n3_ : Aside0 (w19.heap[gb102]? = some (.cells #[.int .i64 a1_0, .int .i64 a1_1, .int .i64 a1_2] 38 (0, 0))) := ⟨h3_⟩
      have n4_ : Aside0 (w19.heap[gb103]? = some (.cells #[.int .i64 0, .slice none 0 0] 24 (0, 0))) := ⟨h4_⟩
      have n5_ : Aside0 (Below w.heap.size w w19) := ⟨h5_⟩
      clear BK101
      clear BK102
      clear BK103
      clear HB
      clear h0_ h1_ h2_ h3_ h4_ h5_
      have HO109 := n0_
      have HO112 := n1_
      have BK101 := n2_
      have BK102 := n3_
      have BK103 := n4_
      have HB := n5_
      clear n0_ n1_ n2_ n3_ n4_ n5_
      have hHeld : w19.cell? ⟨gb101, 0, none⟩ = some (.int .i64 a0_0) ∧ w19.cell? ⟨gb101, 1, none⟩ = some (.slice A0_1 l0_1.length c0_1) ∧ w19.cell? ⟨gb102, 0, none⟩ = some (.int .i64 a1_0) ∧ w19.cell? ⟨gb102, 1, none⟩ = some (.int .i64 a1_1) ∧ w19.cell? ⟨gb102, 2, none⟩ = some (.int .i64 a1_2) := hS_
      obtain ⟨Ao20, co20, eo20⟩ := Kd.R_slice HO112.out
      (first | subst eo20 | (injection eo20 with f1_ f2_ f3_; have f4_ := f1_.symm; have f5_ := f3_.symm; clear f1_ f2_ f3_; subst f4_; subst f5_))
      refine norm_ (a' := ?_) ?_ ?_
      rotate_left
      ·
       simp only [putAll, Act.put, q1, q2, q3]
       rfl
      refine one_ (i := 9) (N := some 6) #[true, true, true, true, true, true, true, true, true, true, false] rfl rfl (one_of HT_.out (by kernel_rfl)) (by decide) (fun K hK => ?_)
      refine box_step ?hg (N := 6) ?hd (cs := #[.int .i64 0, .slice none 0 0]) (t := 24) ?hr ?_; (case hd => rfl); (case hg => rfl); (case hr => first | (go_simp; done) | (go_simp; rfl))
      intro gb113 hg w21 hbox hb
      have n0_ := aM (Kd.R_below (kr HO109) hb)
      have n1_ := aM (Kd.R_below (kr HO112) hb)
      have n2_ := aM (blk_below (kq BK101) hb)
      have n3_ := aM (blk_below (kq BK102) hb)
      have n4_ := aM (blk_below (kq BK103) hb)
      have n5_ := aM (below_step (kb3 HB GE101 GE102 GE103) hb)
      have n6_ := aM (hbox)
      have n7_ := aM ((by rw [hg]; exact (below_size (kb3 HB GE101 GE102 GE103)) : w.heap.size ≤ gb113))
      have n8_ := aM ((by rw [hg]; exact (below_size (kb3 HB GE101 GE102 GE103)) : w.heap.size ≤ gb113))
      have n9_ := aM ((by rw [hg]; exact Nat.ne_of_lt (blk_lt (kq BK101)) : gb101 ≠ gb113))
      have n10_ := aM ((by rw [hg]; exact Nat.ne_of_gt (blk_lt (kq BK101)) : gb113 ≠ gb101))
      have n11_ := aM ((by rw [hg]; exact Nat.ne_of_lt (blk_lt (kq BK102)) : gb102 ≠ gb113))
      have n12_ := aM ((by rw [hg]; exact Nat.ne_of_gt (blk_lt (kq BK102)) : gb113 ≠ gb102))
      have n13_ := aM ((by rw [hg]; exact Nat.ne_of_lt (blk_lt (kq BK103)) : gb103 ≠ gb113))
      have n14_ := aM ((by rw [hg]; exact Nat.ne_of_gt (blk_lt (kq BK103)) : gb113 ≠ gb103))
      clear HO109
      clear HO112
      clear BK101
      clear BK102
      clear BK103
      clear HB
      have HO109 := n0_
      have HO112 := n1_
      have BK101 := n2_
      have BK102 := n3_
      have BK103 := n4_
      have HB := n5_
      have BK113 := n6_
      have GW113 := n7_
      have GE113 := n8_
      have NB101_113 := n9_
      have NB113_101 := n10_
      have NB102_113 := n11_
      have NB113_102 := n12_
      have NB103_113 := n13_
      have NB113_103 := n14_
      clear n0_ n1_ n2_ n3_ n4_ n5_ n6_ n7_ n8_ n9_ n10_ n11_ n12_ n13_ n14_
      clear hb hbox hg
      refine hK.out _ _ ⟨(blk_cell BK101.out 0).trans rfl, (blk_cell BK101.out 1).trans rfl, (blk_cell BK102.out 0).trans rfl, (blk_cell BK102.out 1).trans rfl, (blk_cell BK102.out 2).trans rfl⟩ (fun hHeld => ?_)
      clear hK K
      refine norm_ (a' := ?_) ?_ ?_
      rotate_left
      ·
       show Act.put _ (some 6) _ = _
       simp only [Act.put, q1, q2, q3, i64_w, i32_w]
       rfl
      exact norm_ (by first | (simp only [putAll, Act.put, q1, q2, q3]; done) | (simp only [putAll, Act.put, q1, q2, q3]; rfl)) (hJ4_6_7_9 (v105, v108, .slice Ao20 y110.length co20, gb113) _ ⟨hHeld, (kr HO109), (kr HO112), (kq BK101), (kq BK102), (kq BK103), (kq BK113), GW113.out, GE113.out, NB101_113.out, NB113_101.out, NB102_113.out, NB113_102.out, NB103_113.out, NB113_103.out, (kb4 HB GE101 GE102 GE103 GE113)⟩)
    rintro ⟨v105, v108, v111, gb113⟩ w20 ⟨hS_, h0_, h1_, h2_, h3_, h4_, h5_, h6_, h7_, h8_, h9_, h10_, h11_, h12_, h13_, h14_⟩
    have n0_ : Aside0 (Kd.R k38 38 w20 w.heap.size (fun k_ => some k_ ≠ (v111 : Value).ownBlock ∧ k_ ≠ gb102) v108 y107) := ⟨h0_⟩
    have n1_ : Aside0 (Kd.R k38 38 w20 w.heap.size (fun k_ => some k_ ≠ (v108 : Value).ownBlock ∧ k_ ≠ gb102) v111 y110) := ⟨h1_⟩
    have n2_ : Aside0 (w20.heap[gb101]? = some (.cells #[.int .i64 a0_0, .slice A0_1 l0_1.length c0_1] 24 (0, 0))) := ⟨h2_⟩
    have n3_ : Aside0 (w20.heap[gb102]? = some (.cells #[.int .i64 a1_0, .int .i64 a1_1, .int .i64 a1_2] 38 (0, 0))) := ⟨h3_⟩
    have n4_ : Aside0 (w20.heap[gb103]? = some (.cells #[.int .i64 0, .slice none 0 0] 24 (0, 0))) := ⟨h4_⟩
    have n5_ : Aside0 (w20.heap[gb113]? = some (.cells #[.int .i64 0, .slice none 0 0] 24 (0, 0))) := ⟨h5_⟩
    have n6_ : Aside0 (w.heap.size ≤ gb113) := ⟨h6_⟩
    have n7_ : Aside0 (w.heap.size ≤ gb113) := ⟨h7_⟩
    have n8_ : Aside0 (gb101 ≠ gb113) := ⟨h8_⟩
    have n9_ : Aside0 (gb113 ≠ gb101) := ⟨h9_⟩
    have n10_ : Aside0 (gb102 ≠ gb113) := ⟨h10_⟩
    have n11_ : Aside0 (gb113 ≠ gb102) := ⟨h11_⟩
    have n12_ : Aside0 (gb103 ≠ gb113) := ⟨h12_⟩
    have n13_ : Aside0 (gb113 ≠ gb103) := ⟨h13_⟩
    have n14_ : Aside0 (Below w.heap.size w w20) := ⟨h14_⟩
    clear BK101
    clear BK102
    clear BK103
    clear HB
    clear h0_ h1_ h2_ h3_ h4_ h5_ h6_ h7_ h8_ h9_ h10_ h11_ h12_ h13_ h14_
    have HO109 := n0_
    have HO112 := n1_
    have BK101 := n2_
    have BK102 := n3_
    have BK103 := n4_
    have BK113 := n5_
    have GW113 := n6_
    have GE113 := n7_
    have NB101_113 := n8_
    have NB113_101 := n9_
    have NB102_113 := n10_
    have NB113_102 := n11_
    have NB103_113 := n12_
    have NB113_103 := n13_
    have HB := n14_
    clear n0_ n1_ n2_ n3_ n4_ n5_ n6_ n7_ n8_ n9_ n10_ n11_ n12_ n13_ n14_
    have hHeld : w20.cell? ⟨gb101, 0, none⟩ = some (.int .i64 a0_0) ∧ w20.cell? ⟨gb101, 1, none⟩ = some (.slice A0_1 l0_1.length c0_1) ∧ w20.cell? ⟨gb102, 0, none⟩ = some (.int .i64 a1_0) ∧ w20.cell? ⟨gb102, 1, none⟩ = some (.int .i64 a1_1) ∧ w20.cell? ⟨gb102, 2, none⟩ = some (.int .i64 a1_2) := hS_
    obtain ⟨Ao21, co21, eo21⟩ := Kd.R_slice HO112.out
    (first | subst eo21 | (injection eo21 with f1_ f2_ f3_; have f4_ := f1_.symm; have f5_ := f3_.symm; clear f1_ f2_ f3_; subst f4_; subst f5_))
    refine norm_ (a' := ?_) ?_ ?_
    rotate_left
    ·
     simp only [putAll, Act.put, q1, q2, q3]
     rfl
    refine one_ (i := 10) (N := none) #[true, true, true, true, true, true, true, true, true, true, true] rfl rfl (one_of HT_.out (by kernel_rfl)) (by decide) (fun K hK => ?_)
    have hs22 : w20.cell? ⟨gb113, 0, none⟩ = some (.int .i64 0) := (blk_cell BK113.out 0).trans rfl
    have hfs22 := blk_frozen BK113.out 0
    have hns22_0 := NB101_113.out
    have hns22_1 := NB102_113.out
    have hns22_2 := NB103_113.out
    have hms22_0 := NB113_101.out
    have hms22_1 := NB113_102.out
    have hms22_2 := NB113_103.out
    have hs23 : w20.cell? ⟨gb113, 1, none⟩ = some (.slice none 0 0) := (blk_cell BK113.out 1).trans rfl
    have hfs23 := blk_frozen BK113.out 1
    have hns23_0 := NB101_113.out
    have hns23_1 := NB102_113.out
    have hns23_2 := NB103_113.out
    have hms23_0 := NB113_101.out
    have hms23_1 := NB113_102.out
    have hms23_2 := NB113_103.out
    refine skip_ (w1 := ?_) (by rfl) rfl ?_ ?_
    rotate_left
    ·
     go_simp
     rfl
    refine hK.out _ _ ⟨((cell_far (p := ⟨gb113, _, none⟩) NB101_113.out _).trans (((cell_far (p := ⟨gb113, _, none⟩) NB101_113.out _).trans (hHeld.1)))), ((cell_far (p := ⟨gb113, _, none⟩) NB101_113.out _).trans (((cell_far (p := ⟨gb113, _, none⟩) NB101_113.out _).trans (hHeld.2.1)))), ((cell_far (p := ⟨gb113, _, none⟩) NB102_113.out _).trans (((cell_far (p := ⟨gb113, _, none⟩) NB102_113.out _).trans (hHeld.2.2.1)))), ((cell_far (p := ⟨gb113, _, none⟩) NB102_113.out _).trans (((cell_far (p := ⟨gb113, _, none⟩) NB102_113.out _).trans (hHeld.2.2.2.1)))), ((cell_far (p := ⟨gb113, _, none⟩) NB102_113.out _).trans (((cell_far (p := ⟨gb113, _, none⟩) NB102_113.out _).trans (hHeld.2.2.2.2))))⟩ (fun hHeld => ?_)
    clear hK K
    refine done_ (done_of HT_.out (by kernel_rfl)) ?_
    have hnb24 := NB101_102.out
    have hnc24 := NB102_101.out
    have hnb25 := NB101_103.out
    have hnc25 := NB103_101.out
    have hnb26 := NB101_113.out
    have hnc26 := NB113_101.out
    have hcz27_0 : w20.cell? ⟨gb101, 0, none⟩ = some (.int .i64 a0_0) := (blk_cell BK101.out 0).trans rfl
    have hcz27_1 : w20.cell? ⟨gb101, 1, none⟩ = some (.slice A0_1 l0_1.length c0_1) := (blk_cell BK101.out 1).trans rfl
    have hfz27_0 := blk_frozen BK101.out 0
    have hfz27_1 := blk_frozen BK101.out 1
    try go_wp2_with (first | ((with_reducible refine gate_callee (f := 19) rfl ?_); refine goesL_ (some 17) rfl rfl Try.func19 (by kernel_rfl) rfl #[.agg #[.int .i64 a0_0, .slice A0_1 l0_1.length c0_1]] rfl ka ?_; (with_reducible refine (impl_IsPuzzle.calls k a0_0 _ _ l0_1 true _ ?side1 ?side2 A5.out).mono ?_); (case side1 => exact Kd.C_below HR0_1.out (kb4 HB GE101 GE102 GE103 GE113)); (case side2 => exact HC0_1.out); rintro e w28 ⟨rfl, hb⟩; refine ⟨_, rfl, ?_⟩; have n0_ := aM (Kd.R_below (by (with_reducible repeat (first | apply Kd.R_alloc | apply Kd.R_drewN | apply Kd.R_drew)); exact (Kd.R_mono (Kd.R_far (p := ⟨gb113, 1, none⟩) (Kd.R_far (p := ⟨gb113, 0, none⟩) (Kd.R_types HO109.out BK113.out (by decide)) (fun _ hk => hk.2) (.int .i64 a0_0)) (fun _ hk => hk.2) (.slice Ao21 y110.length co21)) (fun _ h_ => h_.1))) hb); have n1_ := aM (Kd.R_below (by (with_reducible repeat (first | apply Kd.R_alloc | apply Kd.R_drewN | apply Kd.R_drew)); exact (Kd.R_mono (Kd.R_far (p := ⟨gb113, 1, none⟩) (Kd.R_far (p := ⟨gb113, 0, none⟩) (Kd.R_types HO112.out BK113.out (by decide)) (fun _ hk => hk.2) (.int .i64 a0_0)) (fun _ hk => hk.2) (.slice Ao21 y110.length co21)) (fun _ h_ => h_.1))) hb); have n2_ := aM (blk_below (blk_far (p := ⟨gb113, 1, none⟩) (blk_far (p := ⟨gb113, 0, none⟩) BK101.out NB101_113.out _) NB101_113.out _) hb); have n3_ := aM (blk_below (blk_far (p := ⟨gb113, 1, none⟩) (blk_far (p := ⟨gb113, 0, none⟩) BK102.out NB102_113.out _) NB102_113.out _) hb); have n4_ := aM (blk_below (blk_far (p := ⟨gb113, 1, none⟩) (blk_far (p := ⟨gb113, 0, none⟩) BK103.out NB103_113.out _) NB103_113.out _) hb); have n5_ := aM (blk_below (g := gb113) (o := .cells #[.int .i64 a0_0, .slice Ao21 y110.length co21] 24 (0, 0)) (by (with_reducible repeat (first | refine blk_drewN ?_ _ | refine blk_drew ?_ | refine blk_alloc ?_ _)); refine blk_put (cs := #[.int .i64 a0_0, .slice none 0 0]) ?_ 1 _ rfl; (with_reducible repeat (first | refine blk_drewN ?_ _ | refine blk_drew ?_ | refine blk_alloc ?_ _)); refine blk_put (cs := #[.int .i64 0, .slice none 0 0]) ?_ 0 _ rfl; (with_reducible repeat (first | refine blk_drewN ?_ _ | refine blk_drew ?_ | refine blk_alloc ?_ _)); exact BK113.out) hb); have n6_ := aM (below_step (kb4 HB GE101 GE102 GE103 GE113) hb); clear HO109; clear HO112; clear BK101; clear BK102; clear BK103; clear BK113; clear HB; have HO109 := n0_; have HO112 := n1_; have BK101 := n2_; have BK102 := n3_; have BK103 := n4_; have BK113 := n5_; have HB := n6_; clear n0_ n1_ n2_ n3_ n4_ n5_ n6_; (try clear hb); (try clear hb2); (try clear hk); (try clear hi); have hnb29 := NB113_102.out; have hnc29 := NB102_113.out; have hnb30 := NB113_103.out; have hnc30 := NB103_113.out; have hcz31_0 : w28.cell? ⟨gb113, 0, none⟩ = some (.int .i64 a0_0) := (blk_cell BK113.out 0).trans rfl; have hcz31_1 : w28.cell? ⟨gb113, 1, none⟩ = some (.slice Ao21 y110.length co21) := (blk_cell BK113.out 1).trans rfl; have hfz31_0 := blk_frozen BK113.out 0; have hfz31_1 := blk_frozen BK113.out 1) | (go_at_call 19; (with_reducible refine (impl_IsPuzzle.calls k a0_0 _ _ y110 true _ ?side1 ?side2 A7.out).mono ?_); (case side1 => repeat (first | exact (Kd.R_reads' HO112.out).2.2 | (with_reducible refine Kd.C_alloc ?_ _) | (with_reducible refine Kd.C_drewN ?_ _) | (with_reducible refine Kd.C_drew ?_))); (case side2 => exact (Kd.R_reads' HO112.out).2.1); rintro e w32 ⟨rfl, hb⟩; have n0_ := aM (Kd.R_below (kr HO109) hb); have n1_ := aM (Kd.R_below (kr HO112) hb); have n2_ := aM (blk_below (kq BK101) hb); have n3_ := aM (blk_below (kq BK102) hb); have n4_ := aM (blk_below (kq BK103) hb); have n5_ := aM (blk_below (kq BK113) hb); have n6_ := aM (below_step (kb4 HB GE101 GE102 GE103 GE113) hb); clear HO109; clear HO112; clear BK101; clear BK102; clear BK103; clear BK113; clear HB; have HO109 := n0_; have HO112 := n1_; have BK101 := n2_; have BK102 := n3_; have BK103 := n4_; have BK113 := n5_; have HB := n6_; clear n0_ n1_ n2_ n3_ n4_ n5_ n6_; (try clear hb); (try clear hb2); (try clear hk); (try clear hi); have hcz33_0 : w32.cell? ⟨gb113, 0, none⟩ = some (.int .i64 a0_0) := (blk_cell BK113.out 0).trans rfl; have hcz33_1 : w32.cell? ⟨gb113, 1, none⟩ = some (.slice Ao21 y110.length co21) := (blk_cell BK113.out 1).trans rfl; have hfz33_0 := blk_frozen BK113.out 0; have hfz33_1 := blk_frozen BK113.out 1; have hnb34 := NB103_102.out; have hnc34 := NB102_103.out; have hcz35_0 : w32.cell? ⟨gb103, 0, none⟩ = some (.int .i64 0) := (blk_cell BK103.out 0).trans rfl; have hcz35_1 : w32.cell? ⟨gb103, 1, none⟩ = some (.slice none 0 0) := (blk_cell BK103.out 1).trans rfl; have hfz35_0 := blk_frozen BK103.out 0; have hfz35_1 := blk_frozen BK103.out 1))
    refine bodyPost_ret (results_ct rfl _ _ gb103 24 #[.int .i64 a0_0, .slice Ao21 y110.length co21] (0, 0) _ rfl (by (with_reducible repeat (first | refine blk_drewN ?_ _ | refine blk_drew ?_ | refine blk_alloc ?_ _)); refine blk_put (cs := #[.int .i64 a0_0, .slice none 0 0]) ?_ 1 _ rfl; (with_reducible repeat (first | refine blk_drewN ?_ _ | refine blk_drew ?_ | refine blk_alloc ?_ _)); refine blk_put (cs := #[.int .i64 0, .slice none 0 0]) ?_ 0 _ rfl; (with_reducible repeat (first | refine blk_drewN ?_ _ | refine blk_drew ?_ | refine blk_alloc ?_ _)); exact BK103.out) Try.underlying24 rfl (by kernel_rfl)) rfl ?_
    exact ⟨_, ea, by (with_reducible repeat (first | apply Kd.R_alloc | apply Kd.R_drewN | apply Kd.R_drew)); exact Kd.R_mono (Kd.R_far (p := ⟨gb103, 1, none⟩) (Kd.R_far (p := ⟨gb103, 0, none⟩) (Kd.R_types HO112.out BK103.out (by decide)) (fun _ hk => hk.2) (.int .i64 a0_0)) (fun _ hk => hk.2) (.slice Ao21 y110.length co21)) (fun _ hk => trivial), (kb4 HB GE101 GE102 GE103 GE113)⟩
   ·
    replace c8 := Bool.eq_false_iff.mpr c8
    subst c8
    have H1 : (some (0, ([] : List (S38)), false)) = some (r1, r2, r3) := by rw [if_neg (show ¬ (false = true) by decide)] at H; exact H
    clear H
    have H := H1
    clear H1
    simp only [Option.some.injEq, Prod.mk.injEq] at H
    obtain ⟨rfl, rfl, rfl⟩ := H
    go_enter Try.func16, Try.ntmps16
    try go_wp2_with (first | ((with_reducible refine gate_dst (N := 2) rfl ?_); refine box_event ?hg (N := 2) ?hd (cs := #[.int .i64 a0_0, .slice A0_1 l0_1.length c0_1]) (t := 24) ?hr ?_; (case hd => rfl); (case hg => rfl); (case hr => first | (go_simp; done) | (go_simp; rfl)); intro gb101 hg w36 hbox hb; have n0_ := aM (below_step (kb0 HB) hb); have n1_ := aM (hbox); have n2_ := aM ((by rw [hg]; exact (below_size (kb0 HB)) : w.heap.size ≤ gb101)); have n3_ := aM ((by rw [hg]; exact (below_size (kb0 HB)) : w.heap.size ≤ gb101)); clear HB; have HB := n0_; have BK101 := n1_; have GW101 := n2_; have GE101 := n3_; clear n0_ n1_ n2_ n3_; clear hb hbox hg) | ((with_reducible refine gate_dst (N := 3) rfl ?_); refine box_event ?hg (N := 3) ?hd (cs := #[.int .i64 a1_0, .int .i64 a1_1, .int .i64 a1_2]) (t := 38) ?hr ?_; (case hd => rfl); (case hg => rfl); (case hr => first | (go_simp; done) | (go_simp; rfl)); intro gb102 hg w37 hbox hb; have n0_ := aM (blk_below (kq BK101) hb); have n1_ := aM (below_step (kb1 HB GE101) hb); have n2_ := aM (hbox); have n3_ := aM ((by rw [hg]; exact (below_size (kb1 HB GE101)) : w.heap.size ≤ gb102)); have n4_ := aM ((by rw [hg]; exact (below_size (kb1 HB GE101)) : w.heap.size ≤ gb102)); have n5_ := aM ((by rw [hg]; exact Nat.ne_of_lt (blk_lt (kq BK101)) : gb101 ≠ gb102)); have n6_ := aM ((by rw [hg]; exact Nat.ne_of_gt (blk_lt (kq BK101)) : gb102 ≠ gb101)); clear BK101; clear HB; have BK101 := n0_; have HB := n1_; have BK102 := n2_; have GW102 := n3_; have GE102 := n4_; have NB101_102 := n5_; have NB102_101 := n6_; clear n0_ n1_ n2_ n3_ n4_ n5_ n6_; clear hb hbox hg) | ((with_reducible refine gate_dst (N := 4) rfl ?_); refine box_event ?hg (N := 4) ?hd (cs := #[.int .i64 0, .slice none 0 0]) (t := 24) ?hr ?_; (case hd => rfl); (case hg => rfl); (case hr => first | (go_simp; done) | (go_simp; rfl)); intro gb103 hg w38 hbox hb; have n0_ := aM (blk_below (kq BK101) hb); have n1_ := aM (blk_below (kq BK102) hb); have n2_ := aM (below_step (kb2 HB GE101 GE102) hb); have n3_ := aM (hbox); have n4_ := aM ((by rw [hg]; exact (below_size (kb2 HB GE101 GE102)) : w.heap.size ≤ gb103)); have n5_ := aM ((by rw [hg]; exact (below_size (kb2 HB GE101 GE102)) : w.heap.size ≤ gb103)); have n6_ := aM ((by rw [hg]; exact Nat.ne_of_lt (blk_lt (kq BK101)) : gb101 ≠ gb103)); have n7_ := aM ((by rw [hg]; exact Nat.ne_of_gt (blk_lt (kq BK101)) : gb103 ≠ gb101)); have n8_ := aM ((by rw [hg]; exact Nat.ne_of_lt (blk_lt (kq BK102)) : gb102 ≠ gb103)); have n9_ := aM ((by rw [hg]; exact Nat.ne_of_gt (blk_lt (kq BK102)) : gb103 ≠ gb102)); clear BK101; clear BK102; clear HB; have BK101 := n0_; have BK102 := n1_; have HB := n2_; have BK103 := n3_; have GW103 := n4_; have GE103 := n5_; have NB101_103 := n6_; have NB103_101 := n7_; have NB102_103 := n8_; have NB103_102 := n9_; clear n0_ n1_ n2_ n3_ n4_ n5_ n6_ n7_ n8_ n9_; clear hb hbox hg))
    have n0_ := aM (blk_drew BK101.out)
    have n1_ := aM (blk_drew BK102.out)
    have n2_ := aM (blk_drew BK103.out)
    have n3_ := aM (below_drew1 HB.out)
    clear BK101
    clear BK102
    clear BK103
    clear HB
    have BK101 := n0_
    have BK102 := n1_
    have BK103 := n2_
    have HB := n3_
    clear n0_ n1_ n2_ n3_
    refine start_ (n := 11) (S := fun w' => w'.cell? ⟨gb101, 0, none⟩ = some (.int .i64 a0_0) ∧ w'.cell? ⟨gb101, 1, none⟩ = some (.slice A0_1 l0_1.length c0_1) ∧ w'.cell? ⟨gb102, 0, none⟩ = some (.int .i64 a1_0) ∧ w'.cell? ⟨gb102, 1, none⟩ = some (.int .i64 a1_1) ∧ w'.cell? ⟨gb102, 2, none⟩ = some (.int .i64 a1_2)) (ds := []) #[false, false, false, false, false, false, false, false, false, false, false] (by kernel_rfl) rfl rfl ⟨(blk_cell BK101.out 0).trans rfl, (blk_cell BK101.out 1).trans rfl, (blk_cell BK102.out 0).trans rfl, (blk_cell BK102.out 1).trans rfl, (blk_cell BK102.out 2).trans rfl⟩ (fun hHeld => ?_); refine with_tabW impl_AddClue.tab1 impl_AddClue.bits1 (fun HT_ HW_ => ?_)
    generalize w38.drew = w39 at BK101 BK102 BK103 HB hHeld ⊢
    refine pure_ (i := 0) (N := some 7) (v := ?_) (a' := ?_) #[true, false, false, false, false, false, false, false, false, false, false] rfl rfl (any_of HT_.out (by kernel_rfl)) (fun _ _ _ h => h) (Or.inl ⟨by rfl, ?_⟩) ?_ ?_
    rotate_left
    ·
     intro w'
     go_simp
     with_reducible rfl
    rotate_left
    ·
     simp only [Act.put, q1, q2, q3, i64_w, i32_w]
     rfl
    refine pure_ (i := 2) (N := some 9) (v := ?_) (a' := ?_) #[true, false, true, false, false, false, false, false, false, false, false] rfl rfl (any_of HT_.out (by kernel_rfl)) (fun _ _ _ h => h) (Or.inl ⟨by rfl, ?_⟩) ?_ ?_
    rotate_left
    ·
     intro w'
     go_simp
     with_reducible rfl
    rotate_left
    ·
     simp only [Act.put, q1, q2, q3, i64_w, i32_w]
     rfl
    refine take_ (i := 1) (N := some 8) (v := ?_) (a' := ?_) #[true, true, true, false, false, false, false, false, false, false, false] rfl rfl (take_ofW HT_.out HW_.out (by kernel_rfl)) (fun _ _ _ h => h) (Or.inl ⟨by rfl, ?_⟩) hHeld ?_ ?_
    rotate_left
    ·
     rintro w' ⟨s0, s1, s2, s3, s4⟩
     go_simp
     with_reducible rfl
    rotate_left
    ·
     simp only [Act.put, q1, q2, q3, i64_w, i32_w]
     rfl
    refine take_ (i := 3) (N := some 10) (v := ?_) (a' := ?_) #[true, true, true, true, false, false, false, false, false, false, false] rfl rfl (take_ofW HT_.out HW_.out (by kernel_rfl)) (fun _ _ _ h => h) (Or.inl ⟨by rfl, ?_⟩) hHeld ?_ ?_
    rotate_left
    ·
     rintro w' ⟨s0, s1, s2, s3, s4⟩
     go_simp
     with_reducible rfl
    rotate_left
    ·
     simp only [Act.put, q1, q2, q3, i64_w, i32_w]
     rfl
    refine take_ (i := 5) (N := some 12) (v := ?_) (a' := ?_) #[true, true, true, true, false, true, false, false, false, false, false] rfl rfl (take_ofW HT_.out HW_.out (by kernel_rfl)) (fun _ _ _ h => h) (Or.inl ⟨by rfl, ?_⟩) hHeld ?_ ?_
    rotate_left
    ·
     rintro w' ⟨s0, s1, s2, s3, s4⟩
     go_simp
     with_reducible rfl
    rotate_left
    ·
     simp only [Act.put, q1, q2, q3, i64_w, i32_w]
     rfl
    refine join_ (σ := Value × Value × Value × Nat) 1 #[true, true, true, true, true, true, true, true, true, true, false] (fun s_ => [(11, s_.1), (13, s_.2.1), (14, s_.2.2.1), (6, .pointer (some ⟨s_.2.2.2, 0, none⟩)), (15, .agg #[.int .i64 a0_0, s_.2.2.1])]) (fun s_ w' => (w'.cell? ⟨gb101, 0, none⟩ = some (.int .i64 a0_0) ∧ w'.cell? ⟨gb101, 1, none⟩ = some (.slice A0_1 l0_1.length c0_1) ∧ w'.cell? ⟨gb102, 0, none⟩ = some (.int .i64 a1_0) ∧ w'.cell? ⟨gb102, 1, none⟩ = some (.int .i64 a1_1) ∧ w'.cell? ⟨gb102, 2, none⟩ = some (.int .i64 a1_2)) ∧ (Kd.R k38 38 w' w.heap.size (fun k_ => some k_ ≠ (s_.2.2.1 : Value).ownBlock ∧ k_ ≠ gb102) s_.2.1 y107) ∧ (Kd.R k38 38 w' w.heap.size (fun k_ => some k_ ≠ (s_.2.1 : Value).ownBlock ∧ k_ ≠ gb102) s_.2.2.1 y110) ∧ (w'.heap[gb101]? = some (.cells #[.int .i64 a0_0, .slice A0_1 l0_1.length c0_1] 24 (0, 0))) ∧ (w'.heap[gb102]? = some (.cells #[.int .i64 a1_0, .int .i64 a1_1, .int .i64 a1_2] 38 (0, 0))) ∧ (w'.heap[gb103]? = some (.cells #[.int .i64 0, .slice none 0 0] 24 (0, 0))) ∧ (w'.heap[s_.2.2.2]? = some (.cells #[.int .i64 0, .slice none 0 0] 24 (0, 0))) ∧ (w.heap.size ≤ s_.2.2.2) ∧ (w.heap.size ≤ s_.2.2.2) ∧ (gb101 ≠ s_.2.2.2) ∧ (s_.2.2.2 ≠ gb101) ∧ (gb102 ≠ s_.2.2.2) ∧ (s_.2.2.2 ≠ gb102) ∧ (gb103 ≠ s_.2.2.2) ∧ (s_.2.2.2 ≠ gb103) ∧ (Below w.heap.size w w')) ?_ ?_
    rotate_left
    ·
     intro hJ4_6_7_9
     refine join_ (σ := Value × Value × Value) 2 #[true, true, true, true, true, true, true, true, true, false, false] (fun s_ => [(11, s_.1), (13, s_.2.1), (14, s_.2.2), (15, .agg #[.int .i64 a0_0, s_.2.2])]) (fun s_ w' => (w'.cell? ⟨gb101, 0, none⟩ = some (.int .i64 a0_0) ∧ w'.cell? ⟨gb101, 1, none⟩ = some (.slice A0_1 l0_1.length c0_1) ∧ w'.cell? ⟨gb102, 0, none⟩ = some (.int .i64 a1_0) ∧ w'.cell? ⟨gb102, 1, none⟩ = some (.int .i64 a1_1) ∧ w'.cell? ⟨gb102, 2, none⟩ = some (.int .i64 a1_2)) ∧ (Kd.R k38 38 w' w.heap.size (fun k_ => some k_ ≠ (s_.2.2 : Value).ownBlock ∧ k_ ≠ gb102) s_.2.1 y107) ∧ (Kd.R k38 38 w' w.heap.size (fun k_ => some k_ ≠ (s_.2.1 : Value).ownBlock ∧ k_ ≠ gb102) s_.2.2 y110) ∧ (w'.heap[gb101]? = some (.cells #[.int .i64 a0_0, .slice A0_1 l0_1.length c0_1] 24 (0, 0))) ∧ (w'.heap[gb102]? = some (.cells #[.int .i64 a1_0, .int .i64 a1_1, .int .i64 a1_2] 38 (0, 0))) ∧ (w'.heap[gb103]? = some (.cells #[.int .i64 0, .slice none 0 0] 24 (0, 0))) ∧ (Below w.heap.size w w')) ?_ ?_
     rotate_left
     ·
      intro hJ4_6_7
      refine join_ (σ := Value × Value × Nat) 3 #[true, true, true, true, true, true, true, false, false, true, false] (fun s_ => [(11, s_.1), (13, s_.2.1), (6, .pointer (some ⟨s_.2.2, 0, none⟩))]) (fun s_ w' => (w'.cell? ⟨gb101, 0, none⟩ = some (.int .i64 a0_0) ∧ w'.cell? ⟨gb101, 1, none⟩ = some (.slice A0_1 l0_1.length c0_1) ∧ w'.cell? ⟨gb102, 0, none⟩ = some (.int .i64 a1_0) ∧ w'.cell? ⟨gb102, 1, none⟩ = some (.int .i64 a1_1) ∧ w'.cell? ⟨gb102, 2, none⟩ = some (.int .i64 a1_2)) ∧ (Kd.R k38 38 w' w.heap.size (fun k_ => some k_ ≠ (s_.2.1 : Value).ownBlock ∧ k_ ≠ gb102) s_.1 t104) ∧ (Kd.R k38 38 w' w.heap.size (fun k_ => some k_ ≠ (s_.1 : Value).ownBlock ∧ k_ ≠ gb102) s_.2.1 y107) ∧ (w'.heap[gb101]? = some (.cells #[.int .i64 a0_0, .slice A0_1 l0_1.length c0_1] 24 (0, 0))) ∧ (w'.heap[gb102]? = some (.cells #[.int .i64 a1_0, .int .i64 a1_1, .int .i64 a1_2] 38 (0, 0))) ∧ (w'.heap[gb103]? = some (.cells #[.int .i64 0, .slice none 0 0] 24 (0, 0))) ∧ (w'.heap[s_.2.2]? = some (.cells #[.int .i64 0, .slice none 0 0] 24 (0, 0))) ∧ (w.heap.size ≤ s_.2.2) ∧ (w.heap.size ≤ s_.2.2) ∧ (gb101 ≠ s_.2.2) ∧ (s_.2.2 ≠ gb101) ∧ (gb102 ≠ s_.2.2) ∧ (s_.2.2 ≠ gb102) ∧ (gb103 ≠ s_.2.2) ∧ (s_.2.2 ≠ gb103) ∧ (Below w.heap.size w w')) ?_ ?_
      rotate_left
      ·
       intro hJ4_6_9
       refine join_ (σ := Value × Value) 4 #[true, true, true, true, true, true, true, false, false, false, false] (fun s_ => [(11, s_.1), (13, s_.2)]) (fun s_ w' => (w'.cell? ⟨gb101, 0, none⟩ = some (.int .i64 a0_0) ∧ w'.cell? ⟨gb101, 1, none⟩ = some (.slice A0_1 l0_1.length c0_1) ∧ w'.cell? ⟨gb102, 0, none⟩ = some (.int .i64 a1_0) ∧ w'.cell? ⟨gb102, 1, none⟩ = some (.int .i64 a1_1) ∧ w'.cell? ⟨gb102, 2, none⟩ = some (.int .i64 a1_2)) ∧ (Kd.R k38 38 w' w.heap.size (fun k_ => some k_ ≠ (s_.2 : Value).ownBlock ∧ k_ ≠ gb102) s_.1 t104) ∧ (Kd.R k38 38 w' w.heap.size (fun k_ => some k_ ≠ (s_.1 : Value).ownBlock ∧ k_ ≠ gb102) s_.2 y107) ∧ (w'.heap[gb101]? = some (.cells #[.int .i64 a0_0, .slice A0_1 l0_1.length c0_1] 24 (0, 0))) ∧ (w'.heap[gb102]? = some (.cells #[.int .i64 a1_0, .int .i64 a1_1, .int .i64 a1_2] 38 (0, 0))) ∧ (w'.heap[gb103]? = some (.cells #[.int .i64 0, .slice none 0 0] 24 (0, 0))) ∧ (Below w.heap.size w w')) ?_ ?_
       rotate_left
       ·
        intro hJ4_6
        refine join_ (σ := Value × Nat) 4 #[true, true, true, true, true, true, false, false, false, true, false] (fun s_ => [(11, s_.1), (6, .pointer (some ⟨s_.2, 0, none⟩))]) (fun s_ w' => (w'.cell? ⟨gb101, 0, none⟩ = some (.int .i64 a0_0) ∧ w'.cell? ⟨gb101, 1, none⟩ = some (.slice A0_1 l0_1.length c0_1) ∧ w'.cell? ⟨gb102, 0, none⟩ = some (.int .i64 a1_0) ∧ w'.cell? ⟨gb102, 1, none⟩ = some (.int .i64 a1_1) ∧ w'.cell? ⟨gb102, 2, none⟩ = some (.int .i64 a1_2)) ∧ (Kd.R k38 38 w' w.heap.size (fun k_ => k_ ≠ gb102) s_.1 t104) ∧ (w'.heap[gb101]? = some (.cells #[.int .i64 a0_0, .slice A0_1 l0_1.length c0_1] 24 (0, 0))) ∧ (w'.heap[gb102]? = some (.cells #[.int .i64 a1_0, .int .i64 a1_1, .int .i64 a1_2] 38 (0, 0))) ∧ (w'.heap[gb103]? = some (.cells #[.int .i64 0, .slice none 0 0] 24 (0, 0))) ∧ (w'.heap[s_.2]? = some (.cells #[.int .i64 0, .slice none 0 0] 24 (0, 0))) ∧ (w.heap.size ≤ s_.2) ∧ (w.heap.size ≤ s_.2) ∧ (gb101 ≠ s_.2) ∧ (s_.2 ≠ gb101) ∧ (gb102 ≠ s_.2) ∧ (s_.2 ≠ gb102) ∧ (gb103 ≠ s_.2) ∧ (s_.2 ≠ gb103) ∧ (Below w.heap.size w w')) ?_ ?_
        rotate_left
        ·
         intro hJ4_9
         refine join_ (σ := Value × Nat) 4 #[true, true, true, true, false, true, true, false, false, true, false] (fun s_ => [(13, s_.1), (6, .pointer (some ⟨s_.2, 0, none⟩))]) (fun s_ w' => (w'.cell? ⟨gb101, 0, none⟩ = some (.int .i64 a0_0) ∧ w'.cell? ⟨gb101, 1, none⟩ = some (.slice A0_1 l0_1.length c0_1) ∧ w'.cell? ⟨gb102, 0, none⟩ = some (.int .i64 a1_0) ∧ w'.cell? ⟨gb102, 1, none⟩ = some (.int .i64 a1_1) ∧ w'.cell? ⟨gb102, 2, none⟩ = some (.int .i64 a1_2)) ∧ (Kd.R k38 38 w' w.heap.size (fun k_ => k_ ≠ gb102) s_.1 y107) ∧ (w'.heap[gb101]? = some (.cells #[.int .i64 a0_0, .slice A0_1 l0_1.length c0_1] 24 (0, 0))) ∧ (w'.heap[gb102]? = some (.cells #[.int .i64 a1_0, .int .i64 a1_1, .int .i64 a1_2] 38 (0, 0))) ∧ (w'.heap[gb103]? = some (.cells #[.int .i64 0, .slice none 0 0] 24 (0, 0))) ∧ (w'.heap[s_.2]? = some (.cells #[.int .i64 0, .slice none 0 0] 24 (0, 0))) ∧ (w.heap.size ≤ s_.2) ∧ (w.heap.size ≤ s_.2) ∧ (gb101 ≠ s_.2) ∧ (s_.2 ≠ gb101) ∧ (gb102 ≠ s_.2) ∧ (s_.2 ≠ gb102) ∧ (gb103 ≠ s_.2) ∧ (s_.2 ≠ gb103) ∧ (Below w.heap.size w w')) ?_ ?_
         rotate_left
         ·
          intro hJ6_9
          refine join_ (σ := Value) 5 #[true, true, true, true, true, true, false, false, false, false, false] (fun s_ => [(11, s_)]) (fun s_ w' => (w'.cell? ⟨gb101, 0, none⟩ = some (.int .i64 a0_0) ∧ w'.cell? ⟨gb101, 1, none⟩ = some (.slice A0_1 l0_1.length c0_1) ∧ w'.cell? ⟨gb102, 0, none⟩ = some (.int .i64 a1_0) ∧ w'.cell? ⟨gb102, 1, none⟩ = some (.int .i64 a1_1) ∧ w'.cell? ⟨gb102, 2, none⟩ = some (.int .i64 a1_2)) ∧ (Kd.R k38 38 w' w.heap.size (fun k_ => k_ ≠ gb102) s_ t104) ∧ (w'.heap[gb101]? = some (.cells #[.int .i64 a0_0, .slice A0_1 l0_1.length c0_1] 24 (0, 0))) ∧ (w'.heap[gb102]? = some (.cells #[.int .i64 a1_0, .int .i64 a1_1, .int .i64 a1_2] 38 (0, 0))) ∧ (w'.heap[gb103]? = some (.cells #[.int .i64 0, .slice none 0 0] 24 (0, 0))) ∧ (Below w.heap.size w w')) ?_ ?_
          rotate_left
          ·
           intro hJ4
           refine join_ (σ := Value) 5 #[true, true, true, true, false, true, true, false, false, false, false] (fun s_ => [(13, s_)]) (fun s_ w' => (w'.cell? ⟨gb101, 0, none⟩ = some (.int .i64 a0_0) ∧ w'.cell? ⟨gb101, 1, none⟩ = some (.slice A0_1 l0_1.length c0_1) ∧ w'.cell? ⟨gb102, 0, none⟩ = some (.int .i64 a1_0) ∧ w'.cell? ⟨gb102, 1, none⟩ = some (.int .i64 a1_1) ∧ w'.cell? ⟨gb102, 2, none⟩ = some (.int .i64 a1_2)) ∧ (Kd.R k38 38 w' w.heap.size (fun k_ => k_ ≠ gb102) s_ y107) ∧ (w'.heap[gb101]? = some (.cells #[.int .i64 a0_0, .slice A0_1 l0_1.length c0_1] 24 (0, 0))) ∧ (w'.heap[gb102]? = some (.cells #[.int .i64 a1_0, .int .i64 a1_1, .int .i64 a1_2] 38 (0, 0))) ∧ (w'.heap[gb103]? = some (.cells #[.int .i64 0, .slice none 0 0] 24 (0, 0))) ∧ (Below w.heap.size w w')) ?_ ?_
           rotate_left
           ·
            intro hJ6
            refine join_ (σ := Nat) 5 #[true, true, true, true, false, true, false, false, false, true, false] (fun s_ => [(6, .pointer (some ⟨s_, 0, none⟩))]) (fun s_ w' => (w'.cell? ⟨gb101, 0, none⟩ = some (.int .i64 a0_0) ∧ w'.cell? ⟨gb101, 1, none⟩ = some (.slice A0_1 l0_1.length c0_1) ∧ w'.cell? ⟨gb102, 0, none⟩ = some (.int .i64 a1_0) ∧ w'.cell? ⟨gb102, 1, none⟩ = some (.int .i64 a1_1) ∧ w'.cell? ⟨gb102, 2, none⟩ = some (.int .i64 a1_2)) ∧ (w'.heap[gb101]? = some (.cells #[.int .i64 a0_0, .slice A0_1 l0_1.length c0_1] 24 (0, 0))) ∧ (w'.heap[gb102]? = some (.cells #[.int .i64 a1_0, .int .i64 a1_1, .int .i64 a1_2] 38 (0, 0))) ∧ (w'.heap[gb103]? = some (.cells #[.int .i64 0, .slice none 0 0] 24 (0, 0))) ∧ (w'.heap[s_]? = some (.cells #[.int .i64 0, .slice none 0 0] 24 (0, 0))) ∧ (w.heap.size ≤ s_) ∧ (w.heap.size ≤ s_) ∧ (gb101 ≠ s_) ∧ (s_ ≠ gb101) ∧ (gb102 ≠ s_) ∧ (s_ ≠ gb102) ∧ (gb103 ≠ s_) ∧ (s_ ≠ gb103) ∧ (Below w.heap.size w w')) ?_ ?_
            rotate_left
            ·
             intro hJ9
             refine three_ (i := 4) (j := 6) (k := 9) (Ni := some 11) (Nj := some 13) (Nk := some 6) #[true, true, true, true, true, true, false, false, false, false, false] #[true, true, true, true, false, true, true, false, false, false, false] #[true, true, true, true, false, true, false, false, false, true, false] rfl rfl rfl rfl rfl rfl (three_of HT_.out (by kernel_rfl)) (by decide) (by decide) (by decide) (fun K hK => ?_) (fun K hK => ?_) (fun K hK => ?_)
             ·
              skip
              refine goes_ Try.func52 (by kernel_rfl) rfl #[.slice A0_1 l0_1.length c0_1] (by rfl) rfl rfl ka ?_
              with_reducible refine (slices_Clone_impl_Clue.calls _ _ l0_1 t104 _ ?side1 ?side2 A3.out).mono ?_
              (case side1 => repeat (first | exact (Kd.C_below HR0_1.out HB.out) | (with_reducible refine Kd.C_alloc ?_ _) | (with_reducible refine Kd.C_drewN ?_ _) | (with_reducible refine Kd.C_drew ?_)))
              (case side2 => exact HC0_1.out)
              rintro e w40 ⟨v105, rfl, ho0, hb⟩
              refine ⟨_, rfl, ?_⟩
              have n0_ := aM (Kd.R_lower (Kd.R_newB ho0 (g := gb102) (o := .cells #[.int .i64 a1_0, .int .i64 a1_1, .int .i64 a1_2] 38 (0, 0)) (kq BK102)) (below_size (kb3 HB GE101 GE102 GE103)))
              have n1_ := aM (blk_below (kq BK101) hb)
              have n2_ := aM (blk_below (kq BK102) hb)
              have n3_ := aM (blk_below (kq BK103) hb)
              have n4_ := aM (below_step (kb3 HB GE101 GE102 GE103) hb)
              clear BK101
              clear BK102
              clear BK103
              clear HB
              have HO106 := n0_
              have BK101 := n1_
              have BK102 := n2_
              have BK103 := n3_
              have HB := n4_
              clear n0_ n1_ n2_ n3_ n4_
              (try clear hb)
              (try clear hb2)
              (try clear hk)
              (try clear hi)
              (try clear ho0)
              refine hK.out _ _ ⟨(blk_cell BK101.out 0).trans rfl, (blk_cell BK101.out 1).trans rfl, (blk_cell BK102.out 0).trans rfl, (blk_cell BK102.out 1).trans rfl, (blk_cell BK102.out 2).trans rfl⟩ (fun hHeld => ?_)
              clear hK K
              refine norm_ (a' := ?_) ?_ ?_
              rotate_left
              ·
               show Act.put _ (some 11) _ = _
               simp only [Act.put, q1, q2, q3, i64_w, i32_w]
               rfl
              exact norm_ (by first | (simp only [putAll, Act.put, q1, q2, q3]; done) | (simp only [putAll, Act.put, q1, q2, q3]; rfl)) (hJ4 (v105) _ ⟨hHeld, (by (with_reducible repeat (first | apply Kd.R_alloc | apply Kd.R_drewN | apply Kd.R_drew)); exact Kd.R_mono HO106.out (fun _ hk => hk.2)), (kq BK101), (kq BK102), (kq BK103), (kb3 HB GE101 GE102 GE103)⟩)
             ·
              skip
              refine Kd.R_lit_step k38 _ 38 ?hg (N := 13) ?hd (xs := ([(⟨a1_0, a1_1, a1_2⟩ : S38)] : List (S38))) (inner := [.int .i64 a1_0, .int .i64 a1_1, .int .i64 a1_2]) (ok := fun _ => True) (okp := fun _ => True) ?hr ?hp (fun _ hk => hk) trivial (Below.refl _ _) (Nat.le_refl _) (by simp) ?_; (case hd => rfl); (case hg => rfl); (case hr => first | (go_simp; done) | (go_simp; rfl)); (case hp => exact (Reps.c3 (show Kd.M k38 _ _ _ (⟨a1_0, a1_1, a1_2⟩ : S38) [.int .i64 a1_0, .int .i64 a1_1, .int .i64 a1_2] from (k38_mkM _ _ _ (⟨a1_0, a1_1, a1_2⟩ : S38) )) (Reps.none _ _)))
              intro v108 w40 ho41 hb hg_ hnew_
              clear hg_ hnew_
              (first | rw [← Ny107.out] at ho41 | (simp only [Int.reduceToNat] at ho41; rw [← Ny107.out] at ho41))
              have n0_ := aM (Kd.R_lower (Kd.R_newB ho41 (g := gb102) (o := .cells #[.int .i64 a1_0, .int .i64 a1_1, .int .i64 a1_2] 38 (0, 0)) (kq BK102)) (below_size (kb3 HB GE101 GE102 GE103)))
              have n1_ := aM (blk_below (kq BK101) hb)
              have n2_ := aM (blk_below (kq BK102) hb)
              have n3_ := aM (blk_below (kq BK103) hb)
              have n4_ := aM (below_step (kb3 HB GE101 GE102 GE103) hb)
              clear BK101
              clear BK102
              clear BK103
              clear HB
              have HO109 := n0_
              have BK101 := n1_
              have BK102 := n2_
              have BK103 := n3_
              have HB := n4_
              clear n0_ n1_ n2_ n3_ n4_
              clear hb ho41
              refine hK.out _ _ ⟨(blk_cell BK101.out 0).trans rfl, (blk_cell BK101.out 1).trans rfl, (blk_cell BK102.out 0).trans rfl, (blk_cell BK102.out 1).trans rfl, (blk_cell BK102.out 2).trans rfl⟩ (fun hHeld => ?_)
              clear hK K
              refine norm_ (a' := ?_) ?_ ?_
              rotate_left
              ·
               show Act.put _ (some 13) _ = _
               simp only [Act.put, q1, q2, q3, i64_w, i32_w]
               rfl
              exact norm_ (by first | (simp only [putAll, Act.put, q1, q2, q3]; done) | (simp only [putAll, Act.put, q1, q2, q3]; rfl)) (hJ6 (v108) _ ⟨hHeld, (by (with_reducible repeat (first | apply Kd.R_alloc | apply Kd.R_drewN | apply Kd.R_drew)); exact Kd.R_mono HO109.out (fun _ hk => hk.2)), (kq BK101), (kq BK102), (kq BK103), (kb3 HB GE101 GE102 GE103)⟩)
             ·
              skip
              refine box_step ?hg (N := 6) ?hd (cs := #[.int .i64 0, .slice none 0 0]) (t := 24) ?hr ?_; (case hd => rfl); (case hg => rfl); (case hr => first | (go_simp; done) | (go_simp; rfl))
              intro gb113 hg w40 hbox hb
              have n0_ := aM (blk_below (kq BK101) hb)
              have n1_ := aM (blk_below (kq BK102) hb)
              have n2_ := aM (blk_below (kq BK103) hb)
              have n3_ := aM (below_step (kb3 HB GE101 GE102 GE103) hb)
              have n4_ := aM (hbox)
              have n5_ := aM ((by rw [hg]; exact (below_size (kb3 HB GE101 GE102 GE103)) : w.heap.size ≤ gb113))
              have n6_ := aM ((by rw [hg]; exact (below_size (kb3 HB GE101 GE102 GE103)) : w.heap.size ≤ gb113))
              have n7_ := aM ((by rw [hg]; exact Nat.ne_of_lt (blk_lt (kq BK101)) : gb101 ≠ gb113))
              have n8_ := aM ((by rw [hg]; exact Nat.ne_of_gt (blk_lt (kq BK101)) : gb113 ≠ gb101))
              have n9_ := aM ((by rw [hg]; exact Nat.ne_of_lt (blk_lt (kq BK102)) : gb102 ≠ gb113))
              have n10_ := aM ((by rw [hg]; exact Nat.ne_of_gt (blk_lt (kq BK102)) : gb113 ≠ gb102))
              have n11_ := aM ((by rw [hg]; exact Nat.ne_of_lt (blk_lt (kq BK103)) : gb103 ≠ gb113))
              have n12_ := aM ((by rw [hg]; exact Nat.ne_of_gt (blk_lt (kq BK103)) : gb113 ≠ gb103))
              clear BK101
              clear BK102
              clear BK103
              clear HB
              have BK101 := n0_
              have BK102 := n1_
              have BK103 := n2_
              have HB := n3_
              have BK113 := n4_
              have GW113 := n5_
              have GE113 := n6_
              have NB101_113 := n7_
              have NB113_101 := n8_
              have NB102_113 := n9_
              have NB113_102 := n10_
              have NB103_113 := n11_
              have NB113_103 := n12_
              clear n0_ n1_ n2_ n3_ n4_ n5_ n6_ n7_ n8_ n9_ n10_ n11_ n12_
              clear hb hbox hg
              refine hK.out _ _ ⟨(blk_cell BK101.out 0).trans rfl, (blk_cell BK101.out 1).trans rfl, (blk_cell BK102.out 0).trans rfl, (blk_cell BK102.out 1).trans rfl, (blk_cell BK102.out 2).trans rfl⟩ (fun hHeld => ?_)
              clear hK K
              refine norm_ (a' := ?_) ?_ ?_
              rotate_left
              ·
               show Act.put _ (some 6) _ = _
               simp only [Act.put, q1, q2, q3, i64_w, i32_w]
               rfl
              exact norm_ (by first | (simp only [putAll, Act.put, q1, q2, q3]; done) | (simp only [putAll, Act.put, q1, q2, q3]; rfl)) (hJ9 (gb113) _ ⟨hHeld, (kq BK101), (kq BK102), (kq BK103), (kq BK113), GW113.out, GE113.out, NB101_113.out, NB113_101.out, NB102_113.out, NB113_102.out, NB103_113.out, NB113_103.out, (kb4 HB GE101 GE102 GE103 GE113)⟩)
            ·
             skip
             rintro gb113 w41 ⟨hS_, h0_, h1_, h2_, h3_, h4_, h5_, h6_, h7_, h8_, h9_, h10_, h11_, h12_⟩
             have n0_ : Aside0 (w41.heap[gb101]? = some (.cells #[.int .i64 a0_0, .slice A0_1 l0_1.length c0_1] 24 (0, 0))) := ⟨h0_⟩
             have n1_ : Aside0 (w41.heap[gb102]? = some (.cells #[.int .i64 a1_0, .int .i64 a1_1, .int .i64 a1_2] 38 (0, 0))) := ⟨h1_⟩
             have n2_ : Aside0 (w41.heap[gb103]? = some (.cells #[.int .i64 0, .slice none 0 0] 24 (0, 0))) := ⟨h2_⟩
             have n3_ : Aside0 (w41.heap[gb113]? = some (.cells #[.int .i64 0, .slice none 0 0] 24 (0, 0))) := ⟨h3_⟩
             have n4_ : Aside0 (w.heap.size ≤ gb113) := ⟨h4_⟩
             have n5_ : Aside0 (w.heap.size ≤ gb113) := ⟨h5_⟩
             have n6_ : Aside0 (gb101 ≠ gb113) := ⟨h6_⟩
             have n7_ : Aside0 (gb113 ≠ gb101) := ⟨h7_⟩
             have n8_ : Aside0 (gb102 ≠ gb113) := ⟨h8_⟩
             have n9_ : Aside0 (gb113 ≠ gb102) := ⟨h9_⟩
             have n10_ : Aside0 (gb103 ≠ gb113) := ⟨h10_⟩
             have n11_ : Aside0 (gb113 ≠ gb103) := ⟨h11_⟩
             have n12_ : Aside0 (Below w.heap.size w w41) := ⟨h12_⟩
             clear BK101
             clear BK102
             clear BK103
             clear HB
             clear h0_ h1_ h2_ h3_ h4_ h5_ h6_ h7_ h8_ h9_ h10_ h11_ h12_
             have BK101 := n0_
             have BK102 := n1_
             have BK103 := n2_
             have BK113 := n3_
             have GW113 := n4_
             have GE113 := n5_
             have NB101_113 := n6_
             have NB113_101 := n7_
             have NB102_113 := n8_
             have NB113_102 := n9_
             have NB103_113 := n10_
             have NB113_103 := n11_
             have HB := n12_
             clear n0_ n1_ n2_ n3_ n4_ n5_ n6_ n7_ n8_ n9_ n10_ n11_ n12_
             have hHeld : w41.cell? ⟨gb101, 0, none⟩ = some (.int .i64 a0_0) ∧ w41.cell? ⟨gb101, 1, none⟩ = some (.slice A0_1 l0_1.length c0_1) ∧ w41.cell? ⟨gb102, 0, none⟩ = some (.int .i64 a1_0) ∧ w41.cell? ⟨gb102, 1, none⟩ = some (.int .i64 a1_1) ∧ w41.cell? ⟨gb102, 2, none⟩ = some (.int .i64 a1_2) := hS_
             refine norm_ (a' := ?_) ?_ ?_
             rotate_left
             ·
              simp only [putAll, Act.put, q1, q2, q3]
              rfl
             refine two_ (i := 4) (j := 6) (Ni := some 11) (Nj := some 13) #[true, true, true, true, true, true, false, false, false, true, false] #[true, true, true, true, false, true, true, false, false, true, false] rfl rfl rfl rfl (two_of HT_.out (by kernel_rfl)) (by decide) (by decide) (fun K hK => ?_) (fun K hK => ?_)
             ·
              skip
              refine goes_ Try.func52 (by kernel_rfl) rfl #[.slice A0_1 l0_1.length c0_1] (by rfl) rfl rfl ka ?_
              with_reducible refine (slices_Clone_impl_Clue.calls _ _ l0_1 t104 _ ?side1 ?side2 A3.out).mono ?_
              (case side1 => repeat (first | exact (Kd.C_below HR0_1.out HB.out) | (with_reducible refine Kd.C_alloc ?_ _) | (with_reducible refine Kd.C_drewN ?_ _) | (with_reducible refine Kd.C_drew ?_)))
              (case side2 => exact HC0_1.out)
              rintro e w42 ⟨v105, rfl, ho0, hb⟩
              refine ⟨_, rfl, ?_⟩
              have n0_ := aM (Kd.R_lower (Kd.R_newB ho0 (g := gb102) (o := .cells #[.int .i64 a1_0, .int .i64 a1_1, .int .i64 a1_2] 38 (0, 0)) (kq BK102)) (below_size (kb4 HB GE101 GE102 GE103 GE113)))
              have n1_ := aM (blk_below (kq BK101) hb)
              have n2_ := aM (blk_below (kq BK102) hb)
              have n3_ := aM (blk_below (kq BK103) hb)
              have n4_ := aM (blk_below (kq BK113) hb)
              have n5_ := aM (below_step (kb4 HB GE101 GE102 GE103 GE113) hb)
              clear BK101
              clear BK102
              clear BK103
              clear BK113
              clear HB
              have HO106 := n0_
              have BK101 := n1_
              have BK102 := n2_
              have BK103 := n3_
              have BK113 := n4_
              have HB := n5_
              clear n0_ n1_ n2_ n3_ n4_ n5_
              (try clear hb)
              (try clear hb2)
              (try clear hk)
              (try clear hi)
              (try clear ho0)
              refine hK.out _ _ ⟨(blk_cell BK101.out 0).trans rfl, (blk_cell BK101.out 1).trans rfl, (blk_cell BK102.out 0).trans rfl, (blk_cell BK102.out 1).trans rfl, (blk_cell BK102.out 2).trans rfl⟩ (fun hHeld => ?_)
              clear hK K
              refine norm_ (a' := ?_) ?_ ?_
              rotate_left
              ·
               show Act.put _ (some 11) _ = _
               simp only [Act.put, q1, q2, q3, i64_w, i32_w]
               rfl
              exact norm_ (by first | (simp only [putAll, Act.put, q1, q2, q3]; done) | (simp only [putAll, Act.put, q1, q2, q3]; rfl)) (hJ4_9 (v105, gb113) _ ⟨hHeld, (by (with_reducible repeat (first | apply Kd.R_alloc | apply Kd.R_drewN | apply Kd.R_drew)); exact Kd.R_mono HO106.out (fun _ hk => hk.2)), (kq BK101), (kq BK102), (kq BK103), (kq BK113), GW113.out, GE113.out, NB101_113.out, NB113_101.out, NB102_113.out, NB113_102.out, NB103_113.out, NB113_103.out, (kb4 HB GE101 GE102 GE103 GE113)⟩)
             ·
              skip
              refine Kd.R_lit_step k38 _ 38 ?hg (N := 13) ?hd (xs := ([(⟨a1_0, a1_1, a1_2⟩ : S38)] : List (S38))) (inner := [.int .i64 a1_0, .int .i64 a1_1, .int .i64 a1_2]) (ok := fun _ => True) (okp := fun _ => True) ?hr ?hp (fun _ hk => hk) trivial (Below.refl _ _) (Nat.le_refl _) (by simp) ?_; (case hd => rfl); (case hg => rfl); (case hr => first | (go_simp; done) | (go_simp; rfl)); (case hp => exact (Reps.c3 (show Kd.M k38 _ _ _ (⟨a1_0, a1_1, a1_2⟩ : S38) [.int .i64 a1_0, .int .i64 a1_1, .int .i64 a1_2] from (k38_mkM _ _ _ (⟨a1_0, a1_1, a1_2⟩ : S38) )) (Reps.none _ _)))
              intro v108 w42 ho43 hb hg_ hnew_
              clear hg_ hnew_
              (first | rw [← Ny107.out] at ho43 | (simp only [Int.reduceToNat] at ho43; rw [← Ny107.out] at ho43))
              have n0_ := aM (Kd.R_lower (Kd.R_newB ho43 (g := gb102) (o := .cells #[.int .i64 a1_0, .int .i64 a1_1, .int .i64 a1_2] 38 (0, 0)) (kq BK102)) (below_size (kb4 HB GE101 GE102 GE103 GE113)))
              have n1_ := aM (blk_below (kq BK101) hb)
              have n2_ := aM (blk_below (kq BK102) hb)
              have n3_ := aM (blk_below (kq BK103) hb)
              have n4_ := aM (blk_below (kq BK113) hb)
              have n5_ := aM (below_step (kb4 HB GE101 GE102 GE103 GE113) hb)
              clear BK101
              clear BK102
              clear BK103
              clear BK113
              clear HB
              have HO109 := n0_
              have BK101 := n1_
              have BK102 := n2_
              have BK103 := n3_
              have BK113 := n4_
              have HB := n5_
              clear n0_ n1_ n2_ n3_ n4_ n5_
              clear hb ho43
              refine hK.out _ _ ⟨(blk_cell BK101.out 0).trans rfl, (blk_cell BK101.out 1).trans rfl, (blk_cell BK102.out 0).trans rfl, (blk_cell BK102.out 1).trans rfl, (blk_cell BK102.out 2).trans rfl⟩ (fun hHeld => ?_)
              clear hK K
              refine norm_ (a' := ?_) ?_ ?_
              rotate_left
              ·
               show Act.put _ (some 13) _ = _
               simp only [Act.put, q1, q2, q3, i64_w, i32_w]
               rfl
              exact norm_ (by first | (simp only [putAll, Act.put, q1, q2, q3]; done) | (simp only [putAll, Act.put, q1, q2, q3]; rfl)) (hJ6_9 (v108, gb113) _ ⟨hHeld, (by (with_reducible repeat (first | apply Kd.R_alloc | apply Kd.R_drewN | apply Kd.R_drew)); exact Kd.R_mono HO109.out (fun _ hk => hk.2)), (kq BK101), (kq BK102), (kq BK103), (kq BK113), GW113.out, GE113.out, NB101_113.out, NB113_101.out, NB102_113.out, NB113_102.out, NB103_113.out, NB113_103.out, (kb4 HB GE101 GE102 GE103 GE113)⟩)
           ·
            skip
            rintro v108 w42 ⟨hS_, h0_, h1_, h2_, h3_, h4_⟩
            have n0_ : Aside0 (Kd.R k38 38 w42 w.heap.size (fun k_ => k_ ≠ gb102) v108 y107) := ⟨h0_⟩
            have n1_ : Aside0 (w42.heap[gb101]? = some (.cells #[.int .i64 a0_0, .slice A0_1 l0_1.length c0_1] 24 (0, 0))) := ⟨h1_⟩
            have n2_ : Aside0 (w42.heap[gb102]? = some (.cells #[.int .i64 a1_0, .int .i64 a1_1, .int .i64 a1_2] 38 (0, 0))) := ⟨h2_⟩
            have n3_ : Aside0 (w42.heap[gb103]? = some (.cells #[.int .i64 0, .slice none 0 0] 24 (0, 0))) := ⟨h3_⟩
            have n4_ : Aside0 (Below w.heap.size w w42) := ⟨h4_⟩
            clear BK101
            clear BK102
            clear BK103
            clear HB
            clear h0_ h1_ h2_ h3_ h4_
            have HO109 := n0_
            have BK101 := n1_
            have BK102 := n2_
            have BK103 := n3_
            have HB := n4_
            clear n0_ n1_ n2_ n3_ n4_
            have hHeld : w42.cell? ⟨gb101, 0, none⟩ = some (.int .i64 a0_0) ∧ w42.cell? ⟨gb101, 1, none⟩ = some (.slice A0_1 l0_1.length c0_1) ∧ w42.cell? ⟨gb102, 0, none⟩ = some (.int .i64 a1_0) ∧ w42.cell? ⟨gb102, 1, none⟩ = some (.int .i64 a1_1) ∧ w42.cell? ⟨gb102, 2, none⟩ = some (.int .i64 a1_2) := hS_
            refine norm_ (a' := ?_) ?_ ?_
            rotate_left
            ·
             simp only [putAll, Act.put, q1, q2, q3]
             rfl
            refine two_ (i := 4) (j := 9) (Ni := some 11) (Nj := some 6) #[true, true, true, true, true, true, true, false, false, false, false] #[true, true, true, true, false, true, true, false, false, true, false] rfl rfl rfl rfl (two_of HT_.out (by kernel_rfl)) (by decide) (by decide) (fun K hK => ?_) (fun K hK => ?_)
            ·
             skip
             refine goes_ Try.func52 (by kernel_rfl) rfl #[.slice A0_1 l0_1.length c0_1] (by rfl) rfl rfl ka ?_
             with_reducible refine (slices_Clone_impl_Clue.calls _ _ l0_1 t104 _ ?side1 ?side2 A3.out).mono ?_
             (case side1 => repeat (first | exact (Kd.C_below HR0_1.out HB.out) | (with_reducible refine Kd.C_alloc ?_ _) | (with_reducible refine Kd.C_drewN ?_ _) | (with_reducible refine Kd.C_drew ?_)))
             (case side2 => exact HC0_1.out)
             rintro e w43 ⟨v105, rfl, ho0, hb⟩
             refine ⟨_, rfl, ?_⟩
             have n0_ := aM (Kd.R_elder' (kr HO109) (Kd.R_base ho0) hb)
             have n1_ := aM (Kd.R_lower (Kd.R_newB (Kd.R_new' ho0 (Kd.R_lt (kr HO109))) (g := gb102) (o := .cells #[.int .i64 a1_0, .int .i64 a1_1, .int .i64 a1_2] 38 (0, 0)) (kq BK102)) (below_size (kb3 HB GE101 GE102 GE103)))
             have n2_ := aM (blk_below (kq BK101) hb)
             have n3_ := aM (blk_below (kq BK102) hb)
             have n4_ := aM (blk_below (kq BK103) hb)
             have n5_ := aM (below_step (kb3 HB GE101 GE102 GE103) hb)
             clear HO109
             clear BK101
             clear BK102
             clear BK103
             clear HB
             have HO109 := n0_
             have HO106 := n1_
             have BK101 := n2_
             have BK102 := n3_
             have BK103 := n4_
             have HB := n5_
             clear n0_ n1_ n2_ n3_ n4_ n5_
             (try clear hb)
             (try clear hb2)
             (try clear hk)
             (try clear hi)
             (try clear ho0)
             refine hK.out _ _ ⟨(blk_cell BK101.out 0).trans rfl, (blk_cell BK101.out 1).trans rfl, (blk_cell BK102.out 0).trans rfl, (blk_cell BK102.out 1).trans rfl, (blk_cell BK102.out 2).trans rfl⟩ (fun hHeld => ?_)
             clear hK K
             refine norm_ (a' := ?_) ?_ ?_
             rotate_left
             ·
              show Act.put _ (some 11) _ = _
              simp only [Act.put, q1, q2, q3, i64_w, i32_w]
              rfl
             exact norm_ (by first | (simp only [putAll, Act.put, q1, q2, q3]; done) | (simp only [putAll, Act.put, q1, q2, q3]; rfl)) (hJ4_6 (v105, v108) _ ⟨hHeld, (by (with_reducible repeat (first | apply Kd.R_alloc | apply Kd.R_drewN | apply Kd.R_drew)); exact Kd.R_mono HO106.out (fun _ hk => ⟨hk.1.2, hk.2⟩)), (by (with_reducible repeat (first | apply Kd.R_alloc | apply Kd.R_drewN | apply Kd.R_drew)); exact Kd.R_mono HO109.out (fun _ hk => ⟨hk.2, hk.1⟩)), (kq BK101), (kq BK102), (kq BK103), (kb3 HB GE101 GE102 GE103)⟩)
            ·
             skip
             refine box_step ?hg (N := 6) ?hd (cs := #[.int .i64 0, .slice none 0 0]) (t := 24) ?hr ?_; (case hd => rfl); (case hg => rfl); (case hr => first | (go_simp; done) | (go_simp; rfl))
             intro gb113 hg w43 hbox hb
             have n0_ := aM (Kd.R_below (kr HO109) hb)
             have n1_ := aM (blk_below (kq BK101) hb)
             have n2_ := aM (blk_below (kq BK102) hb)
             have n3_ := aM (blk_below (kq BK103) hb)
             have n4_ := aM (below_step (kb3 HB GE101 GE102 GE103) hb)
             have n5_ := aM (hbox)
             have n6_ := aM ((by rw [hg]; exact (below_size (kb3 HB GE101 GE102 GE103)) : w.heap.size ≤ gb113))
             have n7_ := aM ((by rw [hg]; exact (below_size (kb3 HB GE101 GE102 GE103)) : w.heap.size ≤ gb113))
             have n8_ := aM ((by rw [hg]; exact Nat.ne_of_lt (blk_lt (kq BK101)) : gb101 ≠ gb113))
             have n9_ := aM ((by rw [hg]; exact Nat.ne_of_gt (blk_lt (kq BK101)) : gb113 ≠ gb101))
             have n10_ := aM ((by rw [hg]; exact Nat.ne_of_lt (blk_lt (kq BK102)) : gb102 ≠ gb113))
             have n11_ := aM ((by rw [hg]; exact Nat.ne_of_gt (blk_lt (kq BK102)) : gb113 ≠ gb102))
             have n12_ := aM ((by rw [hg]; exact Nat.ne_of_lt (blk_lt (kq BK103)) : gb103 ≠ gb113))
             have n13_ := aM ((by rw [hg]; exact Nat.ne_of_gt (blk_lt (kq BK103)) : gb113 ≠ gb103))
             clear HO109
             clear BK101
             clear BK102
             clear BK103
             clear HB
             have HO109 := n0_
             have BK101 := n1_
             have BK102 := n2_
             have BK103 := n3_
             have HB := n4_
             have BK113 := n5_
             have GW113 := n6_
             have GE113 := n7_
             have NB101_113 := n8_
             have NB113_101 := n9_
             have NB102_113 := n10_
             have NB113_102 := n11_
             have NB103_113 := n12_
             have NB113_103 := n13_
             clear n0_ n1_ n2_ n3_ n4_ n5_ n6_ n7_ n8_ n9_ n10_ n11_ n12_ n13_
             clear hb hbox hg
             refine hK.out _ _ ⟨(blk_cell BK101.out 0).trans rfl, (blk_cell BK101.out 1).trans rfl, (blk_cell BK102.out 0).trans rfl, (blk_cell BK102.out 1).trans rfl, (blk_cell BK102.out 2).trans rfl⟩ (fun hHeld => ?_)
             clear hK K
             refine norm_ (a' := ?_) ?_ ?_
             rotate_left
             ·
              show Act.put _ (some 6) _ = _
              simp only [Act.put, q1, q2, q3, i64_w, i32_w]
              rfl
             exact norm_ (by first | (simp only [putAll, Act.put, q1, q2, q3]; done) | (simp only [putAll, Act.put, q1, q2, q3]; rfl)) (hJ6_9 (v108, gb113) _ ⟨hHeld, (kr HO109), (kq BK101), (kq BK102), (kq BK103), (kq BK113), GW113.out, GE113.out, NB101_113.out, NB113_101.out, NB102_113.out, NB113_102.out, NB103_113.out, NB113_103.out, (kb4 HB GE101 GE102 GE103 GE113)⟩)
          ·
           skip
           rintro v105 w41 ⟨hS_, h0_, h1_, h2_, h3_, h4_⟩
           have n0_ : Aside0 (Kd.R k38 38 w41 w.heap.size (fun k_ => k_ ≠ gb102) v105 t104) := ⟨h0_⟩
           have n1_ : Aside0 (w41.heap[gb101]? = some (.cells #[.int .i64 a0_0, .slice A0_1 l0_1.length c0_1] 24 (0, 0))) := ⟨h1_⟩
           have n2_ : Aside0 (w41.heap[gb102]? = some (.cells #[.int .i64 a1_0, .int .i64 a1_1, .int .i64 a1_2] 38 (0, 0))) := ⟨h2_⟩
           have n3_ : Aside0 (w41.heap[gb103]? = some (.cells #[.int .i64 0, .slice none 0 0] 24 (0, 0))) := ⟨h3_⟩
           have n4_ : Aside0 (Below w.heap.size w w41) := ⟨h4_⟩
           clear BK101
           clear BK102
           clear BK103
           clear HB
           clear h0_ h1_ h2_ h3_ h4_
           have HO106 := n0_
           have BK101 := n1_
           have BK102 := n2_
           have BK103 := n3_
           have HB := n4_
           clear n0_ n1_ n2_ n3_ n4_
           have hHeld : w41.cell? ⟨gb101, 0, none⟩ = some (.int .i64 a0_0) ∧ w41.cell? ⟨gb101, 1, none⟩ = some (.slice A0_1 l0_1.length c0_1) ∧ w41.cell? ⟨gb102, 0, none⟩ = some (.int .i64 a1_0) ∧ w41.cell? ⟨gb102, 1, none⟩ = some (.int .i64 a1_1) ∧ w41.cell? ⟨gb102, 2, none⟩ = some (.int .i64 a1_2) := hS_
           refine norm_ (a' := ?_) ?_ ?_
           rotate_left
           ·
            simp only [putAll, Act.put, q1, q2, q3]
            rfl
           refine two_ (i := 6) (j := 9) (Ni := some 13) (Nj := some 6) #[true, true, true, true, true, true, true, false, false, false, false] #[true, true, true, true, true, true, false, false, false, true, false] rfl rfl rfl rfl (two_of HT_.out (by kernel_rfl)) (by decide) (by decide) (fun K hK => ?_) (fun K hK => ?_)
           ·
            skip
            refine Kd.R_lit_step k38 _ 38 ?hg (N := 13) ?hd (xs := ([(⟨a1_0, a1_1, a1_2⟩ : S38)] : List (S38))) (inner := [.int .i64 a1_0, .int .i64 a1_1, .int .i64 a1_2]) (ok := fun _ => True) (okp := fun _ => True) ?hr ?hp (fun _ hk => hk) trivial (Below.refl _ _) (Nat.le_refl _) (by simp) ?_; (case hd => rfl); (case hg => rfl); (case hr => first | (go_simp; done) | (go_simp; rfl)); (case hp => exact (Reps.c3 (show Kd.M k38 _ _ _ (⟨a1_0, a1_1, a1_2⟩ : S38) [.int .i64 a1_0, .int .i64 a1_1, .int .i64 a1_2] from (k38_mkM _ _ _ (⟨a1_0, a1_1, a1_2⟩ : S38) )) (Reps.none _ _)))
            intro v108 w42 ho43 hb hg_ hnew_
            clear hg_ hnew_
            (first | rw [← Ny107.out] at ho43 | (simp only [Int.reduceToNat] at ho43; rw [← Ny107.out] at ho43))
            have n0_ := aM (Kd.R_elder' (kr HO106) (Kd.R_base ho43) hb)
            have n1_ := aM (Kd.R_lower (Kd.R_newB (Kd.R_new' ho43 (Kd.R_lt (kr HO106))) (g := gb102) (o := .cells #[.int .i64 a1_0, .int .i64 a1_1, .int .i64 a1_2] 38 (0, 0)) (kq BK102)) (below_size (kb3 HB GE101 GE102 GE103)))
            have n2_ := aM (blk_below (kq BK101) hb)
            have n3_ := aM (blk_below (kq BK102) hb)
            have n4_ := aM (blk_below (kq BK103) hb)
            have n5_ := aM (below_step (kb3 HB GE101 GE102 GE103) hb)
            clear HO106
            clear BK101
            clear BK102
            clear BK103
            clear HB
            have HO106 := n0_
            have HO109 := n1_
            have BK101 := n2_
            have BK102 := n3_
            have BK103 := n4_
            have HB := n5_
            clear n0_ n1_ n2_ n3_ n4_ n5_
            clear hb ho43
            refine hK.out _ _ ⟨(blk_cell BK101.out 0).trans rfl, (blk_cell BK101.out 1).trans rfl, (blk_cell BK102.out 0).trans rfl, (blk_cell BK102.out 1).trans rfl, (blk_cell BK102.out 2).trans rfl⟩ (fun hHeld => ?_)
            clear hK K
            refine norm_ (a' := ?_) ?_ ?_
            rotate_left
            ·
             show Act.put _ (some 13) _ = _
             simp only [Act.put, q1, q2, q3, i64_w, i32_w]
             rfl
            exact norm_ (by first | (simp only [putAll, Act.put, q1, q2, q3]; done) | (simp only [putAll, Act.put, q1, q2, q3]; rfl)) (hJ4_6 (v105, v108) _ ⟨hHeld, (by (with_reducible repeat (first | apply Kd.R_alloc | apply Kd.R_drewN | apply Kd.R_drew)); exact Kd.R_mono HO106.out (fun _ hk => ⟨hk.2, hk.1⟩)), (by (with_reducible repeat (first | apply Kd.R_alloc | apply Kd.R_drewN | apply Kd.R_drew)); exact Kd.R_mono HO109.out (fun _ hk => ⟨hk.1.2, hk.2⟩)), (kq BK101), (kq BK102), (kq BK103), (kb3 HB GE101 GE102 GE103)⟩)
           ·
            skip
            refine box_step ?hg (N := 6) ?hd (cs := #[.int .i64 0, .slice none 0 0]) (t := 24) ?hr ?_; (case hd => rfl); (case hg => rfl); (case hr => first | (go_simp; done) | (go_simp; rfl))
            intro gb113 hg w42 hbox hb
            have n0_ := aM (Kd.R_below (kr HO106) hb)
            have n1_ := aM (blk_below (kq BK101) hb)
            have n2_ := aM (blk_below (kq BK102) hb)
            have n3_ := aM (blk_below (kq BK103) hb)
            have n4_ := aM (below_step (kb3 HB GE101 GE102 GE103) hb)
            have n5_ := aM (hbox)
            have n6_ := aM ((by rw [hg]; exact (below_size (kb3 HB GE101 GE102 GE103)) : w.heap.size ≤ gb113))
            have n7_ := aM ((by rw [hg]; exact (below_size (kb3 HB GE101 GE102 GE103)) : w.heap.size ≤ gb113))
            have n8_ := aM ((by rw [hg]; exact Nat.ne_of_lt (blk_lt (kq BK101)) : gb101 ≠ gb113))
            have n9_ := aM ((by rw [hg]; exact Nat.ne_of_gt (blk_lt (kq BK101)) : gb113 ≠ gb101))
            have n10_ := aM ((by rw [hg]; exact Nat.ne_of_lt (blk_lt (kq BK102)) : gb102 ≠ gb113))
            have n11_ := aM ((by rw [hg]; exact Nat.ne_of_gt (blk_lt (kq BK102)) : gb113 ≠ gb102))
            have n12_ := aM ((by rw [hg]; exact Nat.ne_of_lt (blk_lt (kq BK103)) : gb103 ≠ gb113))
            have n13_ := aM ((by rw [hg]; exact Nat.ne_of_gt (blk_lt (kq BK103)) : gb113 ≠ gb103))
            clear HO106
            clear BK101
            clear BK102
            clear BK103
            clear HB
            have HO106 := n0_
            have BK101 := n1_
            have BK102 := n2_
            have BK103 := n3_
            have HB := n4_
            have BK113 := n5_
            have GW113 := n6_
            have GE113 := n7_
            have NB101_113 := n8_
            have NB113_101 := n9_
            have NB102_113 := n10_
            have NB113_102 := n11_
            have NB103_113 := n12_
            have NB113_103 := n13_
            clear n0_ n1_ n2_ n3_ n4_ n5_ n6_ n7_ n8_ n9_ n10_ n11_ n12_ n13_
            clear hb hbox hg
            refine hK.out _ _ ⟨(blk_cell BK101.out 0).trans rfl, (blk_cell BK101.out 1).trans rfl, (blk_cell BK102.out 0).trans rfl, (blk_cell BK102.out 1).trans rfl, (blk_cell BK102.out 2).trans rfl⟩ (fun hHeld => ?_)
            clear hK K
            refine norm_ (a' := ?_) ?_ ?_
            rotate_left
            ·
             show Act.put _ (some 6) _ = _
             simp only [Act.put, q1, q2, q3, i64_w, i32_w]
             rfl
            exact norm_ (by first | (simp only [putAll, Act.put, q1, q2, q3]; done) | (simp only [putAll, Act.put, q1, q2, q3]; rfl)) (hJ4_9 (v105, gb113) _ ⟨hHeld, (kr HO106), (kq BK101), (kq BK102), (kq BK103), (kq BK113), GW113.out, GE113.out, NB101_113.out, NB113_101.out, NB102_113.out, NB113_102.out, NB103_113.out, NB113_103.out, (kb4 HB GE101 GE102 GE103 GE113)⟩)
         ·
          skip
          rintro ⟨v108, gb113⟩ w43 ⟨hS_, h0_, h1_, h2_, h3_, h4_, h5_, h6_, h7_, h8_, h9_, h10_, h11_, h12_, h13_⟩
          have n0_ : Aside0 (Kd.R k38 38 w43 w.heap.size (fun k_ => k_ ≠ gb102) v108 y107) := ⟨h0_⟩
          have n1_ : Aside0 (w43.heap[gb101]? = some (.cells #[.int .i64 a0_0, .slice A0_1 l0_1.length c0_1] 24 (0, 0))) := ⟨h1_⟩
          have n2_ : Aside0 (w43.heap[gb102]? = some (.cells #[.int .i64 a1_0, .int .i64 a1_1, .int .i64 a1_2] 38 (0, 0))) := ⟨h2_⟩
          have n3_ : Aside0 (w43.heap[gb103]? = some (.cells #[.int .i64 0, .slice none 0 0] 24 (0, 0))) := ⟨h3_⟩
          have n4_ : Aside0 (w43.heap[gb113]? = some (.cells #[.int .i64 0, .slice none 0 0] 24 (0, 0))) := ⟨h4_⟩
          have n5_ : Aside0 (w.heap.size ≤ gb113) := ⟨h5_⟩
          have n6_ : Aside0 (w.heap.size ≤ gb113) := ⟨h6_⟩
          have n7_ : Aside0 (gb101 ≠ gb113) := ⟨h7_⟩
          have n8_ : Aside0 (gb113 ≠ gb101) := ⟨h8_⟩
          have n9_ : Aside0 (gb102 ≠ gb113) := ⟨h9_⟩
          have n10_ : Aside0 (gb113 ≠ gb102) := ⟨h10_⟩
          have n11_ : Aside0 (gb103 ≠ gb113) := ⟨h11_⟩
          have n12_ : Aside0 (gb113 ≠ gb103) := ⟨h12_⟩
          have n13_ : Aside0 (Below w.heap.size w w43) := ⟨h13_⟩
          clear BK101
          clear BK102
          clear BK103
          clear HB
          clear h0_ h1_ h2_ h3_ h4_ h5_ h6_ h7_ h8_ h9_ h10_ h11_ h12_ h13_
          have HO109 := n0_
          have BK101 := n1_
          have BK102 := n2_
          have BK103 := n3_
          have BK113 := n4_
          have GW113 := n5_
          have GE113 := n6_
          have NB101_113 := n7_
          have NB113_101 := n8_
          have NB102_113 := n9_
          have NB113_102 := n10_
          have NB103_113 := n11_
          have NB113_103 := n12_
          have HB := n13_
          clear n0_ n1_ n2_ n3_ n4_ n5_ n6_ n7_ n8_ n9_ n10_ n11_ n12_ n13_
          have hHeld : w43.cell? ⟨gb101, 0, none⟩ = some (.int .i64 a0_0) ∧ w43.cell? ⟨gb101, 1, none⟩ = some (.slice A0_1 l0_1.length c0_1) ∧ w43.cell? ⟨gb102, 0, none⟩ = some (.int .i64 a1_0) ∧ w43.cell? ⟨gb102, 1, none⟩ = some (.int .i64 a1_1) ∧ w43.cell? ⟨gb102, 2, none⟩ = some (.int .i64 a1_2) := hS_
          refine norm_ (a' := ?_) ?_ ?_
          rotate_left
          ·
           simp only [putAll, Act.put, q1, q2, q3]
           rfl
          refine one_ (i := 4) (N := some 11) #[true, true, true, true, true, true, true, false, false, true, false] rfl rfl (one_of HT_.out (by kernel_rfl)) (by decide) (fun K hK => ?_)
          refine goes_ Try.func52 (by kernel_rfl) rfl #[.slice A0_1 l0_1.length c0_1] (by rfl) rfl rfl ka ?_
          with_reducible refine (slices_Clone_impl_Clue.calls _ _ l0_1 t104 _ ?side1 ?side2 A3.out).mono ?_
          (case side1 => repeat (first | exact (Kd.C_below HR0_1.out HB.out) | (with_reducible refine Kd.C_alloc ?_ _) | (with_reducible refine Kd.C_drewN ?_ _) | (with_reducible refine Kd.C_drew ?_)))
          (case side2 => exact HC0_1.out)
          rintro e w44 ⟨v105, rfl, ho0, hb⟩
          refine ⟨_, rfl, ?_⟩
          have n0_ := aM (Kd.R_elder' (kr HO109) (Kd.R_base ho0) hb)
          have n1_ := aM (Kd.R_lower (Kd.R_newB (Kd.R_new' ho0 (Kd.R_lt (kr HO109))) (g := gb102) (o := .cells #[.int .i64 a1_0, .int .i64 a1_1, .int .i64 a1_2] 38 (0, 0)) (kq BK102)) (below_size (kb4 HB GE101 GE102 GE103 GE113)))
          have n2_ := aM (blk_below (kq BK101) hb)
          have n3_ := aM (blk_below (kq BK102) hb)
          have n4_ := aM (blk_below (kq BK103) hb)
          have n5_ := aM (blk_below (kq BK113) hb)
          have n6_ := aM (below_step (kb4 HB GE101 GE102 GE103 GE113) hb)
          clear HO109
          clear BK101
          clear BK102
          clear BK103
          clear BK113
          clear HB
          have HO109 := n0_
          have HO106 := n1_
          have BK101 := n2_
          have BK102 := n3_
          have BK103 := n4_
          have BK113 := n5_
          have HB := n6_
          clear n0_ n1_ n2_ n3_ n4_ n5_ n6_
          (try clear hb)
          (try clear hb2)
          (try clear hk)
          (try clear hi)
          (try clear ho0)
          refine hK.out _ _ ⟨(blk_cell BK101.out 0).trans rfl, (blk_cell BK101.out 1).trans rfl, (blk_cell BK102.out 0).trans rfl, (blk_cell BK102.out 1).trans rfl, (blk_cell BK102.out 2).trans rfl⟩ (fun hHeld => ?_)
          clear hK K
          refine norm_ (a' := ?_) ?_ ?_
          rotate_left
          ·
           show Act.put _ (some 11) _ = _
           simp only [Act.put, q1, q2, q3, i64_w, i32_w]
           rfl
          exact norm_ (by first | (simp only [putAll, Act.put, q1, q2, q3]; done) | (simp only [putAll, Act.put, q1, q2, q3]; rfl)) (hJ4_6_9 (v105, v108, gb113) _ ⟨hHeld, (by (with_reducible repeat (first | apply Kd.R_alloc | apply Kd.R_drewN | apply Kd.R_drew)); exact Kd.R_mono HO106.out (fun _ hk => ⟨hk.1.2, hk.2⟩)), (by (with_reducible repeat (first | apply Kd.R_alloc | apply Kd.R_drewN | apply Kd.R_drew)); exact Kd.R_mono HO109.out (fun _ hk => ⟨hk.2, hk.1⟩)), (kq BK101), (kq BK102), (kq BK103), (kq BK113), GW113.out, GE113.out, NB101_113.out, NB113_101.out, NB102_113.out, NB113_102.out, NB103_113.out, NB113_103.out, (kb4 HB GE101 GE102 GE103 GE113)⟩)
        ·
         skip
         rintro ⟨v105, gb113⟩ w42 ⟨hS_, h0_, h1_, h2_, h3_, h4_, h5_, h6_, h7_, h8_, h9_, h10_, h11_, h12_, h13_⟩
         have n0_ : Aside0 (Kd.R k38 38 w42 w.heap.size (fun k_ => k_ ≠ gb102) v105 t104) := ⟨h0_⟩
         have n1_ : Aside0 (w42.heap[gb101]? = some (.cells #[.int .i64 a0_0, .slice A0_1 l0_1.length c0_1] 24 (0, 0))) := ⟨h1_⟩
         have n2_ : Aside0 (w42.heap[gb102]? = some (.cells #[.int .i64 a1_0, .int .i64 a1_1, .int .i64 a1_2] 38 (0, 0))) := ⟨h2_⟩
         have n3_ : Aside0 (w42.heap[gb103]? = some (.cells #[.int .i64 0, .slice none 0 0] 24 (0, 0))) := ⟨h3_⟩
         have n4_ : Aside0 (w42.heap[gb113]? = some (.cells #[.int .i64 0, .slice none 0 0] 24 (0, 0))) := ⟨h4_⟩
         have n5_ : Aside0 (w.heap.size ≤ gb113) := ⟨h5_⟩
         have n6_ : Aside0 (w.heap.size ≤ gb113) := ⟨h6_⟩
         have n7_ : Aside0 (gb101 ≠ gb113) := ⟨h7_⟩
         have n8_ : Aside0 (gb113 ≠ gb101) := ⟨h8_⟩
         have n9_ : Aside0 (gb102 ≠ gb113) := ⟨h9_⟩
         have n10_ : Aside0 (gb113 ≠ gb102) := ⟨h10_⟩
         have n11_ : Aside0 (gb103 ≠ gb113) := ⟨h11_⟩
         have n12_ : Aside0 (gb113 ≠ gb103) := ⟨h12_⟩
         have n13_ : Aside0 (Below w.heap.size w w42) := ⟨h13_⟩
         clear BK101
         clear BK102
         clear BK103
         clear HB
         clear h0_ h1_ h2_ h3_ h4_ h5_ h6_ h7_ h8_ h9_ h10_ h11_ h12_ h13_
         have HO106 := n0_
         have BK101 := n1_
         have BK102 := n2_
         have BK103 := n3_
         have BK113 := n4_
         have GW113 := n5_
         have GE113 := n6_
         have NB101_113 := n7_
         have NB113_101 := n8_
         have NB102_113 := n9_
         have NB113_102 := n10_
         have NB103_113 := n11_
         have NB113_103 := n12_
         have HB := n13_
         clear n0_ n1_ n2_ n3_ n4_ n5_ n6_ n7_ n8_ n9_ n10_ n11_ n12_ n13_
         have hHeld : w42.cell? ⟨gb101, 0, none⟩ = some (.int .i64 a0_0) ∧ w42.cell? ⟨gb101, 1, none⟩ = some (.slice A0_1 l0_1.length c0_1) ∧ w42.cell? ⟨gb102, 0, none⟩ = some (.int .i64 a1_0) ∧ w42.cell? ⟨gb102, 1, none⟩ = some (.int .i64 a1_1) ∧ w42.cell? ⟨gb102, 2, none⟩ = some (.int .i64 a1_2) := hS_
         refine norm_ (a' := ?_) ?_ ?_
         rotate_left
         ·
          simp only [putAll, Act.put, q1, q2, q3]
          rfl
         refine one_ (i := 6) (N := some 13) #[true, true, true, true, true, true, true, false, false, true, false] rfl rfl (one_of HT_.out (by kernel_rfl)) (by decide) (fun K hK => ?_)
         refine Kd.R_lit_step k38 _ 38 ?hg (N := 13) ?hd (xs := ([(⟨a1_0, a1_1, a1_2⟩ : S38)] : List (S38))) (inner := [.int .i64 a1_0, .int .i64 a1_1, .int .i64 a1_2]) (ok := fun _ => True) (okp := fun _ => True) ?hr ?hp (fun _ hk => hk) trivial (Below.refl _ _) (Nat.le_refl _) (by simp) ?_; (case hd => rfl); (case hg => rfl); (case hr => first | (go_simp; done) | (go_simp; rfl)); (case hp => exact (Reps.c3 (show Kd.M k38 _ _ _ (⟨a1_0, a1_1, a1_2⟩ : S38) [.int .i64 a1_0, .int .i64 a1_1, .int .i64 a1_2] from (k38_mkM _ _ _ (⟨a1_0, a1_1, a1_2⟩ : S38) )) (Reps.none _ _)))
         intro v108 w43 ho44 hb hg_ hnew_
         clear hg_ hnew_
         (first | rw [← Ny107.out] at ho44 | (simp only [Int.reduceToNat] at ho44; rw [← Ny107.out] at ho44))
         have n0_ := aM (Kd.R_elder' (kr HO106) (Kd.R_base ho44) hb)
         have n1_ := aM (Kd.R_lower (Kd.R_newB (Kd.R_new' ho44 (Kd.R_lt (kr HO106))) (g := gb102) (o := .cells #[.int .i64 a1_0, .int .i64 a1_1, .int .i64 a1_2] 38 (0, 0)) (kq BK102)) (below_size (kb4 HB GE101 GE102 GE103 GE113)))
         have n2_ := aM (blk_below (kq BK101) hb)
         have n3_ := aM (blk_below (kq BK102) hb)
         have n4_ := aM (blk_below (kq BK103) hb)
         have n5_ := aM (blk_below (kq BK113) hb)
         have n6_ := aM (below_step (kb4 HB GE101 GE102 GE103 GE113) hb)
         clear HO106
         clear BK101
         clear BK102
         clear BK103
         clear BK113
         clear HB
         have HO106 := n0_
         have HO109 := n1_
         have BK101 := n2_
         have BK102 := n3_
         have BK103 := n4_
         have BK113 := n5_
         have HB := n6_
         clear n0_ n1_ n2_ n3_ n4_ n5_ n6_
         clear hb ho44
         refine hK.out _ _ ⟨(blk_cell BK101.out 0).trans rfl, (blk_cell BK101.out 1).trans rfl, (blk_cell BK102.out 0).trans rfl, (blk_cell BK102.out 1).trans rfl, (blk_cell BK102.out 2).trans rfl⟩ (fun hHeld => ?_)
         clear hK K
         refine norm_ (a' := ?_) ?_ ?_
         rotate_left
         ·
          show Act.put _ (some 13) _ = _
          simp only [Act.put, q1, q2, q3, i64_w, i32_w]
          rfl
         exact norm_ (by first | (simp only [putAll, Act.put, q1, q2, q3]; done) | (simp only [putAll, Act.put, q1, q2, q3]; rfl)) (hJ4_6_9 (v105, v108, gb113) _ ⟨hHeld, (by (with_reducible repeat (first | apply Kd.R_alloc | apply Kd.R_drewN | apply Kd.R_drew)); exact Kd.R_mono HO106.out (fun _ hk => ⟨hk.2, hk.1⟩)), (by (with_reducible repeat (first | apply Kd.R_alloc | apply Kd.R_drewN | apply Kd.R_drew)); exact Kd.R_mono HO109.out (fun _ hk => ⟨hk.1.2, hk.2⟩)), (kq BK101), (kq BK102), (kq BK103), (kq BK113), GW113.out, GE113.out, NB101_113.out, NB113_101.out, NB102_113.out, NB113_102.out, NB103_113.out, NB113_103.out, (kb4 HB GE101 GE102 GE103 GE113)⟩)
       ·
        skip
        rintro ⟨v105, v108⟩ w43 ⟨hS_, h0_, h1_, h2_, h3_, h4_, h5_⟩
        have n0_ : Aside0 (Kd.R k38 38 w43 w.heap.size (fun k_ => some k_ ≠ (v108 : Value).ownBlock ∧ k_ ≠ gb102) v105 t104) := ⟨h0_⟩
        have n1_ : Aside0 (Kd.R k38 38 w43 w.heap.size (fun k_ => some k_ ≠ (v105 : Value).ownBlock ∧ k_ ≠ gb102) v108 y107) := ⟨h1_⟩
        have n2_ : Aside0 (w43.heap[gb101]? = some (.cells #[.int .i64 a0_0, .slice A0_1 l0_1.length c0_1] 24 (0, 0))) := ⟨h2_⟩
        have n3_ : Aside0 (w43.heap[gb102]? = some (.cells #[.int .i64 a1_0, .int .i64 a1_1, .int .i64 a1_2] 38 (0, 0))) := ⟨h3_⟩
        have n4_ : Aside0 (w43.heap[gb103]? = some (.cells #[.int .i64 0, .slice none 0 0] 24 (0, 0))) := ⟨h4_⟩
        have n5_ : Aside0 (Below w.heap.size w w43) := ⟨h5_⟩
        clear BK101
        clear BK102
        clear BK103
        clear HB
        clear h0_ h1_ h2_ h3_ h4_ h5_
        have HO106 := n0_
        have HO109 := n1_
        have BK101 := n2_
        have BK102 := n3_
        have BK103 := n4_
        have HB := n5_
        clear n0_ n1_ n2_ n3_ n4_ n5_
        have hHeld : w43.cell? ⟨gb101, 0, none⟩ = some (.int .i64 a0_0) ∧ w43.cell? ⟨gb101, 1, none⟩ = some (.slice A0_1 l0_1.length c0_1) ∧ w43.cell? ⟨gb102, 0, none⟩ = some (.int .i64 a1_0) ∧ w43.cell? ⟨gb102, 1, none⟩ = some (.int .i64 a1_1) ∧ w43.cell? ⟨gb102, 2, none⟩ = some (.int .i64 a1_2) := hS_
        obtain ⟨Ao45, co45, eo45⟩ := Kd.R_slice HO109.out
        (first | subst eo45 | (injection eo45 with f1_ f2_ f3_; have f4_ := f1_.symm; have f5_ := f3_.symm; clear f1_ f2_ f3_; subst f4_; subst f5_))
        refine norm_ (a' := ?_) ?_ ?_
        rotate_left
        ·
         simp only [putAll, Act.put, q1, q2, q3]
         rfl
        refine two_ (i := 7) (j := 9) (Ni := some 14) (Nj := some 6) #[true, true, true, true, true, true, true, true, false, false, false] #[true, true, true, true, true, true, true, false, false, true, false] rfl rfl rfl rfl (two_of HT_.out (by kernel_rfl)) (by decide) (by decide) (fun K hK => ?_) (fun K hK => ?_)
        ·
         skip
         refine Kd.R_append_rows_step k38 (w0 := w) w.heap.size (by rfl) (.tmp 11) (.tmp 13) 22 38 (.agg #[(.int .i64 0), (.int .i64 0), (.int .i64 0)]) 24 rfl Try.underlying22 info38 rfl (by decide) (by omega) v105 t104 y107 _ _ _ (fun k_ => some k_ ≠ (.slice Ao45 y107.length co45 : Value).ownBlock ∧ k_ ≠ gb102) (fun _ => False) rfl rfl ?aO ?aR (fun _ _ h => h) (fun _ h => h.elim) ?aF ?aB ?aS ?aL ?_
         (case aR => repeat (first | exact (Kd.R_reads' HO109.out).2.2 | (with_reducible refine Kd.C_alloc ?_ _) | (with_reducible refine Kd.C_drewN ?_ _) | (with_reducible refine Kd.C_drew ?_)))
         (case aB => exact (kb3 HB GE101 GE102 GE103))
         (case aF => exact (fun k_ hk => ⟨Kd.fresh' (Kd.R_lt (kr HO109)) k_ hk, Kd.freshB (g := gb102) (o := .cells #[.int .i64 a1_0, .int .i64 a1_1, .int .i64 a1_2] 38 (0, 0)) (kq BK102) k_ hk⟩))
         (case aO => exact (kr HO106))
         (case aS => exact (below_size (kb3 HB GE101 GE102 GE103)))
         (case aL => have := LMc4.out; omega)
         intro v111 w44 ho hb hg hat
         rw [← Ny110.out] at ho
         have n0_ := aM (blk_grown (kq BK101) hg (Kd.R_ne HO106.out BK101.out (by decide)))
         have n1_ := aM (blk_grown (kq BK102) hg (Kd.R_away HO106.out (fun _ hk => hk.2)))
         have n2_ := aM (blk_grown (kq BK103) hg (Kd.R_ne HO106.out BK103.out (by decide)))
         have n3_ := aM (Kd.R_after (ok := (fun k_ => k_ ≠ gb102)) (by (with_reducible repeat (first | apply Kd.R_alloc | apply Kd.R_drewN | apply Kd.R_drew)); exact Kd.R_mono HO109.out (fun _ hk => ⟨hk.2, hk.1⟩)) hg hat)
         have n4_ := aM (hb)
         have n5_ := aM (ho)
         clear BK101
         clear BK102
         clear BK103
         clear HO109
         clear HB
         clear HO106
         have BK101 := n0_
         have BK102 := n1_
         have BK103 := n2_
         have HO109 := n3_
         have HB := n4_
         have HO112 := n5_
         clear n0_ n1_ n2_ n3_ n4_ n5_
         clear ho hb hg hat
         obtain ⟨Ao46, co46, eo46⟩ := Kd.R_slice HO112.out
         (first | subst eo46 | (injection eo46 with f1_ f2_ f3_; have f4_ := f1_.symm; have f5_ := f3_.symm; clear f1_ f2_ f3_; subst f4_; subst f5_))
         refine hK.out _ _ ⟨(blk_cell BK101.out 0).trans rfl, (blk_cell BK101.out 1).trans rfl, (blk_cell BK102.out 0).trans rfl, (blk_cell BK102.out 1).trans rfl, (blk_cell BK102.out 2).trans rfl⟩ (fun hHeld => ?_)
         clear hK K
         refine norm_ (a' := ?_) ?_ ?_
         rotate_left
         ·
          show Act.put _ (some 14) _ = _
          simp only [Act.put, q1, q2, q3, i64_w, i32_w]
          rfl
         refine pure_ (i := 8) (N := some 15) (v := ?_) (a' := ?_) #[true, true, true, true, true, true, true, true, true, false, false] rfl rfl (any_of HT_.out (by kernel_rfl)) (fun _ _ _ h => h) (Or.inl ⟨by rfl, ?_⟩) ?_ ?_
         rotate_left
         ·
          intro w'
          go_simp
          with_reducible rfl
         rotate_left
         ·
          simp only [Act.put, q1, q2, q3, i64_w, i32_w]
          rfl
         exact norm_ (by first | (simp only [putAll, Act.put, q1, q2, q3]; done) | (simp only [putAll, Act.put, q1, q2, q3]; rfl)) (hJ4_6_7 (v105, .slice Ao45 y107.length co45, .slice Ao46 y110.length co46) _ ⟨hHeld, (by (with_reducible repeat (first | apply Kd.R_alloc | apply Kd.R_drewN | apply Kd.R_drew)); exact Kd.R_mono HO109.out (fun _ hk => ⟨hk.2, hk.1⟩)), (kr HO112), (kq BK101), (kq BK102), (kq BK103), (kb3 HB GE101 GE102 GE103)⟩)
        ·
         skip
         refine box_step ?hg (N := 6) ?hd (cs := #[.int .i64 0, .slice none 0 0]) (t := 24) ?hr ?_; (case hd => rfl); (case hg => rfl); (case hr => first | (go_simp; done) | (go_simp; rfl))
         intro gb113 hg w44 hbox hb
         have n0_ := aM (Kd.R_below (kr HO106) hb)
         have n1_ := aM (Kd.R_below (kr HO109) hb)
         have n2_ := aM (blk_below (kq BK101) hb)
         have n3_ := aM (blk_below (kq BK102) hb)
         have n4_ := aM (blk_below (kq BK103) hb)
         have n5_ := aM (below_step (kb3 HB GE101 GE102 GE103) hb)
         have n6_ := aM (hbox)
         have n7_ := aM ((by rw [hg]; exact (below_size (kb3 HB GE101 GE102 GE103)) : w.heap.size ≤ gb113))
         have n8_ := aM ((by rw [hg]; exact (below_size (kb3 HB GE101 GE102 GE103)) : w.heap.size ≤ gb113))
         have n9_ := aM ((by rw [hg]; exact Nat.ne_of_lt (blk_lt (kq BK101)) : gb101 ≠ gb113))
         have n10_ := aM ((by rw [hg]; exact Nat.ne_of_gt (blk_lt (kq BK101)) : gb113 ≠ gb101))
         have n11_ := aM ((by rw [hg]; exact Nat.ne_of_lt (blk_lt (kq BK102)) : gb102 ≠ gb113))
         have n12_ := aM ((by rw [hg]; exact Nat.ne_of_gt (blk_lt (kq BK102)) : gb113 ≠ gb102))
         have n13_ := aM ((by rw [hg]; exact Nat.ne_of_lt (blk_lt (kq BK103)) : gb103 ≠ gb113))
         have n14_ := aM ((by rw [hg]; exact Nat.ne_of_gt (blk_lt (kq BK103)) : gb113 ≠ gb103))
         clear HO106
         clear HO109
         clear BK101
         clear BK102
         clear BK103
         clear HB
         have HO106 := n0_
         have HO109 := n1_
         have BK101 := n2_
         have BK102 := n3_
         have BK103 := n4_
         have HB := n5_
         have BK113 := n6_
         have GW113 := n7_
         have GE113 := n8_
         have NB101_113 := n9_
         have NB113_101 := n10_
         have NB102_113 := n11_
         have NB113_102 := n12_
         have NB103_113 := n13_
         have NB113_103 := n14_
         clear n0_ n1_ n2_ n3_ n4_ n5_ n6_ n7_ n8_ n9_ n10_ n11_ n12_ n13_ n14_
         clear hb hbox hg
         refine hK.out _ _ ⟨(blk_cell BK101.out 0).trans rfl, (blk_cell BK101.out 1).trans rfl, (blk_cell BK102.out 0).trans rfl, (blk_cell BK102.out 1).trans rfl, (blk_cell BK102.out 2).trans rfl⟩ (fun hHeld => ?_)
         clear hK K
         refine norm_ (a' := ?_) ?_ ?_
         rotate_left
         ·
          show Act.put _ (some 6) _ = _
          simp only [Act.put, q1, q2, q3, i64_w, i32_w]
          rfl
         exact norm_ (by first | (simp only [putAll, Act.put, q1, q2, q3]; done) | (simp only [putAll, Act.put, q1, q2, q3]; rfl)) (hJ4_6_9 (v105, .slice Ao45 y107.length co45, gb113) _ ⟨hHeld, (kr HO106), (kr HO109), (kq BK101), (kq BK102), (kq BK103), (kq BK113), GW113.out, GE113.out, NB101_113.out, NB113_101.out, NB102_113.out, NB113_102.out, NB103_113.out, NB113_103.out, (kb4 HB GE101 GE102 GE103 GE113)⟩)
      ·
       skip
       rintro ⟨v105, v108, gb113⟩ w44 ⟨hS_, h0_, h1_, h2_, h3_, h4_, h5_, h6_, h7_, h8_, h9_, h10_, h11_, h12_, h13_, h14_⟩
       have n0_ : Aside0 (Kd.R k38 38 w44 w.heap.size (fun k_ => some k_ ≠ (v108 : Value).ownBlock ∧ k_ ≠ gb102) v105 t104) := ⟨h0_⟩
       have n1_ : Aside0 (Kd.R k38 38 w44 w.heap.size (fun k_ => some k_ ≠ (v105 : Value).ownBlock ∧ k_ ≠ gb102) v108 y107) := ⟨h1_⟩
       have n2_ : Aside0 (w44.heap[gb101]? = some (.cells #[.int .i64 a0_0, .slice A0_1 l0_1.length c0_1] 24 (0, 0))) := ⟨h2_⟩
       have n3_ : Aside0 (w44.heap[gb102]? = some (.cells #[.int .i64 a1_0, .int .i64 a1_1, .int .i64 a1_2] 38 (0, 0))) := ⟨h3_⟩
       have n4_ : Aside0 (w44.heap[gb103]? = some (.cells #[.int .i64 0, .slice none 0 0] 24 (0, 0))) := ⟨h4_⟩
       have n5_ : Aside0 (w44.heap[gb113]? = some (.cells #[.int .i64 0, .slice none 0 0] 24 (0, 0))) := ⟨h5_⟩
       have n6_ : Aside0 (w.heap.size ≤ gb113) := ⟨h6_⟩
       have n7_ : Aside0 (w.heap.size ≤ gb113) := ⟨h7_⟩
       have n8_ : Aside0 (gb101 ≠ gb113) := ⟨h8_⟩
       have n9_ : Aside0 (gb113 ≠ gb101) := ⟨h9_⟩
       have n10_ : Aside0 (gb102 ≠ gb113) := ⟨h10_⟩
       have n11_ : Aside0 (gb113 ≠ gb102) := ⟨h11_⟩
       have n12_ : Aside0 (gb103 ≠ gb113) := ⟨h12_⟩
       have n13_ : Aside0 (gb113 ≠ gb103) := ⟨h13_⟩
       have n14_ : Aside0 (Below w.heap.size w w44) := ⟨h14_⟩
       clear BK101
       clear BK102
       clear BK103
       clear HB
       clear h0_ h1_ h2_ h3_ h4_ h5_ h6_ h7_ h8_ h9_ h10_ h11_ h12_ h13_ h14_
       have HO106 := n0_
       have HO109 := n1_
       have BK101 := n2_
       have BK102 := n3_
       have BK103 := n4_
       have BK113 := n5_
       have GW113 := n6_
       have GE113 := n7_
       have NB101_113 := n8_
       have NB113_101 := n9_
       have NB102_113 := n10_
       have NB113_102 := n11_
       have NB103_113 := n12_
       have NB113_103 := n13_
       have HB := n14_
       clear n0_ n1_ n2_ n3_ n4_ n5_ n6_ n7_ n8_ n9_ n10_ n11_ n12_ n13_ n14_
       have hHeld : w44.cell? ⟨gb101, 0, none⟩ = some (.int .i64 a0_0) ∧ w44.cell? ⟨gb101, 1, none⟩ = some (.slice A0_1 l0_1.length c0_1) ∧ w44.cell? ⟨gb102, 0, none⟩ = some (.int .i64 a1_0) ∧ w44.cell? ⟨gb102, 1, none⟩ = some (.int .i64 a1_1) ∧ w44.cell? ⟨gb102, 2, none⟩ = some (.int .i64 a1_2) := hS_
       obtain ⟨Ao46, co46, eo46⟩ := Kd.R_slice HO109.out
       (first | subst eo46 | (injection eo46 with f1_ f2_ f3_; have f4_ := f1_.symm; have f5_ := f3_.symm; clear f1_ f2_ f3_; subst f4_; subst f5_))
       refine norm_ (a' := ?_) ?_ ?_
       rotate_left
       ·
        simp only [putAll, Act.put, q1, q2, q3]
        rfl
       refine one_ (i := 7) (N := some 14) #[true, true, true, true, true, true, true, true, false, true, false] rfl rfl (one_of HT_.out (by kernel_rfl)) (by decide) (fun K hK => ?_)
       refine Kd.R_append_rows_step k38 (w0 := w) w.heap.size (by rfl) (.tmp 11) (.tmp 13) 22 38 (.agg #[(.int .i64 0), (.int .i64 0), (.int .i64 0)]) 24 rfl Try.underlying22 info38 rfl (by decide) (by omega) v105 t104 y107 _ _ _ (fun k_ => some k_ ≠ (.slice Ao46 y107.length co46 : Value).ownBlock ∧ k_ ≠ gb102) (fun _ => False) rfl rfl ?aO ?aR (fun _ _ h => h) (fun _ h => h.elim) ?aF ?aB ?aS ?aL ?_
       (case aR => repeat (first | exact (Kd.R_reads' HO109.out).2.2 | (with_reducible refine Kd.C_alloc ?_ _) | (with_reducible refine Kd.C_drewN ?_ _) | (with_reducible refine Kd.C_drew ?_)))
       (case aB => exact (kb4 HB GE101 GE102 GE103 GE113))
       (case aF => exact (fun k_ hk => ⟨Kd.fresh' (Kd.R_lt (kr HO109)) k_ hk, Kd.freshB (g := gb102) (o := .cells #[.int .i64 a1_0, .int .i64 a1_1, .int .i64 a1_2] 38 (0, 0)) (kq BK102) k_ hk⟩))
       (case aO => exact (kr HO106))
       (case aS => exact (below_size (kb4 HB GE101 GE102 GE103 GE113)))
       (case aL => have := LMc4.out; omega)
       intro v111 w45 ho hb hg hat
       rw [← Ny110.out] at ho
       have n0_ := aM (blk_grown (kq BK101) hg (Kd.R_ne HO106.out BK101.out (by decide)))
       have n1_ := aM (blk_grown (kq BK102) hg (Kd.R_away HO106.out (fun _ hk => hk.2)))
       have n2_ := aM (blk_grown (kq BK103) hg (Kd.R_ne HO106.out BK103.out (by decide)))
       have n3_ := aM (Kd.R_after (ok := (fun k_ => k_ ≠ gb102)) (by (with_reducible repeat (first | apply Kd.R_alloc | apply Kd.R_drewN | apply Kd.R_drew)); exact Kd.R_mono HO109.out (fun _ hk => ⟨hk.2, hk.1⟩)) hg hat)
       have n4_ := aM (blk_grown (kq BK113) hg (Kd.R_ne HO106.out BK113.out (by decide)))
       have n5_ := aM (hb)
       have n6_ := aM (ho)
       clear BK101
       clear BK102
       clear BK103
       clear HO109
       clear BK113
       clear HB
       clear HO106
       have BK101 := n0_
       have BK102 := n1_
       have BK103 := n2_
       have HO109 := n3_
       have BK113 := n4_
       have HB := n5_
       have HO112 := n6_
       clear n0_ n1_ n2_ n3_ n4_ n5_ n6_
       clear ho hb hg hat
       obtain ⟨Ao47, co47, eo47⟩ := Kd.R_slice HO112.out
       (first | subst eo47 | (injection eo47 with f1_ f2_ f3_; have f4_ := f1_.symm; have f5_ := f3_.symm; clear f1_ f2_ f3_; subst f4_; subst f5_))
       refine hK.out _ _ ⟨(blk_cell BK101.out 0).trans rfl, (blk_cell BK101.out 1).trans rfl, (blk_cell BK102.out 0).trans rfl, (blk_cell BK102.out 1).trans rfl, (blk_cell BK102.out 2).trans rfl⟩ (fun hHeld => ?_)
       clear hK K
       refine norm_ (a' := ?_) ?_ ?_
       rotate_left
       ·
        show Act.put _ (some 14) _ = _
        simp only [Act.put, q1, q2, q3, i64_w, i32_w]
        rfl
       refine pure_ (i := 8) (N := some 15) (v := ?_) (a' := ?_) #[true, true, true, true, true, true, true, true, true, true, false] rfl rfl (any_of HT_.out (by kernel_rfl)) (fun _ _ _ h => h) (Or.inl ⟨by rfl, ?_⟩) ?_ ?_
       rotate_left
       ·
        intro w'
        go_simp
        with_reducible rfl
       rotate_left
       ·
        simp only [Act.put, q1, q2, q3, i64_w, i32_w]
        rfl
       exact norm_ (by first | (simp only [putAll, Act.put, q1, q2, q3]; done) | (simp only [putAll, Act.put, q1, q2, q3]; rfl)) (hJ4_6_7_9 (v105, .slice Ao46 y107.length co46, .slice Ao47 y110.length co47, gb113) _ ⟨hHeld, (by (with_reducible repeat (first | apply Kd.R_alloc | apply Kd.R_drewN | apply Kd.R_drew)); exact Kd.R_mono HO109.out (fun _ hk => ⟨hk.2, hk.1⟩)), (kr HO112), (kq BK101), (kq BK102), (kq BK103), (kq BK113), GW113.out, GE113.out, NB101_113.out, NB113_101.out, NB102_113.out, NB113_102.out, NB103_113.out, NB113_103.out, (kb4 HB GE101 GE102 GE103 GE113)⟩)
     ·
      skip
      rintro ⟨v105, v108, v111⟩ w46 ⟨hS_, h0_, h1_, h2_, h3_, h4_, h5_⟩
      have n0_ : Aside0 (Kd.R k38 38 w46 w.heap.size (fun k_ => some k_ ≠ (v111 : Value).ownBlock ∧ k_ ≠ gb102) v108 y107) := ⟨h0_⟩
      have n1_ : Aside0 (Kd.R k38 38 w46 w.heap.size (fun k_ => some k_ ≠ (v108 : Value).ownBlock ∧ k_ ≠ gb102) v111 y110) := ⟨h1_⟩
      have n2_ : Aside0 (w46.heap[gb101]? = some (.cells #[.int .i64 a0_0, .slice A0_1 l0_1.length c0_1] 24 (0, 0))) := ⟨h2_⟩
      have n3_ : Aside0 (w46.heap[gb102]? = some (.cells #[.int .i64 a1_0, .int .i64 a1_1, .int .i64 a1_2] 38 (0, 0))) := ⟨h3_⟩
      have n4_ : Aside0 (w46.heap[gb103]? = some (.cells #[.int .i64 0, .slice none 0 0] 24 (0, 0))) := ⟨h4_⟩
      have n5_ : Aside0 (Below w.heap.size w w46) := ⟨h5_⟩
      clear BK101
      clear BK102
      clear BK103
      clear HB
      clear h0_ h1_ h2_ h3_ h4_ h5_
      have HO109 := n0_
      have HO112 := n1_
      have BK101 := n2_
      have BK102 := n3_
      have BK103 := n4_
      have HB := n5_
      clear n0_ n1_ n2_ n3_ n4_ n5_
      have hHeld : w46.cell? ⟨gb101, 0, none⟩ = some (.int .i64 a0_0) ∧ w46.cell? ⟨gb101, 1, none⟩ = some (.slice A0_1 l0_1.length c0_1) ∧ w46.cell? ⟨gb102, 0, none⟩ = some (.int .i64 a1_0) ∧ w46.cell? ⟨gb102, 1, none⟩ = some (.int .i64 a1_1) ∧ w46.cell? ⟨gb102, 2, none⟩ = some (.int .i64 a1_2) := hS_
      obtain ⟨Ao47, co47, eo47⟩ := Kd.R_slice HO112.out
      (first | subst eo47 | (injection eo47 with f1_ f2_ f3_; have f4_ := f1_.symm; have f5_ := f3_.symm; clear f1_ f2_ f3_; subst f4_; subst f5_))
      refine norm_ (a' := ?_) ?_ ?_
      rotate_left
      ·
       simp only [putAll, Act.put, q1, q2, q3]
       rfl
      refine one_ (i := 9) (N := some 6) #[true, true, true, true, true, true, true, true, true, true, false] rfl rfl (one_of HT_.out (by kernel_rfl)) (by decide) (fun K hK => ?_)
      refine box_step ?hg (N := 6) ?hd (cs := #[.int .i64 0, .slice none 0 0]) (t := 24) ?hr ?_; (case hd => rfl); (case hg => rfl); (case hr => first | (go_simp; done) | (go_simp; rfl))
      intro gb113 hg w48 hbox hb
      have n0_ := aM (Kd.R_below (kr HO109) hb)
      have n1_ := aM (Kd.R_below (kr HO112) hb)
      have n2_ := aM (blk_below (kq BK101) hb)
      have n3_ := aM (blk_below (kq BK102) hb)
      have n4_ := aM (blk_below (kq BK103) hb)
      have n5_ := aM (below_step (kb3 HB GE101 GE102 GE103) hb)
      have n6_ := aM (hbox)
      have n7_ := aM ((by rw [hg]; exact (below_size (kb3 HB GE101 GE102 GE103)) : w.heap.size ≤ gb113))
      have n8_ := aM ((by rw [hg]; exact (below_size (kb3 HB GE101 GE102 GE103)) : w.heap.size ≤ gb113))
      have n9_ := aM ((by rw [hg]; exact Nat.ne_of_lt (blk_lt (kq BK101)) : gb101 ≠ gb113))
      have n10_ := aM ((by rw [hg]; exact Nat.ne_of_gt (blk_lt (kq BK101)) : gb113 ≠ gb101))
      have n11_ := aM ((by rw [hg]; exact Nat.ne_of_lt (blk_lt (kq BK102)) : gb102 ≠ gb113))
      have n12_ := aM ((by rw [hg]; exact Nat.ne_of_gt (blk_lt (kq BK102)) : gb113 ≠ gb102))
      have n13_ := aM ((by rw [hg]; exact Nat.ne_of_lt (blk_lt (kq BK103)) : gb103 ≠ gb113))
      have n14_ := aM ((by rw [hg]; exact Nat.ne_of_gt (blk_lt (kq BK103)) : gb113 ≠ gb103))
      clear HO109
      clear HO112
      clear BK101
      clear BK102
      clear BK103
      clear HB
      have HO109 := n0_
      have HO112 := n1_
      have BK101 := n2_
      have BK102 := n3_
      have BK103 := n4_
      have HB := n5_
      have BK113 := n6_
      have GW113 := n7_
      have GE113 := n8_
      have NB101_113 := n9_
      have NB113_101 := n10_
      have NB102_113 := n11_
      have NB113_102 := n12_
      have NB103_113 := n13_
      have NB113_103 := n14_
      clear n0_ n1_ n2_ n3_ n4_ n5_ n6_ n7_ n8_ n9_ n10_ n11_ n12_ n13_ n14_
      clear hb hbox hg
      refine hK.out _ _ ⟨(blk_cell BK101.out 0).trans rfl, (blk_cell BK101.out 1).trans rfl, (blk_cell BK102.out 0).trans rfl, (blk_cell BK102.out 1).trans rfl, (blk_cell BK102.out 2).trans rfl⟩ (fun hHeld => ?_)
      clear hK K
      refine norm_ (a' := ?_) ?_ ?_
      rotate_left
      ·
       show Act.put _ (some 6) _ = _
       simp only [Act.put, q1, q2, q3, i64_w, i32_w]
       rfl
      exact norm_ (by first | (simp only [putAll, Act.put, q1, q2, q3]; done) | (simp only [putAll, Act.put, q1, q2, q3]; rfl)) (hJ4_6_7_9 (v105, v108, .slice Ao47 y110.length co47, gb113) _ ⟨hHeld, (kr HO109), (kr HO112), (kq BK101), (kq BK102), (kq BK103), (kq BK113), GW113.out, GE113.out, NB101_113.out, NB113_101.out, NB102_113.out, NB113_102.out, NB103_113.out, NB113_103.out, (kb4 HB GE101 GE102 GE103 GE113)⟩)
    rintro ⟨v105, v108, v111, gb113⟩ w47 ⟨hS_, h0_, h1_, h2_, h3_, h4_, h5_, h6_, h7_, h8_, h9_, h10_, h11_, h12_, h13_, h14_⟩
    have n0_ : Aside0 (Kd.R k38 38 w47 w.heap.size (fun k_ => some k_ ≠ (v111 : Value).ownBlock ∧ k_ ≠ gb102) v108 y107) := ⟨h0_⟩
    have n1_ : Aside0 (Kd.R k38 38 w47 w.heap.size (fun k_ => some k_ ≠ (v108 : Value).ownBlock ∧ k_ ≠ gb102) v111 y110) := ⟨h1_⟩
    have n2_ : Aside0 (w47.heap[gb101]? = some (.cells #[.int .i64 a0_0, .slice A0_1 l0_1.length c0_1] 24 (0, 0))) := ⟨h2_⟩
    have n3_ : Aside0 (w47.heap[gb102]? = some (.cells #[.int .i64 a1_0, .int .i64 a1_1, .int .i64 a1_2] 38 (0, 0))) := ⟨h3_⟩
    have n4_ : Aside0 (w47.heap[gb103]? = some (.cells #[.int .i64 0, .slice none 0 0] 24 (0, 0))) := ⟨h4_⟩
    have n5_ : Aside0 (w47.heap[gb113]? = some (.cells #[.int .i64 0, .slice none 0 0] 24 (0, 0))) := ⟨h5_⟩
    have n6_ : Aside0 (w.heap.size ≤ gb113) := ⟨h6_⟩
    have n7_ : Aside0 (w.heap.size ≤ gb113) := ⟨h7_⟩
    have n8_ : Aside0 (gb101 ≠ gb113) := ⟨h8_⟩
    have n9_ : Aside0 (gb113 ≠ gb101) := ⟨h9_⟩
    have n10_ : Aside0 (gb102 ≠ gb113) := ⟨h10_⟩
    have n11_ : Aside0 (gb113 ≠ gb102) := ⟨h11_⟩
    have n12_ : Aside0 (gb103 ≠ gb113) := ⟨h12_⟩
    have n13_ : Aside0 (gb113 ≠ gb103) := ⟨h13_⟩
    have n14_ : Aside0 (Below w.heap.size w w47) := ⟨h14_⟩
    clear BK101
    clear BK102
    clear BK103
    clear HB
    clear h0_ h1_ h2_ h3_ h4_ h5_ h6_ h7_ h8_ h9_ h10_ h11_ h12_ h13_ h14_
    have HO109 := n0_
    have HO112 := n1_
    have BK101 := n2_
    have BK102 := n3_
    have BK103 := n4_
    have BK113 := n5_
    have GW113 := n6_
    have GE113 := n7_
    have NB101_113 := n8_
    have NB113_101 := n9_
    have NB102_113 := n10_
    have NB113_102 := n11_
    have NB103_113 := n12_
    have NB113_103 := n13_
    have HB := n14_
    clear n0_ n1_ n2_ n3_ n4_ n5_ n6_ n7_ n8_ n9_ n10_ n11_ n12_ n13_ n14_
    have hHeld : w47.cell? ⟨gb101, 0, none⟩ = some (.int .i64 a0_0) ∧ w47.cell? ⟨gb101, 1, none⟩ = some (.slice A0_1 l0_1.length c0_1) ∧ w47.cell? ⟨gb102, 0, none⟩ = some (.int .i64 a1_0) ∧ w47.cell? ⟨gb102, 1, none⟩ = some (.int .i64 a1_1) ∧ w47.cell? ⟨gb102, 2, none⟩ = some (.int .i64 a1_2) := hS_
    obtain ⟨Ao48, co48, eo48⟩ := Kd.R_slice HO112.out
    (first | subst eo48 | (injection eo48 with f1_ f2_ f3_; have f4_ := f1_.symm; have f5_ := f3_.symm; clear f1_ f2_ f3_; subst f4_; subst f5_))
    refine norm_ (a' := ?_) ?_ ?_
    rotate_left
    ·
     simp only [putAll, Act.put, q1, q2, q3]
     rfl
    refine one_ (i := 10) (N := none) #[true, true, true, true, true, true, true, true, true, true, true] rfl rfl (one_of HT_.out (by kernel_rfl)) (by decide) (fun K hK => ?_)
    have hs49 : w47.cell? ⟨gb113, 0, none⟩ = some (.int .i64 0) := (blk_cell BK113.out 0).trans rfl
    have hfs49 := blk_frozen BK113.out 0
    have hns49_0 := NB101_113.out
    have hns49_1 := NB102_113.out
    have hns49_2 := NB103_113.out
    have hms49_0 := NB113_101.out
    have hms49_1 := NB113_102.out
    have hms49_2 := NB113_103.out
    have hs50 : w47.cell? ⟨gb113, 1, none⟩ = some (.slice none 0 0) := (blk_cell BK113.out 1).trans rfl
    have hfs50 := blk_frozen BK113.out 1
    have hns50_0 := NB101_113.out
    have hns50_1 := NB102_113.out
    have hns50_2 := NB103_113.out
    have hms50_0 := NB113_101.out
    have hms50_1 := NB113_102.out
    have hms50_2 := NB113_103.out
    refine skip_ (w1 := ?_) (by rfl) rfl ?_ ?_
    rotate_left
    ·
     go_simp
     rfl
    refine hK.out _ _ ⟨((cell_far (p := ⟨gb113, _, none⟩) NB101_113.out _).trans (((cell_far (p := ⟨gb113, _, none⟩) NB101_113.out _).trans (hHeld.1)))), ((cell_far (p := ⟨gb113, _, none⟩) NB101_113.out _).trans (((cell_far (p := ⟨gb113, _, none⟩) NB101_113.out _).trans (hHeld.2.1)))), ((cell_far (p := ⟨gb113, _, none⟩) NB102_113.out _).trans (((cell_far (p := ⟨gb113, _, none⟩) NB102_113.out _).trans (hHeld.2.2.1)))), ((cell_far (p := ⟨gb113, _, none⟩) NB102_113.out _).trans (((cell_far (p := ⟨gb113, _, none⟩) NB102_113.out _).trans (hHeld.2.2.2.1)))), ((cell_far (p := ⟨gb113, _, none⟩) NB102_113.out _).trans (((cell_far (p := ⟨gb113, _, none⟩) NB102_113.out _).trans (hHeld.2.2.2.2))))⟩ (fun hHeld => ?_)
    clear hK K
    refine done_ (done_of HT_.out (by kernel_rfl)) ?_
    have hnb51 := NB101_102.out
    have hnc51 := NB102_101.out
    have hnb52 := NB101_103.out
    have hnc52 := NB103_101.out
    have hnb53 := NB101_113.out
    have hnc53 := NB113_101.out
    have hcz54_0 : w47.cell? ⟨gb101, 0, none⟩ = some (.int .i64 a0_0) := (blk_cell BK101.out 0).trans rfl
    have hcz54_1 : w47.cell? ⟨gb101, 1, none⟩ = some (.slice A0_1 l0_1.length c0_1) := (blk_cell BK101.out 1).trans rfl
    have hfz54_0 := blk_frozen BK101.out 0
    have hfz54_1 := blk_frozen BK101.out 1
    try go_wp2_with (first | ((with_reducible refine gate_callee (f := 19) rfl ?_); refine goesL_ (some 17) rfl rfl Try.func19 (by kernel_rfl) rfl #[.agg #[.int .i64 a0_0, .slice A0_1 l0_1.length c0_1]] rfl ka ?_; (with_reducible refine (impl_IsPuzzle.calls k a0_0 _ _ l0_1 true _ ?side1 ?side2 A5.out).mono ?_); (case side1 => exact Kd.C_below HR0_1.out (kb4 HB GE101 GE102 GE103 GE113)); (case side2 => exact HC0_1.out); rintro e w55 ⟨rfl, hb⟩; refine ⟨_, rfl, ?_⟩; have n0_ := aM (Kd.R_below (by (with_reducible repeat (first | apply Kd.R_alloc | apply Kd.R_drewN | apply Kd.R_drew)); exact (Kd.R_mono (Kd.R_far (p := ⟨gb113, 1, none⟩) (Kd.R_far (p := ⟨gb113, 0, none⟩) (Kd.R_types HO109.out BK113.out (by decide)) (fun _ hk => hk.2) (.int .i64 a0_0)) (fun _ hk => hk.2) (.slice Ao48 y110.length co48)) (fun _ h_ => h_.1))) hb); have n1_ := aM (Kd.R_below (by (with_reducible repeat (first | apply Kd.R_alloc | apply Kd.R_drewN | apply Kd.R_drew)); exact (Kd.R_mono (Kd.R_far (p := ⟨gb113, 1, none⟩) (Kd.R_far (p := ⟨gb113, 0, none⟩) (Kd.R_types HO112.out BK113.out (by decide)) (fun _ hk => hk.2) (.int .i64 a0_0)) (fun _ hk => hk.2) (.slice Ao48 y110.length co48)) (fun _ h_ => h_.1))) hb); have n2_ := aM (blk_below (blk_far (p := ⟨gb113, 1, none⟩) (blk_far (p := ⟨gb113, 0, none⟩) BK101.out NB101_113.out _) NB101_113.out _) hb); have n3_ := aM (blk_below (blk_far (p := ⟨gb113, 1, none⟩) (blk_far (p := ⟨gb113, 0, none⟩) BK102.out NB102_113.out _) NB102_113.out _) hb); have n4_ := aM (blk_below (blk_far (p := ⟨gb113, 1, none⟩) (blk_far (p := ⟨gb113, 0, none⟩) BK103.out NB103_113.out _) NB103_113.out _) hb); have n5_ := aM (blk_below (g := gb113) (o := .cells #[.int .i64 a0_0, .slice Ao48 y110.length co48] 24 (0, 0)) (by (with_reducible repeat (first | refine blk_drewN ?_ _ | refine blk_drew ?_ | refine blk_alloc ?_ _)); refine blk_put (cs := #[.int .i64 a0_0, .slice none 0 0]) ?_ 1 _ rfl; (with_reducible repeat (first | refine blk_drewN ?_ _ | refine blk_drew ?_ | refine blk_alloc ?_ _)); refine blk_put (cs := #[.int .i64 0, .slice none 0 0]) ?_ 0 _ rfl; (with_reducible repeat (first | refine blk_drewN ?_ _ | refine blk_drew ?_ | refine blk_alloc ?_ _)); exact BK113.out) hb); have n6_ := aM (below_step (kb4 HB GE101 GE102 GE103 GE113) hb); clear HO109; clear HO112; clear BK101; clear BK102; clear BK103; clear BK113; clear HB; have HO109 := n0_; have HO112 := n1_; have BK101 := n2_; have BK102 := n3_; have BK103 := n4_; have BK113 := n5_; have HB := n6_; clear n0_ n1_ n2_ n3_ n4_ n5_ n6_; (try clear hb); (try clear hb2); (try clear hk); (try clear hi); have hnb56 := NB113_102.out; have hnc56 := NB102_113.out; have hnb57 := NB113_103.out; have hnc57 := NB103_113.out; have hcz58_0 : w55.cell? ⟨gb113, 0, none⟩ = some (.int .i64 a0_0) := (blk_cell BK113.out 0).trans rfl; have hcz58_1 : w55.cell? ⟨gb113, 1, none⟩ = some (.slice Ao48 y110.length co48) := (blk_cell BK113.out 1).trans rfl; have hfz58_0 := blk_frozen BK113.out 0; have hfz58_1 := blk_frozen BK113.out 1) | (go_at_call 19; (with_reducible refine (impl_IsPuzzle.calls k a0_0 _ _ y110 false _ ?side1 ?side2 A7.out).mono ?_); (case side1 => repeat (first | exact (Kd.R_reads' HO112.out).2.2 | (with_reducible refine Kd.C_alloc ?_ _) | (with_reducible refine Kd.C_drewN ?_ _) | (with_reducible refine Kd.C_drew ?_))); (case side2 => exact (Kd.R_reads' HO112.out).2.1); rintro e w59 ⟨rfl, hb⟩; have n0_ := aM (Kd.R_below (kr HO109) hb); have n1_ := aM (Kd.R_below (kr HO112) hb); have n2_ := aM (blk_below (kq BK101) hb); have n3_ := aM (blk_below (kq BK102) hb); have n4_ := aM (blk_below (kq BK103) hb); have n5_ := aM (blk_below (kq BK113) hb); have n6_ := aM (below_step (kb4 HB GE101 GE102 GE103 GE113) hb); clear HO109; clear HO112; clear BK101; clear BK102; clear BK103; clear BK113; clear HB; have HO109 := n0_; have HO112 := n1_; have BK101 := n2_; have BK102 := n3_; have BK103 := n4_; have BK113 := n5_; have HB := n6_; clear n0_ n1_ n2_ n3_ n4_ n5_ n6_; (try clear hb); (try clear hb2); (try clear hk); (try clear hi); have hnb60 := NB103_102.out; have hnc60 := NB102_103.out; have hcz61_0 : w59.cell? ⟨gb103, 0, none⟩ = some (.int .i64 0) := (blk_cell BK103.out 0).trans rfl; have hcz61_1 : w59.cell? ⟨gb103, 1, none⟩ = some (.slice none 0 0) := (blk_cell BK103.out 1).trans rfl; have hfz61_0 := blk_frozen BK103.out 0; have hfz61_1 := blk_frozen BK103.out 1))
    refine bodyPost_ret (results_ct rfl _ _ gb103 24 #[.int .i64 0, .slice none 0 0] (0, 0) _ rfl (by (with_reducible repeat (first | refine blk_drewN ?_ _ | refine blk_drew ?_ | refine blk_alloc ?_ _)); refine blk_put (cs := #[.int .i64 0, .slice none 0 0]) ?_ 1 _ rfl; (with_reducible repeat (first | refine blk_drewN ?_ _ | refine blk_drew ?_ | refine blk_alloc ?_ _)); refine blk_put (cs := #[.int .i64 0, .slice none 0 0]) ?_ 0 _ rfl; (with_reducible repeat (first | refine blk_drewN ?_ _ | refine blk_drew ?_ | refine blk_alloc ?_ _)); exact BK103.out) Try.underlying24 rfl (by kernel_rfl)) rfl ?_
    exact ⟨_, ea, by first | exact Kd.R_nil _ _ _ _ _ | exact Kd.N_nil _ _ _ _ _ | exact Kd.V_nil _ _ _ _ _ | exact Kd.Q_nil _ _ _ _ _ | exact Kd.S_nil _ _ _ _ _, (kb4 HB GE101 GE102 GE103 GE113)⟩
  ·
   replace c6 := Bool.eq_false_iff.mpr c6
   subst c6
   have H1 : (some (0, ([] : List (S38)), false)) = some (r1, r2, r3) := by rw [if_neg (show ¬ (false = true) by decide)] at H; exact H
   clear H
   have H := H1
   clear H1
   simp only [Option.some.injEq, Prod.mk.injEq] at H
   obtain ⟨rfl, rfl, rfl⟩ := H
   go_enter Try.func16, Try.ntmps16
   try go_wp2_with (first | ((with_reducible refine gate_dst (N := 2) rfl ?_); refine box_event ?hg (N := 2) ?hd (cs := #[.int .i64 a0_0, .slice A0_1 l0_1.length c0_1]) (t := 24) ?hr ?_; (case hd => rfl); (case hg => rfl); (case hr => first | (go_simp; done) | (go_simp; rfl)); intro gb101 hg w62 hbox hb; have n0_ := aM (below_step (kb0 HB) hb); have n1_ := aM (hbox); have n2_ := aM ((by rw [hg]; exact (below_size (kb0 HB)) : w.heap.size ≤ gb101)); have n3_ := aM ((by rw [hg]; exact (below_size (kb0 HB)) : w.heap.size ≤ gb101)); clear HB; have HB := n0_; have BK101 := n1_; have GW101 := n2_; have GE101 := n3_; clear n0_ n1_ n2_ n3_; clear hb hbox hg) | ((with_reducible refine gate_dst (N := 3) rfl ?_); refine box_event ?hg (N := 3) ?hd (cs := #[.int .i64 a1_0, .int .i64 a1_1, .int .i64 a1_2]) (t := 38) ?hr ?_; (case hd => rfl); (case hg => rfl); (case hr => first | (go_simp; done) | (go_simp; rfl)); intro gb102 hg w63 hbox hb; have n0_ := aM (blk_below (kq BK101) hb); have n1_ := aM (below_step (kb1 HB GE101) hb); have n2_ := aM (hbox); have n3_ := aM ((by rw [hg]; exact (below_size (kb1 HB GE101)) : w.heap.size ≤ gb102)); have n4_ := aM ((by rw [hg]; exact (below_size (kb1 HB GE101)) : w.heap.size ≤ gb102)); have n5_ := aM ((by rw [hg]; exact Nat.ne_of_lt (blk_lt (kq BK101)) : gb101 ≠ gb102)); have n6_ := aM ((by rw [hg]; exact Nat.ne_of_gt (blk_lt (kq BK101)) : gb102 ≠ gb101)); clear BK101; clear HB; have BK101 := n0_; have HB := n1_; have BK102 := n2_; have GW102 := n3_; have GE102 := n4_; have NB101_102 := n5_; have NB102_101 := n6_; clear n0_ n1_ n2_ n3_ n4_ n5_ n6_; clear hb hbox hg) | ((with_reducible refine gate_dst (N := 4) rfl ?_); refine box_event ?hg (N := 4) ?hd (cs := #[.int .i64 0, .slice none 0 0]) (t := 24) ?hr ?_; (case hd => rfl); (case hg => rfl); (case hr => first | (go_simp; done) | (go_simp; rfl)); intro gb103 hg w64 hbox hb; have n0_ := aM (blk_below (kq BK101) hb); have n1_ := aM (blk_below (kq BK102) hb); have n2_ := aM (below_step (kb2 HB GE101 GE102) hb); have n3_ := aM (hbox); have n4_ := aM ((by rw [hg]; exact (below_size (kb2 HB GE101 GE102)) : w.heap.size ≤ gb103)); have n5_ := aM ((by rw [hg]; exact (below_size (kb2 HB GE101 GE102)) : w.heap.size ≤ gb103)); have n6_ := aM ((by rw [hg]; exact Nat.ne_of_lt (blk_lt (kq BK101)) : gb101 ≠ gb103)); have n7_ := aM ((by rw [hg]; exact Nat.ne_of_gt (blk_lt (kq BK101)) : gb103 ≠ gb101)); have n8_ := aM ((by rw [hg]; exact Nat.ne_of_lt (blk_lt (kq BK102)) : gb102 ≠ gb103)); have n9_ := aM ((by rw [hg]; exact Nat.ne_of_gt (blk_lt (kq BK102)) : gb103 ≠ gb102)); clear BK101; clear BK102; clear HB; have BK101 := n0_; have BK102 := n1_; have HB := n2_; have BK103 := n3_; have GW103 := n4_; have GE103 := n5_; have NB101_103 := n6_; have NB103_101 := n7_; have NB102_103 := n8_; have NB103_102 := n9_; clear n0_ n1_ n2_ n3_ n4_ n5_ n6_ n7_ n8_ n9_; clear hb hbox hg))
   have n0_ := aM (blk_drew BK101.out)
   have n1_ := aM (blk_drew BK102.out)
   have n2_ := aM (blk_drew BK103.out)
   have n3_ := aM (below_drew1 HB.out)
   clear BK101
   clear BK102
   clear BK103
   clear HB
   have BK101 := n0_
   have BK102 := n1_
   have BK103 := n2_
   have HB := n3_
   clear n0_ n1_ n2_ n3_
   refine start_ (n := 11) (S := fun w' => w'.cell? ⟨gb101, 0, none⟩ = some (.int .i64 a0_0) ∧ w'.cell? ⟨gb101, 1, none⟩ = some (.slice A0_1 l0_1.length c0_1) ∧ w'.cell? ⟨gb102, 0, none⟩ = some (.int .i64 a1_0) ∧ w'.cell? ⟨gb102, 1, none⟩ = some (.int .i64 a1_1) ∧ w'.cell? ⟨gb102, 2, none⟩ = some (.int .i64 a1_2)) (ds := []) #[false, false, false, false, false, false, false, false, false, false, false] (by kernel_rfl) rfl rfl ⟨(blk_cell BK101.out 0).trans rfl, (blk_cell BK101.out 1).trans rfl, (blk_cell BK102.out 0).trans rfl, (blk_cell BK102.out 1).trans rfl, (blk_cell BK102.out 2).trans rfl⟩ (fun hHeld => ?_); refine with_tabW impl_AddClue.tab1 impl_AddClue.bits1 (fun HT_ HW_ => ?_)
   generalize w64.drew = w65 at BK101 BK102 BK103 HB hHeld ⊢
   refine pure_ (i := 0) (N := some 7) (v := ?_) (a' := ?_) #[true, false, false, false, false, false, false, false, false, false, false] rfl rfl (any_of HT_.out (by kernel_rfl)) (fun _ _ _ h => h) (Or.inl ⟨by rfl, ?_⟩) ?_ ?_
   rotate_left
   ·
    intro w'
    go_simp
    with_reducible rfl
   rotate_left
   ·
    simp only [Act.put, q1, q2, q3, i64_w, i32_w]
    rfl
   refine pure_ (i := 2) (N := some 9) (v := ?_) (a' := ?_) #[true, false, true, false, false, false, false, false, false, false, false] rfl rfl (any_of HT_.out (by kernel_rfl)) (fun _ _ _ h => h) (Or.inl ⟨by rfl, ?_⟩) ?_ ?_
   rotate_left
   ·
    intro w'
    go_simp
    with_reducible rfl
   rotate_left
   ·
    simp only [Act.put, q1, q2, q3, i64_w, i32_w]
    rfl
   refine take_ (i := 1) (N := some 8) (v := ?_) (a' := ?_) #[true, true, true, false, false, false, false, false, false, false, false] rfl rfl (take_ofW HT_.out HW_.out (by kernel_rfl)) (fun _ _ _ h => h) (Or.inl ⟨by rfl, ?_⟩) hHeld ?_ ?_
   rotate_left
   ·
    rintro w' ⟨s0, s1, s2, s3, s4⟩
    go_simp
    with_reducible rfl
   rotate_left
   ·
    simp only [Act.put, q1, q2, q3, i64_w, i32_w]
    rfl
   refine take_ (i := 3) (N := some 10) (v := ?_) (a' := ?_) #[true, true, true, true, false, false, false, false, false, false, false] rfl rfl (take_ofW HT_.out HW_.out (by kernel_rfl)) (fun _ _ _ h => h) (Or.inl ⟨by rfl, ?_⟩) hHeld ?_ ?_
   rotate_left
   ·
    rintro w' ⟨s0, s1, s2, s3, s4⟩
    go_simp
    with_reducible rfl
   rotate_left
   ·
    simp only [Act.put, q1, q2, q3, i64_w, i32_w]
    rfl
   refine take_ (i := 5) (N := some 12) (v := ?_) (a' := ?_) #[true, true, true, true, false, true, false, false, false, false, false] rfl rfl (take_ofW HT_.out HW_.out (by kernel_rfl)) (fun _ _ _ h => h) (Or.inl ⟨by rfl, ?_⟩) hHeld ?_ ?_
   rotate_left
   ·
    rintro w' ⟨s0, s1, s2, s3, s4⟩
    go_simp
    with_reducible rfl
   rotate_left
   ·
    simp only [Act.put, q1, q2, q3, i64_w, i32_w]
    rfl
   refine join_ (σ := Value × Value × Value × Nat) 1 #[true, true, true, true, true, true, true, true, true, true, false] (fun s_ => [(11, s_.1), (13, s_.2.1), (14, s_.2.2.1), (6, .pointer (some ⟨s_.2.2.2, 0, none⟩)), (15, .agg #[.int .i64 a0_0, s_.2.2.1])]) (fun s_ w' => (w'.cell? ⟨gb101, 0, none⟩ = some (.int .i64 a0_0) ∧ w'.cell? ⟨gb101, 1, none⟩ = some (.slice A0_1 l0_1.length c0_1) ∧ w'.cell? ⟨gb102, 0, none⟩ = some (.int .i64 a1_0) ∧ w'.cell? ⟨gb102, 1, none⟩ = some (.int .i64 a1_1) ∧ w'.cell? ⟨gb102, 2, none⟩ = some (.int .i64 a1_2)) ∧ (Kd.R k38 38 w' w.heap.size (fun k_ => some k_ ≠ (s_.2.2.1 : Value).ownBlock ∧ k_ ≠ gb102) s_.2.1 y107) ∧ (Kd.R k38 38 w' w.heap.size (fun k_ => some k_ ≠ (s_.2.1 : Value).ownBlock ∧ k_ ≠ gb102) s_.2.2.1 y110) ∧ (w'.heap[gb101]? = some (.cells #[.int .i64 a0_0, .slice A0_1 l0_1.length c0_1] 24 (0, 0))) ∧ (w'.heap[gb102]? = some (.cells #[.int .i64 a1_0, .int .i64 a1_1, .int .i64 a1_2] 38 (0, 0))) ∧ (w'.heap[gb103]? = some (.cells #[.int .i64 0, .slice none 0 0] 24 (0, 0))) ∧ (w'.heap[s_.2.2.2]? = some (.cells #[.int .i64 0, .slice none 0 0] 24 (0, 0))) ∧ (w.heap.size ≤ s_.2.2.2) ∧ (w.heap.size ≤ s_.2.2.2) ∧ (gb101 ≠ s_.2.2.2) ∧ (s_.2.2.2 ≠ gb101) ∧ (gb102 ≠ s_.2.2.2) ∧ (s_.2.2.2 ≠ gb102) ∧ (gb103 ≠ s_.2.2.2) ∧ (s_.2.2.2 ≠ gb103) ∧ (Below w.heap.size w w')) ?_ ?_
   rotate_left
   ·
    intro hJ4_6_7_9
    refine join_ (σ := Value × Value × Value) 2 #[true, true, true, true, true, true, true, true, true, false, false] (fun s_ => [(11, s_.1), (13, s_.2.1), (14, s_.2.2), (15, .agg #[.int .i64 a0_0, s_.2.2])]) (fun s_ w' => (w'.cell? ⟨gb101, 0, none⟩ = some (.int .i64 a0_0) ∧ w'.cell? ⟨gb101, 1, none⟩ = some (.slice A0_1 l0_1.length c0_1) ∧ w'.cell? ⟨gb102, 0, none⟩ = some (.int .i64 a1_0) ∧ w'.cell? ⟨gb102, 1, none⟩ = some (.int .i64 a1_1) ∧ w'.cell? ⟨gb102, 2, none⟩ = some (.int .i64 a1_2)) ∧ (Kd.R k38 38 w' w.heap.size (fun k_ => some k_ ≠ (s_.2.2 : Value).ownBlock ∧ k_ ≠ gb102) s_.2.1 y107) ∧ (Kd.R k38 38 w' w.heap.size (fun k_ => some k_ ≠ (s_.2.1 : Value).ownBlock ∧ k_ ≠ gb102) s_.2.2 y110) ∧ (w'.heap[gb101]? = some (.cells #[.int .i64 a0_0, .slice A0_1 l0_1.length c0_1] 24 (0, 0))) ∧ (w'.heap[gb102]? = some (.cells #[.int .i64 a1_0, .int .i64 a1_1, .int .i64 a1_2] 38 (0, 0))) ∧ (w'.heap[gb103]? = some (.cells #[.int .i64 0, .slice none 0 0] 24 (0, 0))) ∧ (Below w.heap.size w w')) ?_ ?_
    rotate_left
    ·
     intro hJ4_6_7
     refine join_ (σ := Value × Value × Nat) 3 #[true, true, true, true, true, true, true, false, false, true, false] (fun s_ => [(11, s_.1), (13, s_.2.1), (6, .pointer (some ⟨s_.2.2, 0, none⟩))]) (fun s_ w' => (w'.cell? ⟨gb101, 0, none⟩ = some (.int .i64 a0_0) ∧ w'.cell? ⟨gb101, 1, none⟩ = some (.slice A0_1 l0_1.length c0_1) ∧ w'.cell? ⟨gb102, 0, none⟩ = some (.int .i64 a1_0) ∧ w'.cell? ⟨gb102, 1, none⟩ = some (.int .i64 a1_1) ∧ w'.cell? ⟨gb102, 2, none⟩ = some (.int .i64 a1_2)) ∧ (Kd.R k38 38 w' w.heap.size (fun k_ => some k_ ≠ (s_.2.1 : Value).ownBlock ∧ k_ ≠ gb102) s_.1 t104) ∧ (Kd.R k38 38 w' w.heap.size (fun k_ => some k_ ≠ (s_.1 : Value).ownBlock ∧ k_ ≠ gb102) s_.2.1 y107) ∧ (w'.heap[gb101]? = some (.cells #[.int .i64 a0_0, .slice A0_1 l0_1.length c0_1] 24 (0, 0))) ∧ (w'.heap[gb102]? = some (.cells #[.int .i64 a1_0, .int .i64 a1_1, .int .i64 a1_2] 38 (0, 0))) ∧ (w'.heap[gb103]? = some (.cells #[.int .i64 0, .slice none 0 0] 24 (0, 0))) ∧ (w'.heap[s_.2.2]? = some (.cells #[.int .i64 0, .slice none 0 0] 24 (0, 0))) ∧ (w.heap.size ≤ s_.2.2) ∧ (w.heap.size ≤ s_.2.2) ∧ (gb101 ≠ s_.2.2) ∧ (s_.2.2 ≠ gb101) ∧ (gb102 ≠ s_.2.2) ∧ (s_.2.2 ≠ gb102) ∧ (gb103 ≠ s_.2.2) ∧ (s_.2.2 ≠ gb103) ∧ (Below w.heap.size w w')) ?_ ?_
     rotate_left
     ·
      intro hJ4_6_9
      refine join_ (σ := Value × Value) 4 #[true, true, true, true, true, true, true, false, false, false, false] (fun s_ => [(11, s_.1), (13, s_.2)]) (fun s_ w' => (w'.cell? ⟨gb101, 0, none⟩ = some (.int .i64 a0_0) ∧ w'.cell? ⟨gb101, 1, none⟩ = some (.slice A0_1 l0_1.length c0_1) ∧ w'.cell? ⟨gb102, 0, none⟩ = some (.int .i64 a1_0) ∧ w'.cell? ⟨gb102, 1, none⟩ = some (.int .i64 a1_1) ∧ w'.cell? ⟨gb102, 2, none⟩ = some (.int .i64 a1_2)) ∧ (Kd.R k38 38 w' w.heap.size (fun k_ => some k_ ≠ (s_.2 : Value).ownBlock ∧ k_ ≠ gb102) s_.1 t104) ∧ (Kd.R k38 38 w' w.heap.size (fun k_ => some k_ ≠ (s_.1 : Value).ownBlock ∧ k_ ≠ gb102) s_.2 y107) ∧ (w'.heap[gb101]? = some (.cells #[.int .i64 a0_0, .slice A0_1 l0_1.length c0_1] 24 (0, 0))) ∧ (w'.heap[gb102]? = some (.cells #[.int .i64 a1_0, .int .i64 a1_1, .int .i64 a1_2] 38 (0, 0))) ∧ (w'.heap[gb103]? = some (.cells #[.int .i64 0, .slice none 0 0] 24 (0, 0))) ∧ (Below w.heap.size w w')) ?_ ?_
      rotate_left
      ·
       intro hJ4_6
       refine join_ (σ := Value × Nat) 4 #[true, true, true, true, true, true, false, false, false, true, false] (fun s_ => [(11, s_.1), (6, .pointer (some ⟨s_.2, 0, none⟩))]) (fun s_ w' => (w'.cell? ⟨gb101, 0, none⟩ = some (.int .i64 a0_0) ∧ w'.cell? ⟨gb101, 1, none⟩ = some (.slice A0_1 l0_1.length c0_1) ∧ w'.cell? ⟨gb102, 0, none⟩ = some (.int .i64 a1_0) ∧ w'.cell? ⟨gb102, 1, none⟩ = some (.int .i64 a1_1) ∧ w'.cell? ⟨gb102, 2, none⟩ = some (.int .i64 a1_2)) ∧ (Kd.R k38 38 w' w.heap.size (fun k_ => k_ ≠ gb102) s_.1 t104) ∧ (w'.heap[gb101]? = some (.cells #[.int .i64 a0_0, .slice A0_1 l0_1.length c0_1] 24 (0, 0))) ∧ (w'.heap[gb102]? = some (.cells #[.int .i64 a1_0, .int .i64 a1_1, .int .i64 a1_2] 38 (0, 0))) ∧ (w'.heap[gb103]? = some (.cells #[.int .i64 0, .slice none 0 0] 24 (0, 0))) ∧ (w'.heap[s_.2]? = some (.cells #[.int .i64 0, .slice none 0 0] 24 (0, 0))) ∧ (w.heap.size ≤ s_.2) ∧ (w.heap.size ≤ s_.2) ∧ (gb101 ≠ s_.2) ∧ (s_.2 ≠ gb101) ∧ (gb102 ≠ s_.2) ∧ (s_.2 ≠ gb102) ∧ (gb103 ≠ s_.2) ∧ (s_.2 ≠ gb103) ∧ (Below w.heap.size w w')) ?_ ?_
       rotate_left
       ·
        intro hJ4_9
        refine join_ (σ := Value × Nat) 4 #[true, true, true, true, false, true, true, false, false, true, false] (fun s_ => [(13, s_.1), (6, .pointer (some ⟨s_.2, 0, none⟩))]) (fun s_ w' => (w'.cell? ⟨gb101, 0, none⟩ = some (.int .i64 a0_0) ∧ w'.cell? ⟨gb101, 1, none⟩ = some (.slice A0_1 l0_1.length c0_1) ∧ w'.cell? ⟨gb102, 0, none⟩ = some (.int .i64 a1_0) ∧ w'.cell? ⟨gb102, 1, none⟩ = some (.int .i64 a1_1) ∧ w'.cell? ⟨gb102, 2, none⟩ = some (.int .i64 a1_2)) ∧ (Kd.R k38 38 w' w.heap.size (fun k_ => k_ ≠ gb102) s_.1 y107) ∧ (w'.heap[gb101]? = some (.cells #[.int .i64 a0_0, .slice A0_1 l0_1.length c0_1] 24 (0, 0))) ∧ (w'.heap[gb102]? = some (.cells #[.int .i64 a1_0, .int .i64 a1_1, .int .i64 a1_2] 38 (0, 0))) ∧ (w'.heap[gb103]? = some (.cells #[.int .i64 0, .slice none 0 0] 24 (0, 0))) ∧ (w'.heap[s_.2]? = some (.cells #[.int .i64 0, .slice none 0 0] 24 (0, 0))) ∧ (w.heap.size ≤ s_.2) ∧ (w.heap.size ≤ s_.2) ∧ (gb101 ≠ s_.2) ∧ (s_.2 ≠ gb101) ∧ (gb102 ≠ s_.2) ∧ (s_.2 ≠ gb102) ∧ (gb103 ≠ s_.2) ∧ (s_.2 ≠ gb103) ∧ (Below w.heap.size w w')) ?_ ?_
        rotate_left
        ·
         intro hJ6_9
         refine join_ (σ := Value) 5 #[true, true, true, true, true, true, false, false, false, false, false] (fun s_ => [(11, s_)]) (fun s_ w' => (w'.cell? ⟨gb101, 0, none⟩ = some (.int .i64 a0_0) ∧ w'.cell? ⟨gb101, 1, none⟩ = some (.slice A0_1 l0_1.length c0_1) ∧ w'.cell? ⟨gb102, 0, none⟩ = some (.int .i64 a1_0) ∧ w'.cell? ⟨gb102, 1, none⟩ = some (.int .i64 a1_1) ∧ w'.cell? ⟨gb102, 2, none⟩ = some (.int .i64 a1_2)) ∧ (Kd.R k38 38 w' w.heap.size (fun k_ => k_ ≠ gb102) s_ t104) ∧ (w'.heap[gb101]? = some (.cells #[.int .i64 a0_0, .slice A0_1 l0_1.length c0_1] 24 (0, 0))) ∧ (w'.heap[gb102]? = some (.cells #[.int .i64 a1_0, .int .i64 a1_1, .int .i64 a1_2] 38 (0, 0))) ∧ (w'.heap[gb103]? = some (.cells #[.int .i64 0, .slice none 0 0] 24 (0, 0))) ∧ (Below w.heap.size w w')) ?_ ?_
         rotate_left
         ·
          intro hJ4
          refine join_ (σ := Value) 5 #[true, true, true, true, false, true, true, false, false, false, false] (fun s_ => [(13, s_)]) (fun s_ w' => (w'.cell? ⟨gb101, 0, none⟩ = some (.int .i64 a0_0) ∧ w'.cell? ⟨gb101, 1, none⟩ = some (.slice A0_1 l0_1.length c0_1) ∧ w'.cell? ⟨gb102, 0, none⟩ = some (.int .i64 a1_0) ∧ w'.cell? ⟨gb102, 1, none⟩ = some (.int .i64 a1_1) ∧ w'.cell? ⟨gb102, 2, none⟩ = some (.int .i64 a1_2)) ∧ (Kd.R k38 38 w' w.heap.size (fun k_ => k_ ≠ gb102) s_ y107) ∧ (w'.heap[gb101]? = some (.cells #[.int .i64 a0_0, .slice A0_1 l0_1.length c0_1] 24 (0, 0))) ∧ (w'.heap[gb102]? = some (.cells #[.int .i64 a1_0, .int .i64 a1_1, .int .i64 a1_2] 38 (0, 0))) ∧ (w'.heap[gb103]? = some (.cells #[.int .i64 0, .slice none 0 0] 24 (0, 0))) ∧ (Below w.heap.size w w')) ?_ ?_
          rotate_left
          ·
           intro hJ6
           refine join_ (σ := Nat) 5 #[true, true, true, true, false, true, false, false, false, true, false] (fun s_ => [(6, .pointer (some ⟨s_, 0, none⟩))]) (fun s_ w' => (w'.cell? ⟨gb101, 0, none⟩ = some (.int .i64 a0_0) ∧ w'.cell? ⟨gb101, 1, none⟩ = some (.slice A0_1 l0_1.length c0_1) ∧ w'.cell? ⟨gb102, 0, none⟩ = some (.int .i64 a1_0) ∧ w'.cell? ⟨gb102, 1, none⟩ = some (.int .i64 a1_1) ∧ w'.cell? ⟨gb102, 2, none⟩ = some (.int .i64 a1_2)) ∧ (w'.heap[gb101]? = some (.cells #[.int .i64 a0_0, .slice A0_1 l0_1.length c0_1] 24 (0, 0))) ∧ (w'.heap[gb102]? = some (.cells #[.int .i64 a1_0, .int .i64 a1_1, .int .i64 a1_2] 38 (0, 0))) ∧ (w'.heap[gb103]? = some (.cells #[.int .i64 0, .slice none 0 0] 24 (0, 0))) ∧ (w'.heap[s_]? = some (.cells #[.int .i64 0, .slice none 0 0] 24 (0, 0))) ∧ (w.heap.size ≤ s_) ∧ (w.heap.size ≤ s_) ∧ (gb101 ≠ s_) ∧ (s_ ≠ gb101) ∧ (gb102 ≠ s_) ∧ (s_ ≠ gb102) ∧ (gb103 ≠ s_) ∧ (s_ ≠ gb103) ∧ (Below w.heap.size w w')) ?_ ?_
           rotate_left
           ·
            intro hJ9
            refine three_ (i := 4) (j := 6) (k := 9) (Ni := some 11) (Nj := some 13) (Nk := some 6) #[true, true, true, true, true, true, false, false, false, false, false] #[true, true, true, true, false, true, true, false, false, false, false] #[true, true, true, true, false, true, false, false, false, true, false] rfl rfl rfl rfl rfl rfl (three_of HT_.out (by kernel_rfl)) (by decide) (by decide) (by decide) (fun K hK => ?_) (fun K hK => ?_) (fun K hK => ?_)
            ·
             skip
             refine goes_ Try.func52 (by kernel_rfl) rfl #[.slice A0_1 l0_1.length c0_1] (by rfl) rfl rfl ka ?_
             with_reducible refine (slices_Clone_impl_Clue.calls _ _ l0_1 t104 _ ?side1 ?side2 A3.out).mono ?_
             (case side1 => repeat (first | exact (Kd.C_below HR0_1.out HB.out) | (with_reducible refine Kd.C_alloc ?_ _) | (with_reducible refine Kd.C_drewN ?_ _) | (with_reducible refine Kd.C_drew ?_)))
             (case side2 => exact HC0_1.out)
             rintro e w66 ⟨v105, rfl, ho0, hb⟩
             refine ⟨_, rfl, ?_⟩
             have n0_ := aM (Kd.R_lower (Kd.R_newB ho0 (g := gb102) (o := .cells #[.int .i64 a1_0, .int .i64 a1_1, .int .i64 a1_2] 38 (0, 0)) (kq BK102)) (below_size (kb3 HB GE101 GE102 GE103)))
             have n1_ := aM (blk_below (kq BK101) hb)
             have n2_ := aM (blk_below (kq BK102) hb)
             have n3_ := aM (blk_below (kq BK103) hb)
             have n4_ := aM (below_step (kb3 HB GE101 GE102 GE103) hb)
             clear BK101
             clear BK102
             clear BK103
             clear HB
             have HO106 := n0_
             have BK101 := n1_
             have BK102 := n2_
             have BK103 := n3_
             have HB := n4_
             clear n0_ n1_ n2_ n3_ n4_
             (try clear hb)
             (try clear hb2)
             (try clear hk)
             (try clear hi)
             (try clear ho0)
             refine hK.out _ _ ⟨(blk_cell BK101.out 0).trans rfl, (blk_cell BK101.out 1).trans rfl, (blk_cell BK102.out 0).trans rfl, (blk_cell BK102.out 1).trans rfl, (blk_cell BK102.out 2).trans rfl⟩ (fun hHeld => ?_)
             clear hK K
             refine norm_ (a' := ?_) ?_ ?_
             rotate_left
             ·
              show Act.put _ (some 11) _ = _
              simp only [Act.put, q1, q2, q3, i64_w, i32_w]
              rfl
             exact norm_ (by first | (simp only [putAll, Act.put, q1, q2, q3]; done) | (simp only [putAll, Act.put, q1, q2, q3]; rfl)) (hJ4 (v105) _ ⟨hHeld, (by (with_reducible repeat (first | apply Kd.R_alloc | apply Kd.R_drewN | apply Kd.R_drew)); exact Kd.R_mono HO106.out (fun _ hk => hk.2)), (kq BK101), (kq BK102), (kq BK103), (kb3 HB GE101 GE102 GE103)⟩)
            ·
             skip
             refine Kd.R_lit_step k38 _ 38 ?hg (N := 13) ?hd (xs := ([(⟨a1_0, a1_1, a1_2⟩ : S38)] : List (S38))) (inner := [.int .i64 a1_0, .int .i64 a1_1, .int .i64 a1_2]) (ok := fun _ => True) (okp := fun _ => True) ?hr ?hp (fun _ hk => hk) trivial (Below.refl _ _) (Nat.le_refl _) (by simp) ?_; (case hd => rfl); (case hg => rfl); (case hr => first | (go_simp; done) | (go_simp; rfl)); (case hp => exact (Reps.c3 (show Kd.M k38 _ _ _ (⟨a1_0, a1_1, a1_2⟩ : S38) [.int .i64 a1_0, .int .i64 a1_1, .int .i64 a1_2] from (k38_mkM _ _ _ (⟨a1_0, a1_1, a1_2⟩ : S38) )) (Reps.none _ _)))
             intro v108 w66 ho67 hb hg_ hnew_
             clear hg_ hnew_
             (first | rw [← Ny107.out] at ho67 | (simp only [Int.reduceToNat] at ho67; rw [← Ny107.out] at ho67))
             have n0_ := aM (Kd.R_lower (Kd.R_newB ho67 (g := gb102) (o := .cells #[.int .i64 a1_0, .int .i64 a1_1, .int .i64 a1_2] 38 (0, 0)) (kq BK102)) (below_size (kb3 HB GE101 GE102 GE103)))
             have n1_ := aM (blk_below (kq BK101) hb)
             have n2_ := aM (blk_below (kq BK102) hb)
             have n3_ := aM (blk_below (kq BK103) hb)
             have n4_ := aM (below_step (kb3 HB GE101 GE102 GE103) hb)
             clear BK101
             clear BK102
             clear BK103
             clear HB
             have HO109 := n0_
             have BK101 := n1_
             have BK102 := n2_
             have BK103 := n3_
             have HB := n4_
             clear n0_ n1_ n2_ n3_ n4_
             clear hb ho67
             refine hK.out _ _ ⟨(blk_cell BK101.out 0).trans rfl, (blk_cell BK101.out 1).trans rfl, (blk_cell BK102.out 0).trans rfl, (blk_cell BK102.out 1).trans rfl, (blk_cell BK102.out 2).trans rfl⟩ (fun hHeld => ?_)
             clear hK K
             refine norm_ (a' := ?_) ?_ ?_
             rotate_left
             ·
              show Act.put _ (some 13) _ = _
              simp only [Act.put, q1, q2, q3, i64_w, i32_w]
              rfl
             exact norm_ (by first | (simp only [putAll, Act.put, q1, q2, q3]; done) | (simp only [putAll, Act.put, q1, q2, q3]; rfl)) (hJ6 (v108) _ ⟨hHeld, (by (with_reducible repeat (first | apply Kd.R_alloc | apply Kd.R_drewN | apply Kd.R_drew)); exact Kd.R_mono HO109.out (fun _ hk => hk.2)), (kq BK101), (kq BK102), (kq BK103), (kb3 HB GE101 GE102 GE103)⟩)
            ·
             skip
             refine box_step ?hg (N := 6) ?hd (cs := #[.int .i64 0, .slice none 0 0]) (t := 24) ?hr ?_; (case hd => rfl); (case hg => rfl); (case hr => first | (go_simp; done) | (go_simp; rfl))
             intro gb113 hg w66 hbox hb
             have n0_ := aM (blk_below (kq BK101) hb)
             have n1_ := aM (blk_below (kq BK102) hb)
             have n2_ := aM (blk_below (kq BK103) hb)
             have n3_ := aM (below_step (kb3 HB GE101 GE102 GE103) hb)
             have n4_ := aM (hbox)
             have n5_ := aM ((by rw [hg]; exact (below_size (kb3 HB GE101 GE102 GE103)) : w.heap.size ≤ gb113))
             have n6_ := aM ((by rw [hg]; exact (below_size (kb3 HB GE101 GE102 GE103)) : w.heap.size ≤ gb113))
             have n7_ := aM ((by rw [hg]; exact Nat.ne_of_lt (blk_lt (kq BK101)) : gb101 ≠ gb113))
             have n8_ := aM ((by rw [hg]; exact Nat.ne_of_gt (blk_lt (kq BK101)) : gb113 ≠ gb101))
             have n9_ := aM ((by rw [hg]; exact Nat.ne_of_lt (blk_lt (kq BK102)) : gb102 ≠ gb113))
             have n10_ := aM ((by rw [hg]; exact Nat.ne_of_gt (blk_lt (kq BK102)) : gb113 ≠ gb102))
             have n11_ := aM ((by rw [hg]; exact Nat.ne_of_lt (blk_lt (kq BK103)) : gb103 ≠ gb113))
             have n12_ := aM ((by rw [hg]; exact Nat.ne_of_gt (blk_lt (kq BK103)) : gb113 ≠ gb103))
             clear BK101
             clear BK102
             clear BK103
             clear HB
             have BK101 := n0_
             have BK102 := n1_
             have BK103 := n2_
             have HB := n3_
             have BK113 := n4_
             have GW113 := n5_
             have GE113 := n6_
             have NB101_113 := n7_
             have NB113_101 := n8_
             have NB102_113 := n9_
             have NB113_102 := n10_
             have NB103_113 := n11_
             have NB113_103 := n12_
             clear n0_ n1_ n2_ n3_ n4_ n5_ n6_ n7_ n8_ n9_ n10_ n11_ n12_
             clear hb hbox hg
             refine hK.out _ _ ⟨(blk_cell BK101.out 0).trans rfl, (blk_cell BK101.out 1).trans rfl, (blk_cell BK102.out 0).trans rfl, (blk_cell BK102.out 1).trans rfl, (blk_cell BK102.out 2).trans rfl⟩ (fun hHeld => ?_)
             clear hK K
             refine norm_ (a' := ?_) ?_ ?_
             rotate_left
             ·
              show Act.put _ (some 6) _ = _
              simp only [Act.put, q1, q2, q3, i64_w, i32_w]
              rfl
             exact norm_ (by first | (simp only [putAll, Act.put, q1, q2, q3]; done) | (simp only [putAll, Act.put, q1, q2, q3]; rfl)) (hJ9 (gb113) _ ⟨hHeld, (kq BK101), (kq BK102), (kq BK103), (kq BK113), GW113.out, GE113.out, NB101_113.out, NB113_101.out, NB102_113.out, NB113_102.out, NB103_113.out, NB113_103.out, (kb4 HB GE101 GE102 GE103 GE113)⟩)
           ·
            skip
            rintro gb113 w67 ⟨hS_, h0_, h1_, h2_, h3_, h4_, h5_, h6_, h7_, h8_, h9_, h10_, h11_, h12_⟩
            have n0_ : Aside0 (w67.heap[gb101]? = some (.cells #[.int .i64 a0_0, .slice A0_1 l0_1.length c0_1] 24 (0, 0))) := ⟨h0_⟩
            have n1_ : Aside0 (w67.heap[gb102]? = some (.cells #[.int .i64 a1_0, .int .i64 a1_1, .int .i64 a1_2] 38 (0, 0))) := ⟨h1_⟩
            have n2_ : Aside0 (w67.heap[gb103]? = some (.cells #[.int .i64 0, .slice none 0 0] 24 (0, 0))) := ⟨h2_⟩
            have n3_ : Aside0 (w67.heap[gb113]? = some (.cells #[.int .i64 0, .slice none 0 0] 24 (0, 0))) := ⟨h3_⟩
            have n4_ : Aside0 (w.heap.size ≤ gb113) := ⟨h4_⟩
            have n5_ : Aside0 (w.heap.size ≤ gb113) := ⟨h5_⟩
            have n6_ : Aside0 (gb101 ≠ gb113) := ⟨h6_⟩
            have n7_ : Aside0 (gb113 ≠ gb101) := ⟨h7_⟩
            have n8_ : Aside0 (gb102 ≠ gb113) := ⟨h8_⟩
            have n9_ : Aside0 (gb113 ≠ gb102) := ⟨h9_⟩
            have n10_ : Aside0 (gb103 ≠ gb113) := ⟨h10_⟩
            have n11_ : Aside0 (gb113 ≠ gb103) := ⟨h11_⟩
            have n12_ : Aside0 (Below w.heap.size w w67) := ⟨h12_⟩
            clear BK101
            clear BK102
            clear BK103
            clear HB
            clear h0_ h1_ h2_ h3_ h4_ h5_ h6_ h7_ h8_ h9_ h10_ h11_ h12_
            have BK101 := n0_
            have BK102 := n1_
            have BK103 := n2_
            have BK113 := n3_
            have GW113 := n4_
            have GE113 := n5_
            have NB101_113 := n6_
            have NB113_101 := n7_
            have NB102_113 := n8_
            have NB113_102 := n9_
            have NB103_113 := n10_
            have NB113_103 := n11_
            have HB := n12_
            clear n0_ n1_ n2_ n3_ n4_ n5_ n6_ n7_ n8_ n9_ n10_ n11_ n12_
            have hHeld : w67.cell? ⟨gb101, 0, none⟩ = some (.int .i64 a0_0) ∧ w67.cell? ⟨gb101, 1, none⟩ = some (.slice A0_1 l0_1.length c0_1) ∧ w67.cell? ⟨gb102, 0, none⟩ = some (.int .i64 a1_0) ∧ w67.cell? ⟨gb102, 1, none⟩ = some (.int .i64 a1_1) ∧ w67.cell? ⟨gb102, 2, none⟩ = some (.int .i64 a1_2) := hS_
            refine norm_ (a' := ?_) ?_ ?_
            rotate_left
            ·
             simp only [putAll, Act.put, q1, q2, q3]
             rfl
            refine two_ (i := 4) (j := 6) (Ni := some 11) (Nj := some 13) #[true, true, true, true, true, true, false, false, false, true, false] #[true, true, true, true, false, true, true, false, false, true, false] rfl rfl rfl rfl (two_of HT_.out (by kernel_rfl)) (by decide) (by decide) (fun K hK => ?_) (fun K hK => ?_)
            ·
             skip
             refine goes_ Try.func52 (by kernel_rfl) rfl #[.slice A0_1 l0_1.length c0_1] (by rfl) rfl rfl ka ?_
             with_reducible refine (slices_Clone_impl_Clue.calls _ _ l0_1 t104 _ ?side1 ?side2 A3.out).mono ?_
             (case side1 => repeat (first | exact (Kd.C_below HR0_1.out HB.out) | (with_reducible refine Kd.C_alloc ?_ _) | (with_reducible refine Kd.C_drewN ?_ _) | (with_reducible refine Kd.C_drew ?_)))
             (case side2 => exact HC0_1.out)
             rintro e w68 ⟨v105, rfl, ho0, hb⟩
             refine ⟨_, rfl, ?_⟩
             have n0_ := aM (Kd.R_lower (Kd.R_newB ho0 (g := gb102) (o := .cells #[.int .i64 a1_0, .int .i64 a1_1, .int .i64 a1_2] 38 (0, 0)) (kq BK102)) (below_size (kb4 HB GE101 GE102 GE103 GE113)))
             have n1_ := aM (blk_below (kq BK101) hb)
             have n2_ := aM (blk_below (kq BK102) hb)
             have n3_ := aM (blk_below (kq BK103) hb)
             have n4_ := aM (blk_below (kq BK113) hb)
             have n5_ := aM (below_step (kb4 HB GE101 GE102 GE103 GE113) hb)
             clear BK101
             clear BK102
             clear BK103
             clear BK113
             clear HB
             have HO106 := n0_
             have BK101 := n1_
             have BK102 := n2_
             have BK103 := n3_
             have BK113 := n4_
             have HB := n5_
             clear n0_ n1_ n2_ n3_ n4_ n5_
             (try clear hb)
             (try clear hb2)
             (try clear hk)
             (try clear hi)
             (try clear ho0)
             refine hK.out _ _ ⟨(blk_cell BK101.out 0).trans rfl, (blk_cell BK101.out 1).trans rfl, (blk_cell BK102.out 0).trans rfl, (blk_cell BK102.out 1).trans rfl, (blk_cell BK102.out 2).trans rfl⟩ (fun hHeld => ?_)
             clear hK K
             refine norm_ (a' := ?_) ?_ ?_
             rotate_left
             ·
              show Act.put _ (some 11) _ = _
              simp only [Act.put, q1, q2, q3, i64_w, i32_w]
              rfl
             exact norm_ (by first | (simp only [putAll, Act.put, q1, q2, q3]; done) | (simp only [putAll, Act.put, q1, q2, q3]; rfl)) (hJ4_9 (v105, gb113) _ ⟨hHeld, (by (with_reducible repeat (first | apply Kd.R_alloc | apply Kd.R_drewN | apply Kd.R_drew)); exact Kd.R_mono HO106.out (fun _ hk => hk.2)), (kq BK101), (kq BK102), (kq BK103), (kq BK113), GW113.out, GE113.out, NB101_113.out, NB113_101.out, NB102_113.out, NB113_102.out, NB103_113.out, NB113_103.out, (kb4 HB GE101 GE102 GE103 GE113)⟩)
            ·
             skip
             refine Kd.R_lit_step k38 _ 38 ?hg (N := 13) ?hd (xs := ([(⟨a1_0, a1_1, a1_2⟩ : S38)] : List (S38))) (inner := [.int .i64 a1_0, .int .i64 a1_1, .int .i64 a1_2]) (ok := fun _ => True) (okp := fun _ => True) ?hr ?hp (fun _ hk => hk) trivial (Below.refl _ _) (Nat.le_refl _) (by simp) ?_; (case hd => rfl); (case hg => rfl); (case hr => first | (go_simp; done) | (go_simp; rfl)); (case hp => exact (Reps.c3 (show Kd.M k38 _ _ _ (⟨a1_0, a1_1, a1_2⟩ : S38) [.int .i64 a1_0, .int .i64 a1_1, .int .i64 a1_2] from (k38_mkM _ _ _ (⟨a1_0, a1_1, a1_2⟩ : S38) )) (Reps.none _ _)))
             intro v108 w68 ho69 hb hg_ hnew_
             clear hg_ hnew_
             (first | rw [← Ny107.out] at ho69 | (simp only [Int.reduceToNat] at ho69; rw [← Ny107.out] at ho69))
             have n0_ := aM (Kd.R_lower (Kd.R_newB ho69 (g := gb102) (o := .cells #[.int .i64 a1_0, .int .i64 a1_1, .int .i64 a1_2] 38 (0, 0)) (kq BK102)) (below_size (kb4 HB GE101 GE102 GE103 GE113)))
             have n1_ := aM (blk_below (kq BK101) hb)
             have n2_ := aM (blk_below (kq BK102) hb)
             have n3_ := aM (blk_below (kq BK103) hb)
             have n4_ := aM (blk_below (kq BK113) hb)
             have n5_ := aM (below_step (kb4 HB GE101 GE102 GE103 GE113) hb)
             clear BK101
             clear BK102
             clear BK103
             clear BK113
             clear HB
             have HO109 := n0_
             have BK101 := n1_
             have BK102 := n2_
             have BK103 := n3_
             have BK113 := n4_
             have HB := n5_
             clear n0_ n1_ n2_ n3_ n4_ n5_
             clear hb ho69
             refine hK.out _ _ ⟨(blk_cell BK101.out 0).trans rfl, (blk_cell BK101.out 1).trans rfl, (blk_cell BK102.out 0).trans rfl, (blk_cell BK102.out 1).trans rfl, (blk_cell BK102.out 2).trans rfl⟩ (fun hHeld => ?_)
             clear hK K
             refine norm_ (a' := ?_) ?_ ?_
             rotate_left
             ·
              show Act.put _ (some 13) _ = _
              simp only [Act.put, q1, q2, q3, i64_w, i32_w]
              rfl
             exact norm_ (by first | (simp only [putAll, Act.put, q1, q2, q3]; done) | (simp only [putAll, Act.put, q1, q2, q3]; rfl)) (hJ6_9 (v108, gb113) _ ⟨hHeld, (by (with_reducible repeat (first | apply Kd.R_alloc | apply Kd.R_drewN | apply Kd.R_drew)); exact Kd.R_mono HO109.out (fun _ hk => hk.2)), (kq BK101), (kq BK102), (kq BK103), (kq BK113), GW113.out, GE113.out, NB101_113.out, NB113_101.out, NB102_113.out, NB113_102.out, NB103_113.out, NB113_103.out, (kb4 HB GE101 GE102 GE103 GE113)⟩)
          ·
           skip
           rintro v108 w68 ⟨hS_, h0_, h1_, h2_, h3_, h4_⟩
           have n0_ : Aside0 (Kd.R k38 38 w68 w.heap.size (fun k_ => k_ ≠ gb102) v108 y107) := ⟨h0_⟩
           have n1_ : Aside0 (w68.heap[gb101]? = some (.cells #[.int .i64 a0_0, .slice A0_1 l0_1.length c0_1] 24 (0, 0))) := ⟨h1_⟩
           have n2_ : Aside0 (w68.heap[gb102]? = some (.cells #[.int .i64 a1_0, .int .i64 a1_1, .int .i64 a1_2] 38 (0, 0))) := ⟨h2_⟩
           have n3_ : Aside0 (w68.heap[gb103]? = some (.cells #[.int .i64 0, .slice none 0 0] 24 (0, 0))) := ⟨h3_⟩
           have n4_ : Aside0 (Below w.heap.size w w68) := ⟨h4_⟩
           clear BK101
           clear BK102
           clear BK103
           clear HB
           clear h0_ h1_ h2_ h3_ h4_
           have HO109 := n0_
           have BK101 := n1_
           have BK102 := n2_
           have BK103 := n3_
           have HB := n4_
           clear n0_ n1_ n2_ n3_ n4_
           have hHeld : w68.cell? ⟨gb101, 0, none⟩ = some (.int .i64 a0_0) ∧ w68.cell? ⟨gb101, 1, none⟩ = some (.slice A0_1 l0_1.length c0_1) ∧ w68.cell? ⟨gb102, 0, none⟩ = some (.int .i64 a1_0) ∧ w68.cell? ⟨gb102, 1, none⟩ = some (.int .i64 a1_1) ∧ w68.cell? ⟨gb102, 2, none⟩ = some (.int .i64 a1_2) := hS_
           refine norm_ (a' := ?_) ?_ ?_
           rotate_left
           ·
            simp only [putAll, Act.put, q1, q2, q3]
            rfl
           refine two_ (i := 4) (j := 9) (Ni := some 11) (Nj := some 6) #[true, true, true, true, true, true, true, false, false, false, false] #[true, true, true, true, false, true, true, false, false, true, false] rfl rfl rfl rfl (two_of HT_.out (by kernel_rfl)) (by decide) (by decide) (fun K hK => ?_) (fun K hK => ?_)
           ·
            skip
            refine goes_ Try.func52 (by kernel_rfl) rfl #[.slice A0_1 l0_1.length c0_1] (by rfl) rfl rfl ka ?_
            with_reducible refine (slices_Clone_impl_Clue.calls _ _ l0_1 t104 _ ?side1 ?side2 A3.out).mono ?_
            (case side1 => repeat (first | exact (Kd.C_below HR0_1.out HB.out) | (with_reducible refine Kd.C_alloc ?_ _) | (with_reducible refine Kd.C_drewN ?_ _) | (with_reducible refine Kd.C_drew ?_)))
            (case side2 => exact HC0_1.out)
            rintro e w69 ⟨v105, rfl, ho0, hb⟩
            refine ⟨_, rfl, ?_⟩
            have n0_ := aM (Kd.R_elder' (kr HO109) (Kd.R_base ho0) hb)
            have n1_ := aM (Kd.R_lower (Kd.R_newB (Kd.R_new' ho0 (Kd.R_lt (kr HO109))) (g := gb102) (o := .cells #[.int .i64 a1_0, .int .i64 a1_1, .int .i64 a1_2] 38 (0, 0)) (kq BK102)) (below_size (kb3 HB GE101 GE102 GE103)))
            have n2_ := aM (blk_below (kq BK101) hb)
            have n3_ := aM (blk_below (kq BK102) hb)
            have n4_ := aM (blk_below (kq BK103) hb)
            have n5_ := aM (below_step (kb3 HB GE101 GE102 GE103) hb)
            clear HO109
            clear BK101
            clear BK102
            clear BK103
            clear HB
            have HO109 := n0_
            have HO106 := n1_
            have BK101 := n2_
            have BK102 := n3_
            have BK103 := n4_
            have HB := n5_
            clear n0_ n1_ n2_ n3_ n4_ n5_
            (try clear hb)
            (try clear hb2)
            (try clear hk)
            (try clear hi)
            (try clear ho0)
            refine hK.out _ _ ⟨(blk_cell BK101.out 0).trans rfl, (blk_cell BK101.out 1).trans rfl, (blk_cell BK102.out 0).trans rfl, (blk_cell BK102.out 1).trans rfl, (blk_cell BK102.out 2).trans rfl⟩ (fun hHeld => ?_)
            clear hK K
            refine norm_ (a' := ?_) ?_ ?_
            rotate_left
            ·
             show Act.put _ (some 11) _ = _
             simp only [Act.put, q1, q2, q3, i64_w, i32_w]
             rfl
            exact norm_ (by first | (simp only [putAll, Act.put, q1, q2, q3]; done) | (simp only [putAll, Act.put, q1, q2, q3]; rfl)) (hJ4_6 (v105, v108) _ ⟨hHeld, (by (with_reducible repeat (first | apply Kd.R_alloc | apply Kd.R_drewN | apply Kd.R_drew)); exact Kd.R_mono HO106.out (fun _ hk => ⟨hk.1.2, hk.2⟩)), (by (with_reducible repeat (first | apply Kd.R_alloc | apply Kd.R_drewN | apply Kd.R_drew)); exact Kd.R_mono HO109.out (fun _ hk => ⟨hk.2, hk.1⟩)), (kq BK101), (kq BK102), (kq BK103), (kb3 HB GE101 GE102 GE103)⟩)
           ·
            skip
            refine box_step ?hg (N := 6) ?hd (cs := #[.int .i64 0, .slice none 0 0]) (t := 24) ?hr ?_; (case hd => rfl); (case hg => rfl); (case hr => first | (go_simp; done) | (go_simp; rfl))
            intro gb113 hg w69 hbox hb
            have n0_ := aM (Kd.R_below (kr HO109) hb)
            have n1_ := aM (blk_below (kq BK101) hb)
            have n2_ := aM (blk_below (kq BK102) hb)
            have n3_ := aM (blk_below (kq BK103) hb)
            have n4_ := aM (below_step (kb3 HB GE101 GE102 GE103) hb)
            have n5_ := aM (hbox)
            have n6_ := aM ((by rw [hg]; exact (below_size (kb3 HB GE101 GE102 GE103)) : w.heap.size ≤ gb113))
            have n7_ := aM ((by rw [hg]; exact (below_size (kb3 HB GE101 GE102 GE103)) : w.heap.size ≤ gb113))
            have n8_ := aM ((by rw [hg]; exact Nat.ne_of_lt (blk_lt (kq BK101)) : gb101 ≠ gb113))
            have n9_ := aM ((by rw [hg]; exact Nat.ne_of_gt (blk_lt (kq BK101)) : gb113 ≠ gb101))
            have n10_ := aM ((by rw [hg]; exact Nat.ne_of_lt (blk_lt (kq BK102)) : gb102 ≠ gb113))
            have n11_ := aM ((by rw [hg]; exact Nat.ne_of_gt (blk_lt (kq BK102)) : gb113 ≠ gb102))
            have n12_ := aM ((by rw [hg]; exact Nat.ne_of_lt (blk_lt (kq BK103)) : gb103 ≠ gb113))
            have n13_ := aM ((by rw [hg]; exact Nat.ne_of_gt (blk_lt (kq BK103)) : gb113 ≠ gb103))
            clear HO109
            clear BK101
            clear BK102
            clear BK103
            clear HB
            have HO109 := n0_
            have BK101 := n1_
            have BK102 := n2_
            have BK103 := n3_
            have HB := n4_
            have BK113 := n5_
            have GW113 := n6_
            have GE113 := n7_
            have NB101_113 := n8_
            have NB113_101 := n9_
            have NB102_113 := n10_
            have NB113_102 := n11_
            have NB103_113 := n12_
            have NB113_103 := n13_
            clear n0_ n1_ n2_ n3_ n4_ n5_ n6_ n7_ n8_ n9_ n10_ n11_ n12_ n13_
            clear hb hbox hg
            refine hK.out _ _ ⟨(blk_cell BK101.out 0).trans rfl, (blk_cell BK101.out 1).trans rfl, (blk_cell BK102.out 0).trans rfl, (blk_cell BK102.out 1).trans rfl, (blk_cell BK102.out 2).trans rfl⟩ (fun hHeld => ?_)
            clear hK K
            refine norm_ (a' := ?_) ?_ ?_
            rotate_left
            ·
             show Act.put _ (some 6) _ = _
             simp only [Act.put, q1, q2, q3, i64_w, i32_w]
             rfl
            exact norm_ (by first | (simp only [putAll, Act.put, q1, q2, q3]; done) | (simp only [putAll, Act.put, q1, q2, q3]; rfl)) (hJ6_9 (v108, gb113) _ ⟨hHeld, (kr HO109), (kq BK101), (kq BK102), (kq BK103), (kq BK113), GW113.out, GE113.out, NB101_113.out, NB113_101.out, NB102_113.out, NB113_102.out, NB103_113.out, NB113_103.out, (kb4 HB GE101 GE102 GE103 GE113)⟩)
         ·
          skip
          rintro v105 w67 ⟨hS_, h0_, h1_, h2_, h3_, h4_⟩
          have n0_ : Aside0 (Kd.R k38 38 w67 w.heap.size (fun k_ => k_ ≠ gb102) v105 t104) := ⟨h0_⟩
          have n1_ : Aside0 (w67.heap[gb101]? = some (.cells #[.int .i64 a0_0, .slice A0_1 l0_1.length c0_1] 24 (0, 0))) := ⟨h1_⟩
          have n2_ : Aside0 (w67.heap[gb102]? = some (.cells #[.int .i64 a1_0, .int .i64 a1_1, .int .i64 a1_2] 38 (0, 0))) := ⟨h2_⟩
          have n3_ : Aside0 (w67.heap[gb103]? = some (.cells #[.int .i64 0, .slice none 0 0] 24 (0, 0))) := ⟨h3_⟩
          have n4_ : Aside0 (Below w.heap.size w w67) := ⟨h4_⟩
          clear BK101
          clear BK102
          clear BK103
          clear HB
          clear h0_ h1_ h2_ h3_ h4_
          have HO106 := n0_
          have BK101 := n1_
          have BK102 := n2_
          have BK103 := n3_
          have HB := n4_
          clear n0_ n1_ n2_ n3_ n4_
          have hHeld : w67.cell? ⟨gb101, 0, none⟩ = some (.int .i64 a0_0) ∧ w67.cell? ⟨gb101, 1, none⟩ = some (.slice A0_1 l0_1.length c0_1) ∧ w67.cell? ⟨gb102, 0, none⟩ = some (.int .i64 a1_0) ∧ w67.cell? ⟨gb102, 1, none⟩ = some (.int .i64 a1_1) ∧ w67.cell? ⟨gb102, 2, none⟩ = some (.int .i64 a1_2) := hS_
          refine norm_ (a' := ?_) ?_ ?_
          rotate_left
          ·
           simp only [putAll, Act.put, q1, q2, q3]
           rfl
          refine two_ (i := 6) (j := 9) (Ni := some 13) (Nj := some 6) #[true, true, true, true, true, true, true, false, false, false, false] #[true, true, true, true, true, true, false, false, false, true, false] rfl rfl rfl rfl (two_of HT_.out (by kernel_rfl)) (by decide) (by decide) (fun K hK => ?_) (fun K hK => ?_)
          ·
           skip
           refine Kd.R_lit_step k38 _ 38 ?hg (N := 13) ?hd (xs := ([(⟨a1_0, a1_1, a1_2⟩ : S38)] : List (S38))) (inner := [.int .i64 a1_0, .int .i64 a1_1, .int .i64 a1_2]) (ok := fun _ => True) (okp := fun _ => True) ?hr ?hp (fun _ hk => hk) trivial (Below.refl _ _) (Nat.le_refl _) (by simp) ?_; (case hd => rfl); (case hg => rfl); (case hr => first | (go_simp; done) | (go_simp; rfl)); (case hp => exact (Reps.c3 (show Kd.M k38 _ _ _ (⟨a1_0, a1_1, a1_2⟩ : S38) [.int .i64 a1_0, .int .i64 a1_1, .int .i64 a1_2] from (k38_mkM _ _ _ (⟨a1_0, a1_1, a1_2⟩ : S38) )) (Reps.none _ _)))
           intro v108 w68 ho69 hb hg_ hnew_
           clear hg_ hnew_
           (first | rw [← Ny107.out] at ho69 | (simp only [Int.reduceToNat] at ho69; rw [← Ny107.out] at ho69))
           have n0_ := aM (Kd.R_elder' (kr HO106) (Kd.R_base ho69) hb)
           have n1_ := aM (Kd.R_lower (Kd.R_newB (Kd.R_new' ho69 (Kd.R_lt (kr HO106))) (g := gb102) (o := .cells #[.int .i64 a1_0, .int .i64 a1_1, .int .i64 a1_2] 38 (0, 0)) (kq BK102)) (below_size (kb3 HB GE101 GE102 GE103)))
           have n2_ := aM (blk_below (kq BK101) hb)
           have n3_ := aM (blk_below (kq BK102) hb)
           have n4_ := aM (blk_below (kq BK103) hb)
           have n5_ := aM (below_step (kb3 HB GE101 GE102 GE103) hb)
           clear HO106
           clear BK101
           clear BK102
           clear BK103
           clear HB
           have HO106 := n0_
           have HO109 := n1_
           have BK101 := n2_
           have BK102 := n3_
           have BK103 := n4_
           have HB := n5_
           clear n0_ n1_ n2_ n3_ n4_ n5_
           clear hb ho69
           refine hK.out _ _ ⟨(blk_cell BK101.out 0).trans rfl, (blk_cell BK101.out 1).trans rfl, (blk_cell BK102.out 0).trans rfl, (blk_cell BK102.out 1).trans rfl, (blk_cell BK102.out 2).trans rfl⟩ (fun hHeld => ?_)
           clear hK K
           refine norm_ (a' := ?_) ?_ ?_
           rotate_left
           ·
            show Act.put _ (some 13) _ = _
            simp only [Act.put, q1, q2, q3, i64_w, i32_w]
            rfl
           exact norm_ (by first | (simp only [putAll, Act.put, q1, q2, q3]; done) | (simp only [putAll, Act.put, q1, q2, q3]; rfl)) (hJ4_6 (v105, v108) _ ⟨hHeld, (by (with_reducible repeat (first | apply Kd.R_alloc | apply Kd.R_drewN | apply Kd.R_drew)); exact Kd.R_mono HO106.out (fun _ hk => ⟨hk.2, hk.1⟩)), (by (with_reducible repeat (first | apply Kd.R_alloc | apply Kd.R_drewN | apply Kd.R_drew)); exact Kd.R_mono HO109.out (fun _ hk => ⟨hk.1.2, hk.2⟩)), (kq BK101), (kq BK102), (kq BK103), (kb3 HB GE101 GE102 GE103)⟩)
          ·
           skip
           refine box_step ?hg (N := 6) ?hd (cs := #[.int .i64 0, .slice none 0 0]) (t := 24) ?hr ?_; (case hd => rfl); (case hg => rfl); (case hr => first | (go_simp; done) | (go_simp; rfl))
           intro gb113 hg w68 hbox hb
           have n0_ := aM (Kd.R_below (kr HO106) hb)
           have n1_ := aM (blk_below (kq BK101) hb)
           have n2_ := aM (blk_below (kq BK102) hb)
           have n3_ := aM (blk_below (kq BK103) hb)
           have n4_ := aM (below_step (kb3 HB GE101 GE102 GE103) hb)
           have n5_ := aM (hbox)
           have n6_ := aM ((by rw [hg]; exact (below_size (kb3 HB GE101 GE102 GE103)) : w.heap.size ≤ gb113))
           have n7_ := aM ((by rw [hg]; exact (below_size (kb3 HB GE101 GE102 GE103)) : w.heap.size ≤ gb113))
           have n8_ := aM ((by rw [hg]; exact Nat.ne_of_lt (blk_lt (kq BK101)) : gb101 ≠ gb113))
           have n9_ := aM ((by rw [hg]; exact Nat.ne_of_gt (blk_lt (kq BK101)) : gb113 ≠ gb101))
           have n10_ := aM ((by rw [hg]; exact Nat.ne_of_lt (blk_lt (kq BK102)) : gb102 ≠ gb113))
           have n11_ := aM ((by rw [hg]; exact Nat.ne_of_gt (blk_lt (kq BK102)) : gb113 ≠ gb102))
           have n12_ := aM ((by rw [hg]; exact Nat.ne_of_lt (blk_lt (kq BK103)) : gb103 ≠ gb113))
           have n13_ := aM ((by rw [hg]; exact Nat.ne_of_gt (blk_lt (kq BK103)) : gb113 ≠ gb103))
           clear HO106
           clear BK101
           clear BK102
           clear BK103
           clear HB
           have HO106 := n0_
           have BK101 := n1_
           have BK102 := n2_
           have BK103 := n3_
           have HB := n4_
           have BK113 := n5_
           have GW113 := n6_
           have GE113 := n7_
           have NB101_113 := n8_
           have NB113_101 := n9_
           have NB102_113 := n10_
           have NB113_102 := n11_
           have NB103_113 := n12_
           have NB113_103 := n13_
           clear n0_ n1_ n2_ n3_ n4_ n5_ n6_ n7_ n8_ n9_ n10_ n11_ n12_ n13_
           clear hb hbox hg
           refine hK.out _ _ ⟨(blk_cell BK101.out 0).trans rfl, (blk_cell BK101.out 1).trans rfl, (blk_cell BK102.out 0).trans rfl, (blk_cell BK102.out 1).trans rfl, (blk_cell BK102.out 2).trans rfl⟩ (fun hHeld => ?_)
           clear hK K
           refine norm_ (a' := ?_) ?_ ?_
           rotate_left
           ·
            show Act.put _ (some 6) _ = _
            simp only [Act.put, q1, q2, q3, i64_w, i32_w]
            rfl
           exact norm_ (by first | (simp only [putAll, Act.put, q1, q2, q3]; done) | (simp only [putAll, Act.put, q1, q2, q3]; rfl)) (hJ4_9 (v105, gb113) _ ⟨hHeld, (kr HO106), (kq BK101), (kq BK102), (kq BK103), (kq BK113), GW113.out, GE113.out, NB101_113.out, NB113_101.out, NB102_113.out, NB113_102.out, NB103_113.out, NB113_103.out, (kb4 HB GE101 GE102 GE103 GE113)⟩)
        ·
         skip
         rintro ⟨v108, gb113⟩ w69 ⟨hS_, h0_, h1_, h2_, h3_, h4_, h5_, h6_, h7_, h8_, h9_, h10_, h11_, h12_, h13_⟩
         have n0_ : Aside0 (Kd.R k38 38 w69 w.heap.size (fun k_ => k_ ≠ gb102) v108 y107) := ⟨h0_⟩
         have n1_ : Aside0 (w69.heap[gb101]? = some (.cells #[.int .i64 a0_0, .slice A0_1 l0_1.length c0_1] 24 (0, 0))) := ⟨h1_⟩
         have n2_ : Aside0 (w69.heap[gb102]? = some (.cells #[.int .i64 a1_0, .int .i64 a1_1, .int .i64 a1_2] 38 (0, 0))) := ⟨h2_⟩
         have n3_ : Aside0 (w69.heap[gb103]? = some (.cells #[.int .i64 0, .slice none 0 0] 24 (0, 0))) := ⟨h3_⟩
         have n4_ : Aside0 (w69.heap[gb113]? = some (.cells #[.int .i64 0, .slice none 0 0] 24 (0, 0))) := ⟨h4_⟩
         have n5_ : Aside0 (w.heap.size ≤ gb113) := ⟨h5_⟩
         have n6_ : Aside0 (w.heap.size ≤ gb113) := ⟨h6_⟩
         have n7_ : Aside0 (gb101 ≠ gb113) := ⟨h7_⟩
         have n8_ : Aside0 (gb113 ≠ gb101) := ⟨h8_⟩
         have n9_ : Aside0 (gb102 ≠ gb113) := ⟨h9_⟩
         have n10_ : Aside0 (gb113 ≠ gb102) := ⟨h10_⟩
         have n11_ : Aside0 (gb103 ≠ gb113) := ⟨h11_⟩
         have n12_ : Aside0 (gb113 ≠ gb103) := ⟨h12_⟩
         have n13_ : Aside0 (Below w.heap.size w w69) := ⟨h13_⟩
         clear BK101
         clear BK102
         clear BK103
         clear HB
         clear h0_ h1_ h2_ h3_ h4_ h5_ h6_ h7_ h8_ h9_ h10_ h11_ h12_ h13_
         have HO109 := n0_
         have BK101 := n1_
         have BK102 := n2_
         have BK103 := n3_
         have BK113 := n4_
         have GW113 := n5_
         have GE113 := n6_
         have NB101_113 := n7_
         have NB113_101 := n8_
         have NB102_113 := n9_
         have NB113_102 := n10_
         have NB103_113 := n11_
         have NB113_103 := n12_
         have HB := n13_
         clear n0_ n1_ n2_ n3_ n4_ n5_ n6_ n7_ n8_ n9_ n10_ n11_ n12_ n13_
         have hHeld : w69.cell? ⟨gb101, 0, none⟩ = some (.int .i64 a0_0) ∧ w69.cell? ⟨gb101, 1, none⟩ = some (.slice A0_1 l0_1.length c0_1) ∧ w69.cell? ⟨gb102, 0, none⟩ = some (.int .i64 a1_0) ∧ w69.cell? ⟨gb102, 1, none⟩ = some (.int .i64 a1_1) ∧ w69.cell? ⟨gb102, 2, none⟩ = some (.int .i64 a1_2) := hS_
         refine norm_ (a' := ?_) ?_ ?_
         rotate_left
         ·
          simp only [putAll, Act.put, q1, q2, q3]
          rfl
         refine one_ (i := 4) (N := some 11) #[true, true, true, true, true, true, true, false, false, true, false] rfl rfl (one_of HT_.out (by kernel_rfl)) (by decide) (fun K hK => ?_)
         refine goes_ Try.func52 (by kernel_rfl) rfl #[.slice A0_1 l0_1.length c0_1] (by rfl) rfl rfl ka ?_
         with_reducible refine (slices_Clone_impl_Clue.calls _ _ l0_1 t104 _ ?side1 ?side2 A3.out).mono ?_
         (case side1 => repeat (first | exact (Kd.C_below HR0_1.out HB.out) | (with_reducible refine Kd.C_alloc ?_ _) | (with_reducible refine Kd.C_drewN ?_ _) | (with_reducible refine Kd.C_drew ?_)))
         (case side2 => exact HC0_1.out)
         rintro e w70 ⟨v105, rfl, ho0, hb⟩
         refine ⟨_, rfl, ?_⟩
         have n0_ := aM (Kd.R_elder' (kr HO109) (Kd.R_base ho0) hb)
         have n1_ := aM (Kd.R_lower (Kd.R_newB (Kd.R_new' ho0 (Kd.R_lt (kr HO109))) (g := gb102) (o := .cells #[.int .i64 a1_0, .int .i64 a1_1, .int .i64 a1_2] 38 (0, 0)) (kq BK102)) (below_size (kb4 HB GE101 GE102 GE103 GE113)))
         have n2_ := aM (blk_below (kq BK101) hb)
         have n3_ := aM (blk_below (kq BK102) hb)
         have n4_ := aM (blk_below (kq BK103) hb)
         have n5_ := aM (blk_below (kq BK113) hb)
         have n6_ := aM (below_step (kb4 HB GE101 GE102 GE103 GE113) hb)
         clear HO109
         clear BK101
         clear BK102
         clear BK103
         clear BK113
         clear HB
         have HO109 := n0_
         have HO106 := n1_
         have BK101 := n2_
         have BK102 := n3_
         have BK103 := n4_
         have BK113 := n5_
         have HB := n6_
         clear n0_ n1_ n2_ n3_ n4_ n5_ n6_
         (try clear hb)
         (try clear hb2)
         (try clear hk)
         (try clear hi)
         (try clear ho0)
         refine hK.out _ _ ⟨(blk_cell BK101.out 0).trans rfl, (blk_cell BK101.out 1).trans rfl, (blk_cell BK102.out 0).trans rfl, (blk_cell BK102.out 1).trans rfl, (blk_cell BK102.out 2).trans rfl⟩ (fun hHeld => ?_)
         clear hK K
         refine norm_ (a' := ?_) ?_ ?_
         rotate_left
         ·
          show Act.put _ (some 11) _ = _
          simp only [Act.put, q1, q2, q3, i64_w, i32_w]
          rfl
         exact norm_ (by first | (simp only [putAll, Act.put, q1, q2, q3]; done) | (simp only [putAll, Act.put, q1, q2, q3]; rfl)) (hJ4_6_9 (v105, v108, gb113) _ ⟨hHeld, (by (with_reducible repeat (first | apply Kd.R_alloc | apply Kd.R_drewN | apply Kd.R_drew)); exact Kd.R_mono HO106.out (fun _ hk => ⟨hk.1.2, hk.2⟩)), (by (with_reducible repeat (first | apply Kd.R_alloc | apply Kd.R_drewN | apply Kd.R_drew)); exact Kd.R_mono HO109.out (fun _ hk => ⟨hk.2, hk.1⟩)), (kq BK101), (kq BK102), (kq BK103), (kq BK113), GW113.out, GE113.out, NB101_113.out, NB113_101.out, NB102_113.out, NB113_102.out, NB103_113.out, NB113_103.out, (kb4 HB GE101 GE102 GE103 GE113)⟩)
       ·
        skip
        rintro ⟨v105, gb113⟩ w68 ⟨hS_, h0_, h1_, h2_, h3_, h4_, h5_, h6_, h7_, h8_, h9_, h10_, h11_, h12_, h13_⟩
        have n0_ : Aside0 (Kd.R k38 38 w68 w.heap.size (fun k_ => k_ ≠ gb102) v105 t104) := ⟨h0_⟩
        have n1_ : Aside0 (w68.heap[gb101]? = some (.cells #[.int .i64 a0_0, .slice A0_1 l0_1.length c0_1] 24 (0, 0))) := ⟨h1_⟩
        have n2_ : Aside0 (w68.heap[gb102]? = some (.cells #[.int .i64 a1_0, .int .i64 a1_1, .int .i64 a1_2] 38 (0, 0))) := ⟨h2_⟩
        have n3_ : Aside0 (w68.heap[gb103]? = some (.cells #[.int .i64 0, .slice none 0 0] 24 (0, 0))) := ⟨h3_⟩
        have n4_ : Aside0 (w68.heap[gb113]? = some (.cells #[.int .i64 0, .slice none 0 0] 24 (0, 0))) := ⟨h4_⟩
        have n5_ : Aside0 (w.heap.size ≤ gb113) := ⟨h5_⟩
        have n6_ : Aside0 (w.heap.size ≤ gb113) := ⟨h6_⟩
        have n7_ : Aside0 (gb101 ≠ gb113) := ⟨h7_⟩
        have n8_ : Aside0 (gb113 ≠ gb101) := ⟨h8_⟩
        have n9_ : Aside0 (gb102 ≠ gb113) := ⟨h9_⟩
        have n10_ : Aside0 (gb113 ≠ gb102) := ⟨h10_⟩
        have n11_ : Aside0 (gb103 ≠ gb113) := ⟨h11_⟩
        have n12_ : Aside0 (gb113 ≠ gb103) := ⟨h12_⟩
        have n13_ : Aside0 (Below w.heap.size w w68) := ⟨h13_⟩
        clear BK101
        clear BK102
        clear BK103
        clear HB
        clear h0_ h1_ h2_ h3_ h4_ h5_ h6_ h7_ h8_ h9_ h10_ h11_ h12_ h13_
        have HO106 := n0_
        have BK101 := n1_
        have BK102 := n2_
        have BK103 := n3_
        have BK113 := n4_
        have GW113 := n5_
        have GE113 := n6_
        have NB101_113 := n7_
        have NB113_101 := n8_
        have NB102_113 := n9_
        have NB113_102 := n10_
        have NB103_113 := n11_
        have NB113_103 := n12_
        have HB := n13_
        clear n0_ n1_ n2_ n3_ n4_ n5_ n6_ n7_ n8_ n9_ n10_ n11_ n12_ n13_
        have hHeld : w68.cell? ⟨gb101, 0, none⟩ = some (.int .i64 a0_0) ∧ w68.cell? ⟨gb101, 1, none⟩ = some (.slice A0_1 l0_1.length c0_1) ∧ w68.cell? ⟨gb102, 0, none⟩ = some (.int .i64 a1_0) ∧ w68.cell? ⟨gb102, 1, none⟩ = some (.int .i64 a1_1) ∧ w68.cell? ⟨gb102, 2, none⟩ = some (.int .i64 a1_2) := hS_
        refine norm_ (a' := ?_) ?_ ?_
        rotate_left
        ·
         simp only [putAll, Act.put, q1, q2, q3]
         rfl
        refine one_ (i := 6) (N := some 13) #[true, true, true, true, true, true, true, false, false, true, false] rfl rfl (one_of HT_.out (by kernel_rfl)) (by decide) (fun K hK => ?_)
        refine Kd.R_lit_step k38 _ 38 ?hg (N := 13) ?hd (xs := ([(⟨a1_0, a1_1, a1_2⟩ : S38)] : List (S38))) (inner := [.int .i64 a1_0, .int .i64 a1_1, .int .i64 a1_2]) (ok := fun _ => True) (okp := fun _ => True) ?hr ?hp (fun _ hk => hk) trivial (Below.refl _ _) (Nat.le_refl _) (by simp) ?_; (case hd => rfl); (case hg => rfl); (case hr => first | (go_simp; done) | (go_simp; rfl)); (case hp => exact (Reps.c3 (show Kd.M k38 _ _ _ (⟨a1_0, a1_1, a1_2⟩ : S38) [.int .i64 a1_0, .int .i64 a1_1, .int .i64 a1_2] from (k38_mkM _ _ _ (⟨a1_0, a1_1, a1_2⟩ : S38) )) (Reps.none _ _)))
        intro v108 w69 ho70 hb hg_ hnew_
        clear hg_ hnew_
        (first | rw [← Ny107.out] at ho70 | (simp only [Int.reduceToNat] at ho70; rw [← Ny107.out] at ho70))
        have n0_ := aM (Kd.R_elder' (kr HO106) (Kd.R_base ho70) hb)
        have n1_ := aM (Kd.R_lower (Kd.R_newB (Kd.R_new' ho70 (Kd.R_lt (kr HO106))) (g := gb102) (o := .cells #[.int .i64 a1_0, .int .i64 a1_1, .int .i64 a1_2] 38 (0, 0)) (kq BK102)) (below_size (kb4 HB GE101 GE102 GE103 GE113)))
        have n2_ := aM (blk_below (kq BK101) hb)
        have n3_ := aM (blk_below (kq BK102) hb)
        have n4_ := aM (blk_below (kq BK103) hb)
        have n5_ := aM (blk_below (kq BK113) hb)
        have n6_ := aM (below_step (kb4 HB GE101 GE102 GE103 GE113) hb)
        clear HO106
        clear BK101
        clear BK102
        clear BK103
        clear BK113
        clear HB
        have HO106 := n0_
        have HO109 := n1_
        have BK101 := n2_
        have BK102 := n3_
        have BK103 := n4_
        have BK113 := n5_
        have HB := n6_
        clear n0_ n1_ n2_ n3_ n4_ n5_ n6_
        clear hb ho70
        refine hK.out _ _ ⟨(blk_cell BK101.out 0).trans rfl, (blk_cell BK101.out 1).trans rfl, (blk_cell BK102.out 0).trans rfl, (blk_cell BK102.out 1).trans rfl, (blk_cell BK102.out 2).trans rfl⟩ (fun hHeld => ?_)
        clear hK K
        refine norm_ (a' := ?_) ?_ ?_
        rotate_left
        ·
         show Act.put _ (some 13) _ = _
         simp only [Act.put, q1, q2, q3, i64_w, i32_w]
         rfl
        exact norm_ (by first | (simp only [putAll, Act.put, q1, q2, q3]; done) | (simp only [putAll, Act.put, q1, q2, q3]; rfl)) (hJ4_6_9 (v105, v108, gb113) _ ⟨hHeld, (by (with_reducible repeat (first | apply Kd.R_alloc | apply Kd.R_drewN | apply Kd.R_drew)); exact Kd.R_mono HO106.out (fun _ hk => ⟨hk.2, hk.1⟩)), (by (with_reducible repeat (first | apply Kd.R_alloc | apply Kd.R_drewN | apply Kd.R_drew)); exact Kd.R_mono HO109.out (fun _ hk => ⟨hk.1.2, hk.2⟩)), (kq BK101), (kq BK102), (kq BK103), (kq BK113), GW113.out, GE113.out, NB101_113.out, NB113_101.out, NB102_113.out, NB113_102.out, NB103_113.out, NB113_103.out, (kb4 HB GE101 GE102 GE103 GE113)⟩)
      ·
       skip
       rintro ⟨v105, v108⟩ w69 ⟨hS_, h0_, h1_, h2_, h3_, h4_, h5_⟩
       have n0_ : Aside0 (Kd.R k38 38 w69 w.heap.size (fun k_ => some k_ ≠ (v108 : Value).ownBlock ∧ k_ ≠ gb102) v105 t104) := ⟨h0_⟩
       have n1_ : Aside0 (Kd.R k38 38 w69 w.heap.size (fun k_ => some k_ ≠ (v105 : Value).ownBlock ∧ k_ ≠ gb102) v108 y107) := ⟨h1_⟩
       have n2_ : Aside0 (w69.heap[gb101]? = some (.cells #[.int .i64 a0_0, .slice A0_1 l0_1.length c0_1] 24 (0, 0))) := ⟨h2_⟩
       have n3_ : Aside0 (w69.heap[gb102]? = some (.cells #[.int .i64 a1_0, .int .i64 a1_1, .int .i64 a1_2] 38 (0, 0))) := ⟨h3_⟩
       have n4_ : Aside0 (w69.heap[gb103]? = some (.cells #[.int .i64 0, .slice none 0 0] 24 (0, 0))) := ⟨h4_⟩
       have n5_ : Aside0 (Below w.heap.size w w69) := ⟨h5_⟩
       clear BK101
       clear BK102
       clear BK103
       clear HB
       clear h0_ h1_ h2_ h3_ h4_ h5_
       have HO106 := n0_
       have HO109 := n1_
       have BK101 := n2_
       have BK102 := n3_
       have BK103 := n4_
       have HB := n5_
       clear n0_ n1_ n2_ n3_ n4_ n5_
       have hHeld : w69.cell? ⟨gb101, 0, none⟩ = some (.int .i64 a0_0) ∧ w69.cell? ⟨gb101, 1, none⟩ = some (.slice A0_1 l0_1.length c0_1) ∧ w69.cell? ⟨gb102, 0, none⟩ = some (.int .i64 a1_0) ∧ w69.cell? ⟨gb102, 1, none⟩ = some (.int .i64 a1_1) ∧ w69.cell? ⟨gb102, 2, none⟩ = some (.int .i64 a1_2) := hS_
       obtain ⟨Ao71, co71, eo71⟩ := Kd.R_slice HO109.out
       (first | subst eo71 | (injection eo71 with f1_ f2_ f3_; have f4_ := f1_.symm; have f5_ := f3_.symm; clear f1_ f2_ f3_; subst f4_; subst f5_))
       refine norm_ (a' := ?_) ?_ ?_
       rotate_left
       ·
        simp only [putAll, Act.put, q1, q2, q3]
        rfl
       refine two_ (i := 7) (j := 9) (Ni := some 14) (Nj := some 6) #[true, true, true, true, true, true, true, true, false, false, false] #[true, true, true, true, true, true, true, false, false, true, false] rfl rfl rfl rfl (two_of HT_.out (by kernel_rfl)) (by decide) (by decide) (fun K hK => ?_) (fun K hK => ?_)
       ·
        skip
        refine Kd.R_append_rows_step k38 (w0 := w) w.heap.size (by rfl) (.tmp 11) (.tmp 13) 22 38 (.agg #[(.int .i64 0), (.int .i64 0), (.int .i64 0)]) 24 rfl Try.underlying22 info38 rfl (by decide) (by omega) v105 t104 y107 _ _ _ (fun k_ => some k_ ≠ (.slice Ao71 y107.length co71 : Value).ownBlock ∧ k_ ≠ gb102) (fun _ => False) rfl rfl ?aO ?aR (fun _ _ h => h) (fun _ h => h.elim) ?aF ?aB ?aS ?aL ?_
        (case aR => repeat (first | exact (Kd.R_reads' HO109.out).2.2 | (with_reducible refine Kd.C_alloc ?_ _) | (with_reducible refine Kd.C_drewN ?_ _) | (with_reducible refine Kd.C_drew ?_)))
        (case aB => exact (kb3 HB GE101 GE102 GE103))
        (case aF => exact (fun k_ hk => ⟨Kd.fresh' (Kd.R_lt (kr HO109)) k_ hk, Kd.freshB (g := gb102) (o := .cells #[.int .i64 a1_0, .int .i64 a1_1, .int .i64 a1_2] 38 (0, 0)) (kq BK102) k_ hk⟩))
        (case aO => exact (kr HO106))
        (case aS => exact (below_size (kb3 HB GE101 GE102 GE103)))
        (case aL => have := LMc4.out; omega)
        intro v111 w70 ho hb hg hat
        rw [← Ny110.out] at ho
        have n0_ := aM (blk_grown (kq BK101) hg (Kd.R_ne HO106.out BK101.out (by decide)))
        have n1_ := aM (blk_grown (kq BK102) hg (Kd.R_away HO106.out (fun _ hk => hk.2)))
        have n2_ := aM (blk_grown (kq BK103) hg (Kd.R_ne HO106.out BK103.out (by decide)))
        have n3_ := aM (Kd.R_after (ok := (fun k_ => k_ ≠ gb102)) (by (with_reducible repeat (first | apply Kd.R_alloc | apply Kd.R_drewN | apply Kd.R_drew)); exact Kd.R_mono HO109.out (fun _ hk => ⟨hk.2, hk.1⟩)) hg hat)
        have n4_ := aM (hb)
        have n5_ := aM (ho)
        clear BK101
        clear BK102
        clear BK103
        clear HO109
        clear HB
        clear HO106
        have BK101 := n0_
        have BK102 := n1_
        have BK103 := n2_
        have HO109 := n3_
        have HB := n4_
        have HO112 := n5_
        clear n0_ n1_ n2_ n3_ n4_ n5_
        clear ho hb hg hat
        obtain ⟨Ao72, co72, eo72⟩ := Kd.R_slice HO112.out
        (first | subst eo72 | (injection eo72 with f1_ f2_ f3_; have f4_ := f1_.symm; have f5_ := f3_.symm; clear f1_ f2_ f3_; subst f4_; subst f5_))
        refine hK.out _ _ ⟨(blk_cell BK101.out 0).trans rfl, (blk_cell BK101.out 1).trans rfl, (blk_cell BK102.out 0).trans rfl, (blk_cell BK102.out 1).trans rfl, (blk_cell BK102.out 2).trans rfl⟩ (fun hHeld => ?_)
        clear hK K
        refine norm_ (a' := ?_) ?_ ?_
        rotate_left
        ·
         show Act.put _ (some 14) _ = _
         simp only [Act.put, q1, q2, q3, i64_w, i32_w]
         rfl
        refine pure_ (i := 8) (N := some 15) (v := ?_) (a' := ?_) #[true, true, true, true, true, true, true, true, true, false, false] rfl rfl (any_of HT_.out (by kernel_rfl)) (fun _ _ _ h => h) (Or.inl ⟨by rfl, ?_⟩) ?_ ?_
        rotate_left
        ·
         intro w'
         go_simp
         with_reducible rfl
        rotate_left
        ·
         simp only [Act.put, q1, q2, q3, i64_w, i32_w]
         rfl
        exact norm_ (by first | (simp only [putAll, Act.put, q1, q2, q3]; done) | (simp only [putAll, Act.put, q1, q2, q3]; rfl)) (hJ4_6_7 (v105, .slice Ao71 y107.length co71, .slice Ao72 y110.length co72) _ ⟨hHeld, (by (with_reducible repeat (first | apply Kd.R_alloc | apply Kd.R_drewN | apply Kd.R_drew)); exact Kd.R_mono HO109.out (fun _ hk => ⟨hk.2, hk.1⟩)), (kr HO112), (kq BK101), (kq BK102), (kq BK103), (kb3 HB GE101 GE102 GE103)⟩)
       ·
        skip
        refine box_step ?hg (N := 6) ?hd (cs := #[.int .i64 0, .slice none 0 0]) (t := 24) ?hr ?_; (case hd => rfl); (case hg => rfl); (case hr => first | (go_simp; done) | (go_simp; rfl))
        intro gb113 hg w70 hbox hb
        have n0_ := aM (Kd.R_below (kr HO106) hb)
        have n1_ := aM (Kd.R_below (kr HO109) hb)
        have n2_ := aM (blk_below (kq BK101) hb)
        have n3_ := aM (blk_below (kq BK102) hb)
        have n4_ := aM (blk_below (kq BK103) hb)
        have n5_ := aM (below_step (kb3 HB GE101 GE102 GE103) hb)
        have n6_ := aM (hbox)
        have n7_ := aM ((by rw [hg]; exact (below_size (kb3 HB GE101 GE102 GE103)) : w.heap.size ≤ gb113))
        have n8_ := aM ((by rw [hg]; exact (below_size (kb3 HB GE101 GE102 GE103)) : w.heap.size ≤ gb113))
        have n9_ := aM ((by rw [hg]; exact Nat.ne_of_lt (blk_lt (kq BK101)) : gb101 ≠ gb113))
        have n10_ := aM ((by rw [hg]; exact Nat.ne_of_gt (blk_lt (kq BK101)) : gb113 ≠ gb101))
        have n11_ := aM ((by rw [hg]; exact Nat.ne_of_lt (blk_lt (kq BK102)) : gb102 ≠ gb113))
        have n12_ := aM ((by rw [hg]; exact Nat.ne_of_gt (blk_lt (kq BK102)) : gb113 ≠ gb102))
        have n13_ := aM ((by rw [hg]; exact Nat.ne_of_lt (blk_lt (kq BK103)) : gb103 ≠ gb113))
        have n14_ := aM ((by rw [hg]; exact Nat.ne_of_gt (blk_lt (kq BK103)) : gb113 ≠ gb103))
        clear HO106
        clear HO109
        clear BK101
        clear BK102
        clear BK103
        clear HB
        have HO106 := n0_
        have HO109 := n1_
        have BK101 := n2_
        have BK102 := n3_
        have BK103 := n4_
        have HB := n5_
        have BK113 := n6_
        have GW113 := n7_
        have GE113 := n8_
        have NB101_113 := n9_
        have NB113_101 := n10_
        have NB102_113 := n11_
        have NB113_102 := n12_
        have NB103_113 := n13_
        have NB113_103 := n14_
        clear n0_ n1_ n2_ n3_ n4_ n5_ n6_ n7_ n8_ n9_ n10_ n11_ n12_ n13_ n14_
        clear hb hbox hg
        refine hK.out _ _ ⟨(blk_cell BK101.out 0).trans rfl, (blk_cell BK101.out 1).trans rfl, (blk_cell BK102.out 0).trans rfl, (blk_cell BK102.out 1).trans rfl, (blk_cell BK102.out 2).trans rfl⟩ (fun hHeld => ?_)
        clear hK K
        refine norm_ (a' := ?_) ?_ ?_
        rotate_left
        ·
         show Act.put _ (some 6) _ = _
         simp only [Act.put, q1, q2, q3, i64_w, i32_w]
         rfl
        exact norm_ (by first | (simp only [putAll, Act.put, q1, q2, q3]; done) | (simp only [putAll, Act.put, q1, q2, q3]; rfl)) (hJ4_6_9 (v105, .slice Ao71 y107.length co71, gb113) _ ⟨hHeld, (kr HO106), (kr HO109), (kq BK101), (kq BK102), (kq BK103), (kq BK113), GW113.out, GE113.out, NB101_113.out, NB113_101.out, NB102_113.out, NB113_102.out, NB103_113.out, NB113_103.out, (kb4 HB GE101 GE102 GE103 GE113)⟩)
     ·
      skip
      rintro ⟨v105, v108, gb113⟩ w70 ⟨hS_, h0_, h1_, h2_, h3_, h4_, h5_, h6_, h7_, h8_, h9_, h10_, h11_, h12_, h13_, h14_⟩
      have n0_ : Aside0 (Kd.R k38 38 w70 w.heap.size (fun k_ => some k_ ≠ (v108 : Value).ownBlock ∧ k_ ≠ gb102) v105 t104) := ⟨h0_⟩
      have n1_ : Aside0 (Kd.R k38 38 w70 w.heap.size (fun k_ => some k_ ≠ (v105 : Value).ownBlock ∧ k_ ≠ gb102) v108 y107) := ⟨h1_⟩
      have n2_ : Aside0 (w70.heap[gb101]? = some (.cells #[.int .i64 a0_0, .slice A0_1 l0_1.length c0_1] 24 (0, 0))) := ⟨h2_⟩
      have n3_ : Aside0 (w70.heap[gb102]? = some (.cells #[.int .i64 a1_0, .int .i64 a1_1, .int .i64 a1_2] 38 (0, 0))) := ⟨h3_⟩
      have n4_ : Aside0 (w70.heap[gb103]? = some (.cells #[.int .i64 0, .slice none 0 0] 24 (0, 0))) := ⟨h4_⟩
      have n5_ : Aside0 (w70.heap[gb113]? = some (.cells #[.int .i64 0, .slice none 0 0] 24 (0, 0))) := ⟨h5_⟩
      have n6_ : Aside0 (w.heap.size ≤ gb113) := ⟨h6_⟩
      have n7_ : Aside0 (w.heap.size ≤ gb113) := ⟨h7_⟩
      have n8_ : Aside0 (gb101 ≠ gb113) := ⟨h8_⟩
      have n9_ : Aside0 (gb113 ≠ gb101) := ⟨h9_⟩
      have n10_ : Aside0 (gb102 ≠ gb113) := ⟨h10_⟩
      have n11_ : Aside0 (gb113 ≠ gb102) := ⟨h11_⟩
      have n12_ : Aside0 (gb103 ≠ gb113) := ⟨h12_⟩
      have n13_ : Aside0 (gb113 ≠ gb103) := ⟨h13_⟩
      have n14_ : Aside0 (Below w.heap.size w w70) := ⟨h14_⟩
      clear BK101
      clear BK102
      clear BK103
      clear HB
      clear h0_ h1_ h2_ h3_ h4_ h5_ h6_ h7_ h8_ h9_ h10_ h11_ h12_ h13_ h14_
      have HO106 := n0_
      have HO109 := n1_
      have BK101 := n2_
      have BK102 := n3_
      have BK103 := n4_
      have BK113 := n5_
      have GW113 := n6_
      have GE113 := n7_
      have NB101_113 := n8_
      have NB113_101 := n9_
      have NB102_113 := n10_
      have NB113_102 := n11_
      have NB103_113 := n12_
      have NB113_103 := n13_
      have HB := n14_
      clear n0_ n1_ n2_ n3_ n4_ n5_ n6_ n7_ n8_ n9_ n10_ n11_ n12_ n13_ n14_
      have hHeld : w70.cell? ⟨gb101, 0, none⟩ = some (.int .i64 a0_0) ∧ w70.cell? ⟨gb101, 1, none⟩ = some (.slice A0_1 l0_1.length c0_1) ∧ w70.cell? ⟨gb102, 0, none⟩ = some (.int .i64 a1_0) ∧ w70.cell? ⟨gb102, 1, none⟩ = some (.int .i64 a1_1) ∧ w70.cell? ⟨gb102, 2, none⟩ = some (.int .i64 a1_2) := hS_
      obtain ⟨Ao72, co72, eo72⟩ := Kd.R_slice HO109.out
      (first | subst eo72 | (injection eo72 with f1_ f2_ f3_; have f4_ := f1_.symm; have f5_ := f3_.symm; clear f1_ f2_ f3_; subst f4_; subst f5_))
      refine norm_ (a' := ?_) ?_ ?_
      rotate_left
      ·
       simp only [putAll, Act.put, q1, q2, q3]
       rfl
      refine one_ (i := 7) (N := some 14) #[true, true, true, true, true, true, true, true, false, true, false] rfl rfl (one_of HT_.out (by kernel_rfl)) (by decide) (fun K hK => ?_)
      refine Kd.R_append_rows_step k38 (w0 := w) w.heap.size (by rfl) (.tmp 11) (.tmp 13) 22 38 (.agg #[(.int .i64 0), (.int .i64 0), (.int .i64 0)]) 24 rfl Try.underlying22 info38 rfl (by decide) (by omega) v105 t104 y107 _ _ _ (fun k_ => some k_ ≠ (.slice Ao72 y107.length co72 : Value).ownBlock ∧ k_ ≠ gb102) (fun _ => False) rfl rfl ?aO ?aR (fun _ _ h => h) (fun _ h => h.elim) ?aF ?aB ?aS ?aL ?_
      (case aR => repeat (first | exact (Kd.R_reads' HO109.out).2.2 | (with_reducible refine Kd.C_alloc ?_ _) | (with_reducible refine Kd.C_drewN ?_ _) | (with_reducible refine Kd.C_drew ?_)))
      (case aB => exact (kb4 HB GE101 GE102 GE103 GE113))
      (case aF => exact (fun k_ hk => ⟨Kd.fresh' (Kd.R_lt (kr HO109)) k_ hk, Kd.freshB (g := gb102) (o := .cells #[.int .i64 a1_0, .int .i64 a1_1, .int .i64 a1_2] 38 (0, 0)) (kq BK102) k_ hk⟩))
      (case aO => exact (kr HO106))
      (case aS => exact (below_size (kb4 HB GE101 GE102 GE103 GE113)))
      (case aL => have := LMc4.out; omega)
      intro v111 w71 ho hb hg hat
      rw [← Ny110.out] at ho
      have n0_ := aM (blk_grown (kq BK101) hg (Kd.R_ne HO106.out BK101.out (by decide)))
      have n1_ := aM (blk_grown (kq BK102) hg (Kd.R_away HO106.out (fun _ hk => hk.2)))
      have n2_ := aM (blk_grown (kq BK103) hg (Kd.R_ne HO106.out BK103.out (by decide)))
      have n3_ := aM (Kd.R_after (ok := (fun k_ => k_ ≠ gb102)) (by (with_reducible repeat (first | apply Kd.R_alloc | apply Kd.R_drewN | apply Kd.R_drew)); exact Kd.R_mono HO109.out (fun _ hk => ⟨hk.2, hk.1⟩)) hg hat)
      have n4_ := aM (blk_grown (kq BK113) hg (Kd.R_ne HO106.out BK113.out (by decide)))
      have n5_ := aM (hb)
      have n6_ := aM (ho)
      clear BK101
      clear BK102
      clear BK103
      clear HO109
      clear BK113
      clear HB
      clear HO106
      have BK101 := n0_
      have BK102 := n1_
      have BK103 := n2_
      have HO109 := n3_
      have BK113 := n4_
      have HB := n5_
      have HO112 := n6_
      clear n0_ n1_ n2_ n3_ n4_ n5_ n6_
      clear ho hb hg hat
      obtain ⟨Ao73, co73, eo73⟩ := Kd.R_slice HO112.out
      (first | subst eo73 | (injection eo73 with f1_ f2_ f3_; have f4_ := f1_.symm; have f5_ := f3_.symm; clear f1_ f2_ f3_; subst f4_; subst f5_))
      refine hK.out _ _ ⟨(blk_cell BK101.out 0).trans rfl, (blk_cell BK101.out 1).trans rfl, (blk_cell BK102.out 0).trans rfl, (blk_cell BK102.out 1).trans rfl, (blk_cell BK102.out 2).trans rfl⟩ (fun hHeld => ?_)
      clear hK K
      refine norm_ (a' := ?_) ?_ ?_
      rotate_left
      ·
       show Act.put _ (some 14) _ = _
       simp only [Act.put, q1, q2, q3, i64_w, i32_w]
       rfl
      refine pure_ (i := 8) (N := some 15) (v := ?_) (a' := ?_) #[true, true, true, true, true, true, true, true, true, true, false] rfl rfl (any_of HT_.out (by kernel_rfl)) (fun _ _ _ h => h) (Or.inl ⟨by rfl, ?_⟩) ?_ ?_
      rotate_left
      ·
       intro w'
       go_simp
       with_reducible rfl
      rotate_left
      ·
       simp only [Act.put, q1, q2, q3, i64_w, i32_w]
       rfl
      exact norm_ (by first | (simp only [putAll, Act.put, q1, q2, q3]; done) | (simp only [putAll, Act.put, q1, q2, q3]; rfl)) (hJ4_6_7_9 (v105, .slice Ao72 y107.length co72, .slice Ao73 y110.length co73, gb113) _ ⟨hHeld, (by (with_reducible repeat (first | apply Kd.R_alloc | apply Kd.R_drewN | apply Kd.R_drew)); exact Kd.R_mono HO109.out (fun _ hk => ⟨hk.2, hk.1⟩)), (kr HO112), (kq BK101), (kq BK102), (kq BK103), (kq BK113), GW113.out, GE113.out, NB101_113.out, NB113_101.out, NB102_113.out, NB113_102.out, NB103_113.out, NB113_103.out, (kb4 HB GE101 GE102 GE103 GE113)⟩)
    ·
     skip
     rintro ⟨v105, v108, v111⟩ w72 ⟨hS_, h0_, h1_, h2_, h3_, h4_, h5_⟩
     have n0_ : Aside0 (Kd.R k38 38 w72 w.heap.size (fun k_ => some k_ ≠ (v111 : Value).ownBlock ∧ k_ ≠ gb102) v108 y107) := ⟨h0_⟩
     have n1_ : Aside0 (Kd.R k38 38 w72 w.heap.size (fun k_ => some k_ ≠ (v108 : Value).ownBlock ∧ k_ ≠ gb102) v111 y110) := ⟨h1_⟩
     have n2_ : Aside0 (w72.heap[gb101]? = some (.cells #[.int .i64 a0_0, .slice A0_1 l0_1.length c0_1] 24 (0, 0))) := ⟨h2_⟩
     have n3_ : Aside0 (w72.heap[gb102]? = some (.cells #[.int .i64 a1_0, .int .i64 a1_1, .int .i64 a1_2] 38 (0, 0))) := ⟨h3_⟩
     have n4_ : Aside0 (w72.heap[gb103]? = some (.cells #[.int .i64 0, .slice none 0 0] 24 (0, 0))) := ⟨h4_⟩
     have n5_ : Aside0 (Below w.heap.size w w72) := ⟨h5_⟩
     clear BK101
     clear BK102
     clear BK103
     clear HB
     clear h0_ h1_ h2_ h3_ h4_ h5_
     have HO109 := n0_
     have HO112 := n1_
     have BK101 := n2_
     have BK102 := n3_
     have BK103 := n4_
     have HB := n5_
     clear n0_ n1_ n2_ n3_ n4_ n5_
     have hHeld : w72.cell? ⟨gb101, 0, none⟩ = some (.int .i64 a0_0) ∧ w72.cell? ⟨gb101, 1, none⟩ = some (.slice A0_1 l0_1.length c0_1) ∧ w72.cell? ⟨gb102, 0, none⟩ = some (.int .i64 a1_0) ∧ w72.cell? ⟨gb102, 1, none⟩ = some (.int .i64 a1_1) ∧ w72.cell? ⟨gb102, 2, none⟩ = some (.int .i64 a1_2) := hS_
     obtain ⟨Ao73, co73, eo73⟩ := Kd.R_slice HO112.out
     (first | subst eo73 | (injection eo73 with f1_ f2_ f3_; have f4_ := f1_.symm; have f5_ := f3_.symm; clear f1_ f2_ f3_; subst f4_; subst f5_))
     refine norm_ (a' := ?_) ?_ ?_
     rotate_left
     ·
      simp only [putAll, Act.put, q1, q2, q3]
      rfl
     refine one_ (i := 9) (N := some 6) #[true, true, true, true, true, true, true, true, true, true, false] rfl rfl (one_of HT_.out (by kernel_rfl)) (by decide) (fun K hK => ?_)
     refine box_step ?hg (N := 6) ?hd (cs := #[.int .i64 0, .slice none 0 0]) (t := 24) ?hr ?_; (case hd => rfl); (case hg => rfl); (case hr => first | (go_simp; done) | (go_simp; rfl))
     intro gb113 hg w74 hbox hb
     have n0_ := aM (Kd.R_below (kr HO109) hb)
     have n1_ := aM (Kd.R_below (kr HO112) hb)
     have n2_ := aM (blk_below (kq BK101) hb)
     have n3_ := aM (blk_below (kq BK102) hb)
     have n4_ := aM (blk_below (kq BK103) hb)
     have n5_ := aM (below_step (kb3 HB GE101 GE102 GE103) hb)
     have n6_ := aM (hbox)
     have n7_ := aM ((by rw [hg]; exact (below_size (kb3 HB GE101 GE102 GE103)) : w.heap.size ≤ gb113))
     have n8_ := aM ((by rw [hg]; exact (below_size (kb3 HB GE101 GE102 GE103)) : w.heap.size ≤ gb113))
     have n9_ := aM ((by rw [hg]; exact Nat.ne_of_lt (blk_lt (kq BK101)) : gb101 ≠ gb113))
     have n10_ := aM ((by rw [hg]; exact Nat.ne_of_gt (blk_lt (kq BK101)) : gb113 ≠ gb101))
     have n11_ := aM ((by rw [hg]; exact Nat.ne_of_lt (blk_lt (kq BK102)) : gb102 ≠ gb113))
     have n12_ := aM ((by rw [hg]; exact Nat.ne_of_gt (blk_lt (kq BK102)) : gb113 ≠ gb102))
     have n13_ := aM ((by rw [hg]; exact Nat.ne_of_lt (blk_lt (kq BK103)) : gb103 ≠ gb113))
     have n14_ := aM ((by rw [hg]; exact Nat.ne_of_gt (blk_lt (kq BK103)) : gb113 ≠ gb103))
     clear HO109
     clear HO112
     clear BK101
     clear BK102
     clear BK103
     clear HB
     have HO109 := n0_
     have HO112 := n1_
     have BK101 := n2_
     have BK102 := n3_
     have BK103 := n4_
     have HB := n5_
     have BK113 := n6_
     have GW113 := n7_
     have GE113 := n8_
     have NB101_113 := n9_
     have NB113_101 := n10_
     have NB102_113 := n11_
     have NB113_102 := n12_
     have NB103_113 := n13_
     have NB113_103 := n14_
     clear n0_ n1_ n2_ n3_ n4_ n5_ n6_ n7_ n8_ n9_ n10_ n11_ n12_ n13_ n14_
     clear hb hbox hg
     refine hK.out _ _ ⟨(blk_cell BK101.out 0).trans rfl, (blk_cell BK101.out 1).trans rfl, (blk_cell BK102.out 0).trans rfl, (blk_cell BK102.out 1).trans rfl, (blk_cell BK102.out 2).trans rfl⟩ (fun hHeld => ?_)
     clear hK K
     refine norm_ (a' := ?_) ?_ ?_
     rotate_left
     ·
      show Act.put _ (some 6) _ = _
      simp only [Act.put, q1, q2, q3, i64_w, i32_w]
      rfl
     exact norm_ (by first | (simp only [putAll, Act.put, q1, q2, q3]; done) | (simp only [putAll, Act.put, q1, q2, q3]; rfl)) (hJ4_6_7_9 (v105, v108, .slice Ao73 y110.length co73, gb113) _ ⟨hHeld, (kr HO109), (kr HO112), (kq BK101), (kq BK102), (kq BK103), (kq BK113), GW113.out, GE113.out, NB101_113.out, NB113_101.out, NB102_113.out, NB113_102.out, NB103_113.out, NB113_103.out, (kb4 HB GE101 GE102 GE103 GE113)⟩)
   rintro ⟨v105, v108, v111, gb113⟩ w73 ⟨hS_, h0_, h1_, h2_, h3_, h4_, h5_, h6_, h7_, h8_, h9_, h10_, h11_, h12_, h13_, h14_⟩
   have n0_ : Aside0 (Kd.R k38 38 w73 w.heap.size (fun k_ => some k_ ≠ (v111 : Value).ownBlock ∧ k_ ≠ gb102) v108 y107) := ⟨h0_⟩
   have n1_ : Aside0 (Kd.R k38 38 w73 w.heap.size (fun k_ => some k_ ≠ (v108 : Value).ownBlock ∧ k_ ≠ gb102) v111 y110) := ⟨h1_⟩
   have n2_ : Aside0 (w73.heap[gb101]? = some (.cells #[.int .i64 a0_0, .slice A0_1 l0_1.length c0_1] 24 (0, 0))) := ⟨h2_⟩
   have n3_ : Aside0 (w73.heap[gb102]? = some (.cells #[.int .i64 a1_0, .int .i64 a1_1, .int .i64 a1_2] 38 (0, 0))) := ⟨h3_⟩
   have n4_ : Aside0 (w73.heap[gb103]? = some (.cells #[.int .i64 0, .slice none 0 0] 24 (0, 0))) := ⟨h4_⟩
   have n5_ : Aside0 (w73.heap[gb113]? = some (.cells #[.int .i64 0, .slice none 0 0] 24 (0, 0))) := ⟨h5_⟩
   have n6_ : Aside0 (w.heap.size ≤ gb113) := ⟨h6_⟩
   have n7_ : Aside0 (w.heap.size ≤ gb113) := ⟨h7_⟩
   have n8_ : Aside0 (gb101 ≠ gb113) := ⟨h8_⟩
   have n9_ : Aside0 (gb113 ≠ gb101) := ⟨h9_⟩
   have n10_ : Aside0 (gb102 ≠ gb113) := ⟨h10_⟩
   have n11_ : Aside0 (gb113 ≠ gb102) := ⟨h11_⟩
   have n12_ : Aside0 (gb103 ≠ gb113) := ⟨h12_⟩
   have n13_ : Aside0 (gb113 ≠ gb103) := ⟨h13_⟩
   have n14_ : Aside0 (Below w.heap.size w w73) := ⟨h14_⟩
   clear BK101
   clear BK102
   clear BK103
   clear HB
   clear h0_ h1_ h2_ h3_ h4_ h5_ h6_ h7_ h8_ h9_ h10_ h11_ h12_ h13_ h14_
   have HO109 := n0_
   have HO112 := n1_
   have BK101 := n2_
   have BK102 := n3_
   have BK103 := n4_
   have BK113 := n5_
   have GW113 := n6_
   have GE113 := n7_
   have NB101_113 := n8_
   have NB113_101 := n9_
   have NB102_113 := n10_
   have NB113_102 := n11_
   have NB103_113 := n12_
   have NB113_103 := n13_
   have HB := n14_
   clear n0_ n1_ n2_ n3_ n4_ n5_ n6_ n7_ n8_ n9_ n10_ n11_ n12_ n13_ n14_
   have hHeld : w73.cell? ⟨gb101, 0, none⟩ = some (.int .i64 a0_0) ∧ w73.cell? ⟨gb101, 1, none⟩ = some (.slice A0_1 l0_1.length c0_1) ∧ w73.cell? ⟨gb102, 0, none⟩ = some (.int .i64 a1_0) ∧ w73.cell? ⟨gb102, 1, none⟩ = some (.int .i64 a1_1) ∧ w73.cell? ⟨gb102, 2, none⟩ = some (.int .i64 a1_2) := hS_
   obtain ⟨Ao74, co74, eo74⟩ := Kd.R_slice HO112.out
   (first | subst eo74 | (injection eo74 with f1_ f2_ f3_; have f4_ := f1_.symm; have f5_ := f3_.symm; clear f1_ f2_ f3_; subst f4_; subst f5_))
   refine norm_ (a' := ?_) ?_ ?_
   rotate_left
   ·
    simp only [putAll, Act.put, q1, q2, q3]
    rfl
   refine one_ (i := 10) (N := none) #[true, true, true, true, true, true, true, true, true, true, true] rfl rfl (one_of HT_.out (by kernel_rfl)) (by decide) (fun K hK => ?_)
   have hs75 : w73.cell? ⟨gb113, 0, none⟩ = some (.int .i64 0) := (blk_cell BK113.out 0).trans rfl
   have hfs75 := blk_frozen BK113.out 0
   have hns75_0 := NB101_113.out
   have hns75_1 := NB102_113.out
   have hns75_2 := NB103_113.out
   have hms75_0 := NB113_101.out
   have hms75_1 := NB113_102.out
   have hms75_2 := NB113_103.out
   have hs76 : w73.cell? ⟨gb113, 1, none⟩ = some (.slice none 0 0) := (blk_cell BK113.out 1).trans rfl
   have hfs76 := blk_frozen BK113.out 1
   have hns76_0 := NB101_113.out
   have hns76_1 := NB102_113.out
   have hns76_2 := NB103_113.out
   have hms76_0 := NB113_101.out
   have hms76_1 := NB113_102.out
   have hms76_2 := NB113_103.out
   refine skip_ (w1 := ?_) (by rfl) rfl ?_ ?_
   rotate_left
   ·
    go_simp
    rfl
   refine hK.out _ _ ⟨((cell_far (p := ⟨gb113, _, none⟩) NB101_113.out _).trans (((cell_far (p := ⟨gb113, _, none⟩) NB101_113.out _).trans (hHeld.1)))), ((cell_far (p := ⟨gb113, _, none⟩) NB101_113.out _).trans (((cell_far (p := ⟨gb113, _, none⟩) NB101_113.out _).trans (hHeld.2.1)))), ((cell_far (p := ⟨gb113, _, none⟩) NB102_113.out _).trans (((cell_far (p := ⟨gb113, _, none⟩) NB102_113.out _).trans (hHeld.2.2.1)))), ((cell_far (p := ⟨gb113, _, none⟩) NB102_113.out _).trans (((cell_far (p := ⟨gb113, _, none⟩) NB102_113.out _).trans (hHeld.2.2.2.1)))), ((cell_far (p := ⟨gb113, _, none⟩) NB102_113.out _).trans (((cell_far (p := ⟨gb113, _, none⟩) NB102_113.out _).trans (hHeld.2.2.2.2))))⟩ (fun hHeld => ?_)
   clear hK K
   refine done_ (done_of HT_.out (by kernel_rfl)) ?_
   have hnb77 := NB101_102.out
   have hnc77 := NB102_101.out
   have hnb78 := NB101_103.out
   have hnc78 := NB103_101.out
   have hnb79 := NB101_113.out
   have hnc79 := NB113_101.out
   have hcz80_0 : w73.cell? ⟨gb101, 0, none⟩ = some (.int .i64 a0_0) := (blk_cell BK101.out 0).trans rfl
   have hcz80_1 : w73.cell? ⟨gb101, 1, none⟩ = some (.slice A0_1 l0_1.length c0_1) := (blk_cell BK101.out 1).trans rfl
   have hfz80_0 := blk_frozen BK101.out 0
   have hfz80_1 := blk_frozen BK101.out 1
   try go_wp2_with (first | ((with_reducible refine gate_callee (f := 19) rfl ?_); refine goesL_ (some 17) rfl rfl Try.func19 (by kernel_rfl) rfl #[.agg #[.int .i64 a0_0, .slice A0_1 l0_1.length c0_1]] rfl ka ?_; (with_reducible refine (impl_IsPuzzle.calls k a0_0 _ _ l0_1 false _ ?side1 ?side2 A5.out).mono ?_); (case side1 => exact Kd.C_below HR0_1.out (kb4 HB GE101 GE102 GE103 GE113)); (case side2 => exact HC0_1.out); rintro e w81 ⟨rfl, hb⟩; refine ⟨_, rfl, ?_⟩; have n0_ := aM (Kd.R_below (by (with_reducible repeat (first | apply Kd.R_alloc | apply Kd.R_drewN | apply Kd.R_drew)); exact (Kd.R_mono (Kd.R_far (p := ⟨gb113, 1, none⟩) (Kd.R_far (p := ⟨gb113, 0, none⟩) (Kd.R_types HO109.out BK113.out (by decide)) (fun _ hk => hk.2) (.int .i64 a0_0)) (fun _ hk => hk.2) (.slice Ao74 y110.length co74)) (fun _ h_ => h_.1))) hb); have n1_ := aM (Kd.R_below (by (with_reducible repeat (first | apply Kd.R_alloc | apply Kd.R_drewN | apply Kd.R_drew)); exact (Kd.R_mono (Kd.R_far (p := ⟨gb113, 1, none⟩) (Kd.R_far (p := ⟨gb113, 0, none⟩) (Kd.R_types HO112.out BK113.out (by decide)) (fun _ hk => hk.2) (.int .i64 a0_0)) (fun _ hk => hk.2) (.slice Ao74 y110.length co74)) (fun _ h_ => h_.1))) hb); have n2_ := aM (blk_below (blk_far (p := ⟨gb113, 1, none⟩) (blk_far (p := ⟨gb113, 0, none⟩) BK101.out NB101_113.out _) NB101_113.out _) hb); have n3_ := aM (blk_below (blk_far (p := ⟨gb113, 1, none⟩) (blk_far (p := ⟨gb113, 0, none⟩) BK102.out NB102_113.out _) NB102_113.out _) hb); have n4_ := aM (blk_below (blk_far (p := ⟨gb113, 1, none⟩) (blk_far (p := ⟨gb113, 0, none⟩) BK103.out NB103_113.out _) NB103_113.out _) hb); have n5_ := aM (blk_below (g := gb113) (o := .cells #[.int .i64 a0_0, .slice Ao74 y110.length co74] 24 (0, 0)) (by (with_reducible repeat (first | refine blk_drewN ?_ _ | refine blk_drew ?_ | refine blk_alloc ?_ _)); refine blk_put (cs := #[.int .i64 a0_0, .slice none 0 0]) ?_ 1 _ rfl; (with_reducible repeat (first | refine blk_drewN ?_ _ | refine blk_drew ?_ | refine blk_alloc ?_ _)); refine blk_put (cs := #[.int .i64 0, .slice none 0 0]) ?_ 0 _ rfl; (with_reducible repeat (first | refine blk_drewN ?_ _ | refine blk_drew ?_ | refine blk_alloc ?_ _)); exact BK113.out) hb); have n6_ := aM (below_step (kb4 HB GE101 GE102 GE103 GE113) hb); clear HO109; clear HO112; clear BK101; clear BK102; clear BK103; clear BK113; clear HB; have HO109 := n0_; have HO112 := n1_; have BK101 := n2_; have BK102 := n3_; have BK103 := n4_; have BK113 := n5_; have HB := n6_; clear n0_ n1_ n2_ n3_ n4_ n5_ n6_; (try clear hb); (try clear hb2); (try clear hk); (try clear hi); have hnb82 := NB103_102.out; have hnc82 := NB102_103.out; have hnb83 := NB103_113.out; have hnc83 := NB113_103.out; have hcz84_0 : w81.cell? ⟨gb103, 0, none⟩ = some (.int .i64 0) := (blk_cell BK103.out 0).trans rfl; have hcz84_1 : w81.cell? ⟨gb103, 1, none⟩ = some (.slice none 0 0) := (blk_cell BK103.out 1).trans rfl; have hfz84_0 := blk_frozen BK103.out 0; have hfz84_1 := blk_frozen BK103.out 1))
   refine bodyPost_ret (results_ct rfl _ _ gb103 24 #[.int .i64 0, .slice none 0 0] (0, 0) _ rfl (by (with_reducible repeat (first | refine blk_drewN ?_ _ | refine blk_drew ?_ | refine blk_alloc ?_ _)); refine blk_put (cs := #[.int .i64 0, .slice none 0 0]) ?_ 1 _ rfl; (with_reducible repeat (first | refine blk_drewN ?_ _ | refine blk_drew ?_ | refine blk_alloc ?_ _)); refine blk_put (cs := #[.int .i64 0, .slice none 0 0]) ?_ 0 _ rfl; (with_reducible repeat (first | refine blk_drewN ?_ _ | refine blk_drew ?_ | refine blk_alloc ?_ _)); exact BK103.out) Try.underlying24 rfl (by kernel_rfl)) rfl ?_
   exact ⟨_, ea, by first | exact Kd.R_nil _ _ _ _ _ | exact Kd.N_nil _ _ _ _ _ | exact Kd.V_nil _ _ _ _ _ | exact Kd.Q_nil _ _ _ _ _ | exact Kd.S_nil _ _ _ _ _, (kb4 HB GE101 GE102 GE103 GE113)⟩
 ·
  rw [if_neg c4] at H
  exact absurd H (by simp)

end Go.Proofs.Ytpeleommbipeaaa.P
