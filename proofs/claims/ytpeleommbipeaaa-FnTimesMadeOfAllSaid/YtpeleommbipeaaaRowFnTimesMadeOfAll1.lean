/- The law holds for every input that its row speaks of (part 1). No conditions but those stated. -/
import Derived.Test.YtpeleommbipeaaaPlFnTimesMadeOfAll1
import Derived.Test.YtpeleommbipeaaaRows
import Derived.WalkKit
import Derived.ProofKit
import Derived.OpenShut
import Derived.ShutString
import Derived.ChangeOld
import Derived.Below
import Derived.SizedLaws
import Derived.Carry
namespace Go.Proofs.Ytpeleommbipeaaa.fnTimesMadeOfAll
open Go Go.PM Go.Proofs.Ytpeleommbipeaaa.P Go.ChangeShapes Go.WideShapes Go.ChangeAt Go.RowKit Go.Proofs Go.Proofs.Ytpeleommbipeaaa.M
set_option linter.unusedVariables false
set_option linter.unusedSimpArgs false
theorem own : ownKnob Go.Proofs.Try.prog.godebug = none := by kernel_rfl
theorem laidOut : laidOutB Go.Proofs.Try.prog = true := by kernel_rfl
set_option maxRecDepth 100000 in
theorem lifted (hp : FnTimesMadeOfAll.Pure) (os : Os) (started : os.Started) (H : Type) (enc : TypeId × Value → H) :
    ReturnsInHanded {} Go.Proofs.Try.checked os 5 .any (Rows.fnTimesMadeOfAllSpec.pre6 enc Go.Proofs.Try.prog Go.Proofs.Try.f5 Rows.fnTimesMadeOfAllRow.domain false) (Rows.fnTimesMadeOfAllSpec.post enc Go.Proofs.Try.prog Go.Proofs.Try.f5 false true false false) := by
  refine returnsInHanded_of_change_sized (C := Go.Proofs.Try.checked) own started (by kernel_rfl) Go.Proofs.Try.func5
    (ChangeSpec.witness6 (enc := enc) (C := Go.Proofs.Try.checked) false ⟨#[], #[.int .i64 0, .int .i64 0, .int .i64 0, .int .i64 0, .agg #[.int .i64 0, .slice none 0 0], .agg #[.int .i64 0, .slice none 0 0], .agg #[.int .i64 0, .int .i64 0, .int .i64 0], .agg #[.int .i64 0, .slice none 0 0], .int .i64 0, .int .i64 0, .agg #[.int .i64 0, .int .i64 0, .int .i64 0], .int .i64 0], []⟩ 8 (by kernel_rfl) (by kernel_rfl) (by kernel_rfl) (by kernel_rfl)) ?_
  intro W base args ds gs before hval0 hW hcnd hsz0 _
  have hsz : (DataW.weightsEach Go.Proofs.Try.prog (Go.Proofs.Try.f5.params.toList ++ Rows.fnTimesMadeOfAllSpec.plain.varTypes Go.Proofs.Try.prog) (ds ++ gs)).all (· ≤ reachBytes) = true := hsz0
  have hval : ∀ (j : Nat) t v, Go.Proofs.Try.f5.params[j]? = some t → args[j]? = some v → Value.okWide Go.Proofs.Try.prog W .any base t v := hval0
  have hW' := hW
  obtain ⟨p, q, hA0, hV, rfl, hfz, hnd⟩ := hW
  have hA : DataW.TrodAll enc Go.Proofs.Try.prog W 0 (fun _ => true) true Go.Proofs.Try.f5.params.toList args.toList ds p := hA0
  rw [Go.Proofs.Try.params5] at hA hval hsz
  obtain ⟨v0, vs0, d0, ds0, p0, q0, hargs, rfl, rfl, h0, r0⟩ := trodAll_cons hA
  obtain ⟨v1, vs1, d1, ds1, p1, q1, rfl, rfl, rfl, h1, r1⟩ := trodAll_cons r0
  obtain ⟨v2, vs2, d2, ds2, p2, q2, rfl, rfl, rfl, h2, r2⟩ := trodAll_cons r1
  obtain ⟨v3, vs3, d3, ds3, p3, q3, rfl, rfl, rfl, h3, r3⟩ := trodAll_cons r2
  obtain ⟨v4, vs4, d4, ds4, p4, q4, rfl, rfl, rfl, h4, r4⟩ := trodAll_cons r3
  obtain ⟨v5, vs5, d5, ds5, p5, q5, rfl, rfl, rfl, h5, r5⟩ := trodAll_cons r4
  obtain ⟨v6, vs6, d6, ds6, p6, q6, rfl, rfl, rfl, h6, r6⟩ := trodAll_cons r5
  obtain ⟨v7, vs7, d7, ds7, p7, q7, rfl, rfl, rfl, h7, r7⟩ := trodAll_cons r6
  obtain ⟨v8, vs8, d8, ds8, p8, q8, rfl, rfl, rfl, h8, r8⟩ := trodAll_cons r7
  obtain ⟨v9, vs9, d9, ds9, p9, q9, rfl, rfl, rfl, h9, r9⟩ := trodAll_cons r8
  obtain ⟨v10, vs10, d10, ds10, p10, q10, rfl, rfl, rfl, h10, r10⟩ := trodAll_cons r9
  obtain ⟨v11, vs11, d11, ds11, p11, q11, rfl, rfl, rfl, h11, r11⟩ := trodAll_cons r10
  obtain ⟨rfl, rfl, rfl⟩ := trodAll_nil r11
  obtain rfl : args = #[v0, v1, v2, v3, v4, v5, v6, v7, v8, v9, v10, v11] := by cases args; simp_all
  obtain ⟨rfl, rfl⟩ := trodVars_none hV
  obtain ⟨y0, hk0, w0⟩ := opnP_use (opnP_int (T := T0) Go.Proofs.Try.underlying3 (by kernel_rfl)) hsz (j := 0) (t := 3) rfl rfl h0
  have lt0 := trod_places' h0
  obtain ⟨a0, rfl⟩ := okWide_int Go.Proofs.Try.underlying3 (hval 0 3 v0 rfl rfl)
  have g0 : PRep T0 (allC W) id (.one (.int .i64 y0)) _ := rep_one rfl hk0
  obtain ⟨y1, hk1, w1⟩ := opnP_use (opnP_int (T := T0) Go.Proofs.Try.underlying3 (by kernel_rfl)) hsz (j := 1) (t := 3) rfl rfl h1
  have lt1 := trod_places' h1
  obtain ⟨a1, rfl⟩ := okWide_int Go.Proofs.Try.underlying3 (hval 1 3 v1 rfl rfl)
  have g1 : PRep T0 (allC W) id (.one (.int .i64 y1)) _ := rep_one rfl hk1
  obtain ⟨y2, hk2, w2⟩ := opnP_use (opnP_int (T := T0) Go.Proofs.Try.underlying3 (by kernel_rfl)) hsz (j := 2) (t := 3) rfl rfl h2
  have lt2 := trod_places' h2
  obtain ⟨a2, rfl⟩ := okWide_int Go.Proofs.Try.underlying3 (hval 2 3 v2 rfl rfl)
  have g2 : PRep T0 (allC W) id (.one (.int .i64 y2)) _ := rep_one rfl hk2
  obtain ⟨y3, hk3, w3⟩ := opnP_use (opnP_int (T := T0) Go.Proofs.Try.underlying3 (by kernel_rfl)) hsz (j := 3) (t := 3) rfl rfl h3
  have lt3 := trod_places' h3
  obtain ⟨a3, rfl⟩ := okWide_int Go.Proofs.Try.underlying3 (hval 3 3 v3 rfl rfl)
  have g3 : PRep T0 (allC W) id (.one (.int .i64 y3)) _ := rep_one rfl hk3
  obtain ⟨y4, hk4, w4⟩ := opnP_use (opnP_struct (T := T0) Go.Proofs.Try.underlying24 (by kernel_rfl) (opnPs_cons rfl (opnP_int (T := T0) Go.Proofs.Try.underlying3 (by kernel_rfl)) (opnPs_one rfl (show OpnP Go.Proofs.Try.prog T0 22 1 (fun xs : List (D0 38) => [.sl false 38 xs]) (fun y => y.length ≤ maxLen ∧ y.length * 24 ≤ 140737488351232 ∧ ∀ x ∈ y, ((Lit.int .i64 x.f0).wf = true) ∧ ((Lit.int .i64 x.f1).wf = true) ∧ ((Lit.int .i64 x.f2).wf = true)) from opnP_slice tabOk0 Go.Proofs.Try.underlying22 (by kernel_rfl) (show 0 < 3 by omega) (show OpnP Go.Proofs.Try.prog T0 38 (T0.size 38) (T0.out 38) (fun x : S38 => ((Lit.int .i64 x.f0).wf = true) ∧ ((Lit.int .i64 x.f1).wf = true) ∧ ((Lit.int .i64 x.f2).wf = true)) from opnP_iso (fun x : S38 => (x.f0, x.f1, x.f2)) (fun y => ⟨y.1, y.2.1, y.2.2⟩) (fun _ => rfl) (opnP_struct (T := T0) Go.Proofs.Try.underlying38 (by kernel_rfl) (opnPs_cons rfl (opnP_int (T := T0) Go.Proofs.Try.underlying3 (by kernel_rfl)) (opnPs_cons rfl (opnP_int (T := T0) Go.Proofs.Try.underlying3 (by kernel_rfl)) (opnPs_one rfl (opnP_int (T := T0) Go.Proofs.Try.underlying3 (by kernel_rfl))))))))))) hsz (j := 4) (t := 24) rfl rfl h4
  have lt4 := trod_places' h4
  obtain ⟨cs4, rfl, _⟩ := okWide_struct Go.Proofs.Try.underlying24 (hval 4 24 v4 rfl rfl)
  have g4 : PRep T0 (allC W) id (.agg [.int .i64 y4.1, .sl false 38 y4.2]) (.agg cs4) := rep_agg hk4
  obtain ⟨y5, hk5, w5⟩ := opnP_use (opnP_struct (T := T0) Go.Proofs.Try.underlying24 (by kernel_rfl) (opnPs_cons rfl (opnP_int (T := T0) Go.Proofs.Try.underlying3 (by kernel_rfl)) (opnPs_one rfl (show OpnP Go.Proofs.Try.prog T0 22 1 (fun xs : List (D0 38) => [.sl false 38 xs]) (fun y => y.length ≤ maxLen ∧ y.length * 24 ≤ 140737488351232 ∧ ∀ x ∈ y, ((Lit.int .i64 x.f0).wf = true) ∧ ((Lit.int .i64 x.f1).wf = true) ∧ ((Lit.int .i64 x.f2).wf = true)) from opnP_slice tabOk0 Go.Proofs.Try.underlying22 (by kernel_rfl) (show 0 < 3 by omega) (show OpnP Go.Proofs.Try.prog T0 38 (T0.size 38) (T0.out 38) (fun x : S38 => ((Lit.int .i64 x.f0).wf = true) ∧ ((Lit.int .i64 x.f1).wf = true) ∧ ((Lit.int .i64 x.f2).wf = true)) from opnP_iso (fun x : S38 => (x.f0, x.f1, x.f2)) (fun y => ⟨y.1, y.2.1, y.2.2⟩) (fun _ => rfl) (opnP_struct (T := T0) Go.Proofs.Try.underlying38 (by kernel_rfl) (opnPs_cons rfl (opnP_int (T := T0) Go.Proofs.Try.underlying3 (by kernel_rfl)) (opnPs_cons rfl (opnP_int (T := T0) Go.Proofs.Try.underlying3 (by kernel_rfl)) (opnPs_one rfl (opnP_int (T := T0) Go.Proofs.Try.underlying3 (by kernel_rfl))))))))))) hsz (j := 5) (t := 24) rfl rfl h5
  have lt5 := trod_places' h5
  obtain ⟨cs5, rfl, _⟩ := okWide_struct Go.Proofs.Try.underlying24 (hval 5 24 v5 rfl rfl)
  have g5 : PRep T0 (allC W) id (.agg [.int .i64 y5.1, .sl false 38 y5.2]) (.agg cs5) := rep_agg hk5
  obtain ⟨y6, hk6, w6⟩ := opnP_use (opnP_struct (T := T0) Go.Proofs.Try.underlying38 (by kernel_rfl) (opnPs_cons rfl (opnP_int (T := T0) Go.Proofs.Try.underlying3 (by kernel_rfl)) (opnPs_cons rfl (opnP_int (T := T0) Go.Proofs.Try.underlying3 (by kernel_rfl)) (opnPs_one rfl (opnP_int (T := T0) Go.Proofs.Try.underlying3 (by kernel_rfl)))))) hsz (j := 6) (t := 38) rfl rfl h6
  have lt6 := trod_places' h6
  obtain ⟨cs6, rfl, _⟩ := okWide_struct Go.Proofs.Try.underlying38 (hval 6 38 v6 rfl rfl)
  have g6 : PRep T0 (allC W) id (.agg [.int .i64 y6.1, .int .i64 y6.2.1, .int .i64 y6.2.2]) (.agg cs6) := rep_agg hk6
  obtain ⟨y7, hk7, w7⟩ := opnP_use (opnP_struct (T := T0) Go.Proofs.Try.underlying24 (by kernel_rfl) (opnPs_cons rfl (opnP_int (T := T0) Go.Proofs.Try.underlying3 (by kernel_rfl)) (opnPs_one rfl (show OpnP Go.Proofs.Try.prog T0 22 1 (fun xs : List (D0 38) => [.sl false 38 xs]) (fun y => y.length ≤ maxLen ∧ y.length * 24 ≤ 140737488351232 ∧ ∀ x ∈ y, ((Lit.int .i64 x.f0).wf = true) ∧ ((Lit.int .i64 x.f1).wf = true) ∧ ((Lit.int .i64 x.f2).wf = true)) from opnP_slice tabOk0 Go.Proofs.Try.underlying22 (by kernel_rfl) (show 0 < 3 by omega) (show OpnP Go.Proofs.Try.prog T0 38 (T0.size 38) (T0.out 38) (fun x : S38 => ((Lit.int .i64 x.f0).wf = true) ∧ ((Lit.int .i64 x.f1).wf = true) ∧ ((Lit.int .i64 x.f2).wf = true)) from opnP_iso (fun x : S38 => (x.f0, x.f1, x.f2)) (fun y => ⟨y.1, y.2.1, y.2.2⟩) (fun _ => rfl) (opnP_struct (T := T0) Go.Proofs.Try.underlying38 (by kernel_rfl) (opnPs_cons rfl (opnP_int (T := T0) Go.Proofs.Try.underlying3 (by kernel_rfl)) (opnPs_cons rfl (opnP_int (T := T0) Go.Proofs.Try.underlying3 (by kernel_rfl)) (opnPs_one rfl (opnP_int (T := T0) Go.Proofs.Try.underlying3 (by kernel_rfl))))))))))) hsz (j := 7) (t := 24) rfl rfl h7
  have lt7 := trod_places' h7
  obtain ⟨cs7, rfl, _⟩ := okWide_struct Go.Proofs.Try.underlying24 (hval 7 24 v7 rfl rfl)
  have g7 : PRep T0 (allC W) id (.agg [.int .i64 y7.1, .sl false 38 y7.2]) (.agg cs7) := rep_agg hk7
  obtain ⟨y8, hk8, w8⟩ := opnP_use (opnP_int (T := T0) Go.Proofs.Try.underlying3 (by kernel_rfl)) hsz (j := 8) (t := 3) rfl rfl h8
  have lt8 := trod_places' h8
  obtain ⟨a8, rfl⟩ := okWide_int Go.Proofs.Try.underlying3 (hval 8 3 v8 rfl rfl)
  have g8 : PRep T0 (allC W) id (.one (.int .i64 y8)) _ := rep_one rfl hk8
  obtain ⟨y9, hk9, w9⟩ := opnP_use (opnP_int (T := T0) Go.Proofs.Try.underlying3 (by kernel_rfl)) hsz (j := 9) (t := 3) rfl rfl h9
  have lt9 := trod_places' h9
  obtain ⟨a9, rfl⟩ := okWide_int Go.Proofs.Try.underlying3 (hval 9 3 v9 rfl rfl)
  have g9 : PRep T0 (allC W) id (.one (.int .i64 y9)) _ := rep_one rfl hk9
  obtain ⟨y10, hk10, w10⟩ := opnP_use (opnP_struct (T := T0) Go.Proofs.Try.underlying38 (by kernel_rfl) (opnPs_cons rfl (opnP_int (T := T0) Go.Proofs.Try.underlying3 (by kernel_rfl)) (opnPs_cons rfl (opnP_int (T := T0) Go.Proofs.Try.underlying3 (by kernel_rfl)) (opnPs_one rfl (opnP_int (T := T0) Go.Proofs.Try.underlying3 (by kernel_rfl)))))) hsz (j := 10) (t := 38) rfl rfl h10
  have lt10 := trod_places' h10
  obtain ⟨cs10, rfl, _⟩ := okWide_struct Go.Proofs.Try.underlying38 (hval 10 38 v10 rfl rfl)
  have g10 : PRep T0 (allC W) id (.agg [.int .i64 y10.1, .int .i64 y10.2.1, .int .i64 y10.2.2]) (.agg cs10) := rep_agg hk10
  obtain ⟨y11, hk11, w11⟩ := opnP_use (opnP_int (T := T0) Go.Proofs.Try.underlying3 (by kernel_rfl)) hsz (j := 11) (t := 3) rfl rfl h11
  have lt11 := trod_places' h11
  obtain ⟨a11, rfl⟩ := okWide_int Go.Proofs.Try.underlying3 (hval 11 3 v11 rfl rfl)
  have g11 : PRep T0 (allC W) id (.one (.int .i64 y11)) _ := rep_one rfl hk11
  clear hA0 hval0 hsz0 hsz
  obtain ⟨k, hp⟩ := hp y0 y1 y2 y3 y4 y5 y6 y7 y8 y9 y10 y11 w0 w1 w2 w3 w4 w5 w6 w7 w8 w9 w10 w11
  have hG := laws_FnTimesMadeOfAll.good k y0 y1 y2 y3 y4.1 y4.2 y5.1 y5.2 y6.1 y6.2.1 y6.2.2 y7.1 y7.2 y8 y9 y10.1 y10.2.1 y10.2.2 y11 true hp
  refine (law_calls (P := Go.Proofs.Try.prog) (T := T0) (v := .bool true) hG _ (.cons g0 (.cons g1 (.cons g2 (.cons g3 (.cons g4 (.cons g5 (.cons g6 (.cons g7 (.cons g8 (.cons g9 (.cons g10 (.cons g11 .nil)))))))))))) rfl rfl (fun C b u h => inv_bool h)).mono fun e W' ⟨he, bel0⟩ => ?_
  have bel : Below W.heap.size W W' := bel0
  subst he
  exact ⟨_, rfl, _, _, _, [], _, [], hW', trodAll_mk1 (shut_bool Go.Proofs.Try.underlying4 _), (trodAll_cons_mk (Below.trod laidOut (by kernel_rfl) (of_decide_eq_true (by kernel_rfl)) h0 bel lt0) (trodAll_cons_mk (Below.trod laidOut (by kernel_rfl) (of_decide_eq_true (by kernel_rfl)) h1 bel lt1) (trodAll_cons_mk (Below.trod laidOut (by kernel_rfl) (of_decide_eq_true (by kernel_rfl)) h2 bel lt2) (trodAll_cons_mk (Below.trod laidOut (by kernel_rfl) (of_decide_eq_true (by kernel_rfl)) h3 bel lt3) (trodAll_cons_mk (Below.trod laidOut (by kernel_rfl) (of_decide_eq_true (by kernel_rfl)) h4 bel lt4) (trodAll_cons_mk (Below.trod laidOut (by kernel_rfl) (of_decide_eq_true (by kernel_rfl)) h5 bel lt5) (trodAll_cons_mk (Below.trod laidOut (by kernel_rfl) (of_decide_eq_true (by kernel_rfl)) h6 bel lt6) (trodAll_cons_mk (Below.trod laidOut (by kernel_rfl) (of_decide_eq_true (by kernel_rfl)) h7 bel lt7) (trodAll_cons_mk (Below.trod laidOut (by kernel_rfl) (of_decide_eq_true (by kernel_rfl)) h8 bel lt8) (trodAll_cons_mk (Below.trod laidOut (by kernel_rfl) (of_decide_eq_true (by kernel_rfl)) h9 bel lt9) (trodAll_cons_mk (Below.trod laidOut (by kernel_rfl) (of_decide_eq_true (by kernel_rfl)) h10 bel lt10) (trodAll_cons_mk (Below.trod laidOut (by kernel_rfl) (of_decide_eq_true (by kernel_rfl)) h11 bel lt11) trodAll_mk0)))))))))))), rfl, bel.frame _, fun h => by cases h⟩
theorem over (hp : FnTimesMadeOfAll.Pure) : Rows.fnTimesMadeOfAllRow.holds Try.pinned (OpenSpec.ofChange Rows.fnTimesMadeOfAllSpec) :=
  OpenClaim.holds_of_wide 5 Go.Proofs.Try.f5 rfl rfl rfl rfl rfl rfl rfl ⟨rfl, rfl, rfl, rfl, rfl⟩ rfl rfl rfl rfl rfl (by kernel_rfl) Go.Proofs.Try.func5 (by kernel_rfl)
    (of_decide_eq_true (by kernel_rfl)) (by unfold Func.isWrapper; first | (rw [if_pos (by decide +kernel)]; kernel_rfl) | (rw [if_neg (by decide +kernel)]; exact ⟨rfl, rfl⟩))
    (fun os started H enc _ => lifted hp os started H enc)
end Go.Proofs.Ytpeleommbipeaaa.fnTimesMadeOfAll

namespace Go.Proofs.Ytpeleommbipeaaa
theorem fnTimesMadeOfAll_holds : Rows.FnTimesMadeOfAllSaid := fnTimesMadeOfAll.over M.FnTimesMadeOfAll.pure
#print axioms fnTimesMadeOfAll_holds
end Go.Proofs.Ytpeleommbipeaaa
