/- The law holds for every input that its row speaks of (part 1). No conditions but those stated. -/
import Derived.Test.YtpmipkbfohcjiaaPlFnTunesPlayedOfAll1
import Derived.Test.YtpmipkbfohcjiaaRows
import Derived.WalkKit
import Derived.ProofKit
import Derived.OpenShut
import Derived.ShutString
import Derived.ChangeOld
import Derived.Below
import Derived.SizedLaws
import Derived.Carry
namespace Go.Proofs.Ytpmipkbfohcjiaa.fnTunesPlayedOfAll
open Go Go.PM Go.Proofs.Ytpmipkbfohcjiaa.P Go.ChangeShapes Go.WideShapes Go.ChangeAt Go.RowKit Go.Proofs Go.Proofs.Ytpmipkbfohcjiaa.M
set_option linter.unusedVariables false
set_option linter.unusedSimpArgs false
theorem own : ownKnob Go.Proofs.Try.prog.godebug = none := by kernel_rfl
theorem laidOut : laidOutB Go.Proofs.Try.prog = true := by kernel_rfl
set_option maxRecDepth 100000 in
theorem lifted (hp : FnTunesPlayedOfAll.Pure) (os : Os) (started : os.Started) (H : Type) (enc : TypeId × Value → H) :
    ReturnsInHanded {} Go.Proofs.Try.checked os 3 .any (Rows.fnTunesPlayedOfAllSpec.pre6 enc Go.Proofs.Try.prog Go.Proofs.Try.f3 Rows.fnTunesPlayedOfAllRow.domain false) (Rows.fnTunesPlayedOfAllSpec.post enc Go.Proofs.Try.prog Go.Proofs.Try.f3 false true false false) := by
  refine returnsInHanded_of_change_sized (C := Go.Proofs.Try.checked) own started (by kernel_rfl) Go.Proofs.Try.func3
    (ChangeSpec.witness6 (enc := enc) (C := Go.Proofs.Try.checked) false ⟨#[], #[.slice none 0 0, .int .i64 0, .slice none 0 0, .int .i64 0, .int .i64 0], []⟩ 8 (by kernel_rfl) (by kernel_rfl) (by kernel_rfl) (by kernel_rfl)) ?_
  intro W base args ds gs before hval0 hW hcnd hsz0 _
  have hsz : (DataW.weightsEach Go.Proofs.Try.prog (Go.Proofs.Try.f3.params.toList ++ Rows.fnTunesPlayedOfAllSpec.plain.varTypes Go.Proofs.Try.prog) (ds ++ gs)).all (· ≤ reachBytes) = true := hsz0
  have hval : ∀ (j : Nat) t v, Go.Proofs.Try.f3.params[j]? = some t → args[j]? = some v → Value.okWide Go.Proofs.Try.prog W .any base t v := hval0
  have hW' := hW
  obtain ⟨p, q, hA0, hV, rfl, hfz, hnd⟩ := hW
  have hA : DataW.TrodAll enc Go.Proofs.Try.prog W 0 (fun _ => true) true Go.Proofs.Try.f3.params.toList args.toList ds p := hA0
  rw [Go.Proofs.Try.params3] at hA hval hsz
  obtain ⟨v0, vs0, d0, ds0, p0, q0, hargs, rfl, rfl, h0, r0⟩ := trodAll_cons hA
  obtain ⟨v1, vs1, d1, ds1, p1, q1, rfl, rfl, rfl, h1, r1⟩ := trodAll_cons r0
  obtain ⟨v2, vs2, d2, ds2, p2, q2, rfl, rfl, rfl, h2, r2⟩ := trodAll_cons r1
  obtain ⟨v3, vs3, d3, ds3, p3, q3, rfl, rfl, rfl, h3, r3⟩ := trodAll_cons r2
  obtain ⟨v4, vs4, d4, ds4, p4, q4, rfl, rfl, rfl, h4, r4⟩ := trodAll_cons r3
  obtain ⟨rfl, rfl, rfl⟩ := trodAll_nil r4
  obtain rfl : args = #[v0, v1, v2, v3, v4] := by cases args; simp_all
  obtain ⟨rfl, rfl⟩ := trodVars_none hV
  obtain ⟨y0, hk0, w0⟩ := opnP_use (show OpnP Go.Proofs.Try.prog T0 22 1 (fun xs : List (D0 9) => [.sl false 9 xs]) (fun y => y.length ≤ maxLen ∧ y.length * 16 ≤ 140737488351232 ∧ ∀ x ∈ y, x.size ≤ 140737488351232) from opnP_slice tabOk0 Go.Proofs.Try.underlying22 (by kernel_rfl) (show 0 < 1 by omega) (show OpnP Go.Proofs.Try.prog T0 9 (T0.size 9) (T0.out 9) (fun x : D0 9 => x.size ≤ 140737488351232) from (opnP_string (T := T0) Go.Proofs.Try.underlying9 (by kernel_rfl)))) hsz (j := 0) (t := 22) rfl rfl h0
  have lt0 := trod_places' h0
  obtain ⟨a0, len0, cap0, rfl⟩ := okWide_slice Go.Proofs.Try.underlying22 (hval 0 22 v0 rfl rfl)
  have g0 : PRep T0 (allC W) id (.one (.sl false 9 y0)) _ := rep_one rfl hk0
  obtain ⟨y1, hk1, w1⟩ := opnP_use (opnP_int (T := T0) Go.Proofs.Try.underlying3 (by kernel_rfl)) hsz (j := 1) (t := 3) rfl rfl h1
  have lt1 := trod_places' h1
  obtain ⟨a1, rfl⟩ := okWide_int Go.Proofs.Try.underlying3 (hval 1 3 v1 rfl rfl)
  have g1 : PRep T0 (allC W) id (.one (.int .i64 y1)) _ := rep_one rfl hk1
  obtain ⟨y2, hk2, w2⟩ := opnP_use (show OpnP Go.Proofs.Try.prog T0 22 1 (fun xs : List (D0 9) => [.sl false 9 xs]) (fun y => y.length ≤ maxLen ∧ y.length * 16 ≤ 140737488351232 ∧ ∀ x ∈ y, x.size ≤ 140737488351232) from opnP_slice tabOk0 Go.Proofs.Try.underlying22 (by kernel_rfl) (show 0 < 1 by omega) (show OpnP Go.Proofs.Try.prog T0 9 (T0.size 9) (T0.out 9) (fun x : D0 9 => x.size ≤ 140737488351232) from (opnP_string (T := T0) Go.Proofs.Try.underlying9 (by kernel_rfl)))) hsz (j := 2) (t := 22) rfl rfl h2
  have lt2 := trod_places' h2
  obtain ⟨a2, len2, cap2, rfl⟩ := okWide_slice Go.Proofs.Try.underlying22 (hval 2 22 v2 rfl rfl)
  have g2 : PRep T0 (allC W) id (.one (.sl false 9 y2)) _ := rep_one rfl hk2
  obtain ⟨y3, hk3, w3⟩ := opnP_use (opnP_int (T := T0) Go.Proofs.Try.underlying3 (by kernel_rfl)) hsz (j := 3) (t := 3) rfl rfl h3
  have lt3 := trod_places' h3
  obtain ⟨a3, rfl⟩ := okWide_int Go.Proofs.Try.underlying3 (hval 3 3 v3 rfl rfl)
  have g3 : PRep T0 (allC W) id (.one (.int .i64 y3)) _ := rep_one rfl hk3
  obtain ⟨y4, hk4, w4⟩ := opnP_use (opnP_int (T := T0) Go.Proofs.Try.underlying3 (by kernel_rfl)) hsz (j := 4) (t := 3) rfl rfl h4
  have lt4 := trod_places' h4
  obtain ⟨a4, rfl⟩ := okWide_int Go.Proofs.Try.underlying3 (hval 4 3 v4 rfl rfl)
  have g4 : PRep T0 (allC W) id (.one (.int .i64 y4)) _ := rep_one rfl hk4
  clear hA0 hval0 hsz0 hsz
  obtain ⟨k, hp⟩ := hp y0 y1 y2 y3 y4 w0 w1 w2 w3 w4
  have hG := laws_FnTunesPlayedOfAll.good k y0 y1 y2 y3 y4 true hp
  refine (law_calls (P := Go.Proofs.Try.prog) (T := T0) (v := .bool true) hG _ (.cons g0 (.cons g1 (.cons g2 (.cons g3 (.cons g4 .nil))))) rfl rfl (fun C b u h => inv_bool h)).mono fun e W' ⟨he, bel0⟩ => ?_
  have bel : Below W.heap.size W W' := bel0
  subst he
  exact ⟨_, rfl, _, _, _, [], _, [], hW', trodAll_mk1 (shut_bool Go.Proofs.Try.underlying4 _), (trodAll_cons_mk (Below.trod laidOut (by kernel_rfl) (of_decide_eq_true (by kernel_rfl)) h0 bel lt0) (trodAll_cons_mk (Below.trod laidOut (by kernel_rfl) (of_decide_eq_true (by kernel_rfl)) h1 bel lt1) (trodAll_cons_mk (Below.trod laidOut (by kernel_rfl) (of_decide_eq_true (by kernel_rfl)) h2 bel lt2) (trodAll_cons_mk (Below.trod laidOut (by kernel_rfl) (of_decide_eq_true (by kernel_rfl)) h3 bel lt3) (trodAll_cons_mk (Below.trod laidOut (by kernel_rfl) (of_decide_eq_true (by kernel_rfl)) h4 bel lt4) trodAll_mk0))))), rfl, bel.frame _, fun h => by cases h⟩
theorem over (hp : FnTunesPlayedOfAll.Pure) : Rows.fnTunesPlayedOfAllRow.holds Try.pinned (OpenSpec.ofChange Rows.fnTunesPlayedOfAllSpec) :=
  OpenClaim.holds_of_wide 3 Go.Proofs.Try.f3 rfl rfl rfl rfl rfl rfl rfl ⟨rfl, rfl, rfl, rfl, rfl⟩ rfl rfl rfl rfl rfl (by kernel_rfl) Go.Proofs.Try.func3 (by kernel_rfl)
    (of_decide_eq_true (by kernel_rfl)) (by unfold Func.isWrapper; first | (rw [if_pos (by decide +kernel)]; kernel_rfl) | (rw [if_neg (by decide +kernel)]; exact ⟨rfl, rfl⟩))
    (fun os started H enc _ => lifted hp os started H enc)
end Go.Proofs.Ytpmipkbfohcjiaa.fnTunesPlayedOfAll

namespace Go.Proofs.Ytpmipkbfohcjiaa
theorem fnTunesPlayedOfAll_holds : Rows.FnTunesPlayedOfAllSaid := fnTunesPlayedOfAll.over M.FnTunesPlayedOfAll.pure
#print axioms fnTunesPlayedOfAll_holds
end Go.Proofs.Ytpmipkbfohcjiaa
