/- The law holds for every input that its row speaks of (part 1). No conditions but those stated. -/
import Derived.Test.YtehbhinaopdkeaaGreatPlFnDialsTurned1
import Derived.Test.YtehbhinaopdkeaaGreatRows
import Derived.WalkKit
import Derived.ProofKit
import Derived.OpenShut
import Derived.ShutString
import Derived.ChangeOld
import Derived.Below
import Derived.SizedLaws
import Derived.Carry
namespace Go.Proofs.YtehbhinaopdkeaaGreat.fnDialsTurned
open Go Go.PM Go.Proofs.YtehbhinaopdkeaaGreat.P Go.ChangeShapes Go.WideShapes Go.ChangeAt Go.RowKit Go.Proofs Go.Proofs.YtehbhinaopdkeaaGreat.M
set_option linter.unusedVariables false
set_option linter.unusedSimpArgs false
theorem own : ownKnob Go.Proofs.Tryz.prog.godebug = none := by kernel_rfl
theorem laidOut : laidOutB Go.Proofs.Tryz.prog = true := by kernel_rfl
set_option maxRecDepth 100000 in
theorem lifted (hp : FnDialsTurned.Pure) (os : Os) (started : os.Started) (H : Type) (enc : TypeId × Value → H) :
    ReturnsInHanded {} Go.Proofs.Tryz.checked os 3 .any (Rows.fnDialsTurnedSpec.pre6 enc Go.Proofs.Tryz.prog Go.Proofs.Tryz.f3 Rows.fnDialsTurnedRow.domain false) (Rows.fnDialsTurnedSpec.post enc Go.Proofs.Tryz.prog Go.Proofs.Tryz.f3 false true false false) := by
  refine returnsInHanded_of_change_sized (C := Go.Proofs.Tryz.checked) own started (by kernel_rfl) Go.Proofs.Tryz.func3
    (ChangeSpec.witness6 (enc := enc) (C := Go.Proofs.Tryz.checked) false ⟨#[], #[.slice none 0 0, .slice none 0 0], []⟩ 8 (by kernel_rfl) (by kernel_rfl) (by kernel_rfl) (by kernel_rfl)) ?_
  intro W base args ds gs before hval0 hW hcnd hsz0 _
  have hsz : (DataW.weightsEach Go.Proofs.Tryz.prog (Go.Proofs.Tryz.f3.params.toList ++ Rows.fnDialsTurnedSpec.plain.varTypes Go.Proofs.Tryz.prog) (ds ++ gs)).all (· ≤ reachBytes) = true := hsz0
  have hval : ∀ (j : Nat) t v, Go.Proofs.Tryz.f3.params[j]? = some t → args[j]? = some v → Value.okWide Go.Proofs.Tryz.prog W .any base t v := hval0
  have hW' := hW
  obtain ⟨p, q, hA0, hV, rfl, hfz, hnd⟩ := hW
  have hA : DataW.TrodAll enc Go.Proofs.Tryz.prog W 0 (fun _ => true) true Go.Proofs.Tryz.f3.params.toList args.toList ds p := hA0
  rw [Go.Proofs.Tryz.params3] at hA hval hsz
  obtain ⟨v0, vs0, d0, ds0, p0, q0, hargs, rfl, rfl, h0, r0⟩ := trodAll_cons hA
  obtain ⟨v1, vs1, d1, ds1, p1, q1, rfl, rfl, rfl, h1, r1⟩ := trodAll_cons r0
  obtain ⟨rfl, rfl, rfl⟩ := trodAll_nil r1
  obtain rfl : args = #[v0, v1] := by cases args; simp_all
  obtain ⟨rfl, rfl⟩ := trodVars_none hV
  obtain ⟨y0, hk0, w0⟩ := opnP_use (show OpnP Go.Proofs.Tryz.prog T0 22 1 (fun xs : List (D0 5) => [.sl false 5 xs]) (fun y => y.length ≤ maxLen ∧ y.length * 1 ≤ 140737488351232 ∧ ∀ x ∈ y, (Lit.int .u8 x).wf = true) from opnP_slice tabOk0 Go.Proofs.Tryz.underlying22 (by kernel_rfl) (show 0 < 1 by omega) (show OpnP Go.Proofs.Tryz.prog T0 5 (T0.size 5) (T0.out 5) (fun x : D0 5 => (Lit.int .u8 x).wf = true) from (opnP_int (T := T0) Go.Proofs.Tryz.underlying5 (by kernel_rfl)))) hsz (j := 0) (t := 22) rfl rfl h0
  have lt0 := trod_places' h0
  obtain ⟨a0, len0, cap0, rfl⟩ := okWide_slice Go.Proofs.Tryz.underlying22 (hval 0 22 v0 rfl rfl)
  have g0 : PRep T0 (allC W) id (.one (.sl false 5 y0)) _ := rep_one rfl hk0
  obtain ⟨y1, hk1, w1⟩ := opnP_use (show OpnP Go.Proofs.Tryz.prog T0 22 1 (fun xs : List (D0 5) => [.sl false 5 xs]) (fun y => y.length ≤ maxLen ∧ y.length * 1 ≤ 140737488351232 ∧ ∀ x ∈ y, (Lit.int .u8 x).wf = true) from opnP_slice tabOk0 Go.Proofs.Tryz.underlying22 (by kernel_rfl) (show 0 < 1 by omega) (show OpnP Go.Proofs.Tryz.prog T0 5 (T0.size 5) (T0.out 5) (fun x : D0 5 => (Lit.int .u8 x).wf = true) from (opnP_int (T := T0) Go.Proofs.Tryz.underlying5 (by kernel_rfl)))) hsz (j := 1) (t := 22) rfl rfl h1
  have lt1 := trod_places' h1
  obtain ⟨a1, len1, cap1, rfl⟩ := okWide_slice Go.Proofs.Tryz.underlying22 (hval 1 22 v1 rfl rfl)
  have g1 : PRep T0 (allC W) id (.one (.sl false 5 y1)) _ := rep_one rfl hk1
  clear hA0 hval0 hsz0 hsz
  obtain ⟨k, hp⟩ := hp y0 y1 w0 w1
  have hG := laws_FnDialsTurned.good k y0 y1 true hp
  refine (law_calls (P := Go.Proofs.Tryz.prog) (T := T0) (v := .bool true) hG _ (.cons g0 (.cons g1 .nil)) rfl rfl (fun C b u h => inv_bool h)).mono fun e W' ⟨he, bel0⟩ => ?_
  have bel : Below W.heap.size W W' := bel0
  subst he
  exact ⟨_, rfl, _, _, _, [], _, [], hW', trodAll_mk1 (shut_bool Go.Proofs.Tryz.underlying4 _), (trodAll_cons_mk (Below.trod laidOut (by kernel_rfl) (of_decide_eq_true (by kernel_rfl)) h0 bel lt0) (trodAll_cons_mk (Below.trod laidOut (by kernel_rfl) (of_decide_eq_true (by kernel_rfl)) h1 bel lt1) trodAll_mk0)), rfl, bel.frame _, fun h => by cases h⟩
theorem over (hp : FnDialsTurned.Pure) : Rows.fnDialsTurnedRow.holds Tryz.pinned (OpenSpec.ofChange Rows.fnDialsTurnedSpec) :=
  OpenClaim.holds_of_wide 3 Go.Proofs.Tryz.f3 rfl rfl rfl rfl rfl rfl rfl ⟨rfl, rfl, rfl, rfl, rfl⟩ rfl rfl rfl rfl rfl (by kernel_rfl) Go.Proofs.Tryz.func3 (by kernel_rfl)
    (of_decide_eq_true (by kernel_rfl)) (by unfold Func.isWrapper; first | (rw [if_pos (by decide +kernel)]; kernel_rfl) | (rw [if_neg (by decide +kernel)]; exact ⟨rfl, rfl⟩))
    (fun os started H enc _ => lifted hp os started H enc)
end Go.Proofs.YtehbhinaopdkeaaGreat.fnDialsTurned

namespace Go.Proofs.YtehbhinaopdkeaaGreat
theorem fnDialsTurned_holds : Rows.FnDialsTurnedSaid := fnDialsTurned.over M.FnDialsTurned.pure
#print axioms fnDialsTurned_holds
end Go.Proofs.YtehbhinaopdkeaaGreat
