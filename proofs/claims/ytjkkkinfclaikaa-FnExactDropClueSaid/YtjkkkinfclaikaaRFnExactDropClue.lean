/- The law FnExactDropClue holds for every input that its row speaks of. -/
import Derived.Test.YtjkkkinfclaikaaRows
import Derived.Test.YtjkkkinfclaikaaBFnExactDropClue4
import Derived.Test.YtjkkkinfclaikaaBFnExactDropClue6
import Derived.WalkKit
import Derived.ProofKit
import Derived.OpenShut
import Derived.ShutString
import Derived.ChangeOld
import Derived.Below
import Derived.SizedLaws
import Derived.Carry
-- written by wip/gen.py (this session's) with the kit's printer; Lean checks it.
namespace Go.Proofs.Ytjkkkinfclaikaa.fnExactDropClue
open Go.ChangeShapes Go.WideShapes Go.ChangeAt Go.RowKit Go.Proofs.Ytjkkkinfclaikaa.Opn Go.Proofs.Ytjkkkinfclaikaa.P Go.Proofs.YtjkkkinfclaikaaW.PrintWords
set_option linter.unusedVariables false
theorem own : ownKnob Try.prog.godebug = none := by kernel_rfl
theorem laidOut : laidOutB Try.prog = true := by kernel_rfl
set_option maxRecDepth 100000 in
theorem lifted (os : Os) (started : os.Started) (H : Type) (enc : TypeId × Value → H) :
    ReturnsInHanded {} Try.checked os 5 .any (Rows.fnExactDropClueSpec.pre6 enc Try.prog Try.f5 Rows.fnExactDropClueRow.domain false) (Rows.fnExactDropClueSpec.post enc Try.prog Try.f5 false true false false) := by
  refine returnsInHanded_of_change_sized (C := Try.checked) own started (by kernel_rfl) Try.func5
    (ChangeSpec.witness6 (enc := enc) (C := Try.checked) false ⟨#[], #[.agg #[.int .i64 0, .slice none 0 0], .int .i64 0], []⟩ 8 (by kernel_rfl) (by kernel_rfl) (by kernel_rfl) (by kernel_rfl)) ?_
  intro W base args ds gs before hval0 hW hcnd hsz0 _
  have hsz : (DataW.weightsEach Try.prog (Try.f5.params.toList ++ Rows.fnExactDropClueSpec.plain.varTypes Try.prog) (ds ++ gs)).all (· ≤ reachBytes) = true := hsz0
  have hval : ∀ (j : Nat) t v, Try.f5.params[j]? = some t → args[j]? = some v → Value.okWide Try.prog W .any base t v := hval0
  have hW' := hW
  obtain ⟨p, q, hA0, hV, rfl, hfz, hnd⟩ := hW
  have hA : DataW.TrodAll enc Try.prog W 0 (fun _ => true) true Try.f5.params.toList args.toList ds p := hA0
  rw [Try.params5] at hA hval hsz
  obtain ⟨v0, vs0, d0, ds0, p0, q0, hargs, rfl, rfl, h0, r0⟩ := trodAll_cons hA
  obtain ⟨v1, vs1, d1, ds1, p1, q1, rfl, rfl, rfl, h1, r1⟩ := trodAll_cons r0
  obtain ⟨rfl, rfl, rfl⟩ := trodAll_nil r1
  obtain rfl : args = #[v0, v1] := by cases args; simp_all
  obtain ⟨rfl, rfl⟩ := trodVars_none hV
  obtain ⟨y0, hk0, w0⟩ := opn_use (show Opn Try.prog 32 k32 (fun x : S32 => ((Lit.int .i64 x.f0).wf = true) ∧ (x.f1.length ≤ maxLen ∧ x.f1.length * 24 ≤ 140737488351232 ∧ ∀ y ∈ x.f1, ((Lit.int .i64 y.f0).wf = true) ∧ ((Lit.int .i64 y.f1).wf = true) ∧ ((Lit.int .i64 y.f2).wf = true))) from opn_iso (fun y => ⟨y.1, y.2⟩) (fun _ => rfl) (opn_struct Try.underlying32 (by kernel_rfl) (opnFs_cons rfl (opn_int Try.underlying3 (by kernel_rfl)) (opnFs_one rfl (opn_slice Try.underlying30 (by kernel_rfl) (show Opn Try.prog 34 k34 (fun x : S34 => ((Lit.int .i64 x.f0).wf = true) ∧ ((Lit.int .i64 x.f1).wf = true) ∧ ((Lit.int .i64 x.f2).wf = true)) from opn_iso (fun y => ⟨y.1, y.2.1, y.2.2⟩) (fun _ => rfl) (opn_struct Try.underlying34 (by kernel_rfl) (opnFs_cons rfl (opn_int Try.underlying3 (by kernel_rfl)) (opnFs_cons rfl (opn_int Try.underlying3 (by kernel_rfl)) (opnFs_one rfl (opn_int Try.underlying3 (by kernel_rfl)))))))))))) hsz (j := 0) (t := 32) rfl rfl h0
  have lt0 := trod_places h0
  generalize hcs0 : v0.cells.toList = L0 at hk0
  obtain ⟨cs0, rfl, _⟩ := okWide_struct Try.underlying32 (hval 0 32 v0 rfl rfl)
  obtain ⟨_, _, rfl, rfl, ⟨A0_1, c0_1, rfl, hl0_1, hC0_1⟩⟩ := hk0
  obtain rfl : cs0 = #[.int .i64 y0.f0, .slice A0_1 y0.f1.length c0_1] := Array.toList_inj.1 hcs0
  obtain ⟨y1, hk1, w1⟩ := opn_use (opn_int Try.underlying3 (by kernel_rfl)) hsz (j := 1) (t := 3) rfl rfl h1
  have lt1 := trod_places h1
  generalize hcs1 : v1.cells.toList = L1 at hk1
  obtain ⟨a1, rfl⟩ := okWide_int Try.underlying3 (hval 1 3 v1 rfl rfl)
  obtain rfl := hk1
  simp only [Value.cells, List.cons.injEq, Value.int.injEq, and_true, true_and] at hcs1
  obtain rfl := hcs1
  clear hA0 hval0 hsz0 hsz
  obtain ⟨k, hp⟩ := Pure.FnExactDropClue y0 a1 w0 w1
  refine (laws_FnExactDropClue.calls k y0.f0 A0_1 c0_1 y0.f1 a1 true W hC0_1 hl0_1 hp).mono fun e W' ⟨he, bel0⟩ => ?_
  have bel : Below W.heap.size W W' := bel0
  subst he
  exact ⟨_, rfl, _, _, _, [], _, [], hW', trodAll_mk1 (shut_bool Try.underlying4 _), (trodAll_cons_mk (Below.trod laidOut (by kernel_rfl) (of_decide_eq_true (by kernel_rfl)) h0 bel lt0) (trodAll_cons_mk (Below.trod laidOut (by kernel_rfl) (of_decide_eq_true (by kernel_rfl)) h1 bel lt1) trodAll_mk0)), rfl, bel.frame _, fun h => by cases h⟩
theorem over : Rows.fnExactDropClueRow.holds Try.pinned (OpenSpec.ofChange Rows.fnExactDropClueSpec) :=
  OpenClaim.holds_of_wide 5 Try.f5 rfl rfl rfl rfl rfl rfl rfl ⟨rfl, rfl, rfl, rfl, rfl⟩ rfl rfl rfl rfl rfl (by kernel_rfl) Try.func5 (by kernel_rfl)
    (of_decide_eq_true (by kernel_rfl)) (by unfold Func.isWrapper; first | (rw [if_pos (by decide +kernel)]; kernel_rfl) | (rw [if_neg (by decide +kernel)]; exact ⟨rfl, rfl⟩))
    (fun os started H enc _ => lifted os started H enc)
end Go.Proofs.Ytjkkkinfclaikaa.fnExactDropClue
namespace Go.Proofs.Ytjkkkinfclaikaa
theorem fnExactDropClue_holds : Rows.FnExactDropClueSaid := fnExactDropClue.over
#print axioms fnExactDropClue_holds
end Go.Proofs.Ytjkkkinfclaikaa
