-- written by wip/gen.py (this session's) with the kit's printer; Lean checks it.
import Derived.Test.YtggeghckccmpnaaRows
import Derived.Test.YtggeghckccmpnaaFLawsFnExactIsDesk
import Derived.Test.YtggeghckccmpnaaPureFnExactIsDesk
import Derived.Test.YtggeghckccmpnaaOpn
import Derived.WalkKit
import Derived.ProofKit
import Derived.OpenShut
import Derived.ShutString
import Derived.ChangeOld
import Derived.Below
import Derived.SizedLaws
import Derived.Carry
namespace Go.Proofs.Ytggeghckccmpnaa.fnExactIsDesk
open Go.ChangeShapes Go.WideShapes Go.ChangeAt Go.RowKit Go.Proofs.Ytggeghckccmpnaa.Opn Go.Proofs.Ytggeghckccmpnaa.P Go.Proofs.YtggeghckccmpnaaW.PrintWords
set_option linter.unusedVariables false
theorem own : ownKnob Try.prog.godebug = none := by kernel_rfl
theorem laidOut : laidOutB Try.prog = true := by kernel_rfl
set_option maxRecDepth 100000 in
theorem lifted (os : Os) (started : os.Started) (H : Type) (enc : TypeId × Value → H) :
    ReturnsInHanded {} Try.checked os 5 .any (Rows.fnExactIsDeskSpec.pre6 enc Try.prog Try.f5 Rows.fnExactIsDeskRow.domain false) (Rows.fnExactIsDeskSpec.post enc Try.prog Try.f5 false true false false) := by
  refine returnsInHanded_of_change_sized (C := Try.checked) own started (by kernel_rfl) Try.func5
    (ChangeSpec.witness6 (enc := enc) (C := Try.checked) false ⟨#[], #[.agg #[.int .i64 0, .int .i64 0, .int .i64 0, .int .i64 0, .int .i64 0, .int .i64 0, .int .i64 0]], []⟩ 8 (by kernel_rfl) (by kernel_rfl) (by kernel_rfl) (by kernel_rfl)) ?_
  intro W base args ds gs before hval0 hW hcnd hsz0 _
  have hsz : (DataW.weightsEach Try.prog (Try.f5.params.toList ++ Rows.fnExactIsDeskSpec.plain.varTypes Try.prog) (ds ++ gs)).all (· ≤ reachBytes) = true := hsz0
  have hval : ∀ (j : Nat) t v, Try.f5.params[j]? = some t → args[j]? = some v → Value.okWide Try.prog W .any base t v := hval0
  have hW' := hW
  obtain ⟨p, q, hA0, hV, rfl, hfz, hnd⟩ := hW
  have hA : DataW.TrodAll enc Try.prog W 0 (fun _ => true) true Try.f5.params.toList args.toList ds p := hA0
  rw [Try.params5] at hA hval hsz
  obtain ⟨v0, vs0, d0, ds0, p0, q0, hargs, rfl, rfl, h0, r0⟩ := trodAll_cons hA
  obtain ⟨rfl, rfl, rfl⟩ := trodAll_nil r0
  obtain rfl : args = #[v0] := by cases args; simp_all
  obtain ⟨rfl, rfl⟩ := trodVars_none hV
  obtain ⟨y0, hk0, w0⟩ := opn_use (show Opn Try.prog 41 k41 (fun x : S41 => ((Lit.int .i64 x.f0).wf = true) ∧ (((Lit.int .i64 x.f1.f0).wf = true) ∧ ((Lit.int .i64 x.f1.f1).wf = true)) ∧ ((((Lit.int .i64 x.f2.f0.f0).wf = true) ∧ ((Lit.int .i64 x.f2.f0.f1).wf = true)) ∧ ((Lit.int .i64 x.f2.f1).wf = true) ∧ ((Lit.int .i64 x.f2.f2).wf = true))) from opn_iso (fun y => ⟨y.1, y.2.1, y.2.2⟩) (fun _ => rfl) (opn_struct Try.underlying41 (by kernel_rfl) (opnFs_cons rfl (opn_int Try.underlying3 (by kernel_rfl)) (opnFs_cons rfl (show Opn Try.prog 37 k37 (fun x : S37 => ((Lit.int .i64 x.f0).wf = true) ∧ ((Lit.int .i64 x.f1).wf = true)) from opn_iso (fun y => ⟨y.1, y.2⟩) (fun _ => rfl) (opn_struct Try.underlying37 (by kernel_rfl) (opnFs_cons rfl (opn_int Try.underlying3 (by kernel_rfl)) (opnFs_one rfl (opn_int Try.underlying3 (by kernel_rfl)))))) (opnFs_one rfl (show Opn Try.prog 39 k39 (fun x : S39 => (((Lit.int .i64 x.f0.f0).wf = true) ∧ ((Lit.int .i64 x.f0.f1).wf = true)) ∧ ((Lit.int .i64 x.f1).wf = true) ∧ ((Lit.int .i64 x.f2).wf = true)) from opn_iso (fun y => ⟨y.1, y.2.1, y.2.2⟩) (fun _ => rfl) (opn_struct Try.underlying39 (by kernel_rfl) (opnFs_cons rfl (show Opn Try.prog 37 k37 (fun x : S37 => ((Lit.int .i64 x.f0).wf = true) ∧ ((Lit.int .i64 x.f1).wf = true)) from opn_iso (fun y => ⟨y.1, y.2⟩) (fun _ => rfl) (opn_struct Try.underlying37 (by kernel_rfl) (opnFs_cons rfl (opn_int Try.underlying3 (by kernel_rfl)) (opnFs_one rfl (opn_int Try.underlying3 (by kernel_rfl)))))) (opnFs_cons rfl (opn_int Try.underlying3 (by kernel_rfl)) (opnFs_one rfl (opn_int Try.underlying3 (by kernel_rfl)))))))))))) hsz (j := 0) (t := 41) rfl rfl h0
  have lt0 := trod_places h0
  generalize hcs0 : v0.cells.toList = L0 at hk0
  obtain ⟨cs0, rfl, _⟩ := okWide_struct Try.underlying41 (hval 0 41 v0 rfl rfl)
  obtain ⟨_, _, rfl, rfl, ⟨_, _, rfl, ⟨_, _, rfl, rfl, rfl⟩, ⟨_, _, rfl, ⟨_, _, rfl, rfl, rfl⟩, ⟨_, _, rfl, rfl, rfl⟩⟩⟩⟩ := hk0
  obtain rfl : cs0 = #[.int .i64 y0.f0, .int .i64 y0.f1.f0, .int .i64 y0.f1.f1, .int .i64 y0.f2.f0.f0, .int .i64 y0.f2.f0.f1, .int .i64 y0.f2.f1, .int .i64 y0.f2.f2] := Array.toList_inj.1 hcs0
  clear hA0 hval0 hsz0 hsz
  obtain ⟨k, hp⟩ := Pure.FnExactIsDesk y0 w0
  refine (laws_FnExactIsDesk.calls k y0.f0 y0.f1.f0 y0.f1.f1 y0.f2.f0.f0 y0.f2.f0.f1 y0.f2.f1 y0.f2.f2 true W  hp).mono fun e W' ⟨he, bel0⟩ => ?_
  have bel : Below W.heap.size W W' := bel0
  subst he
  exact ⟨_, rfl, _, _, _, [], _, [], hW', trodAll_mk1 (shut_bool Try.underlying4 _), (trodAll_cons_mk (Below.trod laidOut (by kernel_rfl) (of_decide_eq_true (by kernel_rfl)) h0 bel lt0) trodAll_mk0), rfl, bel.frame _, fun h => by cases h⟩
theorem over : Rows.fnExactIsDeskRow.holds Try.pinned (OpenSpec.ofChange Rows.fnExactIsDeskSpec) :=
  OpenClaim.holds_of_wide 5 Try.f5 rfl rfl rfl rfl rfl rfl rfl ⟨rfl, rfl, rfl, rfl, rfl⟩ rfl rfl rfl rfl rfl (by kernel_rfl) Try.func5 (by kernel_rfl)
    (of_decide_eq_true (by kernel_rfl)) (by unfold Func.isWrapper; first | (rw [if_pos (by decide +kernel)]; kernel_rfl) | (rw [if_neg (by decide +kernel)]; exact ⟨rfl, rfl⟩))
    (fun os started H enc _ => lifted os started H enc)
end Go.Proofs.Ytggeghckccmpnaa.fnExactIsDesk
namespace Go.Proofs.Ytggeghckccmpnaa
theorem fnExactIsDesk_holds : Rows.FnExactIsDeskSaid := fnExactIsDesk.over
#print axioms fnExactIsDesk_holds
end Go.Proofs.Ytggeghckccmpnaa
