-- written by wip/gen.py (this session's) with the kit's printer; Lean checks it.
import Derived.Test.YtjnmecjbhfinmaaDoorRows
import Derived.Test.YtjnmecjbhfinmaaDoorCards
import Derived.Test.YtjnmecjbhfinmaaDoorTie
import Derived.LaidMore
import Derived.Lay
import Derived.SevenTiedAt
import Derived.Stop.Joined
import Derived.Test.YtjnmecjbhfinmaaDoorFLawsFnExactPuzzleText
import Derived.Test.YtjnmecjbhfinmaaDoorPureFnExactPuzzleText
import Derived.Test.YtjnmecjbhfinmaaDoorOpn
import Derived.WalkKit
import Derived.ProofKit
import Derived.OpenShut
import Derived.ShutString
import Derived.ChangeOld
import Derived.Below
import Derived.SizedLaws
import Derived.Carry
namespace Go.Proofs.YtjnmecjbhfinmaaDoor.fnExactPuzzleText
open Go.ChangeShapes Go.WideShapes Go.ChangeAt Go.RowKit Go.Proofs.YtjnmecjbhfinmaaDoor.Opn Go.Proofs.YtjnmecjbhfinmaaDoor.P Go.Proofs.YtjnmecjbhfinmaaDoorW.PrintWords
set_option linter.unusedVariables false
set_option linter.unusedSimpArgs false
theorem own : ownKnob Tryd.prog.godebug = none := by kernel_rfl
theorem laidOut : laidOutB Tryd.prog = true := by kernel_rfl
set_option maxRecDepth 100000 in
theorem lifted (os : Os) (started : os.Started) (H : Type) (enc : TypeId × Value → H) :
    ReturnsInHanded {} Tryd.checked os 6 .any (fun w args => (Rows.fnExactPuzzleTextSpec.pre enc Tryd.prog Tryd.f6 Rows.fnExactPuzzleTextRow.domain false w args ∧ laidMetH Tryd.prog Rows.fnExactPuzzleTextRow.laid w) ∧ sizedMet enc Tryd.prog Tryd.f6 (OpenSpec.ofChange Rows.fnExactPuzzleTextSpec) false w args)
      (Rows.fnExactPuzzleTextSpec.post enc Tryd.prog Tryd.f6 false true false false) := by
  refine returnsInHanded_of_change_and (C := Tryd.checked) (X := fun w _ => laidMetH Tryd.prog Rows.fnExactPuzzleTextRow.laid w) (fun _ _ _ hh h => h.of_heap hh) own started (by kernel_rfl) Tryd.func6
    (ChangeSpec.witness_shaped (enc := enc) (C := Tryd.checked) (os := os) (X := fun w _ => laidMetH Tryd.prog Rows.fnExactPuzzleTextRow.laid w) false (World.laidAll Tryd.prog os Rows.fnExactPuzzleTextRow.laid) #[.agg #[.int .i64 0, .slice none 0 0]] 8 (World.laidAll_os _ _ _)
      (World.shaped_of_ZipB (by kernel_rfl) (by kernel_rfl)) (by kernel_rfl) (by kernel_rfl) (by kernel_rfl)
      (by rw [MakeChecks.laidMetH_plain _ _ _ (by kernel_rfl)]; exact laidMet_laidAll _ (by kernel_rfl) (by kernel_rfl))) ?_
  intro W base args ds gs before hval0 hW hcnd hsz0 hLaid _
  have hsz : (DataW.weightsEach Tryd.prog (Tryd.f6.params.toList ++ Rows.fnExactPuzzleTextSpec.plain.varTypes Tryd.prog) (ds ++ gs)).all (· ≤ reachBytes) = true := hsz0
  have hval : ∀ (j : Nat) t v, Tryd.f6.params[j]? = some t → args[j]? = some v → Value.okWide Tryd.prog W .any base t v := hval0
  have hW' := hW
  obtain ⟨p, q, hA0, hV, rfl, hfz, hnd⟩ := hW
  have hA : DataW.TrodAll enc Tryd.prog W 0 (fun _ => true) true Tryd.f6.params.toList args.toList ds p := hA0
  rw [Tryd.params6] at hA hval hsz
  obtain ⟨v0, vs0, d0, ds0, p0, q0, hargs, rfl, rfl, h0, r0⟩ := trodAll_cons hA
  obtain ⟨rfl, rfl, rfl⟩ := trodAll_nil r0
  obtain rfl : args = #[v0] := by cases args; simp_all
  obtain ⟨rfl, rfl⟩ := trodVars_none hV
  obtain ⟨y0, hk0, w0⟩ := opn_use (show Opn Tryd.prog 53 k53 (fun x : S53 => ((Lit.int .i64 x.f0).wf = true) ∧ (x.f1.length ≤ maxLen ∧ x.f1.length * 24 ≤ 140737488351232 ∧ ∀ y ∈ x.f1, ((Lit.int .i64 y.f0).wf = true) ∧ ((Lit.int .i64 y.f1).wf = true) ∧ ((Lit.int .i64 y.f2).wf = true))) from opn_iso (fun y => ⟨y.1, y.2⟩) (fun _ => rfl) (opn_struct Tryd.underlying53 (by kernel_rfl) (opnFs_cons rfl (opn_int Tryd.underlying3 (by kernel_rfl)) (opnFs_one rfl (opn_slice Tryd.underlying51 (by kernel_rfl) (show Opn Tryd.prog 108 k108 (fun x : S108 => ((Lit.int .i64 x.f0).wf = true) ∧ ((Lit.int .i64 x.f1).wf = true) ∧ ((Lit.int .i64 x.f2).wf = true)) from opn_iso (fun y => ⟨y.1, y.2.1, y.2.2⟩) (fun _ => rfl) (opn_struct Tryd.underlying108 (by kernel_rfl) (opnFs_cons rfl (opn_int Tryd.underlying3 (by kernel_rfl)) (opnFs_cons rfl (opn_int Tryd.underlying3 (by kernel_rfl)) (opnFs_one rfl (opn_int Tryd.underlying3 (by kernel_rfl)))))))))))) hsz (j := 0) (t := 53) rfl rfl h0
  have lt0 := trod_places h0
  generalize hcs0 : v0.cells.toList = L0 at hk0
  obtain ⟨cs0, rfl, _⟩ := okWide_struct Tryd.underlying53 (hval 0 53 v0 rfl rfl)
  obtain ⟨_, _, rfl, rfl, ⟨A0_1, c0_1, rfl, hl0_1, hC0_1⟩⟩ := hk0
  obtain rfl : cs0 = #[.int .i64 y0.f0, .slice A0_1 y0.f1.length c0_1] := Array.toList_inj.1 hcs0
  clear hA0 hval0 hsz0 hsz
  obtain ⟨k, hp⟩ := Pure.FnExactPuzzleText y0 w0
  refine (laws_FnExactPuzzleText.calls k y0.f0 A0_1 c0_1 y0.f1 true W hC0_1 hl0_1 hp).mono fun e W' ⟨he, bel0⟩ => ?_
  have bel : Below W.heap.size W W' := bel0
  subst he
  exact ⟨_, rfl, _, _, _, [], _, [], hW', trodAll_mk1 (shut_bool Tryd.underlying4 _), (trodAll_cons_mk (Below.trod laidOut (by kernel_rfl) (of_decide_eq_true (by kernel_rfl)) h0 bel lt0) trodAll_mk0), rfl, bel.frame _, fun h => by cases h⟩
theorem over : Rows.fnExactPuzzleTextRow.holds Tryd.pinned (OpenSpec.ofChange Rows.fnExactPuzzleTextSpec) :=
  OpenClaim.holds_of_wide 6 Tryd.f6 rfl rfl rfl rfl rfl rfl rfl ⟨rfl, rfl, rfl, rfl, rfl⟩ rfl rfl rfl rfl rfl (by kernel_rfl) Tryd.func6 (by kernel_rfl)
    (of_decide_eq_true (by kernel_rfl)) (by unfold Func.isWrapper; first | (rw [if_pos (by decide +kernel)]; kernel_rfl) | (rw [if_neg (by decide +kernel)]; exact ⟨rfl, rfl⟩))
    (fun os started H enc _ => lifted os started H enc)
end Go.Proofs.YtjnmecjbhfinmaaDoor.fnExactPuzzleText
namespace Go.Proofs.YtjnmecjbhfinmaaDoor
theorem fnExactPuzzleText_holds : Rows.FnExactPuzzleTextCardSaid :=
  Claim7.holds_tied_plain_at .later [] [.data, .data, .data] true (true, "48a6b73df62cfc25cb10f070b28b78e3bc355ba63f80dd6038d42ce3c75ffd9b") false fnExactPuzzleText.over (fun _ h => by cases h) (by kernel_rfl) (fun _ h => by cases h) fnExactPuzzleText_row_tie rfl ⟨rfl, rfl⟩ (by kernel_rfl) rfl
    (fun f fn hf hfn => by
      obtain rfl : f = 6 := Option.some.inj ((show Tryd.prog.funcNamed "loop.example/g01241/laws.FnExactPuzzleText" = some 6 by kernel_rfl).symm.trans hf) |>.symm
      obtain rfl : fn = Tryd.f6 := (Option.some.inj (Tryd.func6.symm.trans hfn)).symm
      exact ⟨by kernel_rfl, fun j t ht => by
        rw [Tryd.params6] at ht
        have hm : t ∈ [53] := by simpa using Array.mem_of_getElem? ht
        have hall : ([53].all fun u => !Tryd.prog.wantsStandIn u) = true := by kernel_rfl
        exact (show Tryd.prog.wantsStandIn t = false by simpa using List.all_eq_true.1 hall t hm)⟩)
    (by kernel_rfl)
#print axioms fnExactPuzzleText_holds
end Go.Proofs.YtjnmecjbhfinmaaDoor
