/- The law holds for every input that its row speaks of (part 1). No conditions but those stated. -/
import Derived.Test.YtpmipkbfohcjiaaDoorPlFnTunesHeard1
import Derived.Test.YtpmipkbfohcjiaaDoorRows
import Derived.Test.YtpmipkbfohcjiaaDoorCards
import Derived.Test.YtpmipkbfohcjiaaDoorTie
import Derived.LaidMore
import Derived.Lay
import Derived.SevenTiedAt
import Derived.Stop.Joined
import Derived.WalkKit
import Derived.ProofKit
import Derived.OpenShut
import Derived.ShutString
import Derived.ChangeOld
import Derived.Below
import Derived.SizedLaws
import Derived.Carry
namespace Go.Proofs.YtpmipkbfohcjiaaDoor.fnTunesHeard
open Go Go.PM Go.Proofs.YtpmipkbfohcjiaaDoor.P Go.ChangeShapes Go.WideShapes Go.ChangeAt Go.RowKit Go.Proofs Go.Proofs.YtpmipkbfohcjiaaDoor.M
set_option linter.unusedVariables false
set_option linter.unusedSimpArgs false
theorem own : ownKnob Go.Proofs.Tryd.prog.godebug = none := by kernel_rfl
theorem laidOut : laidOutB Go.Proofs.Tryd.prog = true := by kernel_rfl
set_option maxRecDepth 100000 in
theorem lifted (hp : FnTunesHeard.Pure) (os : Os) (started : os.Started) (H : Type) (enc : TypeId × Value → H) :
    ReturnsInHanded {} Go.Proofs.Tryd.checked os 4 .any (fun w args => (Rows.fnTunesHeardSpec.pre enc Go.Proofs.Tryd.prog Go.Proofs.Tryd.f4 Rows.fnTunesHeardRow.domain false w args ∧ laidMetH Go.Proofs.Tryd.prog Rows.fnTunesHeardRow.laid w) ∧ sizedMet enc Go.Proofs.Tryd.prog Go.Proofs.Tryd.f4 (OpenSpec.ofChange Rows.fnTunesHeardSpec) false w args)
      (Rows.fnTunesHeardSpec.post enc Go.Proofs.Tryd.prog Go.Proofs.Tryd.f4 false true false false) := by
  refine returnsInHanded_of_change_and (C := Go.Proofs.Tryd.checked) (X := fun w _ => laidMetH Go.Proofs.Tryd.prog Rows.fnTunesHeardRow.laid w) (fun _ _ _ hh h => h.of_heap hh) own started (by kernel_rfl) Go.Proofs.Tryd.func4
    (ChangeSpec.witness_shaped (enc := enc) (C := Go.Proofs.Tryd.checked) (os := os) (X := fun w _ => laidMetH Go.Proofs.Tryd.prog Rows.fnTunesHeardRow.laid w) false (World.laidAll Go.Proofs.Tryd.prog os Rows.fnTunesHeardRow.laid) #[.slice none 0 0, .slice none 0 0] 8 (World.laidAll_os _ _ _)
      (World.shaped_of_ZipB (by kernel_rfl) (by kernel_rfl)) (by kernel_rfl) (by kernel_rfl) (by kernel_rfl)
      (by rw [MakeChecks.laidMetH_plain _ _ _ (by kernel_rfl)]; exact laidMet_laidAll _ (by kernel_rfl) (by kernel_rfl))) ?_
  intro W base args ds gs before hval0 hW hcnd hsz0 hLaid _
  have hsz : (DataW.weightsEach Go.Proofs.Tryd.prog (Go.Proofs.Tryd.f4.params.toList ++ Rows.fnTunesHeardSpec.plain.varTypes Go.Proofs.Tryd.prog) (ds ++ gs)).all (· ≤ reachBytes) = true := hsz0
  have hval : ∀ (j : Nat) t v, Go.Proofs.Tryd.f4.params[j]? = some t → args[j]? = some v → Value.okWide Go.Proofs.Tryd.prog W .any base t v := hval0
  have hW' := hW
  obtain ⟨p, q, hA0, hV, rfl, hfz, hnd⟩ := hW
  have hA : DataW.TrodAll enc Go.Proofs.Tryd.prog W 0 (fun _ => true) true Go.Proofs.Tryd.f4.params.toList args.toList ds p := hA0
  rw [Go.Proofs.Tryd.params4] at hA hval hsz
  obtain ⟨v0, vs0, d0, ds0, p0, q0, hargs, rfl, rfl, h0, r0⟩ := trodAll_cons hA
  obtain ⟨v1, vs1, d1, ds1, p1, q1, rfl, rfl, rfl, h1, r1⟩ := trodAll_cons r0
  obtain ⟨rfl, rfl, rfl⟩ := trodAll_nil r1
  obtain rfl : args = #[v0, v1] := by cases args; simp_all
  obtain ⟨rfl, rfl⟩ := trodVars_none hV
  obtain ⟨y0, hk0, w0⟩ := opnP_use (show OpnP Go.Proofs.Tryd.prog T0 42 1 (fun xs : List (D0 5) => [.sl false 5 xs]) (fun y => y.length ≤ maxLen ∧ y.length * 1 ≤ 140737488351232 ∧ ∀ x ∈ y, (Lit.int .u8 x).wf = true) from opnP_slice tabOk0 Go.Proofs.Tryd.underlying42 (by kernel_rfl) (show 0 < 1 by omega) (show OpnP Go.Proofs.Tryd.prog T0 5 (T0.size 5) (T0.out 5) (fun x : D0 5 => (Lit.int .u8 x).wf = true) from (opnP_int (T := T0) Go.Proofs.Tryd.underlying5 (by kernel_rfl)))) hsz (j := 0) (t := 42) rfl rfl h0
  have lt0 := trod_places' h0
  obtain ⟨a0, len0, cap0, rfl⟩ := okWide_slice Go.Proofs.Tryd.underlying42 (hval 0 42 v0 rfl rfl)
  have g0 : PRep T0 (allC W) id (.one (.sl false 5 y0)) _ := rep_one rfl hk0
  obtain ⟨y1, hk1, w1⟩ := opnP_use (show OpnP Go.Proofs.Tryd.prog T0 42 1 (fun xs : List (D0 5) => [.sl false 5 xs]) (fun y => y.length ≤ maxLen ∧ y.length * 1 ≤ 140737488351232 ∧ ∀ x ∈ y, (Lit.int .u8 x).wf = true) from opnP_slice tabOk0 Go.Proofs.Tryd.underlying42 (by kernel_rfl) (show 0 < 1 by omega) (show OpnP Go.Proofs.Tryd.prog T0 5 (T0.size 5) (T0.out 5) (fun x : D0 5 => (Lit.int .u8 x).wf = true) from (opnP_int (T := T0) Go.Proofs.Tryd.underlying5 (by kernel_rfl)))) hsz (j := 1) (t := 42) rfl rfl h1
  have lt1 := trod_places' h1
  obtain ⟨a1, len1, cap1, rfl⟩ := okWide_slice Go.Proofs.Tryd.underlying42 (hval 1 42 v1 rfl rfl)
  have g1 : PRep T0 (allC W) id (.one (.sl false 5 y1)) _ := rep_one rfl hk1
  clear hA0 hval0 hsz0 hsz
  obtain ⟨k, hp⟩ := hp y0 y1 w0 w1
  have hG := laws_FnTunesHeard.good k y0 y1 true hp
  refine (law_calls (P := Go.Proofs.Tryd.prog) (T := T0) (v := .bool true) hG _ (.cons g0 (.cons g1 .nil)) rfl rfl (fun C b u h => inv_bool h)).mono fun e W' ⟨he, bel0⟩ => ?_
  have bel : Below W.heap.size W W' := bel0
  subst he
  exact ⟨_, rfl, _, _, _, [], _, [], hW', trodAll_mk1 (shut_bool Go.Proofs.Tryd.underlying4 _), (trodAll_cons_mk (Below.trod laidOut (by kernel_rfl) (of_decide_eq_true (by kernel_rfl)) h0 bel lt0) (trodAll_cons_mk (Below.trod laidOut (by kernel_rfl) (of_decide_eq_true (by kernel_rfl)) h1 bel lt1) trodAll_mk0)), rfl, bel.frame _, fun h => by cases h⟩
theorem over (hp : FnTunesHeard.Pure) : Rows.fnTunesHeardRow.holds Tryd.pinned (OpenSpec.ofChange Rows.fnTunesHeardSpec) :=
  OpenClaim.holds_of_wide 4 Go.Proofs.Tryd.f4 rfl rfl rfl rfl rfl rfl rfl ⟨rfl, rfl, rfl, rfl, rfl⟩ rfl rfl rfl rfl rfl (by kernel_rfl) Go.Proofs.Tryd.func4 (by kernel_rfl)
    (of_decide_eq_true (by kernel_rfl)) (by unfold Func.isWrapper; first | (rw [if_pos (by decide +kernel)]; kernel_rfl) | (rw [if_neg (by decide +kernel)]; exact ⟨rfl, rfl⟩))
    (fun os started H enc _ => lifted hp os started H enc)
end Go.Proofs.YtpmipkbfohcjiaaDoor.fnTunesHeard
namespace Go.Proofs.YtpmipkbfohcjiaaDoor
open Go
theorem fnTunesHeard_card (hp : M.FnTunesHeard.Pure) : Rows.FnTunesHeardCardSaid :=
  Claim7.holds_tied_plain_at .later [] [.data, .pinned] true (true, "f37d38c2f39ffbeeeda0072094bc41b26c6c5d3ae5bd080a77e943dc247e5158") false (fnTunesHeard.over hp) (fun _ h => by cases h) (by kernel_rfl) (fun _ h => by cases h) fnTunesHeard_row_tie rfl ⟨rfl, rfl⟩ (by kernel_rfl) rfl
    (fun f fn hf hfn => by
      obtain rfl : f = 4 := Option.some.inj ((show Go.Proofs.Tryd.prog.funcNamed "loop.example/g01241/laws.FnTunesHeard" = some 4 by kernel_rfl).symm.trans hf) |>.symm
      obtain rfl : fn = Go.Proofs.Tryd.f4 := (Option.some.inj (Go.Proofs.Tryd.func4.symm.trans hfn)).symm
      exact ⟨by kernel_rfl, fun j t ht => by
        rw [Go.Proofs.Tryd.params4] at ht
        have hm : t ∈ [42, 42] := by simpa using Array.mem_of_getElem? ht
        have hall : ([42, 42].all fun u => !Go.Proofs.Tryd.prog.wantsStandIn u) = true := by kernel_rfl
        exact (show Go.Proofs.Tryd.prog.wantsStandIn t = false by simpa using List.all_eq_true.1 hall t hm)⟩)
    (by kernel_rfl)
end Go.Proofs.YtpmipkbfohcjiaaDoor

namespace Go.Proofs.YtpmipkbfohcjiaaDoor
theorem fnTunesHeard_holds : Rows.FnTunesHeardCardSaid := fnTunesHeard_card M.FnTunesHeard.pure
#print axioms fnTunesHeard_holds
end Go.Proofs.YtpmipkbfohcjiaaDoor
