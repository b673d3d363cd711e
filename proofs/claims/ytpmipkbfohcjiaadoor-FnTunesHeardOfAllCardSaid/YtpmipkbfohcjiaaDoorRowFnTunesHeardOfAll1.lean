/- The law holds for every input that its row speaks of (part 1). No conditions but those stated. -/
import Derived.Test.YtpmipkbfohcjiaaDoorPlFnTunesHeardOfAll1
import Derived.Test.YtpmipkbfohcjiaaDoorRows
import Derived.Test.YtpmipkbfohcjiaaDoorCards
import Derived.Test.YtpmipkbfohcjiaaDoorTie
import Derived.LaidMore
import Derived.Lay
import Derived.SevenTiedAt
import Derived.Stop.Joined
import Derived.WalkKit
import Derived.ProofKit
import Derived.OpenShut
import Derived.ShutString
import Derived.ChangeOld
import Derived.Below
import Derived.SizedLaws
import Derived.Carry
namespace Go.Proofs.YtpmipkbfohcjiaaDoor.fnTunesHeardOfAll
open Go Go.PM Go.Proofs.YtpmipkbfohcjiaaDoor.P Go.ChangeShapes Go.WideShapes Go.ChangeAt Go.RowKit Go.Proofs Go.Proofs.YtpmipkbfohcjiaaDoor.M
set_option linter.unusedVariables false
set_option linter.unusedSimpArgs false
theorem own : ownKnob Go.Proofs.Tryd.prog.godebug = none := by kernel_rfl
theorem laidOut : laidOutB Go.Proofs.Tryd.prog = true := by kernel_rfl
set_option maxRecDepth 100000 in
theorem lifted (hp : FnTunesHeardOfAll.Pure) (os : Os) (started : os.Started) (H : Type) (enc : TypeId × Value → H) :
    ReturnsInHanded {} Go.Proofs.Tryd.checked os 3 .any (fun w args => (Rows.fnTunesHeardOfAllSpec.pre enc Go.Proofs.Tryd.prog Go.Proofs.Tryd.f3 Rows.fnTunesHeardOfAllRow.domain false w args ∧ laidMetH Go.Proofs.Tryd.prog Rows.fnTunesHeardOfAllRow.laid w) ∧ sizedMet enc Go.Proofs.Tryd.prog Go.Proofs.Tryd.f3 (OpenSpec.ofChange Rows.fnTunesHeardOfAllSpec) false w args)
      (Rows.fnTunesHeardOfAllSpec.post enc Go.Proofs.Tryd.prog Go.Proofs.Tryd.f3 false true false false) := by
  refine returnsInHanded_of_change_and (C := Go.Proofs.Tryd.checked) (X := fun w _ => laidMetH Go.Proofs.Tryd.prog Rows.fnTunesHeardOfAllRow.laid w) (fun _ _ _ hh h => h.of_heap hh) own started (by kernel_rfl) Go.Proofs.Tryd.func3
    (ChangeSpec.witness_shaped (enc := enc) (C := Go.Proofs.Tryd.checked) (os := os) (X := fun w _ => laidMetH Go.Proofs.Tryd.prog Rows.fnTunesHeardOfAllRow.laid w) false (World.laidAll Go.Proofs.Tryd.prog os Rows.fnTunesHeardOfAllRow.laid) #[.slice none 0 0, .slice none 0 0, .slice none 0 0, .slice none 0 0, .slice none 0 0, .int .i64 0, .string ⟨#[]⟩] 8 (World.laidAll_os _ _ _)
      (World.shaped_of_ZipB (by kernel_rfl) (by kernel_rfl)) (by kernel_rfl) (by kernel_rfl) (by kernel_rfl)
      (by rw [MakeChecks.laidMetH_plain _ _ _ (by kernel_rfl)]; exact laidMet_laidAll _ (by kernel_rfl) (by kernel_rfl))) ?_
  intro W base args ds gs before hval0 hW hcnd hsz0 hLaid _
  have hsz : (DataW.weightsEach Go.Proofs.Tryd.prog (Go.Proofs.Tryd.f3.params.toList ++ Rows.fnTunesHeardOfAllSpec.plain.varTypes Go.Proofs.Tryd.prog) (ds ++ gs)).all (· ≤ reachBytes) = true := hsz0
  have hval : ∀ (j : Nat) t v, Go.Proofs.Tryd.f3.params[j]? = some t → args[j]? = some v → Value.okWide Go.Proofs.Tryd.prog W .any base t v := hval0
  have hW' := hW
  obtain ⟨p, q, hA0, hV, rfl, hfz, hnd⟩ := hW
  have hA : DataW.TrodAll enc Go.Proofs.Tryd.prog W 0 (fun _ => true) true Go.Proofs.Tryd.f3.params.toList args.toList ds p := hA0
  rw [Go.Proofs.Tryd.params3] at hA hval hsz
  obtain ⟨v0, vs0, d0, ds0, p0, q0, hargs, rfl, rfl, h0, r0⟩ := trodAll_cons hA
  obtain ⟨v1, vs1, d1, ds1, p1, q1, rfl, rfl, rfl, h1, r1⟩ := trodAll_cons r0
  obtain ⟨v2, vs2, d2, ds2, p2, q2, rfl, rfl, rfl, h2, r2⟩ := trodAll_cons r1
  obtain ⟨v3, vs3, d3, ds3, p3, q3, rfl, rfl, rfl, h3, r3⟩ := trodAll_cons r2
  obtain ⟨v4, vs4, d4, ds4, p4, q4, rfl, rfl, rfl, h4, r4⟩ := trodAll_cons r3
  obtain ⟨v5, vs5, d5, ds5, p5, q5, rfl, rfl, rfl, h5, r5⟩ := trodAll_cons r4
  obtain ⟨v6, vs6, d6, ds6, p6, q6, rfl, rfl, rfl, h6, r6⟩ := trodAll_cons r5
  obtain ⟨rfl, rfl, rfl⟩ := trodAll_nil r6
  obtain rfl : args = #[v0, v1, v2, v3, v4, v5, v6] := by cases args; simp_all
  obtain ⟨rfl, rfl⟩ := trodVars_none hV
  obtain ⟨y0, hk0, w0⟩ := opnP_use (show OpnP Go.Proofs.Tryd.prog T0 22 1 (fun xs : List (D0 9) => [.sl false 9 xs]) (fun y => y.length ≤ maxLen ∧ y.length * 16 ≤ 140737488351232 ∧ ∀ x ∈ y, x.size ≤ 140737488351232) from opnP_slice tabOk0 Go.Proofs.Tryd.underlying22 (by kernel_rfl) (show 0 < 1 by omega) (show OpnP Go.Proofs.Tryd.prog T0 9 (T0.size 9) (T0.out 9) (fun x : D0 9 => x.size ≤ 140737488351232) from (opnP_string (T := T0) Go.Proofs.Tryd.underlying9 (by kernel_rfl)))) hsz (j := 0) (t := 22) rfl rfl h0
  have lt0 := trod_places' h0
  obtain ⟨a0, len0, cap0, rfl⟩ := okWide_slice Go.Proofs.Tryd.underlying22 (hval 0 22 v0 rfl rfl)
  have g0 : PRep T0 (allC W) id (.one (.sl false 9 y0)) _ := rep_one rfl hk0
  obtain ⟨y1, hk1, w1⟩ := opnP_use (show OpnP Go.Proofs.Tryd.prog T0 22 1 (fun xs : List (D0 9) => [.sl false 9 xs]) (fun y => y.length ≤ maxLen ∧ y.length * 16 ≤ 140737488351232 ∧ ∀ x ∈ y, x.size ≤ 140737488351232) from opnP_slice tabOk0 Go.Proofs.Tryd.underlying22 (by kernel_rfl) (show 0 < 1 by omega) (show OpnP Go.Proofs.Tryd.prog T0 9 (T0.size 9) (T0.out 9) (fun x : D0 9 => x.size ≤ 140737488351232) from (opnP_string (T := T0) Go.Proofs.Tryd.underlying9 (by kernel_rfl)))) hsz (j := 1) (t := 22) rfl rfl h1
  have lt1 := trod_places' h1
  obtain ⟨a1, len1, cap1, rfl⟩ := okWide_slice Go.Proofs.Tryd.underlying22 (hval 1 22 v1 rfl rfl)
  have g1 : PRep T0 (allC W) id (.one (.sl false 9 y1)) _ := rep_one rfl hk1
  obtain ⟨y2, hk2, w2⟩ := opnP_use (show OpnP Go.Proofs.Tryd.prog T0 22 1 (fun xs : List (D0 9) => [.sl false 9 xs]) (fun y => y.length ≤ maxLen ∧ y.length * 16 ≤ 140737488351232 ∧ ∀ x ∈ y, x.size ≤ 140737488351232) from opnP_slice tabOk0 Go.Proofs.Tryd.underlying22 (by kernel_rfl) (show 0 < 1 by omega) (show OpnP Go.Proofs.Tryd.prog T0 9 (T0.size 9) (T0.out 9) (fun x : D0 9 => x.size ≤ 140737488351232) from (opnP_string (T := T0) Go.Proofs.Tryd.underlying9 (by kernel_rfl)))) hsz (j := 2) (t := 22) rfl rfl h2
  have lt2 := trod_places' h2
  obtain ⟨a2, len2, cap2, rfl⟩ := okWide_slice Go.Proofs.Tryd.underlying22 (hval 2 22 v2 rfl rfl)
  have g2 : PRep T0 (allC W) id (.one (.sl false 9 y2)) _ := rep_one rfl hk2
  obtain ⟨y3, hk3, w3⟩ := opnP_use (show OpnP Go.Proofs.Tryd.prog T0 22 1 (fun xs : List (D0 9) => [.sl false 9 xs]) (fun y => y.length ≤ maxLen ∧ y.length * 16 ≤ 140737488351232 ∧ ∀ x ∈ y, x.size ≤ 140737488351232) from opnP_slice tabOk0 Go.Proofs.Tryd.underlying22 (by kernel_rfl) (show 0 < 1 by omega) (show OpnP Go.Proofs.Tryd.prog T0 9 (T0.size 9) (T0.out 9) (fun x : D0 9 => x.size ≤ 140737488351232) from (opnP_string (T := T0) Go.Proofs.Tryd.underlying9 (by kernel_rfl)))) hsz (j := 3) (t := 22) rfl rfl h3
  have lt3 := trod_places' h3
  obtain ⟨a3, len3, cap3, rfl⟩ := okWide_slice Go.Proofs.Tryd.underlying22 (hval 3 22 v3 rfl rfl)
  have g3 : PRep T0 (allC W) id (.one (.sl false 9 y3)) _ := rep_one rfl hk3
  obtain ⟨y4, hk4, w4⟩ := opnP_use (show OpnP Go.Proofs.Tryd.prog T0 22 1 (fun xs : List (D0 9) => [.sl false 9 xs]) (fun y => y.length ≤ maxLen ∧ y.length * 16 ≤ 140737488351232 ∧ ∀ x ∈ y, x.size ≤ 140737488351232) from opnP_slice tabOk0 Go.Proofs.Tryd.underlying22 (by kernel_rfl) (show 0 < 1 by omega) (show OpnP Go.Proofs.Tryd.prog T0 9 (T0.size 9) (T0.out 9) (fun x : D0 9 => x.size ≤ 140737488351232) from (opnP_string (T := T0) Go.Proofs.Tryd.underlying9 (by kernel_rfl)))) hsz (j := 4) (t := 22) rfl rfl h4
  have lt4 := trod_places' h4
  obtain ⟨a4, len4, cap4, rfl⟩ := okWide_slice Go.Proofs.Tryd.underlying22 (hval 4 22 v4 rfl rfl)
  have g4 : PRep T0 (allC W) id (.one (.sl false 9 y4)) _ := rep_one rfl hk4
  obtain ⟨y5, hk5, w5⟩ := opnP_use (opnP_int (T := T0) Go.Proofs.Tryd.underlying3 (by kernel_rfl)) hsz (j := 5) (t := 3) rfl rfl h5
  have lt5 := trod_places' h5
  obtain ⟨a5, rfl⟩ := okWide_int Go.Proofs.Tryd.underlying3 (hval 5 3 v5 rfl rfl)
  have g5 : PRep T0 (allC W) id (.one (.int .i64 y5)) _ := rep_one rfl hk5
  obtain ⟨y6, hk6, w6⟩ := opnP_use (opnP_string (T := T0) Go.Proofs.Tryd.underlying9 (by kernel_rfl)) hsz (j := 6) (t := 9) rfl rfl h6
  have lt6 := trod_places' h6
  obtain ⟨a6, rfl⟩ := okWide_string Go.Proofs.Tryd.underlying9 (hval 6 9 v6 rfl rfl)
  have g6 : PRep T0 (allC W) id (.one (.str y6)) _ := rep_one rfl hk6
  clear hA0 hval0 hsz0 hsz
  obtain ⟨k, hp⟩ := hp y0 y1 y2 y3 y4 y5 y6 w0 w1 w2 w3 w4 w5 w6
  have hG := laws_FnTunesHeardOfAll.good k y0 y1 y2 y3 y4 y5 y6 true hp
  refine (law_calls (P := Go.Proofs.Tryd.prog) (T := T0) (v := .bool true) hG _ (.cons g0 (.cons g1 (.cons g2 (.cons g3 (.cons g4 (.cons g5 (.cons g6 .nil))))))) rfl rfl (fun C b u h => inv_bool h)).mono fun e W' ⟨he, bel0⟩ => ?_
  have bel : Below W.heap.size W W' := bel0
  subst he
  exact ⟨_, rfl, _, _, _, [], _, [], hW', trodAll_mk1 (shut_bool Go.Proofs.Tryd.underlying4 _), (trodAll_cons_mk (Below.trod laidOut (by kernel_rfl) (of_decide_eq_true (by kernel_rfl)) h0 bel lt0) (trodAll_cons_mk (Below.trod laidOut (by kernel_rfl) (of_decide_eq_true (by kernel_rfl)) h1 bel lt1) (trodAll_cons_mk (Below.trod laidOut (by kernel_rfl) (of_decide_eq_true (by kernel_rfl)) h2 bel lt2) (trodAll_cons_mk (Below.trod laidOut (by kernel_rfl) (of_decide_eq_true (by kernel_rfl)) h3 bel lt3) (trodAll_cons_mk (Below.trod laidOut (by kernel_rfl) (of_decide_eq_true (by kernel_rfl)) h4 bel lt4) (trodAll_cons_mk (Below.trod laidOut (by kernel_rfl) (of_decide_eq_true (by kernel_rfl)) h5 bel lt5) (trodAll_cons_mk (Below.trod laidOut (by kernel_rfl) (of_decide_eq_true (by kernel_rfl)) h6 bel lt6) trodAll_mk0))))))), rfl, bel.frame _, fun h => by cases h⟩
theorem over (hp : FnTunesHeardOfAll.Pure) : Rows.fnTunesHeardOfAllRow.holds Tryd.pinned (OpenSpec.ofChange Rows.fnTunesHeardOfAllSpec) :=
  OpenClaim.holds_of_wide 3 Go.Proofs.Tryd.f3 rfl rfl rfl rfl rfl rfl rfl ⟨rfl, rfl, rfl, rfl, rfl⟩ rfl rfl rfl rfl rfl (by kernel_rfl) Go.Proofs.Tryd.func3 (by kernel_rfl)
    (of_decide_eq_true (by kernel_rfl)) (by unfold Func.isWrapper; first | (rw [if_pos (by decide +kernel)]; kernel_rfl) | (rw [if_neg (by decide +kernel)]; exact ⟨rfl, rfl⟩))
    (fun os started H enc _ => lifted hp os started H enc)
end Go.Proofs.YtpmipkbfohcjiaaDoor.fnTunesHeardOfAll
namespace Go.Proofs.YtpmipkbfohcjiaaDoor
open Go
theorem fnTunesHeardOfAll_card (hp : M.FnTunesHeardOfAll.Pure) : Rows.FnTunesHeardOfAllCardSaid :=
  Claim7.holds_tied_plain_at .later [] [.data, .pinned] true (true, "f37d38c2f39ffbeeeda0072094bc41b26c6c5d3ae5bd080a77e943dc247e5158") false (fnTunesHeardOfAll.over hp) (fun _ h => by cases h) (by kernel_rfl) (fun _ h => by cases h) fnTunesHeardOfAll_row_tie rfl ⟨rfl, rfl⟩ (by kernel_rfl) rfl
    (fun f fn hf hfn => by
      obtain rfl : f = 3 := Option.some.inj ((show Go.Proofs.Tryd.prog.funcNamed "loop.example/g01241/laws.FnTunesHeardOfAll" = some 3 by kernel_rfl).symm.trans hf) |>.symm
      obtain rfl : fn = Go.Proofs.Tryd.f3 := (Option.some.inj (Go.Proofs.Tryd.func3.symm.trans hfn)).symm
      exact ⟨by kernel_rfl, fun j t ht => by
        rw [Go.Proofs.Tryd.params3] at ht
        have hm : t ∈ [22, 22, 22, 22, 22, 3, 9] := by simpa using Array.mem_of_getElem? ht
        have hall : ([22, 22, 22, 22, 22, 3, 9].all fun u => !Go.Proofs.Tryd.prog.wantsStandIn u) = true := by kernel_rfl
        exact (show Go.Proofs.Tryd.prog.wantsStandIn t = false by simpa using List.all_eq_true.1 hall t hm)⟩)
    (by kernel_rfl)
end Go.Proofs.YtpmipkbfohcjiaaDoor

namespace Go.Proofs.YtpmipkbfohcjiaaDoor
theorem fnTunesHeardOfAll_holds : Rows.FnTunesHeardOfAllCardSaid := fnTunesHeardOfAll_card M.FnTunesHeardOfAll.pure
#print axioms fnTunesHeardOfAll_holds
end Go.Proofs.YtpmipkbfohcjiaaDoor
