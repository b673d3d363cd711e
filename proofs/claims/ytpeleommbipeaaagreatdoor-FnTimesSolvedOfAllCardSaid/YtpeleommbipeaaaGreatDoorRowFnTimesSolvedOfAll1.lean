/- The law holds for every input that its row speaks of (part 1). No conditions but those stated. -/
import Derived.Test.YtpeleommbipeaaaGreatDoorPlFnTimesSolvedOfAll1
import Derived.Test.YtpeleommbipeaaaGreatDoorRows
import Derived.Test.YtpeleommbipeaaaGreatDoorCards
import Derived.Test.YtpeleommbipeaaaGreatDoorTie
import Derived.LaidMore
import Derived.Lay
import Derived.SevenTiedAt
import Derived.Stop.Joined
import Derived.Stop.LaidErr
import Derived.Lib.LaidTab
import Derived.MakeChecks
import Derived.LaidLaws
import Derived.WalkKit
import Derived.ProofKit
import Derived.OpenShut
import Derived.ShutString
import Derived.ChangeOld
import Derived.Below
import Derived.SizedLaws
import Derived.Carry
namespace Go.Proofs.YtpeleommbipeaaaGreatDoor.fnTimesSolvedOfAll
open Go Go.PM Go.Proofs.YtpeleommbipeaaaGreatDoor.P Go.ChangeShapes Go.WideShapes Go.ChangeAt Go.RowKit Go.Proofs Go.Proofs.YtpeleommbipeaaaGreatDoor.M
set_option linter.unusedVariables false
set_option linter.unusedSimpArgs false
theorem own : ownKnob Go.Proofs.Tryz.prog.godebug = none := by kernel_rfl
theorem laidOut : laidOutB Go.Proofs.Tryz.prog = true := by kernel_rfl
theorem gl_star : "*" ++ "errors.errorString" = "*errors.errorString" := by decide
theorem gl_row (u : TypeId) (h : Go.Proofs.Tryz.prog.typeName? 3 u = some "*errors.errorString") : u = 151 :=
  typeName_ptr_named (nm := "errors.errorString") (by rw [gl_star]; kernel_rfl) (by kernel_rfl) (by decide) u (by rw [gl_star]; exact h)
theorem gl_tab : (Rows.laid_internal_strconv_uint64pow10 : DataW Unit) = Lib.tabData .u64 Lib.pow10Tab := by kernel_rfl
theorem gl_of_laid {W : World} {r1 r2 r3 : List (String × DataW Unit)} (h1 : laidMet Go.Proofs.Tryz.prog (("strconv.ErrSyntax", Rows.laid_strconv_ErrSyntax) :: r1) W) (h2 : laidMet Go.Proofs.Tryz.prog (("strconv.ErrRange", Rows.laid_strconv_ErrRange) :: r2) W)
    (h3 : laidMet Go.Proofs.Tryz.prog (("internal/strconv.uint64pow10", Rows.laid_internal_strconv_uint64pow10) :: r3) W) : GlW W := by
  obtain ⟨a, s, hv, _⟩ := laid_sentinel h1 (g := 1) (by kernel_rfl) (ti := 97) (by kernel_rfl) Go.Proofs.Tryz.underlying97 (tp := 151) gl_row Go.Proofs.Tryz.underlying151 Go.Proofs.Tryz.underlying153 rfl rfl Go.Proofs.Tryz.underlying9 (by kernel_rfl) (by kernel_rfl)
  obtain ⟨a2, s2, hv2, _⟩ := laid_sentinel h2 (g := 2) (by kernel_rfl) (ti := 97) (by kernel_rfl) Go.Proofs.Tryz.underlying97 (tp := 151) gl_row Go.Proofs.Tryz.underlying151 Go.Proofs.Tryz.underlying153 rfl rfl Go.Proofs.Tryz.underlying9 (by kernel_rfl) (by kernel_rfl)
  rw [gl_tab] at h3
  exact GlW.of hv hv2 (Lib.tabIs_of_head (g := 3) (by kernel_rfl) (t := 146) (by kernel_rfl) Go.Proofs.Tryz.underlying146 Go.Proofs.Tryz.underlying78 (by kernel_rfl) (by kernel_rfl) h3)

set_option maxRecDepth 100000 in
theorem lifted (hp : FnTimesSolvedOfAll.Pure) (os : Os) (started : os.Started) (H : Type) (enc : TypeId × Value → H) :
    ReturnsInHanded {} Go.Proofs.Tryz.checked os 3 .any (fun w args => (Rows.fnTimesSolvedOfAllSpec.pre enc Go.Proofs.Tryz.prog Go.Proofs.Tryz.f3 Rows.fnTimesSolvedOfAllRow.domain false w args ∧ laidMetH Go.Proofs.Tryz.prog Rows.fnTimesSolvedOfAllRow.laid w) ∧ sizedMet enc Go.Proofs.Tryz.prog Go.Proofs.Tryz.f3 (OpenSpec.ofChange Rows.fnTimesSolvedOfAllSpec) false w args)
      (Rows.fnTimesSolvedOfAllSpec.post enc Go.Proofs.Tryz.prog Go.Proofs.Tryz.f3 false true false false) := by
  refine returnsInHanded_of_change_and (C := Go.Proofs.Tryz.checked) (X := fun w _ => laidMetH Go.Proofs.Tryz.prog Rows.fnTimesSolvedOfAllRow.laid w) (fun _ _ _ hh h => h.of_heap hh) own started (by kernel_rfl) Go.Proofs.Tryz.func3
    (ChangeSpec.witness_shaped (enc := enc) (C := Go.Proofs.Tryz.checked) (os := os) (X := fun w _ => laidMetH Go.Proofs.Tryz.prog Rows.fnTimesSolvedOfAllRow.laid w) false (World.laidAll Go.Proofs.Tryz.prog os Rows.fnTimesSolvedOfAllRow.laid) #[.agg #[.int .i64 0, .slice none 0 0], .string ⟨#[]⟩] 8 (World.laidAll_os _ _ _)
      (World.shaped_of_ZipB (by kernel_rfl) (by kernel_rfl)) (by kernel_rfl) (by kernel_rfl) (by kernel_rfl)
      (by rw [MakeChecks.laidMetH_plain _ _ _ (by kernel_rfl)]; exact laidMet_laidAll _ (by kernel_rfl) (by kernel_rfl))) ?_
  intro W base args ds gs before hval0 hW hcnd hsz0 hLaid _
  have hsz : (DataW.weightsEach Go.Proofs.Tryz.prog (Go.Proofs.Tryz.f3.params.toList ++ Rows.fnTimesSolvedOfAllSpec.plain.varTypes Go.Proofs.Tryz.prog) (ds ++ gs)).all (· ≤ reachBytes) = true := hsz0
  have hval : ∀ (j : Nat) t v, Go.Proofs.Tryz.f3.params[j]? = some t → args[j]? = some v → Value.okWide Go.Proofs.Tryz.prog W .any base t v := hval0
  have hW' := hW
  obtain ⟨p, q, hA0, hV, rfl, hfz, hnd⟩ := hW
  have hA : DataW.TrodAll enc Go.Proofs.Tryz.prog W 0 (fun _ => true) true Go.Proofs.Tryz.f3.params.toList args.toList ds p := hA0
  rw [Go.Proofs.Tryz.params3] at hA hval hsz
  obtain ⟨v0, vs0, d0, ds0, p0, q0, hargs, rfl, rfl, h0, r0⟩ := trodAll_cons hA
  obtain ⟨v1, vs1, d1, ds1, p1, q1, rfl, rfl, rfl, h1, r1⟩ := trodAll_cons r0
  obtain ⟨rfl, rfl, rfl⟩ := trodAll_nil r1
  obtain rfl : args = #[v0, v1] := by cases args; simp_all
  obtain ⟨rfl, rfl⟩ := trodVars_none hV
  obtain ⟨y0, hk0, w0⟩ := opnP_use (opnP_struct (T := T0) Go.Proofs.Tryz.underlying24 (by kernel_rfl) (opnPs_cons rfl (opnP_int (T := T0) Go.Proofs.Tryz.underlying3 (by kernel_rfl)) (opnPs_one rfl (show OpnP Go.Proofs.Tryz.prog T0 22 1 (fun xs : List (D0 41) => [.sl false 41 xs]) (fun y => y.length ≤ maxLen ∧ y.length * 24 ≤ 140737488351232 ∧ ∀ x ∈ y, ((Lit.int .i64 x.f0).wf = true) ∧ ((Lit.int .i64 x.f1).wf = true) ∧ ((Lit.int .i64 x.f2).wf = true)) from opnP_slice tabOk0 Go.Proofs.Tryz.underlying22 (by kernel_rfl) (show 0 < 3 by omega) (show OpnP Go.Proofs.Tryz.prog T0 41 (T0.size 41) (T0.out 41) (fun x : S41 => ((Lit.int .i64 x.f0).wf = true) ∧ ((Lit.int .i64 x.f1).wf = true) ∧ ((Lit.int .i64 x.f2).wf = true)) from opnP_iso (fun x : S41 => (x.f0, x.f1, x.f2)) (fun y => ⟨y.1, y.2.1, y.2.2⟩) (fun _ => rfl) (opnP_struct (T := T0) Go.Proofs.Tryz.underlying41 (by kernel_rfl) (opnPs_cons rfl (opnP_int (T := T0) Go.Proofs.Tryz.underlying3 (by kernel_rfl)) (opnPs_cons rfl (opnP_int (T := T0) Go.Proofs.Tryz.underlying3 (by kernel_rfl)) (opnPs_one rfl (opnP_int (T := T0) Go.Proofs.Tryz.underlying3 (by kernel_rfl))))))))))) hsz (j := 0) (t := 24) rfl rfl h0
  have lt0 := trod_places' h0
  obtain ⟨cs0, rfl, _⟩ := okWide_struct Go.Proofs.Tryz.underlying24 (hval 0 24 v0 rfl rfl)
  have g0 : PRep T0 (allC W) id (.agg [.int .i64 y0.1, .sl false 41 y0.2]) (.agg cs0) := rep_agg hk0
  obtain ⟨y1, hk1, w1⟩ := opnP_use (opnP_string (T := T0) Go.Proofs.Tryz.underlying9 (by kernel_rfl)) hsz (j := 1) (t := 9) rfl rfl h1
  have lt1 := trod_places' h1
  obtain ⟨a1, rfl⟩ := okWide_string Go.Proofs.Tryz.underlying9 (hval 1 9 v1 rfl rfl)
  have g1 : PRep T0 (allC W) id (.one (.str y1)) _ := rep_one rfl hk1
  have hG0 : GlW W := by
    have hL := hLaid
    rw [MakeChecks.laidMetH_plain _ _ _ (by kernel_rfl)] at hL
    have hL : laidMet Go.Proofs.Tryz.prog [("math/bits.deBruijn32tab", Rows.laid_math_bits_deBruijn32tab), ("math/bits.deBruijn64tab", Rows.laid_math_bits_deBruijn64tab), ("internal/strconv.uint64pow10", Rows.laid_internal_strconv_uint64pow10), ("unicode/utf8.acceptRanges", Rows.laid_unicode_utf8_acceptRanges), ("strconv.ErrRange", Rows.laid_strconv_ErrRange), ("strconv.ErrSyntax", Rows.laid_strconv_ErrSyntax), ("unicode/utf8.first", Rows.laid_unicode_utf8_first)] W := hL
    have eS := hL.tail.tail.tail.tail.tail
    have eR := hL.tail.tail.tail.tail
    have eT := hL.tail.tail
    exact gl_of_laid eS eR eT
  clear hA0 hval0 hsz0 hsz
  obtain ⟨k, hp⟩ := hp y0 y1 w0 w1
  have hG := zq33.good k y0.1 y0.2 y1 true hp
  refine (law_calls (P := Go.Proofs.Tryz.prog) (T := T0) (v := .bool true) hG _ (.cons g0 (.cons g1 .nil)) rfl rfl (fun C b u h => inv_bool h) hG0).mono fun e W' ⟨he, bel0⟩ => ?_
  have bel : Below W.heap.size W W' := bel0
  subst he
  exact ⟨_, rfl, _, _, _, [], _, [], hW', trodAll_mk1 (shut_bool Go.Proofs.Tryz.underlying4 _), (trodAll_cons_mk (Below.trod laidOut (by kernel_rfl) (of_decide_eq_true (by kernel_rfl)) h0 bel lt0) (trodAll_cons_mk (Below.trod laidOut (by kernel_rfl) (of_decide_eq_true (by kernel_rfl)) h1 bel lt1) trodAll_mk0)), rfl, bel.frame _, fun h => by cases h⟩
theorem over (hp : FnTimesSolvedOfAll.Pure) : Rows.fnTimesSolvedOfAllRow.holds Tryz.pinned (OpenSpec.ofChange Rows.fnTimesSolvedOfAllSpec) :=
  OpenClaim.holds_of_wide 3 Go.Proofs.Tryz.f3 rfl rfl rfl rfl rfl rfl rfl ⟨rfl, rfl, rfl, rfl, rfl⟩ rfl rfl rfl rfl rfl (by kernel_rfl) Go.Proofs.Tryz.func3 (by kernel_rfl)
    (of_decide_eq_true (by kernel_rfl)) (by unfold Func.isWrapper; first | (rw [if_pos (by decide +kernel)]; kernel_rfl) | (rw [if_neg (by decide +kernel)]; exact ⟨rfl, rfl⟩))
    (fun os started H enc _ => lifted hp os started H enc)
end Go.Proofs.YtpeleommbipeaaaGreatDoor.fnTimesSolvedOfAll
namespace Go.Proofs.YtpeleommbipeaaaGreatDoor
open Go
theorem fnTimesSolvedOfAll_card (hp : M.FnTimesSolvedOfAll.Pure) : Rows.FnTimesSolvedOfAllCardSaid :=
  Claim7.holds_tied_plain_at .later [] [.data, .data, .data, .data, .sentinel, .sentinel, .pinned] true (true, "b55d9b441790bf642952fede55f19e91fee26e88cd71e7f14c4c01173ebad095") true (fnTimesSolvedOfAll.over hp) (fun _ h => by cases h) (by kernel_rfl) (fun _ h => by cases h) fnTimesSolvedOfAll_row_tie rfl ⟨rfl, rfl⟩ (by kernel_rfl) rfl
    (fun f fn hf hfn => by
      obtain rfl : f = 3 := Option.some.inj ((show Go.Proofs.Tryz.prog.funcNamed "loop.example/g01241/laws.FnTimesSolvedOfAll" = some 3 by kernel_rfl).symm.trans hf) |>.symm
      obtain rfl : fn = Go.Proofs.Tryz.f3 := (Option.some.inj (Go.Proofs.Tryz.func3.symm.trans hfn)).symm
      exact ⟨by kernel_rfl, fun j t ht => by
        rw [Go.Proofs.Tryz.params3] at ht
        have hm : t ∈ [24, 9] := by simpa using Array.mem_of_getElem? ht
        have hall : ([24, 9].all fun u => !Go.Proofs.Tryz.prog.wantsStandIn u) = true := by kernel_rfl
        exact (show Go.Proofs.Tryz.prog.wantsStandIn t = false by simpa using List.all_eq_true.1 hall t hm)⟩)
    (by kernel_rfl)
end Go.Proofs.YtpeleommbipeaaaGreatDoor

namespace Go.Proofs.YtpeleommbipeaaaGreatDoor
theorem fnTimesSolvedOfAll_holds : Rows.FnTimesSolvedOfAllCardSaid := fnTimesSolvedOfAll_card M.FnTimesSolvedOfAll.pure
#print axioms fnTimesSolvedOfAll_holds
end Go.Proofs.YtpeleommbipeaaaGreatDoor
