/- The law holds for every input that its row speaks of (part 1). No conditions but those stated. -/
import Derived.Test.YtdidghlibfopgaaGreatDoorPlFnExactFailedLines2
import Derived.Test.YtdidghlibfopgaaGreatDoorRows
import Derived.Test.YtdidghlibfopgaaGreatDoorCards
import Derived.Test.YtdidghlibfopgaaGreatDoorTie
import Derived.LaidMore
import Derived.Lay
import Derived.SevenTiedAt
import Derived.Stop.Joined
import Derived.Stop.LaidErr
import Derived.Lib.LaidTab
import Derived.MakeChecks
import Derived.LaidLaws
import Derived.WalkKit
import Derived.ProofKit
import Derived.OpenShut
import Derived.ShutString
import Derived.ChangeOld
import Derived.Below
import Derived.SizedLaws
import Derived.Carry
namespace Go.Proofs.YtdidghlibfopgaaGreatDoor.fnExactFailedLines
open Go Go.PM Go.Proofs.YtdidghlibfopgaaGreatDoor.P Go.ChangeShapes Go.WideShapes Go.ChangeAt Go.RowKit Go.Proofs Go.Proofs.YtdidghlibfopgaaGreatDoor.M
set_option linter.unusedVariables false
set_option linter.unusedSimpArgs false
theorem own : ownKnob Tryz.prog.godebug = none := by kernel_rfl
theorem laidOut : laidOutB Tryz.prog = true := by kernel_rfl
theorem gl_star : "*" ++ "errors.errorString" = "*errors.errorString" := by decide
theorem gl_row (u : TypeId) (h : Tryz.prog.typeName? 3 u = some "*errors.errorString") : u = 236 :=
  typeName_ptr_named (nm := "errors.errorString") (by rw [gl_star]; kernel_rfl) (by kernel_rfl) (by decide) u (by rw [gl_star]; exact h)
theorem gl_tab : (Rows.laid_internal_strconv_uint64pow10 : DataW Unit) = Lib.tabData .u64 Lib.pow10Tab := by kernel_rfl
theorem gl_of_laid {W : World} {r1 r2 r3 : List (String × DataW Unit)} (h1 : laidMet Tryz.prog (("strconv.ErrSyntax", Rows.laid_strconv_ErrSyntax) :: r1) W) (h2 : laidMet Tryz.prog (("strconv.ErrRange", Rows.laid_strconv_ErrRange) :: r2) W)
    (h3 : laidMet Tryz.prog (("internal/strconv.uint64pow10", Rows.laid_internal_strconv_uint64pow10) :: r3) W) : GlW W := by
  obtain ⟨a, s, hv, _⟩ := laid_sentinel h1 (g := 4) (by kernel_rfl) (ti := 159) (by kernel_rfl) Tryz.underlying159 (tp := 236) gl_row Tryz.underlying236 Tryz.underlying238 rfl rfl Tryz.underlying9 (by kernel_rfl) (by kernel_rfl)
  obtain ⟨a2, s2, hv2, _⟩ := laid_sentinel h2 (g := 5) (by kernel_rfl) (ti := 159) (by kernel_rfl) Tryz.underlying159 (tp := 236) gl_row Tryz.underlying236 Tryz.underlying238 rfl rfl Tryz.underlying9 (by kernel_rfl) (by kernel_rfl)
  rw [gl_tab] at h3
  exact GlW.of hv hv2 (Lib.tabIs_of_head (g := 1) (by kernel_rfl) (t := 207) (by kernel_rfl) Tryz.underlying207 Tryz.underlying63 (by kernel_rfl) (by kernel_rfl) h3)

set_option maxRecDepth 100000 in
theorem lifted (hp : FnExactFailedLines.Pure) (os : Os) (started : os.Started) (H : Type) (enc : TypeId × Value → H) :
    ReturnsInHanded {} Tryz.checked os 9 .any (fun w args => (Rows.fnExactFailedLinesSpec.pre enc Tryz.prog Tryz.f9 Rows.fnExactFailedLinesRow.domain false w args ∧ laidMetH Tryz.prog Rows.fnExactFailedLinesRow.laid w) ∧ sizedMet enc Tryz.prog Tryz.f9 (OpenSpec.ofChange Rows.fnExactFailedLinesSpec) false w args)
      (Rows.fnExactFailedLinesSpec.post enc Tryz.prog Tryz.f9 false true false false) := by
  refine returnsInHanded_of_change_and (C := Tryz.checked) (X := fun w _ => laidMetH Tryz.prog Rows.fnExactFailedLinesRow.laid w) (fun _ _ _ hh h => h.of_heap hh) own started (by kernel_rfl) Tryz.func9
    (ChangeSpec.witness_shaped (enc := enc) (C := Tryz.checked) (os := os) (X := fun w _ => laidMetH Tryz.prog Rows.fnExactFailedLinesRow.laid w) false (World.laidAll Tryz.prog os Rows.fnExactFailedLinesRow.laid) #[.string ⟨#[]⟩] 8 (World.laidAll_os _ _ _)
      (World.shaped_of_ZipB (by kernel_rfl) (by kernel_rfl)) (by kernel_rfl) (by kernel_rfl) (by kernel_rfl)
      (by rw [MakeChecks.laidMetH_plain _ _ _ (by kernel_rfl)]; exact laidMet_laidAll _ (by kernel_rfl) (by kernel_rfl))) ?_
  intro W base args ds gs before hval0 hW hcnd hsz0 hLaid _
  have hsz : (DataW.weightsEach Tryz.prog (Tryz.f9.params.toList ++ Rows.fnExactFailedLinesSpec.plain.varTypes Tryz.prog) (ds ++ gs)).all (· ≤ reachBytes) = true := hsz0
  have hval : ∀ (j : Nat) t v, Tryz.f9.params[j]? = some t → args[j]? = some v → Value.okWide Tryz.prog W .any base t v := hval0
  have hW' := hW
  obtain ⟨p, q, hA0, hV, rfl, hfz, hnd⟩ := hW
  have hA : DataW.TrodAll enc Tryz.prog W 0 (fun _ => true) true Tryz.f9.params.toList args.toList ds p := hA0
  rw [Tryz.params9] at hA hval hsz
  obtain ⟨v0, vs0, d0, ds0, p0, q0, hargs, rfl, rfl, h0, r0⟩ := trodAll_cons hA
  obtain ⟨rfl, rfl, rfl⟩ := trodAll_nil r0
  obtain rfl : args = #[v0] := by cases args; simp_all
  obtain ⟨rfl, rfl⟩ := trodVars_none hV
  obtain ⟨y0, hk0, w0⟩ := opnP_use (opnP_string (T := T0) Tryz.underlying9 (by kernel_rfl)) hsz (j := 0) (t := 9) rfl rfl h0
  have lt0 := trod_places' h0
  obtain ⟨a0, rfl⟩ := okWide_string Tryz.underlying9 (hval 0 9 v0 rfl rfl)
  have g0 : PRep T0 (allC W) id (.one (.str y0)) _ := rep_one rfl hk0
  have hG0 : GlW W := by
    have hL := hLaid
    rw [MakeChecks.laidMetH_plain _ _ _ (by kernel_rfl)] at hL
    have hL : laidMet Tryz.prog [("math/bits.deBruijn32tab", Rows.laid_math_bits_deBruijn32tab), ("math/bits.deBruijn64tab", Rows.laid_math_bits_deBruijn64tab), ("internal/strconv.uint64pow10", Rows.laid_internal_strconv_uint64pow10), ("unicode/utf8.acceptRanges", Rows.laid_unicode_utf8_acceptRanges), ("strconv.ErrRange", Rows.laid_strconv_ErrRange), ("strconv.ErrSyntax", Rows.laid_strconv_ErrSyntax), ("unicode/utf8.first", Rows.laid_unicode_utf8_first)] W := hL
    have eS := hL.tail.tail.tail.tail.tail
    have eR := hL.tail.tail.tail.tail
    have eT := hL.tail.tail
    exact gl_of_laid eS eR eT
  clear hA0 hval0 hsz0 hsz
  obtain ⟨k, hp⟩ := hp y0 w0
  have hG := zq82.good k y0 true hp
  refine (law_calls (P := Tryz.prog) (T := T0) (v := .bool true) hG _ (.cons g0 .nil) rfl rfl (fun C b u h => inv_bool h) hG0).mono fun e W' ⟨he, bel0⟩ => ?_
  have bel : Below W.heap.size W W' := bel0
  subst he
  exact ⟨_, rfl, _, _, _, [], _, [], hW', trodAll_mk1 (shut_bool Tryz.underlying4 _), (trodAll_cons_mk (Below.trod laidOut (by kernel_rfl) (of_decide_eq_true (by kernel_rfl)) h0 bel lt0) trodAll_mk0), rfl, bel.frame _, fun h => by cases h⟩
theorem over (hp : FnExactFailedLines.Pure) : Rows.fnExactFailedLinesRow.holds Tryz.pinned (OpenSpec.ofChange Rows.fnExactFailedLinesSpec) :=
  OpenClaim.holds_of_wide 9 Tryz.f9 rfl rfl rfl rfl rfl rfl rfl ⟨rfl, rfl, rfl, rfl, rfl⟩ rfl rfl rfl rfl rfl (by kernel_rfl) Tryz.func9 (by kernel_rfl)
    (of_decide_eq_true (by kernel_rfl)) (by unfold Func.isWrapper; first | (rw [if_pos (by decide +kernel)]; kernel_rfl) | (rw [if_neg (by decide +kernel)]; exact ⟨rfl, rfl⟩))
    (fun os started H enc _ => lifted hp os started H enc)
end Go.Proofs.YtdidghlibfopgaaGreatDoor.fnExactFailedLines
namespace Go.Proofs.YtdidghlibfopgaaGreatDoor
open Go
theorem fnExactFailedLines_card (hp : M.FnExactFailedLines.Pure) : Rows.FnExactFailedLinesCardSaid :=
  Claim7.holds_tied_plain_at .later [] [.data, .data, .data, .data, .sentinel, .sentinel, .pinned] true (true, "1d7975c1da9ad70d9a4d1ce7110cd4eab862bcd6ade5c7d2ccfa97deef07cf46") true (fnExactFailedLines.over hp) (fun _ h => by cases h) (by kernel_rfl) (fun _ h => by cases h) fnExactFailedLines_row_tie rfl ⟨rfl, rfl⟩ (by kernel_rfl) rfl
    (fun f fn hf hfn => by
      obtain rfl : f = 9 := Option.some.inj ((show Tryz.prog.funcNamed "loop.example/g01241/laws.FnExactFailedLines" = some 9 by kernel_rfl).symm.trans hf) |>.symm
      obtain rfl : fn = Tryz.f9 := (Option.some.inj (Tryz.func9.symm.trans hfn)).symm
      exact ⟨by kernel_rfl, fun j t ht => by
        rw [Tryz.params9] at ht
        have hm : t ∈ [9] := by simpa using Array.mem_of_getElem? ht
        have hall : ([9].all fun u => !Tryz.prog.wantsStandIn u) = true := by kernel_rfl
        exact (show Tryz.prog.wantsStandIn t = false by simpa using List.all_eq_true.1 hall t hm)⟩)
    (by kernel_rfl)
end Go.Proofs.YtdidghlibfopgaaGreatDoor

namespace Go.Proofs.YtdidghlibfopgaaGreatDoor
theorem fnExactFailedLines_holds : Rows.FnExactFailedLinesCardSaid := fnExactFailedLines_card M.FnExactFailedLines.pure
#print axioms fnExactFailedLines_holds
end Go.Proofs.YtdidghlibfopgaaGreatDoor
