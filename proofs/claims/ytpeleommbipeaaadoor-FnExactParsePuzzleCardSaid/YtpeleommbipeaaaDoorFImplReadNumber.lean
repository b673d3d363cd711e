-- written by wip/gen.py (this session's) with the kit's printer; Lean checks it.
import Derived.Test.YtpeleommbipeaaaDoorK
import Derived.Test.YtpeleommbipeaaaDoorFImplWithin
import Derived.Test.YtpeleommbipeaaaDoorGlob
import Derived.Test.YtpeleommbipeaaaDoorGlob
import Derived.Shelf.SlSorted.Search
import Derived.Shelf.Strconv.AtoiAll
namespace Go.Proofs.YtpeleommbipeaaaDoor.P
open Go.RowKit Go.Proofs.YtpeleommbipeaaaDoorW.PrintWords Go.Proofs.YtpeleommbipeaaaDoorW.PrintLast Go.Proofs.YtpeleommbipeaaaDoorW.PrintMore
attribute [local go_sem] max2_int min2_int max_two min_two max_three min_three max_four min_four
set_option linter.unusedVariables false
set_option linter.unusedSimpArgs false

/-! ### impl_readNumber: function 11 -/
def impl_readNumber.v (a0 : ByteArray) (a1 : Int) : Int × Bool := match Lib.atoiAll a0.data.toList with
  | .ok v => if 0 ≤ v ∧ v ≤ a1 then (if Lib.itoa v = a0.toList then (v, true) else (0, false)) else (0, false)
  | _ => (0, false)
def impl_readNumber.f (a0 : ByteArray) (a1 : Int) : Option (Int × Bool) := if a0.size ≤ 281474976710656 ∧ a1 ≤ 9223372036854775807 then some (impl_readNumber.v a0 a1) else none
theorem impl_readNumber.gr {w w2 w3 : World} (hb : Below w.heap.size w w2) (h : ∃ k os, w3 = Go.Sort.grow (w2.drewN k) os) : Below w.heap.size w w3 := by
  obtain ⟨k, os, rfl⟩ := h
  exact below_step hb (below_grown_sl _ _ _ _ (Nat.le_refl _))
set_option maxHeartbeats 2000000 in
set_option maxRecDepth 100000 in
theorem impl_readNumber.calls (a0 : ByteArray) (a1 : Int) (r1 : Int) (r2 : Bool) (w : World) (hG : Gl w) (h : impl_readNumber.f a0 a1 = some (r1, r2)) :
    Calls Tryd.prog 11 #[.string a0, .int .i64 a1] w fun e w' => e = .returned (.tuple #[.int .i64 r1, .bool r2]) ∧ Below w.heap.size w w' := by
  unfold impl_readNumber.f at h
  by_cases hc : a0.size ≤ 281474976710656 ∧ a1 ≤ 9223372036854775807
  · rw [if_pos hc] at h
    have hv := Option.some.inj h
    clear h
    obtain ⟨hlim, h63⟩ := hc
    have HG := Aside0.mk hG
    clear hG
    unfold impl_readNumber.v at hv
    rcases hat : Lib.atoiAll a0.data.toList with v | _ | _
    ·
      rw [hat] at hv
      have hv2 : (if 0 ≤ v ∧ v ≤ a1 then (if Lib.itoa v = a0.toList then (v, true) else (0, false)) else (0, false)) = (r1, r2) := hv
      clear hv
      have HA := Aside0.mk (Tryd.strconv_Atoi_ok a0 (by omega) v hat)
      clear hat
      have hfrom : ∀ w' : World, (w' = w ∨ ∃ t, w' = Lib.bytesWorld w 5 t) → Below w.heap.size w w' := by
        rintro w' (rfl | ⟨t, rfl⟩)
        · exact Below.refl _ _
        · exact bytes_below (Below.refl _ _) (Nat.le_refl _) _ _
      have HF := Aside0.mk hfrom
      clear hfrom
      by_cases c1 : 0 ≤ v ∧ v ≤ a1
      · rw [if_pos c1] at hv2
        have HW := Aside0.mk (show impl_within.f v 0 a1 = some true by unfold impl_within.f; rw [if_pos c1.1, decide_eq_true c1.2])
        have HI := Aside0.mk (fun (W : World) (hg : Gl W) => Tryd.strconv_Itoa v (by omega) (by omega) W hg.2.2)
        clear c1
        by_cases c2 : Lib.itoa v = a0.toList
        · rw [if_pos c2] at hv2
          simp only [Prod.mk.injEq] at hv2
          obtain ⟨rfl, rfl⟩ := hv2
          have c2b0 : (Lib.itoa v == a0.toList) = true := beq_iff_eq.mpr c2
          have c2b1 : (Lib.itoa v != a0.toList) = false := bne_eq_false_iff_eq.mpr c2
          clear c2
          go_enter Tryd.func11, Tryd.ntmps11
          go_wp2_with (first | (go_at_call 23; refine (HA.out _).mono ?_; rintro e w' ⟨rfl, hw⟩; have HB := Aside0.mk (HF.out _ hw); clear hw) | (go_at_call 24; refine (impl_within.calls v 0 a1 true _ HW.out).mono ?_; rintro e w2 ⟨rfl, ⟨nd, rfl⟩⟩) | (go_at_call 25; refine (HI.out _ (HG.out.below (pw_below_drewN HB.out _))).mono ?_; rintro e w3 ⟨rfl, hk⟩; have HB3 := Aside0.mk (impl_readNumber.gr (pw_below_drewN HB.out _) hk); clear hk))
          go_ret2
          exact ⟨rfl, HB3.out⟩
        · rw [if_neg c2] at hv2
          simp only [Prod.mk.injEq] at hv2
          obtain ⟨rfl, rfl⟩ := hv2
          have c2b0 : (Lib.itoa v == a0.toList) = false := beq_eq_false_iff_ne.mpr c2
          have c2b1 : (Lib.itoa v != a0.toList) = true := bne_iff_ne.mpr c2
          clear c2
          go_enter Tryd.func11, Tryd.ntmps11
          go_wp2_with (first | (go_at_call 23; refine (HA.out _).mono ?_; rintro e w' ⟨rfl, hw⟩; have HB := Aside0.mk (HF.out _ hw); clear hw) | (go_at_call 24; refine (impl_within.calls v 0 a1 true _ HW.out).mono ?_; rintro e w2 ⟨rfl, ⟨nd, rfl⟩⟩) | (go_at_call 25; refine (HI.out _ (HG.out.below (pw_below_drewN HB.out _))).mono ?_; rintro e w3 ⟨rfl, hk⟩; have HB3 := Aside0.mk (impl_readNumber.gr (pw_below_drewN HB.out _) hk); clear hk))
          go_ret2
          exact ⟨rfl, HB3.out⟩
      · rw [if_neg c1] at hv2
        simp only [Prod.mk.injEq] at hv2
        obtain ⟨rfl, rfl⟩ := hv2
        have HW : Aside0 (impl_within.f v 0 a1 = some false) := by
          constructor
          unfold impl_within.f
          by_cases c : 0 ≤ v
          · rw [if_pos c, decide_eq_false (fun z => c1 ⟨c, z⟩)]
          · rw [if_neg c]
        clear c1
        go_enter Tryd.func11, Tryd.ntmps11
        go_wp2_with (first | (go_at_call 23; refine (HA.out _).mono ?_; rintro e w' ⟨rfl, hw⟩; have HB := Aside0.mk (HF.out _ hw); clear hw) | (go_at_call 24; refine (impl_within.calls v 0 a1 false _ HW.out).mono ?_; rintro e w2 ⟨rfl, ⟨nd, rfl⟩⟩))
        go_ret2
        exact ⟨rfl, pw_below_drewN HB.out _⟩
    ·
      rw [hat] at hv
      simp only [Prod.mk.injEq] at hv
      obtain ⟨rfl, rfl⟩ := hv
      obtain ⟨tp, p, hcell⟩ := HG.out.errS
      have HA := Aside0.mk (show Calls Tryd.prog 23 #[.string a0] w fun e w' => ∃ N, e = .returned (.tuple #[.int .i64 0, .iface 74 (.pointer (some ⟨N, 0, none⟩))]) ∧ w.heap.size ≤ N ∧ w'.heap[N]? = some (.cells #[.string ⟨#[65, 116, 111, 105]⟩, .string a0, .iface tp p] 89 (0, 0)) ∧ Below w.heap.size w w' from Any.strconv_Atoi_syntax Tryd.laysC172 a0 hlim hat (.iface tp p) w hcell (Or.inr ⟨tp, p, rfl⟩))
      clear hat hcell
      go_enter Tryd.func11, Tryd.ntmps11
      go_wp2_with (go_at_call 23; refine HA.out.mono ?_; rintro e w' ⟨N, rfl, hN, hh, hb⟩; have HB := Aside0.mk hb; clear hb hh hN)
      go_ret2
      exact ⟨rfl, HB.out⟩
    ·
      rw [hat] at hv
      simp only [Prod.mk.injEq] at hv
      obtain ⟨rfl, rfl⟩ := hv
      obtain ⟨tp, p, hcell⟩ := HG.out.errR
      have HA := Aside0.mk (show Calls Tryd.prog 23 #[.string a0] w fun e w' => ∃ N, e = .returned (.tuple #[.int .i64 (Lib.atoiSat a0.data.toList), .iface 74 (.pointer (some ⟨N, 0, none⟩))]) ∧ w.heap.size ≤ N ∧ w'.heap[N]? = some (.cells #[.string ⟨#[65, 116, 111, 105]⟩, .string a0, .iface tp p] 89 (0, 0)) ∧ Below w.heap.size w w' from Any.strconv_Atoi_range Tryd.laysC172 a0 hlim hat (.iface tp p) w hcell (Or.inr ⟨tp, p, rfl⟩))
      clear hat hcell
      generalize Lib.atoiSat a0.data.toList = sat at HA
      go_enter Tryd.func11, Tryd.ntmps11
      go_wp2_with (go_at_call 23; refine HA.out.mono ?_; rintro e w' ⟨N, rfl, hN, hh, hb⟩; have HB := Aside0.mk hb; clear hb hh hN)
      go_ret2
      exact ⟨rfl, HB.out⟩
  · rw [if_neg hc] at h
    cases h

end Go.Proofs.YtpeleommbipeaaaDoor.P
