/- What the program's functions compute, walked by the machine (part 2). No conditions but those stated. -/
import Derived.Test.YtpmipkbfohcjiaaFnFnTunesPlayed1
namespace Go.Proofs.Ytpmipkbfohcjiaa.M
open Go Go.PM Go.Proofs.Ytpmipkbfohcjiaa.P
set_option linter.unusedVariables false
set_option maxRecDepth 100000
/-! ### impl_BellUpTo -/
abbrev impl_BellUpTo.R : Type := Int × Bool
abbrev impl_BellUpTo.sig : Sig := ⟨[(false, 1), (false, 1), (false, 1)], [], [.sl false 9, .int .i64, .int .i64], [(false, 1), (false, 1)], [], [.int .i64, .bool]⟩
noncomputable def impl_BellUpTo.C : Cfg D0 := ⟨Go.Proofs.Try.prog, T0, 65751, 0, 21, 0, [(12, [0, 2, 4, 16], [4])], 393984, false, []⟩
noncomputable def impl_BellUpTo.E (N : Nat) : List (Ent Go.Proofs.Try.prog T0) := [impl_isQuarter.ent N, impl_isBell.ent N, impl_sumUpTo_1.ent N]
noncomputable def impl_BellUpTo.O (N : Nat) : Orc D0 impl_BellUpTo.R := orcOf (impl_BellUpTo.E N)
noncomputable def impl_BellUpTo.K0 : Ex → St D0 → Option impl_BellUpTo.R := exitK impl_BellUpTo.C Go.Proofs.Try.f23.results.toList [(false, [.any]), (false, [.any])] (decOut impl_BellUpTo.sig)
noncomputable def impl_BellUpTo.c1 : Code := codeAt (Go.Proofs.Try.f23.body.getD .skip) []
noncomputable def impl_BellUpTo.c2 : Code := codeAt (Go.Proofs.Try.f23.body.getD .skip) [false]
noncomputable def impl_BellUpTo.c7 : Code := codeAt (Go.Proofs.Try.f23.body.getD .skip) [true, true]
noncomputable def impl_BellUpTo.c12 : Code := codeAt (Go.Proofs.Try.f23.body.getD .skip) [true, false, false]
noncomputable def impl_BellUpTo.c13 : Code := codeAt (Go.Proofs.Try.f23.body.getD .skip) [true, false, true]
noncomputable def impl_BellUpTo.K13 (N : Nat) : Ex → St D0 → Option impl_BellUpTo.R := (onN (fun s => impl_BellUpTo.C.tidy 6 s (fun s' => runC impl_BellUpTo.C (impl_BellUpTo.O N) N impl_BellUpTo.c7 7 s' impl_BellUpTo.K0)) impl_BellUpTo.K0)
noncomputable def impl_BellUpTo.o1 (N : Nat) (v0 : List ByteArray) (v1 : Int) (v2 : Bool) (v3 : Int) : Option impl_BellUpTo.R :=
 bif v2 then
  some (0, false)
 else
 (impl_sumUpTo_1.g N v0 v1 v3).bind fun r1 =>
 some (r1.1, true)
theorem impl_BellUpTo.o1.run (N : Nat) (v0 : List ByteArray) (v1 : Int) (v2 : Bool) (v3 : Int) : runC impl_BellUpTo.C (impl_BellUpTo.O N) N impl_BellUpTo.c13 13 (mkSt [(0, .one (.sl false 9 v0)), (2, .one (.int .i64 v1)), (4, .one (.ptr 4 0)), (16, .one (.bool v2))] [(4, some (3, [.int .i64 v3]))] : St D0) (onN (fun s => impl_BellUpTo.C.tidy 6 s (fun s' => runC impl_BellUpTo.C (impl_BellUpTo.O N) N impl_BellUpTo.c7 7 s' impl_BellUpTo.K0)) impl_BellUpTo.K0) = impl_BellUpTo.o1 N v0 v1 v2 v3 := by kernel_rfl
noncomputable def impl_BellUpTo.d1 (N : Nat) (v0 : List ByteArray) (v1 : Int) (v2 : Bool) (v3 : Int) : Option impl_BellUpTo.R := impl_BellUpTo.o1 N v0 v1 v2 v3
theorem impl_BellUpTo.d1.run (N : Nat) (v0 : List ByteArray) (v1 : Int) (v2 : Bool) (v3 : Int) : runC impl_BellUpTo.C (impl_BellUpTo.O N) N impl_BellUpTo.c13 13 (mkSt [(0, .one (.sl false 9 v0)), (2, .one (.int .i64 v1)), (4, .one (.ptr 4 0)), (16, .one (.bool v2))] [(4, some (3, [.int .i64 v3]))] : St D0) (impl_BellUpTo.K13 N) = impl_BellUpTo.d1 N v0 v1 v2 v3 := by
  exact (impl_BellUpTo.o1.run N v0 v1 v2 v3).trans rfl
noncomputable def impl_BellUpTo.o0 (N : Nat) (a0 : List ByteArray) (a1 : Int) (a2 : Int) (c1 : (List ByteArray) → Int → Bool → Int → Option impl_BellUpTo.R) : Option impl_BellUpTo.R :=
 (impl_isQuarter.g N a0 a2).bind fun r1 =>
 bif (!r1) then
  c1 a0 a2 true a1
 else
 (impl_isBell.g N a1).bind fun r2 =>
 c1 a0 a2 (!r2) a1
theorem impl_BellUpTo.o0.run (N : Nat) (H13 : Code) (a0 : List ByteArray) (a1 : Int) (a2 : Int) : runC impl_BellUpTo.C (impl_BellUpTo.O N) N (.seq impl_BellUpTo.c2 (.seq (.seq impl_BellUpTo.c12 H13) impl_BellUpTo.c7)) 1 (st0 [.one (.sl false 9 a0), .one (.int .i64 a1), .one (.int .i64 a2)] [] : St D0) impl_BellUpTo.K0 = impl_BellUpTo.o0 N a0 a1 a2 ((fun w0 w1 w2 w3 => runC impl_BellUpTo.C (impl_BellUpTo.O N) N H13 13 (mkSt [(0, .one (.sl false 9 w0)), (2, .one (.int .i64 w1)), (4, .one (.ptr 4 0)), (16, .one (.bool w2))] [(4, some (3, [.int .i64 w3]))] : St D0) (onN (fun s => impl_BellUpTo.C.tidy 6 s (fun s' => runC impl_BellUpTo.C (impl_BellUpTo.O N) N impl_BellUpTo.c7 7 s' impl_BellUpTo.K0)) impl_BellUpTo.K0))) := by kernel_rfl
noncomputable def impl_BellUpTo.B6 (N : Nat) : St D0 → Option impl_BellUpTo.R := fun s' => runC impl_BellUpTo.C (impl_BellUpTo.O N) N impl_BellUpTo.c13 13 s' (impl_BellUpTo.K13 N)
noncomputable def impl_BellUpTo.g (N : Nat) (a0 : List ByteArray) (a1 : Int) (a2 : Int) : Option impl_BellUpTo.R := impl_BellUpTo.o0 N a0 a1 a2 ((fun w0 w1 w2 w3 => impl_BellUpTo.d1 N w0 w1 w2 w3))
theorem impl_BellUpTo.c1_0 : impl_BellUpTo.c1 = (.seq impl_BellUpTo.c2 (.seq (.seq impl_BellUpTo.c12 impl_BellUpTo.c13) impl_BellUpTo.c7)) := by kernel_rfl
theorem impl_BellUpTo.g.run (N : Nat) (a0 : List ByteArray) (a1 : Int) (a2 : Int) : runC impl_BellUpTo.C (impl_BellUpTo.O N) N impl_BellUpTo.c1 1 (st0 [.one (.sl false 9 a0), .one (.int .i64 a1), .one (.int .i64 a2)] [] : St D0) impl_BellUpTo.K0 = impl_BellUpTo.g N a0 a1 a2 := by
  rw [impl_BellUpTo.c1_0]; unfold impl_BellUpTo.g; exact (impl_BellUpTo.o0.run N impl_BellUpTo.c13 a0 a1 a2).trans (congr rfl (funext fun w0 => funext fun w1 => funext fun w2 => funext fun w3 => impl_BellUpTo.d1.run N w0 w1 w2 w3))
theorem impl_BellUpTo.good (N : Nat) (a0 : List ByteArray) (a1 : Int) (a2 : Int) (r : impl_BellUpTo.R) (h : impl_BellUpTo.g N a0 a1 a2 = some r) : Go.PM.Good Go.Proofs.Try.prog T0 23 [.one (.sl false 9 a0), .one (.int .i64 a1), .one (.int .i64 a2)] [] (impl_BellUpTo.sig.ret r) (impl_BellUpTo.sig.bs r) :=
  good_fn tabOk0 mixed0 impl_BellUpTo.sig (impl_BellUpTo.E N) Go.Proofs.Try.func23 (by kernel_rfl) (by kernel_rfl) 65751 0 0 [(12, [0, 2, 4, 16], [4])] 393984 false [] [(false, [.any]), (false, [.any])] (by kernel_rfl) rfl rfl ((impl_BellUpTo.g.run N a0 a1 a2).trans h)
noncomputable def impl_BellUpTo.ent (N : Nat) : Ent Go.Proofs.Try.prog T0 := mkEnt 23 [(false, [.ro 9]), (false, [.any]), (false, [.any])] impl_BellUpTo.sig (fun t => impl_BellUpTo.g N t.1 t.2.1 t.2.2) (fun t r h => impl_BellUpTo.good N t.1 t.2.1 t.2.2 r h)
end Go.Proofs.Ytpmipkbfohcjiaa.M

namespace Go.Proofs.Ytpmipkbfohcjiaa.M
open Go Go.PM Go.Proofs.Ytpmipkbfohcjiaa.P
set_option linter.unusedVariables false
set_option maxRecDepth 100000
/-! ### slices_Index_int_int -/
abbrev slices_Index_int_int.R : Type := Int
abbrev slices_Index_int_int.sig : Sig := ⟨[(false, 1), (false, 1)], [], [.sl false 3, .int .i64], [(false, 1)], [], [.int .i64]⟩
noncomputable def slices_Index_int_int.C : Cfg D0 := ⟨Go.Proofs.Try.prog, T0, 66483, 0, 19, 0, [(26, [0, 1, 7, 8], [])], 14400, false, []⟩
noncomputable def slices_Index_int_int.E (N : Nat) : List (Ent Go.Proofs.Try.prog T0) := []
noncomputable def slices_Index_int_int.O (N : Nat) : Orc D0 slices_Index_int_int.R := orcOf (slices_Index_int_int.E N)
noncomputable def slices_Index_int_int.K0 : Ex → St D0 → Option slices_Index_int_int.R := exitK slices_Index_int_int.C Go.Proofs.Try.f68.results.toList [(false, [.any])] (decOut slices_Index_int_int.sig)
noncomputable def slices_Index_int_int.c1 : Code := codeAt (Go.Proofs.Try.f68.body.getD .skip) []
noncomputable def slices_Index_int_int.c2 : Code := codeAt (Go.Proofs.Try.f68.body.getD .skip) [false]
noncomputable def slices_Index_int_int.c7 : Code := codeAt (Go.Proofs.Try.f68.body.getD .skip) [true, true]
noncomputable def slices_Index_int_int.c12 : Code := codeAt (Go.Proofs.Try.f68.body.getD .skip) [true, false, false]
noncomputable def slices_Index_int_int.c52 : Code := codeAt (Go.Proofs.Try.f68.body.getD .skip) [true, false, true, false, false]
noncomputable def slices_Index_int_int.K52 (N : Nat) (Kn26 : St D0 → Option slices_Index_int_int.R) : Ex → St D0 → Option slices_Index_int_int.R := (onN (fun s => slices_Index_int_int.C.tidy 26 s ((onN Kn26 (blockK 0 (onN (fun s => slices_Index_int_int.C.tidy 6 s (fun s' => runC slices_Index_int_int.C (slices_Index_int_int.O N) N slices_Index_int_int.c7 7 s' slices_Index_int_int.K0)) slices_Index_int_int.K0))) .normal)) (onN Kn26 (blockK 0 (onN (fun s => slices_Index_int_int.C.tidy 6 s (fun s' => runC slices_Index_int_int.C (slices_Index_int_int.O N) N slices_Index_int_int.c7 7 s' slices_Index_int_int.K0)) slices_Index_int_int.K0))))
noncomputable def slices_Index_int_int.o1 (N : Nat) (v0 : List Int) (v1 : Int) (v2 : Int) (v3 : Int) (c1 : (List Int) → Int → Int → Int → Option slices_Index_int_int.R) : Option slices_Index_int_int.R :=
 bif (decide (v3 < v2)) then
  bif (decide (0 ≤ v3)) then
   bif (decide (v3 < (v0.length : Int))) then
    (v0[(v3 : Int).toNat]?).bind fun x1 =>
    bif (v1 == x1) then
     some (v3)
    else
    c1 v0 v1 v2 (w64 (v3 + 1))
   else
   none
  else
  none
 else
 some ((-1))
theorem slices_Index_int_int.o1.run (N : Nat) (Kn26 : St D0 → Option slices_Index_int_int.R) (v0 : List Int) (v1 : Int) (v2 : Int) (v3 : Int) : runC slices_Index_int_int.C (slices_Index_int_int.O N) N slices_Index_int_int.c52 52 (mkSt [(0, .one (.sl false 3 v0)), (1, .one (.int .i64 v1)), (7, .one (.int .i64 v2)), (8, .one (.int .i64 v3))] [] : St D0) (onN (fun s => slices_Index_int_int.C.tidy 26 s ((onN Kn26 (blockK 0 (onN (fun s => slices_Index_int_int.C.tidy 6 s (fun s' => runC slices_Index_int_int.C (slices_Index_int_int.O N) N slices_Index_int_int.c7 7 s' slices_Index_int_int.K0)) slices_Index_int_int.K0))) .normal)) (onN Kn26 (blockK 0 (onN (fun s => slices_Index_int_int.C.tidy 6 s (fun s' => runC slices_Index_int_int.C (slices_Index_int_int.O N) N slices_Index_int_int.c7 7 s' slices_Index_int_int.K0)) slices_Index_int_int.K0)))) = slices_Index_int_int.o1 N v0 v1 v2 v3 ((fun w0 w1 w2 w3 => Kn26 (mkSt [(0, .one (.sl false 3 w0)), (1, .one (.int .i64 w1)), (7, .one (.int .i64 w2)), (8, .one (.int .i64 w3))] [] : St D0))) := by kernel_rfl
noncomputable def slices_Index_int_int.d1 (N : Nat) (v0 : List Int) (v1 : Int) (v2 : Int) (v3 : Int) (c1 : (List Int) → Int → Int → Int → Option slices_Index_int_int.R) : Option slices_Index_int_int.R := slices_Index_int_int.o1 N v0 v1 v2 v3 c1
theorem slices_Index_int_int.d1.run (N : Nat) (Kn26 : St D0 → Option slices_Index_int_int.R) (v0 : List Int) (v1 : Int) (v2 : Int) (v3 : Int) : runC slices_Index_int_int.C (slices_Index_int_int.O N) N slices_Index_int_int.c52 52 (mkSt [(0, .one (.sl false 3 v0)), (1, .one (.int .i64 v1)), (7, .one (.int .i64 v2)), (8, .one (.int .i64 v3))] [] : St D0) (slices_Index_int_int.K52 N Kn26) = slices_Index_int_int.d1 N v0 v1 v2 v3 ((fun w0 w1 w2 w3 => Kn26 (mkSt [(0, .one (.sl false 3 w0)), (1, .one (.int .i64 w1)), (7, .one (.int .i64 w2)), (8, .one (.int .i64 w3))] [] : St D0))) := by
  exact (slices_Index_int_int.o1.run N Kn26 v0 v1 v2 v3).trans rfl
noncomputable def slices_Index_int_int.K26 (N : Nat) : Ex → St D0 → Option slices_Index_int_int.R := (blockK 0 (onN (fun s => slices_Index_int_int.C.tidy 6 s (fun s' => runC slices_Index_int_int.C (slices_Index_int_int.O N) N slices_Index_int_int.c7 7 s' slices_Index_int_int.K0)) slices_Index_int_int.K0))
noncomputable def slices_Index_int_int.l1 (N : Nat) : Nat → (List Int) → Int → Int → Int → Option slices_Index_int_int.R
  | 0, _, _, _, _ => none
  | n + 1, v0, v1, v2, v3 => slices_Index_int_int.d1 N v0 v1 v2 v3 ((fun w0 w1 w2 w3 => slices_Index_int_int.l1 N n w0 w1 w2 w3))
theorem slices_Index_int_int.loop26 (N : Nat) : ∀ n, (∀ (v0 : List Int) (v1 : Int) (v2 : Int) (v3 : Int), iter (loopF slices_Index_int_int.C (slices_Index_int_int.O N) N slices_Index_int_int.c52 26) n (mkSt [(0, .one (.sl false 3 v0)), (1, .one (.int .i64 v1)), (7, .one (.int .i64 v2)), (8, .one (.int .i64 v3))] [] : St D0) (slices_Index_int_int.K26 N) = slices_Index_int_int.l1 N n v0 v1 v2 v3)
  | 0 => (fun v0 v1 v2 v3 => rfl)
  | n + 1 => (fun v0 v1 v2 v3 => (slices_Index_int_int.d1.run N (fun s => iter (loopF slices_Index_int_int.C (slices_Index_int_int.O N) N slices_Index_int_int.c52 26) n s (slices_Index_int_int.K26 N)) v0 v1 v2 v3).trans (show _ = slices_Index_int_int.d1 N v0 v1 v2 v3 ((fun w0 w1 w2 w3 => slices_Index_int_int.l1 N n w0 w1 w2 w3)) from (congr rfl (funext fun w0 => funext fun w1 => funext fun w2 => funext fun w3 => (slices_Index_int_int.loop26 N n) w0 w1 w2 w3))))
noncomputable def slices_Index_int_int.o0 (N : Nat) (a0 : List Int) (a1 : Int) (c1 : (List Int) → Int → Int → Int → Option slices_Index_int_int.R) : Option slices_Index_int_int.R :=
 c1 a0 a1 (a0.length : Int) 0
theorem slices_Index_int_int.o0.run (N : Nat) (H52 : Code) (a0 : List Int) (a1 : Int) : runC slices_Index_int_int.C (slices_Index_int_int.O N) N (.seq slices_Index_int_int.c2 (.seq (.seq slices_Index_int_int.c12 (.block 0 (.loop H52))) slices_Index_int_int.c7)) 1 (st0 [.one (.sl false 3 a0), .one (.int .i64 a1)] [] : St D0) slices_Index_int_int.K0 = slices_Index_int_int.o0 N a0 a1 ((fun w0 w1 w2 w3 => iter (loopF slices_Index_int_int.C (slices_Index_int_int.O N) N H52 26) N (mkSt [(0, .one (.sl false 3 w0)), (1, .one (.int .i64 w1)), (7, .one (.int .i64 w2)), (8, .one (.int .i64 w3))] [] : St D0) (blockK 0 (onN (fun s => slices_Index_int_int.C.tidy 6 s (fun s' => runC slices_Index_int_int.C (slices_Index_int_int.O N) N slices_Index_int_int.c7 7 s' slices_Index_int_int.K0)) slices_Index_int_int.K0)))) := by kernel_rfl
noncomputable def slices_Index_int_int.g (N : Nat) (a0 : List Int) (a1 : Int) : Option slices_Index_int_int.R := slices_Index_int_int.o0 N a0 a1 ((fun w0 w1 w2 w3 => slices_Index_int_int.l1 N N w0 w1 w2 w3))
theorem slices_Index_int_int.c1_0 : slices_Index_int_int.c1 = (.seq slices_Index_int_int.c2 (.seq (.seq slices_Index_int_int.c12 (.block 0 (.loop slices_Index_int_int.c52))) slices_Index_int_int.c7)) := by kernel_rfl
theorem slices_Index_int_int.g.run (N : Nat) (a0 : List Int) (a1 : Int) : runC slices_Index_int_int.C (slices_Index_int_int.O N) N slices_Index_int_int.c1 1 (st0 [.one (.sl false 3 a0), .one (.int .i64 a1)] [] : St D0) slices_Index_int_int.K0 = slices_Index_int_int.g N a0 a1 := by
  rw [slices_Index_int_int.c1_0]; unfold slices_Index_int_int.g; exact (slices_Index_int_int.o0.run N slices_Index_int_int.c52 a0 a1).trans (congr rfl (funext fun w0 => funext fun w1 => funext fun w2 => funext fun w3 => (slices_Index_int_int.loop26 N N) w0 w1 w2 w3))
theorem slices_Index_int_int.good (N : Nat) (a0 : List Int) (a1 : Int) (r : slices_Index_int_int.R) (h : slices_Index_int_int.g N a0 a1 = some r) : Go.PM.Good Go.Proofs.Try.prog T0 68 [.one (.sl false 3 a0), .one (.int .i64 a1)] [] (slices_Index_int_int.sig.ret r) (slices_Index_int_int.sig.bs r) :=
  good_fn tabOk0 mixed0 slices_Index_int_int.sig (slices_Index_int_int.E N) Go.Proofs.Try.func68 (by kernel_rfl) (by kernel_rfl) 66483 0 0 [(26, [0, 1, 7, 8], [])] 14400 false [] [(false, [.any])] (by kernel_rfl) rfl rfl ((slices_Index_int_int.g.run N a0 a1).trans h)
noncomputable def slices_Index_int_int.ent (N : Nat) : Ent Go.Proofs.Try.prog T0 := mkEnt 68 [(false, [.ro 3]), (false, [.any])] slices_Index_int_int.sig (fun t => slices_Index_int_int.g N t.1 t.2) (fun t r h => slices_Index_int_int.good N t.1 t.2 r h)
end Go.Proofs.Ytpmipkbfohcjiaa.M

namespace Go.Proofs.Ytpmipkbfohcjiaa.M
open Go Go.PM Go.Proofs.Ytpmipkbfohcjiaa.P
set_option linter.unusedVariables false
set_option maxRecDepth 100000
/-! ### slices_Contains_int_int -/
abbrev slices_Contains_int_int.R : Type := Bool
abbrev slices_Contains_int_int.sig : Sig := ⟨[(false, 1), (false, 1)], [], [.sl false 3, .int .i64], [(false, 1)], [], [.bool]⟩
noncomputable def slices_Contains_int_int.C : Cfg D0 := ⟨Go.Proofs.Try.prog, T0, 19, 0, 9, 0, [], 96, false, []⟩
noncomputable def slices_Contains_int_int.E (N : Nat) : List (Ent Go.Proofs.Try.prog T0) := [slices_Index_int_int.ent N]
noncomputable def slices_Contains_int_int.O (N : Nat) : Orc D0 slices_Contains_int_int.R := orcOf (slices_Contains_int_int.E N)
noncomputable def slices_Contains_int_int.K0 : Ex → St D0 → Option slices_Contains_int_int.R := exitK slices_Contains_int_int.C Go.Proofs.Try.f55.results.toList [(false, [.any])] (decOut slices_Contains_int_int.sig)
noncomputable def slices_Contains_int_int.c1 : Code := codeAt (Go.Proofs.Try.f55.body.getD .skip) []
noncomputable def slices_Contains_int_int.o0 (N : Nat) (a0 : List Int) (a1 : Int) : Option slices_Contains_int_int.R :=
 (slices_Index_int_int.g N a0 a1).bind fun r1 =>
 some ((decide (r1 ≥ 0)))
theorem slices_Contains_int_int.o0.run (N : Nat) (a0 : List Int) (a1 : Int) : runC slices_Contains_int_int.C (slices_Contains_int_int.O N) N slices_Contains_int_int.c1 1 (st0 [.one (.sl false 3 a0), .one (.int .i64 a1)] [] : St D0) slices_Contains_int_int.K0 = slices_Contains_int_int.o0 N a0 a1 := by kernel_rfl
noncomputable def slices_Contains_int_int.g (N : Nat) (a0 : List Int) (a1 : Int) : Option slices_Contains_int_int.R := slices_Contains_int_int.o0 N a0 a1
theorem slices_Contains_int_int.g.run (N : Nat) (a0 : List Int) (a1 : Int) : runC slices_Contains_int_int.C (slices_Contains_int_int.O N) N slices_Contains_int_int.c1 1 (st0 [.one (.sl false 3 a0), .one (.int .i64 a1)] [] : St D0) slices_Contains_int_int.K0 = slices_Contains_int_int.g N a0 a1 := by
  exact (slices_Contains_int_int.o0.run N a0 a1).trans rfl
theorem slices_Contains_int_int.good (N : Nat) (a0 : List Int) (a1 : Int) (r : slices_Contains_int_int.R) (h : slices_Contains_int_int.g N a0 a1 = some r) : Go.PM.Good Go.Proofs.Try.prog T0 55 [.one (.sl false 3 a0), .one (.int .i64 a1)] [] (slices_Contains_int_int.sig.ret r) (slices_Contains_int_int.sig.bs r) :=
  good_fn tabOk0 mixed0 slices_Contains_int_int.sig (slices_Contains_int_int.E N) Go.Proofs.Try.func55 (by kernel_rfl) (by kernel_rfl) 19 0 0 [] 96 false [] [(false, [.any])] (by kernel_rfl) rfl rfl ((slices_Contains_int_int.g.run N a0 a1).trans h)
noncomputable def slices_Contains_int_int.ent (N : Nat) : Ent Go.Proofs.Try.prog T0 := mkEnt 55 [(false, [.ro 3]), (false, [.any])] slices_Contains_int_int.sig (fun t => slices_Contains_int_int.g N t.1 t.2) (fun t r h => slices_Contains_int_int.good N t.1 t.2 r h)
end Go.Proofs.Ytpmipkbfohcjiaa.M

namespace Go.Proofs.Ytpmipkbfohcjiaa.M
open Go Go.PM Go.Proofs.Ytpmipkbfohcjiaa.P
set_option linter.unusedVariables false
set_option maxRecDepth 100000
/-! ### laws_kHas -/
abbrev laws_kHas.R : Type := Bool
abbrev laws_kHas.sig : Sig := ⟨[(false, 1), (false, 1)], [], [.sl false 3, .int .i64], [(false, 1)], [], [.bool]⟩
noncomputable def laws_kHas.C : Cfg D0 := ⟨Go.Proofs.Try.prog, T0, 34771, 0, 17, 0, [(26, [1, 7, 8, 9], [])], 24576, false, []⟩
noncomputable def laws_kHas.E (N : Nat) : List (Ent Go.Proofs.Try.prog T0) := []
noncomputable def laws_kHas.O (N : Nat) : Orc D0 laws_kHas.R := orcOf (laws_kHas.E N)
noncomputable def laws_kHas.K0 : Ex → St D0 → Option laws_kHas.R := exitK laws_kHas.C Go.Proofs.Try.f24.results.toList [(false, [.any])] (decOut laws_kHas.sig)
noncomputable def laws_kHas.c1 : Code := codeAt (Go.Proofs.Try.f24.body.getD .skip) []
noncomputable def laws_kHas.c2 : Code := codeAt (Go.Proofs.Try.f24.body.getD .skip) [false]
noncomputable def laws_kHas.c7 : Code := codeAt (Go.Proofs.Try.f24.body.getD .skip) [true, true]
noncomputable def laws_kHas.c12 : Code := codeAt (Go.Proofs.Try.f24.body.getD .skip) [true, false, false]
noncomputable def laws_kHas.c52 : Code := codeAt (Go.Proofs.Try.f24.body.getD .skip) [true, false, true, false, false]
noncomputable def laws_kHas.K52 (N : Nat) (Kn26 : St D0 → Option laws_kHas.R) : Ex → St D0 → Option laws_kHas.R := (onN (fun s => laws_kHas.C.tidy 26 s ((onN Kn26 (blockK 0 (onN (fun s => laws_kHas.C.tidy 6 s (fun s' => runC laws_kHas.C (laws_kHas.O N) N laws_kHas.c7 7 s' laws_kHas.K0)) laws_kHas.K0))) .normal)) (onN Kn26 (blockK 0 (onN (fun s => laws_kHas.C.tidy 6 s (fun s' => runC laws_kHas.C (laws_kHas.O N) N laws_kHas.c7 7 s' laws_kHas.K0)) laws_kHas.K0))))
noncomputable def laws_kHas.o1 (N : Nat) (v0 : Int) (v1 : List Int) (v2 : Int) (v3 : Int) (c1 : Int → (List Int) → Int → Int → Option laws_kHas.R) : Option laws_kHas.R :=
 bif (decide (v3 < v2)) then
  bif (decide (0 ≤ v3)) then
   bif (decide (v3 < (v1.length : Int))) then
    (v1[(v3 : Int).toNat]?).bind fun x1 =>
    bif (x1 == v0) then
     some (true)
    else
    c1 v0 v1 v2 (w64 (v3 + 1))
   else
   none
  else
  none
 else
 some (false)
theorem laws_kHas.o1.run (N : Nat) (Kn26 : St D0 → Option laws_kHas.R) (v0 : Int) (v1 : List Int) (v2 : Int) (v3 : Int) : runC laws_kHas.C (laws_kHas.O N) N laws_kHas.c52 52 (mkSt [(1, .one (.int .i64 v0)), (7, .one (.sl false 3 v1)), (8, .one (.int .i64 v2)), (9, .one (.int .i64 v3))] [] : St D0) (onN (fun s => laws_kHas.C.tidy 26 s ((onN Kn26 (blockK 0 (onN (fun s => laws_kHas.C.tidy 6 s (fun s' => runC laws_kHas.C (laws_kHas.O N) N laws_kHas.c7 7 s' laws_kHas.K0)) laws_kHas.K0))) .normal)) (onN Kn26 (blockK 0 (onN (fun s => laws_kHas.C.tidy 6 s (fun s' => runC laws_kHas.C (laws_kHas.O N) N laws_kHas.c7 7 s' laws_kHas.K0)) laws_kHas.K0)))) = laws_kHas.o1 N v0 v1 v2 v3 ((fun w0 w1 w2 w3 => Kn26 (mkSt [(1, .one (.int .i64 w0)), (7, .one (.sl false 3 w1)), (8, .one (.int .i64 w2)), (9, .one (.int .i64 w3))] [] : St D0))) := by kernel_rfl
noncomputable def laws_kHas.d1 (N : Nat) (v0 : Int) (v1 : List Int) (v2 : Int) (v3 : Int) (c1 : Int → (List Int) → Int → Int → Option laws_kHas.R) : Option laws_kHas.R := laws_kHas.o1 N v0 v1 v2 v3 c1
theorem laws_kHas.d1.run (N : Nat) (Kn26 : St D0 → Option laws_kHas.R) (v0 : Int) (v1 : List Int) (v2 : Int) (v3 : Int) : runC laws_kHas.C (laws_kHas.O N) N laws_kHas.c52 52 (mkSt [(1, .one (.int .i64 v0)), (7, .one (.sl false 3 v1)), (8, .one (.int .i64 v2)), (9, .one (.int .i64 v3))] [] : St D0) (laws_kHas.K52 N Kn26) = laws_kHas.d1 N v0 v1 v2 v3 ((fun w0 w1 w2 w3 => Kn26 (mkSt [(1, .one (.int .i64 w0)), (7, .one (.sl false 3 w1)), (8, .one (.int .i64 w2)), (9, .one (.int .i64 w3))] [] : St D0))) := by
  exact (laws_kHas.o1.run N Kn26 v0 v1 v2 v3).trans rfl
noncomputable def laws_kHas.K26 (N : Nat) : Ex → St D0 → Option laws_kHas.R := (blockK 0 (onN (fun s => laws_kHas.C.tidy 6 s (fun s' => runC laws_kHas.C (laws_kHas.O N) N laws_kHas.c7 7 s' laws_kHas.K0)) laws_kHas.K0))
noncomputable def laws_kHas.l1 (N : Nat) : Nat → Int → (List Int) → Int → Int → Option laws_kHas.R
  | 0, _, _, _, _ => none
  | n + 1, v0, v1, v2, v3 => laws_kHas.d1 N v0 v1 v2 v3 ((fun w0 w1 w2 w3 => laws_kHas.l1 N n w0 w1 w2 w3))
theorem laws_kHas.loop26 (N : Nat) : ∀ n, (∀ (v0 : Int) (v1 : List Int) (v2 : Int) (v3 : Int), iter (loopF laws_kHas.C (laws_kHas.O N) N laws_kHas.c52 26) n (mkSt [(1, .one (.int .i64 v0)), (7, .one (.sl false 3 v1)), (8, .one (.int .i64 v2)), (9, .one (.int .i64 v3))] [] : St D0) (laws_kHas.K26 N) = laws_kHas.l1 N n v0 v1 v2 v3)
  | 0 => (fun v0 v1 v2 v3 => rfl)
  | n + 1 => (fun v0 v1 v2 v3 => (laws_kHas.d1.run N (fun s => iter (loopF laws_kHas.C (laws_kHas.O N) N laws_kHas.c52 26) n s (laws_kHas.K26 N)) v0 v1 v2 v3).trans (show _ = laws_kHas.d1 N v0 v1 v2 v3 ((fun w0 w1 w2 w3 => laws_kHas.l1 N n w0 w1 w2 w3)) from (congr rfl (funext fun w0 => funext fun w1 => funext fun w2 => funext fun w3 => (laws_kHas.loop26 N n) w0 w1 w2 w3))))
noncomputable def laws_kHas.o0 (N : Nat) (a0 : List Int) (a1 : Int) (c1 : Int → (List Int) → Int → Int → Option laws_kHas.R) : Option laws_kHas.R :=
 c1 a1 a0 (a0.length : Int) 0
theorem laws_kHas.o0.run (N : Nat) (H52 : Code) (a0 : List Int) (a1 : Int) : runC laws_kHas.C (laws_kHas.O N) N (.seq laws_kHas.c2 (.seq (.seq laws_kHas.c12 (.block 0 (.loop H52))) laws_kHas.c7)) 1 (st0 [.one (.sl false 3 a0), .one (.int .i64 a1)] [] : St D0) laws_kHas.K0 = laws_kHas.o0 N a0 a1 ((fun w0 w1 w2 w3 => iter (loopF laws_kHas.C (laws_kHas.O N) N H52 26) N (mkSt [(1, .one (.int .i64 w0)), (7, .one (.sl false 3 w1)), (8, .one (.int .i64 w2)), (9, .one (.int .i64 w3))] [] : St D0) (blockK 0 (onN (fun s => laws_kHas.C.tidy 6 s (fun s' => runC laws_kHas.C (laws_kHas.O N) N laws_kHas.c7 7 s' laws_kHas.K0)) laws_kHas.K0)))) := by kernel_rfl
noncomputable def laws_kHas.g (N : Nat) (a0 : List Int) (a1 : Int) : Option laws_kHas.R := laws_kHas.o0 N a0 a1 ((fun w0 w1 w2 w3 => laws_kHas.l1 N N w0 w1 w2 w3))
theorem laws_kHas.c1_0 : laws_kHas.c1 = (.seq laws_kHas.c2 (.seq (.seq laws_kHas.c12 (.block 0 (.loop laws_kHas.c52))) laws_kHas.c7)) := by kernel_rfl
theorem laws_kHas.g.run (N : Nat) (a0 : List Int) (a1 : Int) : runC laws_kHas.C (laws_kHas.O N) N laws_kHas.c1 1 (st0 [.one (.sl false 3 a0), .one (.int .i64 a1)] [] : St D0) laws_kHas.K0 = laws_kHas.g N a0 a1 := by
  rw [laws_kHas.c1_0]; unfold laws_kHas.g; exact (laws_kHas.o0.run N laws_kHas.c52 a0 a1).trans (congr rfl (funext fun w0 => funext fun w1 => funext fun w2 => funext fun w3 => (laws_kHas.loop26 N N) w0 w1 w2 w3))
theorem laws_kHas.good (N : Nat) (a0 : List Int) (a1 : Int) (r : laws_kHas.R) (h : laws_kHas.g N a0 a1 = some r) : Go.PM.Good Go.Proofs.Try.prog T0 24 [.one (.sl false 3 a0), .one (.int .i64 a1)] [] (laws_kHas.sig.ret r) (laws_kHas.sig.bs r) :=
  good_fn tabOk0 mixed0 laws_kHas.sig (laws_kHas.E N) Go.Proofs.Try.func24 (by kernel_rfl) (by kernel_rfl) 34771 0 0 [(26, [1, 7, 8, 9], [])] 24576 false [] [(false, [.any])] (by kernel_rfl) rfl rfl ((laws_kHas.g.run N a0 a1).trans h)
noncomputable def laws_kHas.ent (N : Nat) : Ent Go.Proofs.Try.prog T0 := mkEnt 24 [(false, [.ro 3]), (false, [.any])] laws_kHas.sig (fun t => laws_kHas.g N t.1 t.2) (fun t r h => laws_kHas.good N t.1 t.2 r h)
end Go.Proofs.Ytpmipkbfohcjiaa.M

namespace Go.Proofs.Ytpmipkbfohcjiaa.M
open Go Go.PM Go.Proofs.Ytpmipkbfohcjiaa.P
set_option linter.unusedVariables false
set_option maxRecDepth 100000
/-! ### spec_beTimes -/
abbrev spec_beTimes.R : Type := Int
abbrev spec_beTimes.sig : Sig := ⟨[(false, 1), (false, 1)], [], [.sl false 3, .int .i64], [(false, 1)], [], [.int .i64]⟩
noncomputable def spec_beTimes.C : Cfg D0 := ⟨Go.Proofs.Try.prog, T0, 33562611, 0, 35, 0, [(58, [0, 1, 5, 9, 10, 11], []), (14950, [0, 1, 5, 7, 8, 9, 10, 11], [])], 1953693696, false, []⟩
noncomputable def spec_beTimes.E (N : Nat) : List (Ent Go.Proofs.Try.prog T0) := []
noncomputable def spec_beTimes.O (N : Nat) : Orc D0 spec_beTimes.R := orcOf (spec_beTimes.E N)
noncomputable def spec_beTimes.K0 : Ex → St D0 → Option spec_beTimes.R := exitK spec_beTimes.C Go.Proofs.Try.f41.results.toList [(false, [.any])] (decOut spec_beTimes.sig)
noncomputable def spec_beTimes.c1 : Code := codeAt (Go.Proofs.Try.f41.body.getD .skip) []
noncomputable def spec_beTimes.c2 : Code := codeAt (Go.Proofs.Try.f41.body.getD .skip) [false]
noncomputable def spec_beTimes.c6 : Code := codeAt (Go.Proofs.Try.f41.body.getD .skip) [true, false]
noncomputable def spec_beTimes.c15 : Code := codeAt (Go.Proofs.Try.f41.body.getD .skip) [true, true, true]
noncomputable def spec_beTimes.c28 : Code := codeAt (Go.Proofs.Try.f41.body.getD .skip) [true, true, false, false]
noncomputable def spec_beTimes.c116 : Code := codeAt (Go.Proofs.Try.f41.body.getD .skip) [true, true, false, true, false, false]
noncomputable def spec_beTimes.c232 : Code := codeAt (Go.Proofs.Try.f41.body.getD .skip) [true, true, false, true, false, false, false]
noncomputable def spec_beTimes.c466 : Code := codeAt (Go.Proofs.Try.f41.body.getD .skip) [true, true, false, true, false, false, true, false]
noncomputable def spec_beTimes.c935 : Code := codeAt (Go.Proofs.Try.f41.body.getD .skip) [true, true, false, true, false, false, true, true, true]
noncomputable def spec_beTimes.c3736 : Code := codeAt (Go.Proofs.Try.f41.body.getD .skip) [true, true, false, true, false, false, true, true, false, false, false]
noncomputable def spec_beTimes.c7474 : Code := codeAt (Go.Proofs.Try.f41.body.getD .skip) [true, true, false, true, false, false, true, true, false, false, true, false]
noncomputable def spec_beTimes.c14950 : Code := codeAt (Go.Proofs.Try.f41.body.getD .skip) [true, true, false, true, false, false, true, true, false, false, true, true, false]
noncomputable def spec_beTimes.c14951 : Code := codeAt (Go.Proofs.Try.f41.body.getD .skip) [true, true, false, true, false, false, true, true, false, false, true, true, true]
noncomputable def spec_beTimes.K14951 (N : Nat) (Kn58 : St D0 → Option spec_beTimes.R) : Ex → St D0 → Option spec_beTimes.R := (blockK 1 (onN (fun s => spec_beTimes.C.tidy 934 s (fun s' => runC spec_beTimes.C (spec_beTimes.O N) N spec_beTimes.c935 935 s' (onN (fun s => spec_beTimes.C.tidy 58 s ((onN Kn58 (blockK 0 (onN (fun s => spec_beTimes.C.tidy 14 s (fun s' => runC spec_beTimes.C (spec_beTimes.O N) N spec_beTimes.c15 15 s' spec_beTimes.K0)) spec_beTimes.K0))) .normal)) (onN Kn58 (blockK 0 (onN (fun s => spec_beTimes.C.tidy 14 s (fun s' => runC spec_beTimes.C (spec_beTimes.O N) N spec_beTimes.c15 15 s' spec_beTimes.K0)) spec_beTimes.K0)))))) (onN (fun s => spec_beTimes.C.tidy 58 s ((onN Kn58 (blockK 0 (onN (fun s => spec_beTimes.C.tidy 14 s (fun s' => runC spec_beTimes.C (spec_beTimes.O N) N spec_beTimes.c15 15 s' spec_beTimes.K0)) spec_beTimes.K0))) .normal)) (onN Kn58 (blockK 0 (onN (fun s => spec_beTimes.C.tidy 14 s (fun s' => runC spec_beTimes.C (spec_beTimes.O N) N spec_beTimes.c15 15 s' spec_beTimes.K0)) spec_beTimes.K0))))))
noncomputable def spec_beTimes.o2 (N : Nat) (v0 : List Int) (v1 : Int) (v2 : Int) (v3 : Int) (v4 : Int) (v5 : List Int) (v6 : Int) (v7 : Int) (c1 : (List Int) → Int → Int → (List Int) → Int → Int → Option spec_beTimes.R) : Option spec_beTimes.R :=
 c1 v0 v1 (w64 (v2 + (w64 (v3 * v4)))) v5 v6 (w64 (v7 + 1))
theorem spec_beTimes.o2.run (N : Nat) (Kn58 : St D0 → Option spec_beTimes.R) (v0 : List Int) (v1 : Int) (v2 : Int) (v3 : Int) (v4 : Int) (v5 : List Int) (v6 : Int) (v7 : Int) : runC spec_beTimes.C (spec_beTimes.O N) N spec_beTimes.c14951 14951 (mkSt [(0, .one (.sl false 3 v0)), (1, .one (.int .i64 v1)), (5, .one (.int .i64 v2)), (7, .one (.int .i64 v3)), (8, .one (.int .i64 v4)), (9, .one (.sl false 3 v5)), (10, .one (.int .i64 v6)), (11, .one (.int .i64 v7))] [] : St D0) (blockK 1 (onN (fun s => spec_beTimes.C.tidy 934 s (fun s' => runC spec_beTimes.C (spec_beTimes.O N) N spec_beTimes.c935 935 s' (onN (fun s => spec_beTimes.C.tidy 58 s ((onN Kn58 (blockK 0 (onN (fun s => spec_beTimes.C.tidy 14 s (fun s' => runC spec_beTimes.C (spec_beTimes.O N) N spec_beTimes.c15 15 s' spec_beTimes.K0)) spec_beTimes.K0))) .normal)) (onN Kn58 (blockK 0 (onN (fun s => spec_beTimes.C.tidy 14 s (fun s' => runC spec_beTimes.C (spec_beTimes.O N) N spec_beTimes.c15 15 s' spec_beTimes.K0)) spec_beTimes.K0)))))) (onN (fun s => spec_beTimes.C.tidy 58 s ((onN Kn58 (blockK 0 (onN (fun s => spec_beTimes.C.tidy 14 s (fun s' => runC spec_beTimes.C (spec_beTimes.O N) N spec_beTimes.c15 15 s' spec_beTimes.K0)) spec_beTimes.K0))) .normal)) (onN Kn58 (blockK 0 (onN (fun s => spec_beTimes.C.tidy 14 s (fun s' => runC spec_beTimes.C (spec_beTimes.O N) N spec_beTimes.c15 15 s' spec_beTimes.K0)) spec_beTimes.K0)))))) = spec_beTimes.o2 N v0 v1 v2 v3 v4 v5 v6 v7 ((fun w0 w1 w2 w3 w4 w5 => Kn58 (mkSt [(0, .one (.sl false 3 w0)), (1, .one (.int .i64 w1)), (5, .one (.int .i64 w2)), (9, .one (.sl false 3 w3)), (10, .one (.int .i64 w4)), (11, .one (.int .i64 w5))] [] : St D0))) := by kernel_rfl
noncomputable def spec_beTimes.d2 (N : Nat) (v0 : List Int) (v1 : Int) (v2 : Int) (v3 : Int) (v4 : Int) (v5 : List Int) (v6 : Int) (v7 : Int) (c1 : (List Int) → Int → Int → (List Int) → Int → Int → Option spec_beTimes.R) : Option spec_beTimes.R := spec_beTimes.o2 N v0 v1 v2 v3 v4 v5 v6 v7 c1
theorem spec_beTimes.d2.run (N : Nat) (Kn58 : St D0 → Option spec_beTimes.R) (v0 : List Int) (v1 : Int) (v2 : Int) (v3 : Int) (v4 : Int) (v5 : List Int) (v6 : Int) (v7 : Int) : runC spec_beTimes.C (spec_beTimes.O N) N spec_beTimes.c14951 14951 (mkSt [(0, .one (.sl false 3 v0)), (1, .one (.int .i64 v1)), (5, .one (.int .i64 v2)), (7, .one (.int .i64 v3)), (8, .one (.int .i64 v4)), (9, .one (.sl false 3 v5)), (10, .one (.int .i64 v6)), (11, .one (.int .i64 v7))] [] : St D0) (spec_beTimes.K14951 N Kn58) = spec_beTimes.d2 N v0 v1 v2 v3 v4 v5 v6 v7 ((fun w0 w1 w2 w3 w4 w5 => Kn58 (mkSt [(0, .one (.sl false 3 w0)), (1, .one (.int .i64 w1)), (5, .one (.int .i64 w2)), (9, .one (.sl false 3 w3)), (10, .one (.int .i64 w4)), (11, .one (.int .i64 w5))] [] : St D0))) := by
  exact (spec_beTimes.o2.run N Kn58 v0 v1 v2 v3 v4 v5 v6 v7).trans rfl
noncomputable def spec_beTimes.K116 (N : Nat) (Kn58 : St D0 → Option spec_beTimes.R) : Ex → St D0 → Option spec_beTimes.R := (onN (fun s => spec_beTimes.C.tidy 58 s ((onN Kn58 (blockK 0 (onN (fun s => spec_beTimes.C.tidy 14 s (fun s' => runC spec_beTimes.C (spec_beTimes.O N) N spec_beTimes.c15 15 s' spec_beTimes.K0)) spec_beTimes.K0))) .normal)) (onN Kn58 (blockK 0 (onN (fun s => spec_beTimes.C.tidy 14 s (fun s' => runC spec_beTimes.C (spec_beTimes.O N) N spec_beTimes.c15 15 s' spec_beTimes.K0)) spec_beTimes.K0))))
noncomputable def spec_beTimes.o1 (N : Nat) (v0 : List Int) (v1 : Int) (v2 : Int) (v3 : List Int) (v4 : Int) (v5 : Int) (c2 : (List Int) → Int → Int → Int → Int → (List Int) → Int → Int → Option spec_beTimes.R) : Option spec_beTimes.R :=
 bif (decide (v5 < v4)) then
  bif (decide (0 ≤ v5)) then
   bif (decide (v5 < (v3.length : Int))) then
    (v3[(v5 : Int).toNat]?).bind fun x1 =>
    bif ((v0.length : Int) == 0) then
     none
    else
    bif ((v0.length : Int) == 0) then
     none
    else
    bif (decide (v5 < (Int.tmod v1 (v0.length : Int)))) then
     c2 v0 v1 v2 x1 (w64 ((w64 (Int.tdiv v1 (v0.length : Int))) + 1)) v3 v4 v5
    else
    c2 v0 v1 v2 x1 (w64 (Int.tdiv v1 (v0.length : Int))) v3 v4 v5
   else
   none
  else
  none
 else
 some (v2)
theorem spec_beTimes.o1.run (N : Nat) (Kn58 : St D0 → Option spec_beTimes.R) (H14951 : Code) (v0 : List Int) (v1 : Int) (v2 : Int) (v3 : List Int) (v4 : Int) (v5 : Int) : runC spec_beTimes.C (spec_beTimes.O N) N (.seq spec_beTimes.c232 (.seq spec_beTimes.c466 (.seq (.block 1 (.seq spec_beTimes.c3736 (.seq spec_beTimes.c7474 (.seq spec_beTimes.c14950 H14951)))) spec_beTimes.c935))) 116 (mkSt [(0, .one (.sl false 3 v0)), (1, .one (.int .i64 v1)), (5, .one (.int .i64 v2)), (9, .one (.sl false 3 v3)), (10, .one (.int .i64 v4)), (11, .one (.int .i64 v5))] [] : St D0) (onN (fun s => spec_beTimes.C.tidy 58 s ((onN Kn58 (blockK 0 (onN (fun s => spec_beTimes.C.tidy 14 s (fun s' => runC spec_beTimes.C (spec_beTimes.O N) N spec_beTimes.c15 15 s' spec_beTimes.K0)) spec_beTimes.K0))) .normal)) (onN Kn58 (blockK 0 (onN (fun s => spec_beTimes.C.tidy 14 s (fun s' => runC spec_beTimes.C (spec_beTimes.O N) N spec_beTimes.c15 15 s' spec_beTimes.K0)) spec_beTimes.K0)))) = spec_beTimes.o1 N v0 v1 v2 v3 v4 v5 ((fun w0 w1 w2 w3 w4 w5 w6 w7 => runC spec_beTimes.C (spec_beTimes.O N) N H14951 14951 (mkSt [(0, .one (.sl false 3 w0)), (1, .one (.int .i64 w1)), (5, .one (.int .i64 w2)), (7, .one (.int .i64 w3)), (8, .one (.int .i64 w4)), (9, .one (.sl false 3 w5)), (10, .one (.int .i64 w6)), (11, .one (.int .i64 w7))] [] : St D0) (blockK 1 (onN (fun s => spec_beTimes.C.tidy 934 s (fun s' => runC spec_beTimes.C (spec_beTimes.O N) N spec_beTimes.c935 935 s' (onN (fun s => spec_beTimes.C.tidy 58 s ((onN Kn58 (blockK 0 (onN (fun s => spec_beTimes.C.tidy 14 s (fun s' => runC spec_beTimes.C (spec_beTimes.O N) N spec_beTimes.c15 15 s' spec_beTimes.K0)) spec_beTimes.K0))) .normal)) (onN Kn58 (blockK 0 (onN (fun s => spec_beTimes.C.tidy 14 s (fun s' => runC spec_beTimes.C (spec_beTimes.O N) N spec_beTimes.c15 15 s' spec_beTimes.K0)) spec_beTimes.K0)))))) (onN (fun s => spec_beTimes.C.tidy 58 s ((onN Kn58 (blockK 0 (onN (fun s => spec_beTimes.C.tidy 14 s (fun s' => runC spec_beTimes.C (spec_beTimes.O N) N spec_beTimes.c15 15 s' spec_beTimes.K0)) spec_beTimes.K0))) .normal)) (onN Kn58 (blockK 0 (onN (fun s => spec_beTimes.C.tidy 14 s (fun s' => runC spec_beTimes.C (spec_beTimes.O N) N spec_beTimes.c15 15 s' spec_beTimes.K0)) spec_beTimes.K0)))))))) := by kernel_rfl
noncomputable def spec_beTimes.B7475 (N : Nat) (Kn58 : St D0 → Option spec_beTimes.R) : St D0 → Option spec_beTimes.R := fun s' => runC spec_beTimes.C (spec_beTimes.O N) N spec_beTimes.c14951 14951 s' (spec_beTimes.K14951 N Kn58)
noncomputable def spec_beTimes.d1 (N : Nat) (v0 : List Int) (v1 : Int) (v2 : Int) (v3 : List Int) (v4 : Int) (v5 : Int) (c1 : (List Int) → Int → Int → (List Int) → Int → Int → Option spec_beTimes.R) : Option spec_beTimes.R := spec_beTimes.o1 N v0 v1 v2 v3 v4 v5 ((fun w0 w1 w2 w3 w4 w5 w6 w7 => spec_beTimes.d2 N w0 w1 w2 w3 w4 w5 w6 w7 c1))
theorem spec_beTimes.c116_1 : spec_beTimes.c116 = (.seq spec_beTimes.c232 (.seq spec_beTimes.c466 (.seq (.block 1 (.seq spec_beTimes.c3736 (.seq spec_beTimes.c7474 (.seq spec_beTimes.c14950 spec_beTimes.c14951)))) spec_beTimes.c935))) := by kernel_rfl
theorem spec_beTimes.d1.run (N : Nat) (Kn58 : St D0 → Option spec_beTimes.R) (v0 : List Int) (v1 : Int) (v2 : Int) (v3 : List Int) (v4 : Int) (v5 : Int) : runC spec_beTimes.C (spec_beTimes.O N) N spec_beTimes.c116 116 (mkSt [(0, .one (.sl false 3 v0)), (1, .one (.int .i64 v1)), (5, .one (.int .i64 v2)), (9, .one (.sl false 3 v3)), (10, .one (.int .i64 v4)), (11, .one (.int .i64 v5))] [] : St D0) (spec_beTimes.K116 N Kn58) = spec_beTimes.d1 N v0 v1 v2 v3 v4 v5 ((fun w0 w1 w2 w3 w4 w5 => Kn58 (mkSt [(0, .one (.sl false 3 w0)), (1, .one (.int .i64 w1)), (5, .one (.int .i64 w2)), (9, .one (.sl false 3 w3)), (10, .one (.int .i64 w4)), (11, .one (.int .i64 w5))] [] : St D0))) := by
  rw [spec_beTimes.c116_1]; unfold spec_beTimes.d1; exact (spec_beTimes.o1.run N Kn58 spec_beTimes.c14951 v0 v1 v2 v3 v4 v5).trans (congr rfl (funext fun w0 => funext fun w1 => funext fun w2 => funext fun w3 => funext fun w4 => funext fun w5 => funext fun w6 => funext fun w7 => spec_beTimes.d2.run N Kn58 w0 w1 w2 w3 w4 w5 w6 w7))
noncomputable def spec_beTimes.K58 (N : Nat) : Ex → St D0 → Option spec_beTimes.R := (blockK 0 (onN (fun s => spec_beTimes.C.tidy 14 s (fun s' => runC spec_beTimes.C (spec_beTimes.O N) N spec_beTimes.c15 15 s' spec_beTimes.K0)) spec_beTimes.K0))
noncomputable def spec_beTimes.l1 (N : Nat) : Nat → (List Int) → Int → Int → (List Int) → Int → Int → Option spec_beTimes.R
  | 0, _, _, _, _, _, _ => none
  | n + 1, v0, v1, v2, v3, v4, v5 => spec_beTimes.d1 N v0 v1 v2 v3 v4 v5 ((fun w0 w1 w2 w3 w4 w5 => spec_beTimes.l1 N n w0 w1 w2 w3 w4 w5))
theorem spec_beTimes.loop58 (N : Nat) : ∀ n, (∀ (v0 : List Int) (v1 : Int) (v2 : Int) (v3 : List Int) (v4 : Int) (v5 : Int), iter (loopF spec_beTimes.C (spec_beTimes.O N) N spec_beTimes.c116 58) n (mkSt [(0, .one (.sl false 3 v0)), (1, .one (.int .i64 v1)), (5, .one (.int .i64 v2)), (9, .one (.sl false 3 v3)), (10, .one (.int .i64 v4)), (11, .one (.int .i64 v5))] [] : St D0) (spec_beTimes.K58 N) = spec_beTimes.l1 N n v0 v1 v2 v3 v4 v5)
  | 0 => (fun v0 v1 v2 v3 v4 v5 => rfl)
  | n + 1 => (fun v0 v1 v2 v3 v4 v5 => (spec_beTimes.d1.run N (fun s => iter (loopF spec_beTimes.C (spec_beTimes.O N) N spec_beTimes.c116 58) n s (spec_beTimes.K58 N)) v0 v1 v2 v3 v4 v5).trans (show _ = spec_beTimes.d1 N v0 v1 v2 v3 v4 v5 ((fun w0 w1 w2 w3 w4 w5 => spec_beTimes.l1 N n w0 w1 w2 w3 w4 w5)) from (congr rfl (funext fun w0 => funext fun w1 => funext fun w2 => funext fun w3 => funext fun w4 => funext fun w5 => (spec_beTimes.loop58 N n) w0 w1 w2 w3 w4 w5))))
noncomputable def spec_beTimes.o0 (N : Nat) (a0 : List Int) (a1 : Int) (c1 : (List Int) → Int → Int → (List Int) → Int → Int → Option spec_beTimes.R) : Option spec_beTimes.R :=
 c1 a0 a1 0 a0 (a0.length : Int) 0
theorem spec_beTimes.o0.run (N : Nat) (H116 : Code) (a0 : List Int) (a1 : Int) : runC spec_beTimes.C (spec_beTimes.O N) N (.seq spec_beTimes.c2 (.seq spec_beTimes.c6 (.seq (.seq spec_beTimes.c28 (.block 0 (.loop H116))) spec_beTimes.c15))) 1 (st0 [.one (.sl false 3 a0), .one (.int .i64 a1)] [] : St D0) spec_beTimes.K0 = spec_beTimes.o0 N a0 a1 ((fun w0 w1 w2 w3 w4 w5 => iter (loopF spec_beTimes.C (spec_beTimes.O N) N H116 58) N (mkSt [(0, .one (.sl false 3 w0)), (1, .one (.int .i64 w1)), (5, .one (.int .i64 w2)), (9, .one (.sl false 3 w3)), (10, .one (.int .i64 w4)), (11, .one (.int .i64 w5))] [] : St D0) (blockK 0 (onN (fun s => spec_beTimes.C.tidy 14 s (fun s' => runC spec_beTimes.C (spec_beTimes.O N) N spec_beTimes.c15 15 s' spec_beTimes.K0)) spec_beTimes.K0)))) := by kernel_rfl
noncomputable def spec_beTimes.g (N : Nat) (a0 : List Int) (a1 : Int) : Option spec_beTimes.R := spec_beTimes.o0 N a0 a1 ((fun w0 w1 w2 w3 w4 w5 => spec_beTimes.l1 N N w0 w1 w2 w3 w4 w5))
theorem spec_beTimes.c1_0 : spec_beTimes.c1 = (.seq spec_beTimes.c2 (.seq spec_beTimes.c6 (.seq (.seq spec_beTimes.c28 (.block 0 (.loop spec_beTimes.c116))) spec_beTimes.c15))) := by kernel_rfl
theorem spec_beTimes.g.run (N : Nat) (a0 : List Int) (a1 : Int) : runC spec_beTimes.C (spec_beTimes.O N) N spec_beTimes.c1 1 (st0 [.one (.sl false 3 a0), .one (.int .i64 a1)] [] : St D0) spec_beTimes.K0 = spec_beTimes.g N a0 a1 := by
  rw [spec_beTimes.c1_0]; unfold spec_beTimes.g; exact (spec_beTimes.o0.run N spec_beTimes.c116 a0 a1).trans (congr rfl (funext fun w0 => funext fun w1 => funext fun w2 => funext fun w3 => funext fun w4 => funext fun w5 => (spec_beTimes.loop58 N N) w0 w1 w2 w3 w4 w5))
theorem spec_beTimes.good (N : Nat) (a0 : List Int) (a1 : Int) (r : spec_beTimes.R) (h : spec_beTimes.g N a0 a1 = some r) : Go.PM.Good Go.Proofs.Try.prog T0 41 [.one (.sl false 3 a0), .one (.int .i64 a1)] [] (spec_beTimes.sig.ret r) (spec_beTimes.sig.bs r) :=
  good_fn tabOk0 mixed0 spec_beTimes.sig (spec_beTimes.E N) Go.Proofs.Try.func41 (by kernel_rfl) (by kernel_rfl) 33562611 0 0 [(58, [0, 1, 5, 9, 10, 11], []), (14950, [0, 1, 5, 7, 8, 9, 10, 11], [])] 1953693696 false [] [(false, [.any])] (by kernel_rfl) rfl rfl ((spec_beTimes.g.run N a0 a1).trans h)
noncomputable def spec_beTimes.ent (N : Nat) : Ent Go.Proofs.Try.prog T0 := mkEnt 41 [(false, [.ro 3]), (false, [.any])] spec_beTimes.sig (fun t => spec_beTimes.g N t.1 t.2) (fun t r h => spec_beTimes.good N t.1 t.2 r h)
end Go.Proofs.Ytpmipkbfohcjiaa.M

namespace Go.Proofs.Ytpmipkbfohcjiaa.M
open Go Go.PM Go.Proofs.Ytpmipkbfohcjiaa.P
set_option linter.unusedVariables false
set_option maxRecDepth 100000
/-! ### spec_BellUpTo -/
abbrev spec_BellUpTo.R : Type := Int × Bool
abbrev spec_BellUpTo.sig : Sig := ⟨[(false, 1), (false, 1), (false, 1)], [], [.sl false 9, .int .i64, .int .i64], [(false, 1), (false, 1)], [], [.int .i64, .bool]⟩
noncomputable def spec_BellUpTo.C : Cfg D0 := ⟨Go.Proofs.Try.prog, T0, 16254407, 0, 37, 0, [(12, [0, 1, 2, 19], []), (122, [1, 2, 8, 20, 21, 22], [])], 26172528640, false, []⟩
noncomputable def spec_BellUpTo.E (N : Nat) : List (Ent Go.Proofs.Try.prog T0) := [spec_beAsked.ent N, spec_beIs.ent N, spec_beBell.ent N, spec_beBefore.ent N, spec_beTimes.ent N]
noncomputable def spec_BellUpTo.O (N : Nat) : Orc D0 spec_BellUpTo.R := orcOf (spec_BellUpTo.E N)
noncomputable def spec_BellUpTo.K0 : Ex → St D0 → Option spec_BellUpTo.R := exitK spec_BellUpTo.C Go.Proofs.Try.f27.results.toList [(false, [.any]), (false, [.any])] (decOut spec_BellUpTo.sig)
noncomputable def spec_BellUpTo.c1 : Code := codeAt (Go.Proofs.Try.f27.body.getD .skip) []
noncomputable def spec_BellUpTo.c2 : Code := codeAt (Go.Proofs.Try.f27.body.getD .skip) [false]
noncomputable def spec_BellUpTo.c7 : Code := codeAt (Go.Proofs.Try.f27.body.getD .skip) [true, true]
noncomputable def spec_BellUpTo.c12 : Code := codeAt (Go.Proofs.Try.f27.body.getD .skip) [true, false, false]
noncomputable def spec_BellUpTo.c13 : Code := codeAt (Go.Proofs.Try.f27.body.getD .skip) [true, false, true]
noncomputable def spec_BellUpTo.c14 : Code := codeAt (Go.Proofs.Try.f27.body.getD .skip) [true, true, false]
noncomputable def spec_BellUpTo.c31 : Code := codeAt (Go.Proofs.Try.f27.body.getD .skip) [true, true, true, true]
noncomputable def spec_BellUpTo.c60 : Code := codeAt (Go.Proofs.Try.f27.body.getD .skip) [true, true, true, false, false]
noncomputable def spec_BellUpTo.c244 : Code := codeAt (Go.Proofs.Try.f27.body.getD .skip) [true, true, true, false, true, false, false]
noncomputable def spec_BellUpTo.K244 (N : Nat) (Kn122 : St D0 → Option spec_BellUpTo.R) : Ex → St D0 → Option spec_BellUpTo.R := (onN (fun s => spec_BellUpTo.C.tidy 122 s ((onN Kn122 (blockK 0 (onN (fun s => spec_BellUpTo.C.tidy 30 s (fun s' => runC spec_BellUpTo.C (spec_BellUpTo.O N) N spec_BellUpTo.c31 31 s' spec_BellUpTo.K0)) spec_BellUpTo.K0))) .normal)) (onN Kn122 (blockK 0 (onN (fun s => spec_BellUpTo.C.tidy 30 s (fun s' => runC spec_BellUpTo.C (spec_BellUpTo.O N) N spec_BellUpTo.c31 31 s' spec_BellUpTo.K0)) spec_BellUpTo.K0))))
noncomputable def spec_BellUpTo.o2 (N : Nat) (v0 : Int) (v1 : Int) (v2 : List ByteArray) (v3 : Int) (v4 : Int) (c3 : Int → Int → (List Int) → (List ByteArray) → Int → Int → Option spec_BellUpTo.R) : Option spec_BellUpTo.R :=
 bif (decide (v4 < v3)) then
  bif (decide (0 ≤ v4)) then
   bif (decide (v4 < (v2.length : Int))) then
    (v2[(v4 : Int).toNat]?).bind fun x1 =>
    (spec_beBell.g N x1 v0).bind fun r2 =>
    bif (Nat.blt (([] : List Int).length + ([r2] : List Int).length) 17592186044416) then
     c3 v0 v1 (([] : List Int) ++ ([r2] : List Int)) v2 v3 (w64 (v4 + 1))
    else
    none
   else
   none
  else
  none
 else
 (spec_beBefore.g N v1).bind fun r3 =>
 (spec_beTimes.g N ([] : List Int) r3).bind fun r4 =>
 some (r4, true)
theorem spec_BellUpTo.o2.run (N : Nat) (Kn122 : St D0 → Option spec_BellUpTo.R) (v0 : Int) (v1 : Int) (v2 : List ByteArray) (v3 : Int) (v4 : Int) : runC spec_BellUpTo.C (spec_BellUpTo.O N) N spec_BellUpTo.c244 244 (mkSt [(1, .one (.int .i64 v0)), (2, .one (.int .i64 v1)), (8, .one (.nl)), (20, .one (.sl false 9 v2)), (21, .one (.int .i64 v3)), (22, .one (.int .i64 v4))] [] : St D0) (onN (fun s => spec_BellUpTo.C.tidy 122 s ((onN Kn122 (blockK 0 (onN (fun s => spec_BellUpTo.C.tidy 30 s (fun s' => runC spec_BellUpTo.C (spec_BellUpTo.O N) N spec_BellUpTo.c31 31 s' spec_BellUpTo.K0)) spec_BellUpTo.K0))) .normal)) (onN Kn122 (blockK 0 (onN (fun s => spec_BellUpTo.C.tidy 30 s (fun s' => runC spec_BellUpTo.C (spec_BellUpTo.O N) N spec_BellUpTo.c31 31 s' spec_BellUpTo.K0)) spec_BellUpTo.K0)))) = spec_BellUpTo.o2 N v0 v1 v2 v3 v4 ((fun w0 w1 w2 w3 w4 w5 => Kn122 (mkSt [(1, .one (.int .i64 w0)), (2, .one (.int .i64 w1)), (8, .one (.sl true 3 w2)), (20, .one (.sl false 9 w3)), (21, .one (.int .i64 w4)), (22, .one (.int .i64 w5))] [] : St D0))) := by kernel_rfl
noncomputable def spec_BellUpTo.d2 (N : Nat) (v0 : Int) (v1 : Int) (v2 : List ByteArray) (v3 : Int) (v4 : Int) (c3 : Int → Int → (List Int) → (List ByteArray) → Int → Int → Option spec_BellUpTo.R) : Option spec_BellUpTo.R := spec_BellUpTo.o2 N v0 v1 v2 v3 v4 c3
theorem spec_BellUpTo.d2.run (N : Nat) (Kn122 : St D0 → Option spec_BellUpTo.R) (v0 : Int) (v1 : Int) (v2 : List ByteArray) (v3 : Int) (v4 : Int) : runC spec_BellUpTo.C (spec_BellUpTo.O N) N spec_BellUpTo.c244 244 (mkSt [(1, .one (.int .i64 v0)), (2, .one (.int .i64 v1)), (8, .one (.nl)), (20, .one (.sl false 9 v2)), (21, .one (.int .i64 v3)), (22, .one (.int .i64 v4))] [] : St D0) (spec_BellUpTo.K244 N Kn122) = spec_BellUpTo.d2 N v0 v1 v2 v3 v4 ((fun w0 w1 w2 w3 w4 w5 => Kn122 (mkSt [(1, .one (.int .i64 w0)), (2, .one (.int .i64 w1)), (8, .one (.sl true 3 w2)), (20, .one (.sl false 9 w3)), (21, .one (.int .i64 w4)), (22, .one (.int .i64 w5))] [] : St D0))) := by
  exact (spec_BellUpTo.o2.run N Kn122 v0 v1 v2 v3 v4).trans rfl
noncomputable def spec_BellUpTo.o3 (N : Nat) (v0 : Int) (v1 : Int) (v2 : List Int) (v3 : List ByteArray) (v4 : Int) (v5 : Int) (c3 : Int → Int → (List Int) → (List ByteArray) → Int → Int → Option spec_BellUpTo.R) : Option spec_BellUpTo.R :=
 bif (decide (v5 < v4)) then
  bif (decide (0 ≤ v5)) then
   bif (decide (v5 < (v3.length : Int))) then
    (v3[(v5 : Int).toNat]?).bind fun x1 =>
    (spec_beBell.g N x1 v0).bind fun r2 =>
    bif (Nat.blt (v2.length + ([r2] : List Int).length) 17592186044416) then
     c3 v0 v1 (v2 ++ ([r2] : List Int)) v3 v4 (w64 (v5 + 1))
    else
    none
   else
   none
  else
  none
 else
 (spec_beBefore.g N v1).bind fun r3 =>
 (spec_beTimes.g N v2 r3).bind fun r4 =>
 some (r4, true)
theorem spec_BellUpTo.o3.run (N : Nat) (Kn122 : St D0 → Option spec_BellUpTo.R) (v0 : Int) (v1 : Int) (v2 : List Int) (v3 : List ByteArray) (v4 : Int) (v5 : Int) : runC spec_BellUpTo.C (spec_BellUpTo.O N) N spec_BellUpTo.c244 244 (mkSt [(1, .one (.int .i64 v0)), (2, .one (.int .i64 v1)), (8, .one (.sl true 3 v2)), (20, .one (.sl false 9 v3)), (21, .one (.int .i64 v4)), (22, .one (.int .i64 v5))] [] : St D0) (onN (fun s => spec_BellUpTo.C.tidy 122 s ((onN Kn122 (blockK 0 (onN (fun s => spec_BellUpTo.C.tidy 30 s (fun s' => runC spec_BellUpTo.C (spec_BellUpTo.O N) N spec_BellUpTo.c31 31 s' spec_BellUpTo.K0)) spec_BellUpTo.K0))) .normal)) (onN Kn122 (blockK 0 (onN (fun s => spec_BellUpTo.C.tidy 30 s (fun s' => runC spec_BellUpTo.C (spec_BellUpTo.O N) N spec_BellUpTo.c31 31 s' spec_BellUpTo.K0)) spec_BellUpTo.K0)))) = spec_BellUpTo.o3 N v0 v1 v2 v3 v4 v5 ((fun w0 w1 w2 w3 w4 w5 => Kn122 (mkSt [(1, .one (.int .i64 w0)), (2, .one (.int .i64 w1)), (8, .one (.sl true 3 w2)), (20, .one (.sl false 9 w3)), (21, .one (.int .i64 w4)), (22, .one (.int .i64 w5))] [] : St D0))) := by kernel_rfl
noncomputable def spec_BellUpTo.d3 (N : Nat) (v0 : Int) (v1 : Int) (v2 : List Int) (v3 : List ByteArray) (v4 : Int) (v5 : Int) (c3 : Int → Int → (List Int) → (List ByteArray) → Int → Int → Option spec_BellUpTo.R) : Option spec_BellUpTo.R := spec_BellUpTo.o3 N v0 v1 v2 v3 v4 v5 c3
theorem spec_BellUpTo.d3.run (N : Nat) (Kn122 : St D0 → Option spec_BellUpTo.R) (v0 : Int) (v1 : Int) (v2 : List Int) (v3 : List ByteArray) (v4 : Int) (v5 : Int) : runC spec_BellUpTo.C (spec_BellUpTo.O N) N spec_BellUpTo.c244 244 (mkSt [(1, .one (.int .i64 v0)), (2, .one (.int .i64 v1)), (8, .one (.sl true 3 v2)), (20, .one (.sl false 9 v3)), (21, .one (.int .i64 v4)), (22, .one (.int .i64 v5))] [] : St D0) (spec_BellUpTo.K244 N Kn122) = spec_BellUpTo.d3 N v0 v1 v2 v3 v4 v5 ((fun w0 w1 w2 w3 w4 w5 => Kn122 (mkSt [(1, .one (.int .i64 w0)), (2, .one (.int .i64 w1)), (8, .one (.sl true 3 w2)), (20, .one (.sl false 9 w3)), (21, .one (.int .i64 w4)), (22, .one (.int .i64 w5))] [] : St D0))) := by
  exact (spec_BellUpTo.o3.run N Kn122 v0 v1 v2 v3 v4 v5).trans rfl
noncomputable def spec_BellUpTo.K122 (N : Nat) : Ex → St D0 → Option spec_BellUpTo.R := (blockK 0 (onN (fun s => spec_BellUpTo.C.tidy 30 s (fun s' => runC spec_BellUpTo.C (spec_BellUpTo.O N) N spec_BellUpTo.c31 31 s' spec_BellUpTo.K0)) spec_BellUpTo.K0))
mutual
noncomputable def spec_BellUpTo.l2 (N : Nat) : Nat → Int → Int → (List ByteArray) → Int → Int → Option spec_BellUpTo.R
  | 0, _, _, _, _, _ => none
  | n + 1, v0, v1, v2, v3, v4 => spec_BellUpTo.d2 N v0 v1 v2 v3 v4 ((fun w0 w1 w2 w3 w4 w5 => spec_BellUpTo.l3 N n w0 w1 w2 w3 w4 w5))
noncomputable def spec_BellUpTo.l3 (N : Nat) : Nat → Int → Int → (List Int) → (List ByteArray) → Int → Int → Option spec_BellUpTo.R
  | 0, _, _, _, _, _, _ => none
  | n + 1, v0, v1, v2, v3, v4, v5 => spec_BellUpTo.d3 N v0 v1 v2 v3 v4 v5 ((fun w0 w1 w2 w3 w4 w5 => spec_BellUpTo.l3 N n w0 w1 w2 w3 w4 w5))
end
theorem spec_BellUpTo.loop122 (N : Nat) : ∀ n, (∀ (v0 : Int) (v1 : Int) (v2 : List ByteArray) (v3 : Int) (v4 : Int), iter (loopF spec_BellUpTo.C (spec_BellUpTo.O N) N spec_BellUpTo.c244 122) n (mkSt [(1, .one (.int .i64 v0)), (2, .one (.int .i64 v1)), (8, .one (.nl)), (20, .one (.sl false 9 v2)), (21, .one (.int .i64 v3)), (22, .one (.int .i64 v4))] [] : St D0) (spec_BellUpTo.K122 N) = spec_BellUpTo.l2 N n v0 v1 v2 v3 v4) ∧ (∀ (v0 : Int) (v1 : Int) (v2 : List Int) (v3 : List ByteArray) (v4 : Int) (v5 : Int), iter (loopF spec_BellUpTo.C (spec_BellUpTo.O N) N spec_BellUpTo.c244 122) n (mkSt [(1, .one (.int .i64 v0)), (2, .one (.int .i64 v1)), (8, .one (.sl true 3 v2)), (20, .one (.sl false 9 v3)), (21, .one (.int .i64 v4)), (22, .one (.int .i64 v5))] [] : St D0) (spec_BellUpTo.K122 N) = spec_BellUpTo.l3 N n v0 v1 v2 v3 v4 v5)
  | 0 => ⟨(fun v0 v1 v2 v3 v4 => rfl), (fun v0 v1 v2 v3 v4 v5 => rfl)⟩
  | n + 1 => ⟨(fun v0 v1 v2 v3 v4 => (spec_BellUpTo.d2.run N (fun s => iter (loopF spec_BellUpTo.C (spec_BellUpTo.O N) N spec_BellUpTo.c244 122) n s (spec_BellUpTo.K122 N)) v0 v1 v2 v3 v4).trans (show _ = spec_BellUpTo.d2 N v0 v1 v2 v3 v4 ((fun w0 w1 w2 w3 w4 w5 => spec_BellUpTo.l3 N n w0 w1 w2 w3 w4 w5)) from (congr rfl (funext fun w0 => funext fun w1 => funext fun w2 => funext fun w3 => funext fun w4 => funext fun w5 => (spec_BellUpTo.loop122 N n).2 w0 w1 w2 w3 w4 w5)))), (fun v0 v1 v2 v3 v4 v5 => (spec_BellUpTo.d3.run N (fun s => iter (loopF spec_BellUpTo.C (spec_BellUpTo.O N) N spec_BellUpTo.c244 122) n s (spec_BellUpTo.K122 N)) v0 v1 v2 v3 v4 v5).trans (show _ = spec_BellUpTo.d3 N v0 v1 v2 v3 v4 v5 ((fun w0 w1 w2 w3 w4 w5 => spec_BellUpTo.l3 N n w0 w1 w2 w3 w4 w5)) from (congr rfl (funext fun w0 => funext fun w1 => funext fun w2 => funext fun w3 => funext fun w4 => funext fun w5 => (spec_BellUpTo.loop122 N n).2 w0 w1 w2 w3 w4 w5))))⟩
noncomputable def spec_BellUpTo.K13 (N : Nat) : Ex → St D0 → Option spec_BellUpTo.R := (onN (fun s => spec_BellUpTo.C.tidy 6 s (fun s' => runC spec_BellUpTo.C (spec_BellUpTo.O N) N spec_BellUpTo.c7 7 s' spec_BellUpTo.K0)) spec_BellUpTo.K0)
noncomputable def spec_BellUpTo.o1 (N : Nat) (v0 : List ByteArray) (v1 : Int) (v2 : Int) (v3 : Bool) (c2 : Int → Int → (List ByteArray) → Int → Int → Option spec_BellUpTo.R) : Option spec_BellUpTo.R :=
 bif v3 then
  some (0, false)
 else
 c2 v1 v2 v0 (v0.length : Int) 0
theorem spec_BellUpTo.o1.run (N : Nat) (H244 : Code) (v0 : List ByteArray) (v1 : Int) (v2 : Int) (v3 : Bool) : runC spec_BellUpTo.C (spec_BellUpTo.O N) N spec_BellUpTo.c13 13 (mkSt [(0, .one (.sl false 9 v0)), (1, .one (.int .i64 v1)), (2, .one (.int .i64 v2)), (19, .one (.bool v3))] [] : St D0) (onN (fun s => spec_BellUpTo.C.tidy 6 s (fun s' => runC spec_BellUpTo.C (spec_BellUpTo.O N) N (.seq spec_BellUpTo.c14 (.seq (.seq spec_BellUpTo.c60 (.block 0 (.loop H244))) spec_BellUpTo.c31)) 7 s' spec_BellUpTo.K0)) spec_BellUpTo.K0) = spec_BellUpTo.o1 N v0 v1 v2 v3 ((fun w0 w1 w2 w3 w4 => iter (loopF spec_BellUpTo.C (spec_BellUpTo.O N) N H244 122) N (mkSt [(1, .one (.int .i64 w0)), (2, .one (.int .i64 w1)), (8, .one (.nl)), (20, .one (.sl false 9 w2)), (21, .one (.int .i64 w3)), (22, .one (.int .i64 w4))] [] : St D0) (blockK 0 (onN (fun s => spec_BellUpTo.C.tidy 30 s (fun s' => runC spec_BellUpTo.C (spec_BellUpTo.O N) N spec_BellUpTo.c31 31 s' spec_BellUpTo.K0)) spec_BellUpTo.K0)))) := by kernel_rfl
noncomputable def spec_BellUpTo.d1 (N : Nat) (v0 : List ByteArray) (v1 : Int) (v2 : Int) (v3 : Bool) : Option spec_BellUpTo.R := spec_BellUpTo.o1 N v0 v1 v2 v3 ((fun w0 w1 w2 w3 w4 => spec_BellUpTo.l2 N N w0 w1 w2 w3 w4))
theorem spec_BellUpTo.d1.run (N : Nat) (v0 : List ByteArray) (v1 : Int) (v2 : Int) (v3 : Bool) : runC spec_BellUpTo.C (spec_BellUpTo.O N) N spec_BellUpTo.c13 13 (mkSt [(0, .one (.sl false 9 v0)), (1, .one (.int .i64 v1)), (2, .one (.int .i64 v2)), (19, .one (.bool v3))] [] : St D0) (spec_BellUpTo.K13 N) = spec_BellUpTo.d1 N v0 v1 v2 v3 := by
  unfold spec_BellUpTo.d1; exact (spec_BellUpTo.o1.run N spec_BellUpTo.c244 v0 v1 v2 v3).trans (congr rfl (funext fun w0 => funext fun w1 => funext fun w2 => funext fun w3 => funext fun w4 => (spec_BellUpTo.loop122 N N).1 w0 w1 w2 w3 w4))
noncomputable def spec_BellUpTo.o0 (N : Nat) (a0 : List ByteArray) (a1 : Int) (a2 : Int) (c1 : (List ByteArray) → Int → Int → Bool → Option spec_BellUpTo.R) : Option spec_BellUpTo.R :=
 (spec_beAsked.g N a0 a2).bind fun r1 =>
 bif (!r1) then
  c1 a0 a1 a2 true
 else
 (spec_beIs.g N a1).bind fun r2 =>
 c1 a0 a1 a2 (!r2)
theorem spec_BellUpTo.o0.run (N : Nat) (H13 : Code) (a0 : List ByteArray) (a1 : Int) (a2 : Int) : runC spec_BellUpTo.C (spec_BellUpTo.O N) N (.seq spec_BellUpTo.c2 (.seq (.seq spec_BellUpTo.c12 H13) spec_BellUpTo.c7)) 1 (st0 [.one (.sl false 9 a0), .one (.int .i64 a1), .one (.int .i64 a2)] [] : St D0) spec_BellUpTo.K0 = spec_BellUpTo.o0 N a0 a1 a2 ((fun w0 w1 w2 w3 => runC spec_BellUpTo.C (spec_BellUpTo.O N) N H13 13 (mkSt [(0, .one (.sl false 9 w0)), (1, .one (.int .i64 w1)), (2, .one (.int .i64 w2)), (19, .one (.bool w3))] [] : St D0) (onN (fun s => spec_BellUpTo.C.tidy 6 s (fun s' => runC spec_BellUpTo.C (spec_BellUpTo.O N) N spec_BellUpTo.c7 7 s' spec_BellUpTo.K0)) spec_BellUpTo.K0))) := by kernel_rfl
noncomputable def spec_BellUpTo.B6 (N : Nat) : St D0 → Option spec_BellUpTo.R := fun s' => runC spec_BellUpTo.C (spec_BellUpTo.O N) N spec_BellUpTo.c13 13 s' (spec_BellUpTo.K13 N)
noncomputable def spec_BellUpTo.g (N : Nat) (a0 : List ByteArray) (a1 : Int) (a2 : Int) : Option spec_BellUpTo.R := spec_BellUpTo.o0 N a0 a1 a2 ((fun w0 w1 w2 w3 => spec_BellUpTo.d1 N w0 w1 w2 w3))
theorem spec_BellUpTo.c1_0 : spec_BellUpTo.c1 = (.seq spec_BellUpTo.c2 (.seq (.seq spec_BellUpTo.c12 spec_BellUpTo.c13) spec_BellUpTo.c7)) := by kernel_rfl
theorem spec_BellUpTo.g.run (N : Nat) (a0 : List ByteArray) (a1 : Int) (a2 : Int) : runC spec_BellUpTo.C (spec_BellUpTo.O N) N spec_BellUpTo.c1 1 (st0 [.one (.sl false 9 a0), .one (.int .i64 a1), .one (.int .i64 a2)] [] : St D0) spec_BellUpTo.K0 = spec_BellUpTo.g N a0 a1 a2 := by
  rw [spec_BellUpTo.c1_0]; unfold spec_BellUpTo.g; exact (spec_BellUpTo.o0.run N spec_BellUpTo.c13 a0 a1 a2).trans (congr rfl (funext fun w0 => funext fun w1 => funext fun w2 => funext fun w3 => spec_BellUpTo.d1.run N w0 w1 w2 w3))
theorem spec_BellUpTo.good (N : Nat) (a0 : List ByteArray) (a1 : Int) (a2 : Int) (r : spec_BellUpTo.R) (h : spec_BellUpTo.g N a0 a1 a2 = some r) : Go.PM.Good Go.Proofs.Try.prog T0 27 [.one (.sl false 9 a0), .one (.int .i64 a1), .one (.int .i64 a2)] [] (spec_BellUpTo.sig.ret r) (spec_BellUpTo.sig.bs r) :=
  good_fn tabOk0 mixed0 spec_BellUpTo.sig (spec_BellUpTo.E N) Go.Proofs.Try.func27 (by kernel_rfl) (by kernel_rfl) 16254407 0 0 [(12, [0, 1, 2, 19], []), (122, [1, 2, 8, 20, 21, 22], [])] 26172528640 false [] [(false, [.any]), (false, [.any])] (by kernel_rfl) rfl rfl ((spec_BellUpTo.g.run N a0 a1 a2).trans h)
noncomputable def spec_BellUpTo.ent (N : Nat) : Ent Go.Proofs.Try.prog T0 := mkEnt 27 [(false, [.ro 9]), (false, [.any]), (false, [.any])] spec_BellUpTo.sig (fun t => spec_BellUpTo.g N t.1 t.2.1 t.2.2) (fun t r h => spec_BellUpTo.good N t.1 t.2.1 t.2.2 r h)
end Go.Proofs.Ytpmipkbfohcjiaa.M

namespace Go.Proofs.Ytpmipkbfohcjiaa.M
open Go Go.PM Go.Proofs.Ytpmipkbfohcjiaa.P
set_option linter.unusedVariables false
set_option maxRecDepth 100000
/-! ### impl_NotesUpTo_1 -/
abbrev impl_NotesUpTo_1.R : Type := Int
abbrev impl_NotesUpTo_1.sig : Sig := ⟨[(false, 1)], [], [.str], [(false, 1)], [], [.int .i64]⟩
noncomputable def impl_NotesUpTo_1.C : Cfg D0 := ⟨Go.Proofs.Try.prog, T0, 5, 0, 5, 0, [], 8, false, []⟩
noncomputable def impl_NotesUpTo_1.E (N : Nat) : List (Ent Go.Proofs.Try.prog T0) := []
noncomputable def impl_NotesUpTo_1.O (N : Nat) : Orc D0 impl_NotesUpTo_1.R := orcOf (impl_NotesUpTo_1.E N)
noncomputable def impl_NotesUpTo_1.K0 : Ex → St D0 → Option impl_NotesUpTo_1.R := exitK impl_NotesUpTo_1.C Go.Proofs.Try.f40.results.toList [(false, [.any])] (decOut impl_NotesUpTo_1.sig)
noncomputable def impl_NotesUpTo_1.c1 : Code := codeAt (Go.Proofs.Try.f40.body.getD .skip) []
noncomputable def impl_NotesUpTo_1.o0 (N : Nat) (a0 : ByteArray) : Option impl_NotesUpTo_1.R :=
 some ((a0.size : Int))
theorem impl_NotesUpTo_1.o0.run (N : Nat) (a0 : ByteArray) : runC impl_NotesUpTo_1.C (impl_NotesUpTo_1.O N) N impl_NotesUpTo_1.c1 1 (st0 [.one (.str a0)] [] : St D0) impl_NotesUpTo_1.K0 = impl_NotesUpTo_1.o0 N a0 := by kernel_rfl
noncomputable def impl_NotesUpTo_1.g (N : Nat) (a0 : ByteArray) : Option impl_NotesUpTo_1.R := impl_NotesUpTo_1.o0 N a0
theorem impl_NotesUpTo_1.g.run (N : Nat) (a0 : ByteArray) : runC impl_NotesUpTo_1.C (impl_NotesUpTo_1.O N) N impl_NotesUpTo_1.c1 1 (st0 [.one (.str a0)] [] : St D0) impl_NotesUpTo_1.K0 = impl_NotesUpTo_1.g N a0 := by
  exact (impl_NotesUpTo_1.o0.run N a0).trans rfl
theorem impl_NotesUpTo_1.good (N : Nat) (a0 : ByteArray) (r : impl_NotesUpTo_1.R) (h : impl_NotesUpTo_1.g N a0 = some r) : Go.PM.Good Go.Proofs.Try.prog T0 40 [.one (.str a0)] [] (impl_NotesUpTo_1.sig.ret r) (impl_NotesUpTo_1.sig.bs r) :=
  good_fn tabOk0 mixed0 impl_NotesUpTo_1.sig (impl_NotesUpTo_1.E N) Go.Proofs.Try.func40 (by kernel_rfl) (by kernel_rfl) 5 0 0 [] 8 false [] [(false, [.any])] (by kernel_rfl) rfl rfl ((impl_NotesUpTo_1.g.run N a0).trans h)
noncomputable def impl_NotesUpTo_1.ent (N : Nat) : Ent Go.Proofs.Try.prog T0 := mkEnt 40 [(false, [.any])] impl_NotesUpTo_1.sig (fun t => impl_NotesUpTo_1.g N t) (fun t r h => impl_NotesUpTo_1.good N t r h)
end Go.Proofs.Ytpmipkbfohcjiaa.M

namespace Go.Proofs.Ytpmipkbfohcjiaa.M
open Go Go.PM Go.Proofs.Ytpmipkbfohcjiaa.P
set_option linter.unusedVariables false
set_option maxRecDepth 100000
/-! ### impl_sumUpTo -/
abbrev impl_sumUpTo.R : Type := Int
abbrev impl_sumUpTo.sig : Sig := ⟨[(false, 1), (false, 1), (false, 1)], [], [.sl false 9, .int .i64, .fn 40 []], [(false, 1)], [], [.int .i64]⟩
noncomputable def impl_sumUpTo.C : Cfg D0 := ⟨Go.Proofs.Try.prog, T0, 1073991623, 0, 42, 0, [(122, [0, 2, 7, 8, 14, 15, 16], []), (31334, [0, 2, 7, 8, 10, 11, 14, 15, 16], [])], 131237679104, false, []⟩
noncomputable def impl_sumUpTo.E (N : Nat) : List (Ent Go.Proofs.Try.prog T0) := [impl_played.ent N, impl_NotesUpTo_1.ent N]
noncomputable def impl_sumUpTo.O (N : Nat) : Orc D0 impl_sumUpTo.R := orcOf (impl_sumUpTo.E N)
noncomputable def impl_sumUpTo.K0 : Ex → St D0 → Option impl_sumUpTo.R := exitK impl_sumUpTo.C Go.Proofs.Try.f39.results.toList [(false, [.any])] (decOut impl_sumUpTo.sig)
noncomputable def impl_sumUpTo.c1 : Code := codeAt (Go.Proofs.Try.f39.body.getD .skip) []
noncomputable def impl_sumUpTo.c2 : Code := codeAt (Go.Proofs.Try.f39.body.getD .skip) [false]
noncomputable def impl_sumUpTo.c6 : Code := codeAt (Go.Proofs.Try.f39.body.getD .skip) [true, false]
noncomputable def impl_sumUpTo.c14 : Code := codeAt (Go.Proofs.Try.f39.body.getD .skip) [true, true, false]
noncomputable def impl_sumUpTo.c31 : Code := codeAt (Go.Proofs.Try.f39.body.getD .skip) [true, true, true, true]
noncomputable def impl_sumUpTo.c60 : Code := codeAt (Go.Proofs.Try.f39.body.getD .skip) [true, true, true, false, false]
noncomputable def impl_sumUpTo.c244 : Code := codeAt (Go.Proofs.Try.f39.body.getD .skip) [true, true, true, false, true, false, false]
noncomputable def impl_sumUpTo.c488 : Code := codeAt (Go.Proofs.Try.f39.body.getD .skip) [true, true, true, false, true, false, false, false]
noncomputable def impl_sumUpTo.c978 : Code := codeAt (Go.Proofs.Try.f39.body.getD .skip) [true, true, true, false, true, false, false, true, false]
noncomputable def impl_sumUpTo.c1959 : Code := codeAt (Go.Proofs.Try.f39.body.getD .skip) [true, true, true, false, true, false, false, true, true, true]
noncomputable def impl_sumUpTo.c7832 : Code := codeAt (Go.Proofs.Try.f39.body.getD .skip) [true, true, true, false, true, false, false, true, true, false, false, false]
noncomputable def impl_sumUpTo.c15666 : Code := codeAt (Go.Proofs.Try.f39.body.getD .skip) [true, true, true, false, true, false, false, true, true, false, false, true, false]
noncomputable def impl_sumUpTo.c31334 : Code := codeAt (Go.Proofs.Try.f39.body.getD .skip) [true, true, true, false, true, false, false, true, true, false, false, true, true, false]
noncomputable def impl_sumUpTo.c31335 : Code := codeAt (Go.Proofs.Try.f39.body.getD .skip) [true, true, true, false, true, false, false, true, true, false, false, true, true, true]
noncomputable def impl_sumUpTo.K31335 (N : Nat) (Kn122 : St D0 → Option impl_sumUpTo.R) : Ex → St D0 → Option impl_sumUpTo.R := (blockK 1 (onN (fun s => impl_sumUpTo.C.tidy 1958 s (fun s' => runC impl_sumUpTo.C (impl_sumUpTo.O N) N impl_sumUpTo.c1959 1959 s' (onN (fun s => impl_sumUpTo.C.tidy 122 s ((onN Kn122 (blockK 0 (onN (fun s => impl_sumUpTo.C.tidy 30 s (fun s' => runC impl_sumUpTo.C (impl_sumUpTo.O N) N impl_sumUpTo.c31 31 s' impl_sumUpTo.K0)) impl_sumUpTo.K0))) .normal)) (onN Kn122 (blockK 0 (onN (fun s => impl_sumUpTo.C.tidy 30 s (fun s' => runC impl_sumUpTo.C (impl_sumUpTo.O N) N impl_sumUpTo.c31 31 s' impl_sumUpTo.K0)) impl_sumUpTo.K0)))))) (onN (fun s => impl_sumUpTo.C.tidy 122 s ((onN Kn122 (blockK 0 (onN (fun s => impl_sumUpTo.C.tidy 30 s (fun s' => runC impl_sumUpTo.C (impl_sumUpTo.O N) N impl_sumUpTo.c31 31 s' impl_sumUpTo.K0)) impl_sumUpTo.K0))) .normal)) (onN Kn122 (blockK 0 (onN (fun s => impl_sumUpTo.C.tidy 30 s (fun s' => runC impl_sumUpTo.C (impl_sumUpTo.O N) N impl_sumUpTo.c31 31 s' impl_sumUpTo.K0)) impl_sumUpTo.K0))))))
noncomputable def impl_sumUpTo.o2 (N : Nat) (v0 : List ByteArray) (v1 : Int) (v2 : Int) (v3 : ByteArray) (v4 : Int) (v5 : List ByteArray) (v6 : Int) (v7 : Int) (c1 : (List ByteArray) → Int → Int → (List ByteArray) → Int → Int → Option impl_sumUpTo.R) : Option impl_sumUpTo.R :=
 (impl_NotesUpTo_1.g N v3).bind fun r1 =>
 c1 v0 v1 (w64 (v2 + (w64 (v4 * r1)))) v5 v6 (w64 (v7 + 1))
theorem impl_sumUpTo.o2.run (N : Nat) (Kn122 : St D0 → Option impl_sumUpTo.R) (v0 : List ByteArray) (v1 : Int) (v2 : Int) (v3 : ByteArray) (v4 : Int) (v5 : List ByteArray) (v6 : Int) (v7 : Int) : runC impl_sumUpTo.C (impl_sumUpTo.O N) N impl_sumUpTo.c31335 31335 (mkSt [(0, .one (.sl false 9 v0)), (2, .one (.fn 40 [])), (7, .one (.int .i64 v1)), (8, .one (.int .i64 v2)), (10, .one (.str v3)), (11, .one (.int .i64 v4)), (14, .one (.sl false 9 v5)), (15, .one (.int .i64 v6)), (16, .one (.int .i64 v7))] [] : St D0) (blockK 1 (onN (fun s => impl_sumUpTo.C.tidy 1958 s (fun s' => runC impl_sumUpTo.C (impl_sumUpTo.O N) N impl_sumUpTo.c1959 1959 s' (onN (fun s => impl_sumUpTo.C.tidy 122 s ((onN Kn122 (blockK 0 (onN (fun s => impl_sumUpTo.C.tidy 30 s (fun s' => runC impl_sumUpTo.C (impl_sumUpTo.O N) N impl_sumUpTo.c31 31 s' impl_sumUpTo.K0)) impl_sumUpTo.K0))) .normal)) (onN Kn122 (blockK 0 (onN (fun s => impl_sumUpTo.C.tidy 30 s (fun s' => runC impl_sumUpTo.C (impl_sumUpTo.O N) N impl_sumUpTo.c31 31 s' impl_sumUpTo.K0)) impl_sumUpTo.K0)))))) (onN (fun s => impl_sumUpTo.C.tidy 122 s ((onN Kn122 (blockK 0 (onN (fun s => impl_sumUpTo.C.tidy 30 s (fun s' => runC impl_sumUpTo.C (impl_sumUpTo.O N) N impl_sumUpTo.c31 31 s' impl_sumUpTo.K0)) impl_sumUpTo.K0))) .normal)) (onN Kn122 (blockK 0 (onN (fun s => impl_sumUpTo.C.tidy 30 s (fun s' => runC impl_sumUpTo.C (impl_sumUpTo.O N) N impl_sumUpTo.c31 31 s' impl_sumUpTo.K0)) impl_sumUpTo.K0)))))) = impl_sumUpTo.o2 N v0 v1 v2 v3 v4 v5 v6 v7 ((fun w0 w1 w2 w3 w4 w5 => Kn122 (mkSt [(0, .one (.sl false 9 w0)), (2, .one (.fn 40 [])), (7, .one (.int .i64 w1)), (8, .one (.int .i64 w2)), (14, .one (.sl false 9 w3)), (15, .one (.int .i64 w4)), (16, .one (.int .i64 w5))] [] : St D0))) := by kernel_rfl
noncomputable def impl_sumUpTo.d2 (N : Nat) (v0 : List ByteArray) (v1 : Int) (v2 : Int) (v3 : ByteArray) (v4 : Int) (v5 : List ByteArray) (v6 : Int) (v7 : Int) (c1 : (List ByteArray) → Int → Int → (List ByteArray) → Int → Int → Option impl_sumUpTo.R) : Option impl_sumUpTo.R := impl_sumUpTo.o2 N v0 v1 v2 v3 v4 v5 v6 v7 c1
theorem impl_sumUpTo.d2.run (N : Nat) (Kn122 : St D0 → Option impl_sumUpTo.R) (v0 : List ByteArray) (v1 : Int) (v2 : Int) (v3 : ByteArray) (v4 : Int) (v5 : List ByteArray) (v6 : Int) (v7 : Int) : runC impl_sumUpTo.C (impl_sumUpTo.O N) N impl_sumUpTo.c31335 31335 (mkSt [(0, .one (.sl false 9 v0)), (2, .one (.fn 40 [])), (7, .one (.int .i64 v1)), (8, .one (.int .i64 v2)), (10, .one (.str v3)), (11, .one (.int .i64 v4)), (14, .one (.sl false 9 v5)), (15, .one (.int .i64 v6)), (16, .one (.int .i64 v7))] [] : St D0) (impl_sumUpTo.K31335 N Kn122) = impl_sumUpTo.d2 N v0 v1 v2 v3 v4 v5 v6 v7 ((fun w0 w1 w2 w3 w4 w5 => Kn122 (mkSt [(0, .one (.sl false 9 w0)), (2, .one (.fn 40 [])), (7, .one (.int .i64 w1)), (8, .one (.int .i64 w2)), (14, .one (.sl false 9 w3)), (15, .one (.int .i64 w4)), (16, .one (.int .i64 w5))] [] : St D0))) := by
  exact (impl_sumUpTo.o2.run N Kn122 v0 v1 v2 v3 v4 v5 v6 v7).trans rfl
noncomputable def impl_sumUpTo.K244 (N : Nat) (Kn122 : St D0 → Option impl_sumUpTo.R) : Ex → St D0 → Option impl_sumUpTo.R := (onN (fun s => impl_sumUpTo.C.tidy 122 s ((onN Kn122 (blockK 0 (onN (fun s => impl_sumUpTo.C.tidy 30 s (fun s' => runC impl_sumUpTo.C (impl_sumUpTo.O N) N impl_sumUpTo.c31 31 s' impl_sumUpTo.K0)) impl_sumUpTo.K0))) .normal)) (onN Kn122 (blockK 0 (onN (fun s => impl_sumUpTo.C.tidy 30 s (fun s' => runC impl_sumUpTo.C (impl_sumUpTo.O N) N impl_sumUpTo.c31 31 s' impl_sumUpTo.K0)) impl_sumUpTo.K0))))
noncomputable def impl_sumUpTo.o1 (N : Nat) (v0 : List ByteArray) (v1 : Int) (v2 : Int) (v3 : List ByteArray) (v4 : Int) (v5 : Int) (c2 : (List ByteArray) → Int → Int → ByteArray → Int → (List ByteArray) → Int → Int → Option impl_sumUpTo.R) : Option impl_sumUpTo.R :=
 bif (decide (v5 < v4)) then
  bif (decide (0 ≤ v5)) then
   bif (decide (v5 < (v3.length : Int))) then
    (v3[(v5 : Int).toNat]?).bind fun x1 =>
    bif ((v0.length : Int) == 0) then
     none
    else
    bif ((v0.length : Int) == 0) then
     none
    else
    bif (decide (v5 < (Int.tmod v1 (v0.length : Int)))) then
     c2 v0 v1 v2 x1 (w64 ((w64 (Int.tdiv v1 (v0.length : Int))) + 1)) v3 v4 v5
    else
    c2 v0 v1 v2 x1 (w64 (Int.tdiv v1 (v0.length : Int))) v3 v4 v5
   else
   none
  else
  none
 else
 some (v2)
theorem impl_sumUpTo.o1.run (N : Nat) (Kn122 : St D0 → Option impl_sumUpTo.R) (H31335 : Code) (v0 : List ByteArray) (v1 : Int) (v2 : Int) (v3 : List ByteArray) (v4 : Int) (v5 : Int) : runC impl_sumUpTo.C (impl_sumUpTo.O N) N (.seq impl_sumUpTo.c488 (.seq impl_sumUpTo.c978 (.seq (.block 1 (.seq impl_sumUpTo.c7832 (.seq impl_sumUpTo.c15666 (.seq impl_sumUpTo.c31334 H31335)))) impl_sumUpTo.c1959))) 244 (mkSt [(0, .one (.sl false 9 v0)), (2, .one (.fn 40 [])), (7, .one (.int .i64 v1)), (8, .one (.int .i64 v2)), (14, .one (.sl false 9 v3)), (15, .one (.int .i64 v4)), (16, .one (.int .i64 v5))] [] : St D0) (onN (fun s => impl_sumUpTo.C.tidy 122 s ((onN Kn122 (blockK 0 (onN (fun s => impl_sumUpTo.C.tidy 30 s (fun s' => runC impl_sumUpTo.C (impl_sumUpTo.O N) N impl_sumUpTo.c31 31 s' impl_sumUpTo.K0)) impl_sumUpTo.K0))) .normal)) (onN Kn122 (blockK 0 (onN (fun s => impl_sumUpTo.C.tidy 30 s (fun s' => runC impl_sumUpTo.C (impl_sumUpTo.O N) N impl_sumUpTo.c31 31 s' impl_sumUpTo.K0)) impl_sumUpTo.K0)))) = impl_sumUpTo.o1 N v0 v1 v2 v3 v4 v5 ((fun w0 w1 w2 w3 w4 w5 w6 w7 => runC impl_sumUpTo.C (impl_sumUpTo.O N) N H31335 31335 (mkSt [(0, .one (.sl false 9 w0)), (2, .one (.fn 40 [])), (7, .one (.int .i64 w1)), (8, .one (.int .i64 w2)), (10, .one (.str w3)), (11, .one (.int .i64 w4)), (14, .one (.sl false 9 w5)), (15, .one (.int .i64 w6)), (16, .one (.int .i64 w7))] [] : St D0) (blockK 1 (onN (fun s => impl_sumUpTo.C.tidy 1958 s (fun s' => runC impl_sumUpTo.C (impl_sumUpTo.O N) N impl_sumUpTo.c1959 1959 s' (onN (fun s => impl_sumUpTo.C.tidy 122 s ((onN Kn122 (blockK 0 (onN (fun s => impl_sumUpTo.C.tidy 30 s (fun s' => runC impl_sumUpTo.C (impl_sumUpTo.O N) N impl_sumUpTo.c31 31 s' impl_sumUpTo.K0)) impl_sumUpTo.K0))) .normal)) (onN Kn122 (blockK 0 (onN (fun s => impl_sumUpTo.C.tidy 30 s (fun s' => runC impl_sumUpTo.C (impl_sumUpTo.O N) N impl_sumUpTo.c31 31 s' impl_sumUpTo.K0)) impl_sumUpTo.K0)))))) (onN (fun s => impl_sumUpTo.C.tidy 122 s ((onN Kn122 (blockK 0 (onN (fun s => impl_sumUpTo.C.tidy 30 s (fun s' => runC impl_sumUpTo.C (impl_sumUpTo.O N) N impl_sumUpTo.c31 31 s' impl_sumUpTo.K0)) impl_sumUpTo.K0))) .normal)) (onN Kn122 (blockK 0 (onN (fun s => impl_sumUpTo.C.tidy 30 s (fun s' => runC impl_sumUpTo.C (impl_sumUpTo.O N) N impl_sumUpTo.c31 31 s' impl_sumUpTo.K0)) impl_sumUpTo.K0)))))))) := by kernel_rfl
noncomputable def impl_sumUpTo.B15667 (N : Nat) (Kn122 : St D0 → Option impl_sumUpTo.R) : St D0 → Option impl_sumUpTo.R := fun s' => runC impl_sumUpTo.C (impl_sumUpTo.O N) N impl_sumUpTo.c31335 31335 s' (impl_sumUpTo.K31335 N Kn122)
noncomputable def impl_sumUpTo.d1 (N : Nat) (v0 : List ByteArray) (v1 : Int) (v2 : Int) (v3 : List ByteArray) (v4 : Int) (v5 : Int) (c1 : (List ByteArray) → Int → Int → (List ByteArray) → Int → Int → Option impl_sumUpTo.R) : Option impl_sumUpTo.R := impl_sumUpTo.o1 N v0 v1 v2 v3 v4 v5 ((fun w0 w1 w2 w3 w4 w5 w6 w7 => impl_sumUpTo.d2 N w0 w1 w2 w3 w4 w5 w6 w7 c1))
theorem impl_sumUpTo.c244_1 : impl_sumUpTo.c244 = (.seq impl_sumUpTo.c488 (.seq impl_sumUpTo.c978 (.seq (.block 1 (.seq impl_sumUpTo.c7832 (.seq impl_sumUpTo.c15666 (.seq impl_sumUpTo.c31334 impl_sumUpTo.c31335)))) impl_sumUpTo.c1959))) := by kernel_rfl
theorem impl_sumUpTo.d1.run (N : Nat) (Kn122 : St D0 → Option impl_sumUpTo.R) (v0 : List ByteArray) (v1 : Int) (v2 : Int) (v3 : List ByteArray) (v4 : Int) (v5 : Int) : runC impl_sumUpTo.C (impl_sumUpTo.O N) N impl_sumUpTo.c244 244 (mkSt [(0, .one (.sl false 9 v0)), (2, .one (.fn 40 [])), (7, .one (.int .i64 v1)), (8, .one (.int .i64 v2)), (14, .one (.sl false 9 v3)), (15, .one (.int .i64 v4)), (16, .one (.int .i64 v5))] [] : St D0) (impl_sumUpTo.K244 N Kn122) = impl_sumUpTo.d1 N v0 v1 v2 v3 v4 v5 ((fun w0 w1 w2 w3 w4 w5 => Kn122 (mkSt [(0, .one (.sl false 9 w0)), (2, .one (.fn 40 [])), (7, .one (.int .i64 w1)), (8, .one (.int .i64 w2)), (14, .one (.sl false 9 w3)), (15, .one (.int .i64 w4)), (16, .one (.int .i64 w5))] [] : St D0))) := by
  rw [impl_sumUpTo.c244_1]; unfold impl_sumUpTo.d1; exact (impl_sumUpTo.o1.run N Kn122 impl_sumUpTo.c31335 v0 v1 v2 v3 v4 v5).trans (congr rfl (funext fun w0 => funext fun w1 => funext fun w2 => funext fun w3 => funext fun w4 => funext fun w5 => funext fun w6 => funext fun w7 => impl_sumUpTo.d2.run N Kn122 w0 w1 w2 w3 w4 w5 w6 w7))
noncomputable def impl_sumUpTo.K122 (N : Nat) : Ex → St D0 → Option impl_sumUpTo.R := (blockK 0 (onN (fun s => impl_sumUpTo.C.tidy 30 s (fun s' => runC impl_sumUpTo.C (impl_sumUpTo.O N) N impl_sumUpTo.c31 31 s' impl_sumUpTo.K0)) impl_sumUpTo.K0))
noncomputable def impl_sumUpTo.l1 (N : Nat) : Nat → (List ByteArray) → Int → Int → (List ByteArray) → Int → Int → Option impl_sumUpTo.R
  | 0, _, _, _, _, _, _ => none
  | n + 1, v0, v1, v2, v3, v4, v5 => impl_sumUpTo.d1 N v0 v1 v2 v3 v4 v5 ((fun w0 w1 w2 w3 w4 w5 => impl_sumUpTo.l1 N n w0 w1 w2 w3 w4 w5))
theorem impl_sumUpTo.loop122 (N : Nat) : ∀ n, (∀ (v0 : List ByteArray) (v1 : Int) (v2 : Int) (v3 : List ByteArray) (v4 : Int) (v5 : Int), iter (loopF impl_sumUpTo.C (impl_sumUpTo.O N) N impl_sumUpTo.c244 122) n (mkSt [(0, .one (.sl false 9 v0)), (2, .one (.fn 40 [])), (7, .one (.int .i64 v1)), (8, .one (.int .i64 v2)), (14, .one (.sl false 9 v3)), (15, .one (.int .i64 v4)), (16, .one (.int .i64 v5))] [] : St D0) (impl_sumUpTo.K122 N) = impl_sumUpTo.l1 N n v0 v1 v2 v3 v4 v5)
  | 0 => (fun v0 v1 v2 v3 v4 v5 => rfl)
  | n + 1 => (fun v0 v1 v2 v3 v4 v5 => (impl_sumUpTo.d1.run N (fun s => iter (loopF impl_sumUpTo.C (impl_sumUpTo.O N) N impl_sumUpTo.c244 122) n s (impl_sumUpTo.K122 N)) v0 v1 v2 v3 v4 v5).trans (show _ = impl_sumUpTo.d1 N v0 v1 v2 v3 v4 v5 ((fun w0 w1 w2 w3 w4 w5 => impl_sumUpTo.l1 N n w0 w1 w2 w3 w4 w5)) from (congr rfl (funext fun w0 => funext fun w1 => funext fun w2 => funext fun w3 => funext fun w4 => funext fun w5 => (impl_sumUpTo.loop122 N n) w0 w1 w2 w3 w4 w5))))
noncomputable def impl_sumUpTo.o0 (N : Nat) (a0 : List ByteArray) (a1 : Int) (c1 : (List ByteArray) → Int → Int → (List ByteArray) → Int → Int → Option impl_sumUpTo.R) : Option impl_sumUpTo.R :=
 (impl_played.g N a1).bind fun r1 =>
 c1 a0 r1 0 a0 (a0.length : Int) 0
theorem impl_sumUpTo.o0.run (N : Nat) (H244 : Code) (a0 : List ByteArray) (a1 : Int) : runC impl_sumUpTo.C (impl_sumUpTo.O N) N (.seq impl_sumUpTo.c2 (.seq impl_sumUpTo.c6 (.seq impl_sumUpTo.c14 (.seq (.seq impl_sumUpTo.c60 (.block 0 (.loop H244))) impl_sumUpTo.c31)))) 1 (st0 [.one (.sl false 9 a0), .one (.int .i64 a1), .one (.fn 40 [])] [] : St D0) impl_sumUpTo.K0 = impl_sumUpTo.o0 N a0 a1 ((fun w0 w1 w2 w3 w4 w5 => iter (loopF impl_sumUpTo.C (impl_sumUpTo.O N) N H244 122) N (mkSt [(0, .one (.sl false 9 w0)), (2, .one (.fn 40 [])), (7, .one (.int .i64 w1)), (8, .one (.int .i64 w2)), (14, .one (.sl false 9 w3)), (15, .one (.int .i64 w4)), (16, .one (.int .i64 w5))] [] : St D0) (blockK 0 (onN (fun s => impl_sumUpTo.C.tidy 30 s (fun s' => runC impl_sumUpTo.C (impl_sumUpTo.O N) N impl_sumUpTo.c31 31 s' impl_sumUpTo.K0)) impl_sumUpTo.K0)))) := by kernel_rfl
noncomputable def impl_sumUpTo.g (N : Nat) (a0 : List ByteArray) (a1 : Int) : Option impl_sumUpTo.R := impl_sumUpTo.o0 N a0 a1 ((fun w0 w1 w2 w3 w4 w5 => impl_sumUpTo.l1 N N w0 w1 w2 w3 w4 w5))
theorem impl_sumUpTo.c1_0 : impl_sumUpTo.c1 = (.seq impl_sumUpTo.c2 (.seq impl_sumUpTo.c6 (.seq impl_sumUpTo.c14 (.seq (.seq impl_sumUpTo.c60 (.block 0 (.loop impl_sumUpTo.c244))) impl_sumUpTo.c31)))) := by kernel_rfl
theorem impl_sumUpTo.g.run (N : Nat) (a0 : List ByteArray) (a1 : Int) : runC impl_sumUpTo.C (impl_sumUpTo.O N) N impl_sumUpTo.c1 1 (st0 [.one (.sl false 9 a0), .one (.int .i64 a1), .one (.fn 40 [])] [] : St D0) impl_sumUpTo.K0 = impl_sumUpTo.g N a0 a1 := by
  rw [impl_sumUpTo.c1_0]; unfold impl_sumUpTo.g; exact (impl_sumUpTo.o0.run N impl_sumUpTo.c244 a0 a1).trans (congr rfl (funext fun w0 => funext fun w1 => funext fun w2 => funext fun w3 => funext fun w4 => funext fun w5 => (impl_sumUpTo.loop122 N N) w0 w1 w2 w3 w4 w5))
theorem impl_sumUpTo.good (N : Nat) (a0 : List ByteArray) (a1 : Int) (r : impl_sumUpTo.R) (h : impl_sumUpTo.g N a0 a1 = some r) : Go.PM.Good Go.Proofs.Try.prog T0 39 [.one (.sl false 9 a0), .one (.int .i64 a1), .one (.fn 40 [])] [] (impl_sumUpTo.sig.ret r) (impl_sumUpTo.sig.bs r) :=
  good_fn tabOk0 mixed0 impl_sumUpTo.sig (impl_sumUpTo.E N) Go.Proofs.Try.func39 (by kernel_rfl) (by kernel_rfl) 1073991623 0 0 [(122, [0, 2, 7, 8, 14, 15, 16], []), (31334, [0, 2, 7, 8, 10, 11, 14, 15, 16], [])] 131237679104 false [] [(false, [.any])] (by kernel_rfl) rfl rfl ((impl_sumUpTo.g.run N a0 a1).trans h)
noncomputable def impl_sumUpTo.ent (N : Nat) : Ent Go.Proofs.Try.prog T0 := mkEnt 39 [(false, [.ro 9]), (false, [.any]), (false, [.any])] impl_sumUpTo.sig (fun t => impl_sumUpTo.g N t.1 t.2.1) (fun t r h => impl_sumUpTo.good N t.1 t.2.1 r h)
end Go.Proofs.Ytpmipkbfohcjiaa.M

namespace Go.Proofs.Ytpmipkbfohcjiaa.M
open Go Go.PM Go.Proofs.Ytpmipkbfohcjiaa.P
set_option linter.unusedVariables false
set_option maxRecDepth 100000
/-! ### impl_NotesUpTo -/
abbrev impl_NotesUpTo.R : Type := Int × Bool
abbrev impl_NotesUpTo.sig : Sig := ⟨[(false, 1), (false, 1)], [], [.sl false 9, .int .i64], [(false, 1), (false, 1)], [], [.int .i64, .bool]⟩
noncomputable def impl_NotesUpTo.C : Cfg D0 := ⟨Go.Proofs.Try.prog, T0, 563, 0, 13, 0, [], 3264, false, []⟩
noncomputable def impl_NotesUpTo.E (N : Nat) : List (Ent Go.Proofs.Try.prog T0) := [impl_isQuarter.ent N, impl_sumUpTo.ent N]
noncomputable def impl_NotesUpTo.O (N : Nat) : Orc D0 impl_NotesUpTo.R := orcOf (impl_NotesUpTo.E N)
noncomputable def impl_NotesUpTo.K0 : Ex → St D0 → Option impl_NotesUpTo.R := exitK impl_NotesUpTo.C Go.Proofs.Try.f11.results.toList [(false, [.any]), (false, [.any])] (decOut impl_NotesUpTo.sig)
noncomputable def impl_NotesUpTo.c1 : Code := codeAt (Go.Proofs.Try.f11.body.getD .skip) []
noncomputable def impl_NotesUpTo.o0 (N : Nat) (a0 : List ByteArray) (a1 : Int) : Option impl_NotesUpTo.R :=
 (impl_isQuarter.g N a0 a1).bind fun r1 =>
 bif (!r1) then
  some (0, false)
 else
 (impl_sumUpTo.g N a0 a1).bind fun r2 =>
 some (r2, true)
theorem impl_NotesUpTo.o0.run (N : Nat) (a0 : List ByteArray) (a1 : Int) : runC impl_NotesUpTo.C (impl_NotesUpTo.O N) N impl_NotesUpTo.c1 1 (st0 [.one (.sl false 9 a0), .one (.int .i64 a1)] [] : St D0) impl_NotesUpTo.K0 = impl_NotesUpTo.o0 N a0 a1 := by kernel_rfl
noncomputable def impl_NotesUpTo.g (N : Nat) (a0 : List ByteArray) (a1 : Int) : Option impl_NotesUpTo.R := impl_NotesUpTo.o0 N a0 a1
theorem impl_NotesUpTo.g.run (N : Nat) (a0 : List ByteArray) (a1 : Int) : runC impl_NotesUpTo.C (impl_NotesUpTo.O N) N impl_NotesUpTo.c1 1 (st0 [.one (.sl false 9 a0), .one (.int .i64 a1)] [] : St D0) impl_NotesUpTo.K0 = impl_NotesUpTo.g N a0 a1 := by
  exact (impl_NotesUpTo.o0.run N a0 a1).trans rfl
theorem impl_NotesUpTo.good (N : Nat) (a0 : List ByteArray) (a1 : Int) (r : impl_NotesUpTo.R) (h : impl_NotesUpTo.g N a0 a1 = some r) : Go.PM.Good Go.Proofs.Try.prog T0 11 [.one (.sl false 9 a0), .one (.int .i64 a1)] [] (impl_NotesUpTo.sig.ret r) (impl_NotesUpTo.sig.bs r) :=
  good_fn tabOk0 mixed0 impl_NotesUpTo.sig (impl_NotesUpTo.E N) Go.Proofs.Try.func11 (by kernel_rfl) (by kernel_rfl) 563 0 0 [] 3264 false [] [(false, [.any]), (false, [.any])] (by kernel_rfl) rfl rfl ((impl_NotesUpTo.g.run N a0 a1).trans h)
noncomputable def impl_NotesUpTo.ent (N : Nat) : Ent Go.Proofs.Try.prog T0 := mkEnt 11 [(false, [.ro 9]), (false, [.any])] impl_NotesUpTo.sig (fun t => impl_NotesUpTo.g N t.1 t.2) (fun t r h => impl_NotesUpTo.good N t.1 t.2 r h)
end Go.Proofs.Ytpmipkbfohcjiaa.M

namespace Go.Proofs.Ytpmipkbfohcjiaa.M
open Go Go.PM Go.Proofs.Ytpmipkbfohcjiaa.P
set_option linter.unusedVariables false
set_option maxRecDepth 100000
/-! ### spec_NotesUpTo -/
abbrev spec_NotesUpTo.R : Type := Int × Bool
abbrev spec_NotesUpTo.sig : Sig := ⟨[(false, 1), (false, 1)], [], [.sl false 9, .int .i64], [(false, 1), (false, 1)], [], [.int .i64, .bool]⟩
noncomputable def spec_NotesUpTo.C : Cfg D0 := ⟨Go.Proofs.Try.prog, T0, 127347, 0, 29, 0, [(122, [1, 6, 13, 14, 15], [])], 101713408, false, []⟩
noncomputable def spec_NotesUpTo.E (N : Nat) : List (Ent Go.Proofs.Try.prog T0) := [spec_beAsked.ent N, spec_beBefore.ent N, spec_beTimes.ent N]
noncomputable def spec_NotesUpTo.O (N : Nat) : Orc D0 spec_NotesUpTo.R := orcOf (spec_NotesUpTo.E N)
noncomputable def spec_NotesUpTo.K0 : Ex → St D0 → Option spec_NotesUpTo.R := exitK spec_NotesUpTo.C Go.Proofs.Try.f12.results.toList [(false, [.any]), (false, [.any])] (decOut spec_NotesUpTo.sig)
noncomputable def spec_NotesUpTo.c1 : Code := codeAt (Go.Proofs.Try.f12.body.getD .skip) []
noncomputable def spec_NotesUpTo.c2 : Code := codeAt (Go.Proofs.Try.f12.body.getD .skip) [false]
noncomputable def spec_NotesUpTo.c6 : Code := codeAt (Go.Proofs.Try.f12.body.getD .skip) [true, false]
noncomputable def spec_NotesUpTo.c14 : Code := codeAt (Go.Proofs.Try.f12.body.getD .skip) [true, true, false]
noncomputable def spec_NotesUpTo.c31 : Code := codeAt (Go.Proofs.Try.f12.body.getD .skip) [true, true, true, true]
noncomputable def spec_NotesUpTo.c60 : Code := codeAt (Go.Proofs.Try.f12.body.getD .skip) [true, true, true, false, false]
noncomputable def spec_NotesUpTo.c244 : Code := codeAt (Go.Proofs.Try.f12.body.getD .skip) [true, true, true, false, true, false, false]
noncomputable def spec_NotesUpTo.K244 (N : Nat) (Kn122 : St D0 → Option spec_NotesUpTo.R) : Ex → St D0 → Option spec_NotesUpTo.R := (onN (fun s => spec_NotesUpTo.C.tidy 122 s ((onN Kn122 (blockK 0 (onN (fun s => spec_NotesUpTo.C.tidy 30 s (fun s' => runC spec_NotesUpTo.C (spec_NotesUpTo.O N) N spec_NotesUpTo.c31 31 s' spec_NotesUpTo.K0)) spec_NotesUpTo.K0))) .normal)) (onN Kn122 (blockK 0 (onN (fun s => spec_NotesUpTo.C.tidy 30 s (fun s' => runC spec_NotesUpTo.C (spec_NotesUpTo.O N) N spec_NotesUpTo.c31 31 s' spec_NotesUpTo.K0)) spec_NotesUpTo.K0))))
noncomputable def spec_NotesUpTo.o1 (N : Nat) (v0 : Int) (v1 : List ByteArray) (v2 : Int) (v3 : Int) (c2 : Int → (List Int) → (List ByteArray) → Int → Int → Option spec_NotesUpTo.R) : Option spec_NotesUpTo.R :=
 bif (decide (v3 < v2)) then
  bif (decide (0 ≤ v3)) then
   bif (decide (v3 < (v1.length : Int))) then
    (v1[(v3 : Int).toNat]?).bind fun x1 =>
    bif (Nat.blt (([] : List Int).length + ([(x1.size : Int)] : List Int).length) 17592186044416) then
     c2 v0 (([] : List Int) ++ ([(x1.size : Int)] : List Int)) v1 v2 (w64 (v3 + 1))
    else
    none
   else
   none
  else
  none
 else
 (spec_beBefore.g N v0).bind fun r2 =>
 (spec_beTimes.g N ([] : List Int) r2).bind fun r3 =>
 some (r3, true)
theorem spec_NotesUpTo.o1.run (N : Nat) (Kn122 : St D0 → Option spec_NotesUpTo.R) (v0 : Int) (v1 : List ByteArray) (v2 : Int) (v3 : Int) : runC spec_NotesUpTo.C (spec_NotesUpTo.O N) N spec_NotesUpTo.c244 244 (mkSt [(1, .one (.int .i64 v0)), (6, .one (.nl)), (13, .one (.sl false 9 v1)), (14, .one (.int .i64 v2)), (15, .one (.int .i64 v3))] [] : St D0) (onN (fun s => spec_NotesUpTo.C.tidy 122 s ((onN Kn122 (blockK 0 (onN (fun s => spec_NotesUpTo.C.tidy 30 s (fun s' => runC spec_NotesUpTo.C (spec_NotesUpTo.O N) N spec_NotesUpTo.c31 31 s' spec_NotesUpTo.K0)) spec_NotesUpTo.K0))) .normal)) (onN Kn122 (blockK 0 (onN (fun s => spec_NotesUpTo.C.tidy 30 s (fun s' => runC spec_NotesUpTo.C (spec_NotesUpTo.O N) N spec_NotesUpTo.c31 31 s' spec_NotesUpTo.K0)) spec_NotesUpTo.K0)))) = spec_NotesUpTo.o1 N v0 v1 v2 v3 ((fun w0 w1 w2 w3 w4 => Kn122 (mkSt [(1, .one (.int .i64 w0)), (6, .one (.sl true 3 w1)), (13, .one (.sl false 9 w2)), (14, .one (.int .i64 w3)), (15, .one (.int .i64 w4))] [] : St D0))) := by kernel_rfl
noncomputable def spec_NotesUpTo.d1 (N : Nat) (v0 : Int) (v1 : List ByteArray) (v2 : Int) (v3 : Int) (c2 : Int → (List Int) → (List ByteArray) → Int → Int → Option spec_NotesUpTo.R) : Option spec_NotesUpTo.R := spec_NotesUpTo.o1 N v0 v1 v2 v3 c2
theorem spec_NotesUpTo.d1.run (N : Nat) (Kn122 : St D0 → Option spec_NotesUpTo.R) (v0 : Int) (v1 : List ByteArray) (v2 : Int) (v3 : Int) : runC spec_NotesUpTo.C (spec_NotesUpTo.O N) N spec_NotesUpTo.c244 244 (mkSt [(1, .one (.int .i64 v0)), (6, .one (.nl)), (13, .one (.sl false 9 v1)), (14, .one (.int .i64 v2)), (15, .one (.int .i64 v3))] [] : St D0) (spec_NotesUpTo.K244 N Kn122) = spec_NotesUpTo.d1 N v0 v1 v2 v3 ((fun w0 w1 w2 w3 w4 => Kn122 (mkSt [(1, .one (.int .i64 w0)), (6, .one (.sl true 3 w1)), (13, .one (.sl false 9 w2)), (14, .one (.int .i64 w3)), (15, .one (.int .i64 w4))] [] : St D0))) := by
  exact (spec_NotesUpTo.o1.run N Kn122 v0 v1 v2 v3).trans rfl
noncomputable def spec_NotesUpTo.o2 (N : Nat) (v0 : Int) (v1 : List Int) (v2 : List ByteArray) (v3 : Int) (v4 : Int) (c2 : Int → (List Int) → (List ByteArray) → Int → Int → Option spec_NotesUpTo.R) : Option spec_NotesUpTo.R :=
 bif (decide (v4 < v3)) then
  bif (decide (0 ≤ v4)) then
   bif (decide (v4 < (v2.length : Int))) then
    (v2[(v4 : Int).toNat]?).bind fun x1 =>
    bif (Nat.blt (v1.length + ([(x1.size : Int)] : List Int).length) 17592186044416) then
     c2 v0 (v1 ++ ([(x1.size : Int)] : List Int)) v2 v3 (w64 (v4 + 1))
    else
    none
   else
   none
  else
  none
 else
 (spec_beBefore.g N v0).bind fun r2 =>
 (spec_beTimes.g N v1 r2).bind fun r3 =>
 some (r3, true)
theorem spec_NotesUpTo.o2.run (N : Nat) (Kn122 : St D0 → Option spec_NotesUpTo.R) (v0 : Int) (v1 : List Int) (v2 : List ByteArray) (v3 : Int) (v4 : Int) : runC spec_NotesUpTo.C (spec_NotesUpTo.O N) N spec_NotesUpTo.c244 244 (mkSt [(1, .one (.int .i64 v0)), (6, .one (.sl true 3 v1)), (13, .one (.sl false 9 v2)), (14, .one (.int .i64 v3)), (15, .one (.int .i64 v4))] [] : St D0) (onN (fun s => spec_NotesUpTo.C.tidy 122 s ((onN Kn122 (blockK 0 (onN (fun s => spec_NotesUpTo.C.tidy 30 s (fun s' => runC spec_NotesUpTo.C (spec_NotesUpTo.O N) N spec_NotesUpTo.c31 31 s' spec_NotesUpTo.K0)) spec_NotesUpTo.K0))) .normal)) (onN Kn122 (blockK 0 (onN (fun s => spec_NotesUpTo.C.tidy 30 s (fun s' => runC spec_NotesUpTo.C (spec_NotesUpTo.O N) N spec_NotesUpTo.c31 31 s' spec_NotesUpTo.K0)) spec_NotesUpTo.K0)))) = spec_NotesUpTo.o2 N v0 v1 v2 v3 v4 ((fun w0 w1 w2 w3 w4 => Kn122 (mkSt [(1, .one (.int .i64 w0)), (6, .one (.sl true 3 w1)), (13, .one (.sl false 9 w2)), (14, .one (.int .i64 w3)), (15, .one (.int .i64 w4))] [] : St D0))) := by kernel_rfl
noncomputable def spec_NotesUpTo.d2 (N : Nat) (v0 : Int) (v1 : List Int) (v2 : List ByteArray) (v3 : Int) (v4 : Int) (c2 : Int → (List Int) → (List ByteArray) → Int → Int → Option spec_NotesUpTo.R) : Option spec_NotesUpTo.R := spec_NotesUpTo.o2 N v0 v1 v2 v3 v4 c2
theorem spec_NotesUpTo.d2.run (N : Nat) (Kn122 : St D0 → Option spec_NotesUpTo.R) (v0 : Int) (v1 : List Int) (v2 : List ByteArray) (v3 : Int) (v4 : Int) : runC spec_NotesUpTo.C (spec_NotesUpTo.O N) N spec_NotesUpTo.c244 244 (mkSt [(1, .one (.int .i64 v0)), (6, .one (.sl true 3 v1)), (13, .one (.sl false 9 v2)), (14, .one (.int .i64 v3)), (15, .one (.int .i64 v4))] [] : St D0) (spec_NotesUpTo.K244 N Kn122) = spec_NotesUpTo.d2 N v0 v1 v2 v3 v4 ((fun w0 w1 w2 w3 w4 => Kn122 (mkSt [(1, .one (.int .i64 w0)), (6, .one (.sl true 3 w1)), (13, .one (.sl false 9 w2)), (14, .one (.int .i64 w3)), (15, .one (.int .i64 w4))] [] : St D0))) := by
  exact (spec_NotesUpTo.o2.run N Kn122 v0 v1 v2 v3 v4).trans rfl
noncomputable def spec_NotesUpTo.K122 (N : Nat) : Ex → St D0 → Option spec_NotesUpTo.R := (blockK 0 (onN (fun s => spec_NotesUpTo.C.tidy 30 s (fun s' => runC spec_NotesUpTo.C (spec_NotesUpTo.O N) N spec_NotesUpTo.c31 31 s' spec_NotesUpTo.K0)) spec_NotesUpTo.K0))
mutual
noncomputable def spec_NotesUpTo.l1 (N : Nat) : Nat → Int → (List ByteArray) → Int → Int → Option spec_NotesUpTo.R
  | 0, _, _, _, _ => none
  | n + 1, v0, v1, v2, v3 => spec_NotesUpTo.d1 N v0 v1 v2 v3 ((fun w0 w1 w2 w3 w4 => spec_NotesUpTo.l2 N n w0 w1 w2 w3 w4))
noncomputable def spec_NotesUpTo.l2 (N : Nat) : Nat → Int → (List Int) → (List ByteArray) → Int → Int → Option spec_NotesUpTo.R
  | 0, _, _, _, _, _ => none
  | n + 1, v0, v1, v2, v3, v4 => spec_NotesUpTo.d2 N v0 v1 v2 v3 v4 ((fun w0 w1 w2 w3 w4 => spec_NotesUpTo.l2 N n w0 w1 w2 w3 w4))
end
theorem spec_NotesUpTo.loop122 (N : Nat) : ∀ n, (∀ (v0 : Int) (v1 : List ByteArray) (v2 : Int) (v3 : Int), iter (loopF spec_NotesUpTo.C (spec_NotesUpTo.O N) N spec_NotesUpTo.c244 122) n (mkSt [(1, .one (.int .i64 v0)), (6, .one (.nl)), (13, .one (.sl false 9 v1)), (14, .one (.int .i64 v2)), (15, .one (.int .i64 v3))] [] : St D0) (spec_NotesUpTo.K122 N) = spec_NotesUpTo.l1 N n v0 v1 v2 v3) ∧ (∀ (v0 : Int) (v1 : List Int) (v2 : List ByteArray) (v3 : Int) (v4 : Int), iter (loopF spec_NotesUpTo.C (spec_NotesUpTo.O N) N spec_NotesUpTo.c244 122) n (mkSt [(1, .one (.int .i64 v0)), (6, .one (.sl true 3 v1)), (13, .one (.sl false 9 v2)), (14, .one (.int .i64 v3)), (15, .one (.int .i64 v4))] [] : St D0) (spec_NotesUpTo.K122 N) = spec_NotesUpTo.l2 N n v0 v1 v2 v3 v4)
  | 0 => ⟨(fun v0 v1 v2 v3 => rfl), (fun v0 v1 v2 v3 v4 => rfl)⟩
  | n + 1 => ⟨(fun v0 v1 v2 v3 => (spec_NotesUpTo.d1.run N (fun s => iter (loopF spec_NotesUpTo.C (spec_NotesUpTo.O N) N spec_NotesUpTo.c244 122) n s (spec_NotesUpTo.K122 N)) v0 v1 v2 v3).trans (show _ = spec_NotesUpTo.d1 N v0 v1 v2 v3 ((fun w0 w1 w2 w3 w4 => spec_NotesUpTo.l2 N n w0 w1 w2 w3 w4)) from (congr rfl (funext fun w0 => funext fun w1 => funext fun w2 => funext fun w3 => funext fun w4 => (spec_NotesUpTo.loop122 N n).2 w0 w1 w2 w3 w4)))), (fun v0 v1 v2 v3 v4 => (spec_NotesUpTo.d2.run N (fun s => iter (loopF spec_NotesUpTo.C (spec_NotesUpTo.O N) N spec_NotesUpTo.c244 122) n s (spec_NotesUpTo.K122 N)) v0 v1 v2 v3 v4).trans (show _ = spec_NotesUpTo.d2 N v0 v1 v2 v3 v4 ((fun w0 w1 w2 w3 w4 => spec_NotesUpTo.l2 N n w0 w1 w2 w3 w4)) from (congr rfl (funext fun w0 => funext fun w1 => funext fun w2 => funext fun w3 => funext fun w4 => (spec_NotesUpTo.loop122 N n).2 w0 w1 w2 w3 w4))))⟩
noncomputable def spec_NotesUpTo.o0 (N : Nat) (a0 : List ByteArray) (a1 : Int) (c1 : Int → (List ByteArray) → Int → Int → Option spec_NotesUpTo.R) : Option spec_NotesUpTo.R :=
 (spec_beAsked.g N a0 a1).bind fun r1 =>
 bif (!r1) then
  some (0, false)
 else
 c1 a1 a0 (a0.length : Int) 0
theorem spec_NotesUpTo.o0.run (N : Nat) (H244 : Code) (a0 : List ByteArray) (a1 : Int) : runC spec_NotesUpTo.C (spec_NotesUpTo.O N) N (.seq spec_NotesUpTo.c2 (.seq spec_NotesUpTo.c6 (.seq spec_NotesUpTo.c14 (.seq (.seq spec_NotesUpTo.c60 (.block 0 (.loop H244))) spec_NotesUpTo.c31)))) 1 (st0 [.one (.sl false 9 a0), .one (.int .i64 a1)] [] : St D0) spec_NotesUpTo.K0 = spec_NotesUpTo.o0 N a0 a1 ((fun w0 w1 w2 w3 => iter (loopF spec_NotesUpTo.C (spec_NotesUpTo.O N) N H244 122) N (mkSt [(1, .one (.int .i64 w0)), (6, .one (.nl)), (13, .one (.sl false 9 w1)), (14, .one (.int .i64 w2)), (15, .one (.int .i64 w3))] [] : St D0) (blockK 0 (onN (fun s => spec_NotesUpTo.C.tidy 30 s (fun s' => runC spec_NotesUpTo.C (spec_NotesUpTo.O N) N spec_NotesUpTo.c31 31 s' spec_NotesUpTo.K0)) spec_NotesUpTo.K0)))) := by kernel_rfl
noncomputable def spec_NotesUpTo.g (N : Nat) (a0 : List ByteArray) (a1 : Int) : Option spec_NotesUpTo.R := spec_NotesUpTo.o0 N a0 a1 ((fun w0 w1 w2 w3 => spec_NotesUpTo.l1 N N w0 w1 w2 w3))
theorem spec_NotesUpTo.c1_0 : spec_NotesUpTo.c1 = (.seq spec_NotesUpTo.c2 (.seq spec_NotesUpTo.c6 (.seq spec_NotesUpTo.c14 (.seq (.seq spec_NotesUpTo.c60 (.block 0 (.loop spec_NotesUpTo.c244))) spec_NotesUpTo.c31)))) := by kernel_rfl
theorem spec_NotesUpTo.g.run (N : Nat) (a0 : List ByteArray) (a1 : Int) : runC spec_NotesUpTo.C (spec_NotesUpTo.O N) N spec_NotesUpTo.c1 1 (st0 [.one (.sl false 9 a0), .one (.int .i64 a1)] [] : St D0) spec_NotesUpTo.K0 = spec_NotesUpTo.g N a0 a1 := by
  rw [spec_NotesUpTo.c1_0]; unfold spec_NotesUpTo.g; exact (spec_NotesUpTo.o0.run N spec_NotesUpTo.c244 a0 a1).trans (congr rfl (funext fun w0 => funext fun w1 => funext fun w2 => funext fun w3 => (spec_NotesUpTo.loop122 N N).1 w0 w1 w2 w3))
theorem spec_NotesUpTo.good (N : Nat) (a0 : List ByteArray) (a1 : Int) (r : spec_NotesUpTo.R) (h : spec_NotesUpTo.g N a0 a1 = some r) : Go.PM.Good Go.Proofs.Try.prog T0 12 [.one (.sl false 9 a0), .one (.int .i64 a1)] [] (spec_NotesUpTo.sig.ret r) (spec_NotesUpTo.sig.bs r) :=
  good_fn tabOk0 mixed0 spec_NotesUpTo.sig (spec_NotesUpTo.E N) Go.Proofs.Try.func12 (by kernel_rfl) (by kernel_rfl) 127347 0 0 [(122, [1, 6, 13, 14, 15], [])] 101713408 false [] [(false, [.any]), (false, [.any])] (by kernel_rfl) rfl rfl ((spec_NotesUpTo.g.run N a0 a1).trans h)
noncomputable def spec_NotesUpTo.ent (N : Nat) : Ent Go.Proofs.Try.prog T0 := mkEnt 12 [(false, [.ro 9]), (false, [.any])] spec_NotesUpTo.sig (fun t => spec_NotesUpTo.g N t.1 t.2) (fun t r h => spec_NotesUpTo.good N t.1 t.2 r h)
end Go.Proofs.Ytpmipkbfohcjiaa.M

namespace Go.Proofs.Ytpmipkbfohcjiaa.M
open Go Go.PM Go.Proofs.Ytpmipkbfohcjiaa.P
set_option linter.unusedVariables false
set_option maxRecDepth 100000
/-! ### impl_NextQuarterWith -/
abbrev impl_NextQuarterWith.R : Type := Int × Bool
abbrev impl_NextQuarterWith.sig : Sig := ⟨[(false, 1), (false, 1), (false, 1)], [], [.sl false 9, .int .i64, .int .i64], [(false, 1), (false, 1)], [], [.int .i64, .bool]⟩
noncomputable def impl_NextQuarterWith.C : Cfg D0 := ⟨Go.Proofs.Try.prog, T0, 1082130631, 0, 34, 0, [(12, [0, 1, 2, 23], []), (28, [0, 1, 2], [])], 2333352704, false, []⟩
noncomputable def impl_NextQuarterWith.E (N : Nat) : List (Ent Go.Proofs.Try.prog T0) := [impl_isQuarter.ent N, impl_isBell.ent N, impl_bells.ent N, slices_Contains_int_int.ent N, impl_notes.ent N, impl_bellText.ent N, strings_Contains.ent N]
noncomputable def impl_NextQuarterWith.O (N : Nat) : Orc D0 impl_NextQuarterWith.R := orcOf (impl_NextQuarterWith.E N)
noncomputable def impl_NextQuarterWith.K0 : Ex → St D0 → Option impl_NextQuarterWith.R := exitK impl_NextQuarterWith.C Go.Proofs.Try.f25.results.toList [(false, [.any]), (false, [.any])] (decOut impl_NextQuarterWith.sig)
noncomputable def impl_NextQuarterWith.c1 : Code := codeAt (Go.Proofs.Try.f25.body.getD .skip) []
noncomputable def impl_NextQuarterWith.c2 : Code := codeAt (Go.Proofs.Try.f25.body.getD .skip) [false]
noncomputable def impl_NextQuarterWith.c7 : Code := codeAt (Go.Proofs.Try.f25.body.getD .skip) [true, true]
noncomputable def impl_NextQuarterWith.c12 : Code := codeAt (Go.Proofs.Try.f25.body.getD .skip) [true, false, false]
noncomputable def impl_NextQuarterWith.c13 : Code := codeAt (Go.Proofs.Try.f25.body.getD .skip) [true, false, true]
noncomputable def impl_NextQuarterWith.c15 : Code := codeAt (Go.Proofs.Try.f25.body.getD .skip) [true, true, true]
noncomputable def impl_NextQuarterWith.c56 : Code := codeAt (Go.Proofs.Try.f25.body.getD .skip) [true, true, false, false, false]
noncomputable def impl_NextQuarterWith.K56 (N : Nat) (Kn28 : St D0 → Option impl_NextQuarterWith.R) : Ex → St D0 → Option impl_NextQuarterWith.R := (onN (fun s => impl_NextQuarterWith.C.tidy 28 s ((onN Kn28 (blockK 0 (onN (fun s => impl_NextQuarterWith.C.tidy 14 s (fun s' => runC impl_NextQuarterWith.C (impl_NextQuarterWith.O N) N impl_NextQuarterWith.c15 15 s' impl_NextQuarterWith.K0)) impl_NextQuarterWith.K0))) .normal)) (onN Kn28 (blockK 0 (onN (fun s => impl_NextQuarterWith.C.tidy 14 s (fun s' => runC impl_NextQuarterWith.C (impl_NextQuarterWith.O N) N impl_NextQuarterWith.c15 15 s' impl_NextQuarterWith.K0)) impl_NextQuarterWith.K0))))
noncomputable def impl_NextQuarterWith.o2 (N : Nat) (v0 : List ByteArray) (v1 : Int) (v2 : Int) (c2 : (List ByteArray) → Int → Int → Option impl_NextQuarterWith.R) : Option impl_NextQuarterWith.R :=
 (impl_notes.g N v0 v2).bind fun r1 =>
 (impl_bellText.g N v1).bind fun r2 =>
 (strings_Contains.g N r1 r2).bind fun r3 =>
 bif (!r3) then
  c2 v0 v1 (w64 (v2 + 1))
 else
 some (v2, true)
theorem impl_NextQuarterWith.o2.run (N : Nat) (Kn28 : St D0 → Option impl_NextQuarterWith.R) (v0 : List ByteArray) (v1 : Int) (v2 : Int) : runC impl_NextQuarterWith.C (impl_NextQuarterWith.O N) N impl_NextQuarterWith.c56 56 (mkSt [(0, .one (.sl false 9 v0)), (1, .one (.int .i64 v1)), (2, .one (.int .i64 v2))] [] : St D0) (onN (fun s => impl_NextQuarterWith.C.tidy 28 s ((onN Kn28 (blockK 0 (onN (fun s => impl_NextQuarterWith.C.tidy 14 s (fun s' => runC impl_NextQuarterWith.C (impl_NextQuarterWith.O N) N impl_NextQuarterWith.c15 15 s' impl_NextQuarterWith.K0)) impl_NextQuarterWith.K0))) .normal)) (onN Kn28 (blockK 0 (onN (fun s => impl_NextQuarterWith.C.tidy 14 s (fun s' => runC impl_NextQuarterWith.C (impl_NextQuarterWith.O N) N impl_NextQuarterWith.c15 15 s' impl_NextQuarterWith.K0)) impl_NextQuarterWith.K0)))) = impl_NextQuarterWith.o2 N v0 v1 v2 ((fun w0 w1 w2 => Kn28 (mkSt [(0, .one (.sl false 9 w0)), (1, .one (.int .i64 w1)), (2, .one (.int .i64 w2))] [] : St D0))) := by kernel_rfl
noncomputable def impl_NextQuarterWith.d2 (N : Nat) (v0 : List ByteArray) (v1 : Int) (v2 : Int) (c2 : (List ByteArray) → Int → Int → Option impl_NextQuarterWith.R) : Option impl_NextQuarterWith.R := impl_NextQuarterWith.o2 N v0 v1 v2 c2
theorem impl_NextQuarterWith.d2.run (N : Nat) (Kn28 : St D0 → Option impl_NextQuarterWith.R) (v0 : List ByteArray) (v1 : Int) (v2 : Int) : runC impl_NextQuarterWith.C (impl_NextQuarterWith.O N) N impl_NextQuarterWith.c56 56 (mkSt [(0, .one (.sl false 9 v0)), (1, .one (.int .i64 v1)), (2, .one (.int .i64 v2))] [] : St D0) (impl_NextQuarterWith.K56 N Kn28) = impl_NextQuarterWith.d2 N v0 v1 v2 ((fun w0 w1 w2 => Kn28 (mkSt [(0, .one (.sl false 9 w0)), (1, .one (.int .i64 w1)), (2, .one (.int .i64 w2))] [] : St D0))) := by
  exact (impl_NextQuarterWith.o2.run N Kn28 v0 v1 v2).trans rfl
noncomputable def impl_NextQuarterWith.K28 (N : Nat) : Ex → St D0 → Option impl_NextQuarterWith.R := (blockK 0 (onN (fun s => impl_NextQuarterWith.C.tidy 14 s (fun s' => runC impl_NextQuarterWith.C (impl_NextQuarterWith.O N) N impl_NextQuarterWith.c15 15 s' impl_NextQuarterWith.K0)) impl_NextQuarterWith.K0))
noncomputable def impl_NextQuarterWith.l2 (N : Nat) : Nat → (List ByteArray) → Int → Int → Option impl_NextQuarterWith.R
  | 0, _, _, _ => none
  | n + 1, v0, v1, v2 => impl_NextQuarterWith.d2 N v0 v1 v2 ((fun w0 w1 w2 => impl_NextQuarterWith.l2 N n w0 w1 w2))
theorem impl_NextQuarterWith.loop28 (N : Nat) : ∀ n, (∀ (v0 : List ByteArray) (v1 : Int) (v2 : Int), iter (loopF impl_NextQuarterWith.C (impl_NextQuarterWith.O N) N impl_NextQuarterWith.c56 28) n (mkSt [(0, .one (.sl false 9 v0)), (1, .one (.int .i64 v1)), (2, .one (.int .i64 v2))] [] : St D0) (impl_NextQuarterWith.K28 N) = impl_NextQuarterWith.l2 N n v0 v1 v2)
  | 0 => (fun v0 v1 v2 => rfl)
  | n + 1 => (fun v0 v1 v2 => (impl_NextQuarterWith.d2.run N (fun s => iter (loopF impl_NextQuarterWith.C (impl_NextQuarterWith.O N) N impl_NextQuarterWith.c56 28) n s (impl_NextQuarterWith.K28 N)) v0 v1 v2).trans (show _ = impl_NextQuarterWith.d2 N v0 v1 v2 ((fun w0 w1 w2 => impl_NextQuarterWith.l2 N n w0 w1 w2)) from (congr rfl (funext fun w0 => funext fun w1 => funext fun w2 => (impl_NextQuarterWith.loop28 N n) w0 w1 w2))))
noncomputable def impl_NextQuarterWith.K13 (N : Nat) : Ex → St D0 → Option impl_NextQuarterWith.R := (onN (fun s => impl_NextQuarterWith.C.tidy 6 s (fun s' => runC impl_NextQuarterWith.C (impl_NextQuarterWith.O N) N impl_NextQuarterWith.c7 7 s' impl_NextQuarterWith.K0)) impl_NextQuarterWith.K0)
noncomputable def impl_NextQuarterWith.o1 (N : Nat) (v0 : List ByteArray) (v1 : Int) (v2 : Int) (v3 : Bool) (c2 : (List ByteArray) → Int → Int → Option impl_NextQuarterWith.R) : Option impl_NextQuarterWith.R :=
 bif v3 then
  some (0, false)
 else
 c2 v0 v1 v2
theorem impl_NextQuarterWith.o1.run (N : Nat) (H56 : Code) (v0 : List ByteArray) (v1 : Int) (v2 : Int) (v3 : Bool) : runC impl_NextQuarterWith.C (impl_NextQuarterWith.O N) N impl_NextQuarterWith.c13 13 (mkSt [(0, .one (.sl false 9 v0)), (1, .one (.int .i64 v1)), (2, .one (.int .i64 v2)), (23, .one (.bool v3))] [] : St D0) (onN (fun s => impl_NextQuarterWith.C.tidy 6 s (fun s' => runC impl_NextQuarterWith.C (impl_NextQuarterWith.O N) N (.seq (.block 0 (.loop H56)) impl_NextQuarterWith.c15) 7 s' impl_NextQuarterWith.K0)) impl_NextQuarterWith.K0) = impl_NextQuarterWith.o1 N v0 v1 v2 v3 ((fun w0 w1 w2 => iter (loopF impl_NextQuarterWith.C (impl_NextQuarterWith.O N) N H56 28) N (mkSt [(0, .one (.sl false 9 w0)), (1, .one (.int .i64 w1)), (2, .one (.int .i64 w2))] [] : St D0) (blockK 0 (onN (fun s => impl_NextQuarterWith.C.tidy 14 s (fun s' => runC impl_NextQuarterWith.C (impl_NextQuarterWith.O N) N impl_NextQuarterWith.c15 15 s' impl_NextQuarterWith.K0)) impl_NextQuarterWith.K0)))) := by kernel_rfl
noncomputable def impl_NextQuarterWith.d1 (N : Nat) (v0 : List ByteArray) (v1 : Int) (v2 : Int) (v3 : Bool) : Option impl_NextQuarterWith.R := impl_NextQuarterWith.o1 N v0 v1 v2 v3 ((fun w0 w1 w2 => impl_NextQuarterWith.l2 N N w0 w1 w2))
theorem impl_NextQuarterWith.d1.run (N : Nat) (v0 : List ByteArray) (v1 : Int) (v2 : Int) (v3 : Bool) : runC impl_NextQuarterWith.C (impl_NextQuarterWith.O N) N impl_NextQuarterWith.c13 13 (mkSt [(0, .one (.sl false 9 v0)), (1, .one (.int .i64 v1)), (2, .one (.int .i64 v2)), (23, .one (.bool v3))] [] : St D0) (impl_NextQuarterWith.K13 N) = impl_NextQuarterWith.d1 N v0 v1 v2 v3 := by
  unfold impl_NextQuarterWith.d1; exact (impl_NextQuarterWith.o1.run N impl_NextQuarterWith.c56 v0 v1 v2 v3).trans (congr rfl (funext fun w0 => funext fun w1 => funext fun w2 => (impl_NextQuarterWith.loop28 N N) w0 w1 w2))
noncomputable def impl_NextQuarterWith.o0 (N : Nat) (a0 : List ByteArray) (a1 : Int) (a2 : Int) (c1 : (List ByteArray) → Int → Int → Bool → Option impl_NextQuarterWith.R) : Option impl_NextQuarterWith.R :=
 (impl_isQuarter.g N a0 a2).bind fun r1 =>
 bif (!r1) then
  c1 a0 a1 a2 true
 else
 (impl_isBell.g N a1).bind fun r2 =>
 bif (!r2) then
  c1 a0 a1 a2 true
 else
 (impl_bells.g N a0).bind fun r3 =>
 (slices_Contains_int_int.g N r3 a1).bind fun r4 =>
 c1 a0 a1 a2 (!r4)
theorem impl_NextQuarterWith.o0.run (N : Nat) (H13 : Code) (a0 : List ByteArray) (a1 : Int) (a2 : Int) : runC impl_NextQuarterWith.C (impl_NextQuarterWith.O N) N (.seq impl_NextQuarterWith.c2 (.seq (.seq impl_NextQuarterWith.c12 H13) impl_NextQuarterWith.c7)) 1 (st0 [.one (.sl false 9 a0), .one (.int .i64 a1), .one (.int .i64 a2)] [] : St D0) impl_NextQuarterWith.K0 = impl_NextQuarterWith.o0 N a0 a1 a2 ((fun w0 w1 w2 w3 => runC impl_NextQuarterWith.C (impl_NextQuarterWith.O N) N H13 13 (mkSt [(0, .one (.sl false 9 w0)), (1, .one (.int .i64 w1)), (2, .one (.int .i64 w2)), (23, .one (.bool w3))] [] : St D0) (onN (fun s => impl_NextQuarterWith.C.tidy 6 s (fun s' => runC impl_NextQuarterWith.C (impl_NextQuarterWith.O N) N impl_NextQuarterWith.c7 7 s' impl_NextQuarterWith.K0)) impl_NextQuarterWith.K0))) := by kernel_rfl
noncomputable def impl_NextQuarterWith.B6 (N : Nat) : St D0 → Option impl_NextQuarterWith.R := fun s' => runC impl_NextQuarterWith.C (impl_NextQuarterWith.O N) N impl_NextQuarterWith.c13 13 s' (impl_NextQuarterWith.K13 N)
noncomputable def impl_NextQuarterWith.g (N : Nat) (a0 : List ByteArray) (a1 : Int) (a2 : Int) : Option impl_NextQuarterWith.R := impl_NextQuarterWith.o0 N a0 a1 a2 ((fun w0 w1 w2 w3 => impl_NextQuarterWith.d1 N w0 w1 w2 w3))
theorem impl_NextQuarterWith.c1_0 : impl_NextQuarterWith.c1 = (.seq impl_NextQuarterWith.c2 (.seq (.seq impl_NextQuarterWith.c12 impl_NextQuarterWith.c13) impl_NextQuarterWith.c7)) := by kernel_rfl
theorem impl_NextQuarterWith.g.run (N : Nat) (a0 : List ByteArray) (a1 : Int) (a2 : Int) : runC impl_NextQuarterWith.C (impl_NextQuarterWith.O N) N impl_NextQuarterWith.c1 1 (st0 [.one (.sl false 9 a0), .one (.int .i64 a1), .one (.int .i64 a2)] [] : St D0) impl_NextQuarterWith.K0 = impl_NextQuarterWith.g N a0 a1 a2 := by
  rw [impl_NextQuarterWith.c1_0]; unfold impl_NextQuarterWith.g; exact (impl_NextQuarterWith.o0.run N impl_NextQuarterWith.c13 a0 a1 a2).trans (congr rfl (funext fun w0 => funext fun w1 => funext fun w2 => funext fun w3 => impl_NextQuarterWith.d1.run N w0 w1 w2 w3))
theorem impl_NextQuarterWith.good (N : Nat) (a0 : List ByteArray) (a1 : Int) (a2 : Int) (r : impl_NextQuarterWith.R) (h : impl_NextQuarterWith.g N a0 a1 a2 = some r) : Go.PM.Good Go.Proofs.Try.prog T0 25 [.one (.sl false 9 a0), .one (.int .i64 a1), .one (.int .i64 a2)] [] (impl_NextQuarterWith.sig.ret r) (impl_NextQuarterWith.sig.bs r) :=
  good_fn tabOk0 mixed0 impl_NextQuarterWith.sig (impl_NextQuarterWith.E N) Go.Proofs.Try.func25 (by kernel_rfl) (by kernel_rfl) 1082130631 0 0 [(12, [0, 1, 2, 23], []), (28, [0, 1, 2], [])] 2333352704 false [] [(false, [.any]), (false, [.any])] (by kernel_rfl) rfl rfl ((impl_NextQuarterWith.g.run N a0 a1 a2).trans h)
noncomputable def impl_NextQuarterWith.ent (N : Nat) : Ent Go.Proofs.Try.prog T0 := mkEnt 25 [(false, [.ro 9]), (false, [.any]), (false, [.any])] impl_NextQuarterWith.sig (fun t => impl_NextQuarterWith.g N t.1 t.2.1 t.2.2) (fun t r h => impl_NextQuarterWith.good N t.1 t.2.1 t.2.2 r h)
end Go.Proofs.Ytpmipkbfohcjiaa.M

namespace Go.Proofs.Ytpmipkbfohcjiaa.M
open Go Go.PM Go.Proofs.Ytpmipkbfohcjiaa.P
set_option linter.unusedVariables false
set_option maxRecDepth 100000
/-! ### spec_NextQuarterWith -/
abbrev spec_NextQuarterWith.R : Type := Int × Bool
abbrev spec_NextQuarterWith.sig : Sig := ⟨[(false, 1), (false, 1), (false, 1)], [], [.sl false 9, .int .i64, .int .i64], [(false, 1), (false, 1)], [], [.int .i64, .bool]⟩
noncomputable def spec_NextQuarterWith.C : Cfg D0 := ⟨Go.Proofs.Try.prog, T0, 4299293127, 0, 36, 0, [(12, [0, 1, 2, 17], []), (58, [0, 1, 2, 8], [])], 27087619584, false, []⟩
noncomputable def spec_NextQuarterWith.E (N : Nat) : List (Ent Go.Proofs.Try.prog T0) := [spec_beAsked.ent N, spec_beIs.ent N, spec_beHours.ent N, spec_beNotes.ent N, spec_beBell.ent N]
noncomputable def spec_NextQuarterWith.O (N : Nat) : Orc D0 spec_NextQuarterWith.R := orcOf (spec_NextQuarterWith.E N)
noncomputable def spec_NextQuarterWith.K0 : Ex → St D0 → Option spec_NextQuarterWith.R := exitK spec_NextQuarterWith.C Go.Proofs.Try.f26.results.toList [(false, [.any]), (false, [.any])] (decOut spec_NextQuarterWith.sig)
noncomputable def spec_NextQuarterWith.c1 : Code := codeAt (Go.Proofs.Try.f26.body.getD .skip) []
noncomputable def spec_NextQuarterWith.c2 : Code := codeAt (Go.Proofs.Try.f26.body.getD .skip) [false]
noncomputable def spec_NextQuarterWith.c7 : Code := codeAt (Go.Proofs.Try.f26.body.getD .skip) [true, true]
noncomputable def spec_NextQuarterWith.c12 : Code := codeAt (Go.Proofs.Try.f26.body.getD .skip) [true, false, false]
noncomputable def spec_NextQuarterWith.c13 : Code := codeAt (Go.Proofs.Try.f26.body.getD .skip) [true, false, true]
noncomputable def spec_NextQuarterWith.c15 : Code := codeAt (Go.Proofs.Try.f26.body.getD .skip) [true, true, true]
noncomputable def spec_NextQuarterWith.c28 : Code := codeAt (Go.Proofs.Try.f26.body.getD .skip) [true, true, false, false]
noncomputable def spec_NextQuarterWith.c116 : Code := codeAt (Go.Proofs.Try.f26.body.getD .skip) [true, true, false, true, false, false]
noncomputable def spec_NextQuarterWith.K116 (N : Nat) (Kn58 : St D0 → Option spec_NextQuarterWith.R) : Ex → St D0 → Option spec_NextQuarterWith.R := (onN (fun s => spec_NextQuarterWith.C.tidy 58 s ((onN Kn58 (blockK 0 (onN (fun s => spec_NextQuarterWith.C.tidy 14 s (fun s' => runC spec_NextQuarterWith.C (spec_NextQuarterWith.O N) N spec_NextQuarterWith.c15 15 s' spec_NextQuarterWith.K0)) spec_NextQuarterWith.K0))) .normal)) (onN Kn58 (blockK 0 (onN (fun s => spec_NextQuarterWith.C.tidy 14 s (fun s' => runC spec_NextQuarterWith.C (spec_NextQuarterWith.O N) N spec_NextQuarterWith.c15 15 s' spec_NextQuarterWith.K0)) spec_NextQuarterWith.K0))))
noncomputable def spec_NextQuarterWith.o2 (N : Nat) (v0 : List ByteArray) (v1 : Int) (v2 : Int) (v3 : Int) (c2 : (List ByteArray) → Int → Int → Int → Option spec_NextQuarterWith.R) : Option spec_NextQuarterWith.R :=
 (spec_beHours.g N v0).bind fun r1 =>
 bif (decide (v3 < (w64 (4 * r1)))) then
  (spec_beNotes.g N v0 (w64 (v2 + v3))).bind fun r2 =>
  (spec_beBell.g N r2 v1).bind fun r3 =>
  bif (decide (r3 > 0)) then
   some ((w64 (v2 + v3)), true)
  else
  c2 v0 v1 v2 (w64 (v3 + 1))
 else
 some (0, false)
theorem spec_NextQuarterWith.o2.run (N : Nat) (Kn58 : St D0 → Option spec_NextQuarterWith.R) (v0 : List ByteArray) (v1 : Int) (v2 : Int) (v3 : Int) : runC spec_NextQuarterWith.C (spec_NextQuarterWith.O N) N spec_NextQuarterWith.c116 116 (mkSt [(0, .one (.sl false 9 v0)), (1, .one (.int .i64 v1)), (2, .one (.int .i64 v2)), (8, .one (.int .i64 v3))] [] : St D0) (onN (fun s => spec_NextQuarterWith.C.tidy 58 s ((onN Kn58 (blockK 0 (onN (fun s => spec_NextQuarterWith.C.tidy 14 s (fun s' => runC spec_NextQuarterWith.C (spec_NextQuarterWith.O N) N spec_NextQuarterWith.c15 15 s' spec_NextQuarterWith.K0)) spec_NextQuarterWith.K0))) .normal)) (onN Kn58 (blockK 0 (onN (fun s => spec_NextQuarterWith.C.tidy 14 s (fun s' => runC spec_NextQuarterWith.C (spec_NextQuarterWith.O N) N spec_NextQuarterWith.c15 15 s' spec_NextQuarterWith.K0)) spec_NextQuarterWith.K0)))) = spec_NextQuarterWith.o2 N v0 v1 v2 v3 ((fun w0 w1 w2 w3 => Kn58 (mkSt [(0, .one (.sl false 9 w0)), (1, .one (.int .i64 w1)), (2, .one (.int .i64 w2)), (8, .one (.int .i64 w3))] [] : St D0))) := by kernel_rfl
noncomputable def spec_NextQuarterWith.d2 (N : Nat) (v0 : List ByteArray) (v1 : Int) (v2 : Int) (v3 : Int) (c2 : (List ByteArray) → Int → Int → Int → Option spec_NextQuarterWith.R) : Option spec_NextQuarterWith.R := spec_NextQuarterWith.o2 N v0 v1 v2 v3 c2
theorem spec_NextQuarterWith.d2.run (N : Nat) (Kn58 : St D0 → Option spec_NextQuarterWith.R) (v0 : List ByteArray) (v1 : Int) (v2 : Int) (v3 : Int) : runC spec_NextQuarterWith.C (spec_NextQuarterWith.O N) N spec_NextQuarterWith.c116 116 (mkSt [(0, .one (.sl false 9 v0)), (1, .one (.int .i64 v1)), (2, .one (.int .i64 v2)), (8, .one (.int .i64 v3))] [] : St D0) (spec_NextQuarterWith.K116 N Kn58) = spec_NextQuarterWith.d2 N v0 v1 v2 v3 ((fun w0 w1 w2 w3 => Kn58 (mkSt [(0, .one (.sl false 9 w0)), (1, .one (.int .i64 w1)), (2, .one (.int .i64 w2)), (8, .one (.int .i64 w3))] [] : St D0))) := by
  exact (spec_NextQuarterWith.o2.run N Kn58 v0 v1 v2 v3).trans rfl
noncomputable def spec_NextQuarterWith.K58 (N : Nat) : Ex → St D0 → Option spec_NextQuarterWith.R := (blockK 0 (onN (fun s => spec_NextQuarterWith.C.tidy 14 s (fun s' => runC spec_NextQuarterWith.C (spec_NextQuarterWith.O N) N spec_NextQuarterWith.c15 15 s' spec_NextQuarterWith.K0)) spec_NextQuarterWith.K0))
noncomputable def spec_NextQuarterWith.l2 (N : Nat) : Nat → (List ByteArray) → Int → Int → Int → Option spec_NextQuarterWith.R
  | 0, _, _, _, _ => none
  | n + 1, v0, v1, v2, v3 => spec_NextQuarterWith.d2 N v0 v1 v2 v3 ((fun w0 w1 w2 w3 => spec_NextQuarterWith.l2 N n w0 w1 w2 w3))
theorem spec_NextQuarterWith.loop58 (N : Nat) : ∀ n, (∀ (v0 : List ByteArray) (v1 : Int) (v2 : Int) (v3 : Int), iter (loopF spec_NextQuarterWith.C (spec_NextQuarterWith.O N) N spec_NextQuarterWith.c116 58) n (mkSt [(0, .one (.sl false 9 v0)), (1, .one (.int .i64 v1)), (2, .one (.int .i64 v2)), (8, .one (.int .i64 v3))] [] : St D0) (spec_NextQuarterWith.K58 N) = spec_NextQuarterWith.l2 N n v0 v1 v2 v3)
  | 0 => (fun v0 v1 v2 v3 => rfl)
  | n + 1 => (fun v0 v1 v2 v3 => (spec_NextQuarterWith.d2.run N (fun s => iter (loopF spec_NextQuarterWith.C (spec_NextQuarterWith.O N) N spec_NextQuarterWith.c116 58) n s (spec_NextQuarterWith.K58 N)) v0 v1 v2 v3).trans (show _ = spec_NextQuarterWith.d2 N v0 v1 v2 v3 ((fun w0 w1 w2 w3 => spec_NextQuarterWith.l2 N n w0 w1 w2 w3)) from (congr rfl (funext fun w0 => funext fun w1 => funext fun w2 => funext fun w3 => (spec_NextQuarterWith.loop58 N n) w0 w1 w2 w3))))
noncomputable def spec_NextQuarterWith.K13 (N : Nat) : Ex → St D0 → Option spec_NextQuarterWith.R := (onN (fun s => spec_NextQuarterWith.C.tidy 6 s (fun s' => runC spec_NextQuarterWith.C (spec_NextQuarterWith.O N) N spec_NextQuarterWith.c7 7 s' spec_NextQuarterWith.K0)) spec_NextQuarterWith.K0)
noncomputable def spec_NextQuarterWith.o1 (N : Nat) (v0 : List ByteArray) (v1 : Int) (v2 : Int) (v3 : Bool) (c2 : (List ByteArray) → Int → Int → Int → Option spec_NextQuarterWith.R) : Option spec_NextQuarterWith.R :=
 bif v3 then
  some (0, false)
 else
 c2 v0 v1 v2 0
theorem spec_NextQuarterWith.o1.run (N : Nat) (H116 : Code) (v0 : List ByteArray) (v1 : Int) (v2 : Int) (v3 : Bool) : runC spec_NextQuarterWith.C (spec_NextQuarterWith.O N) N spec_NextQuarterWith.c13 13 (mkSt [(0, .one (.sl false 9 v0)), (1, .one (.int .i64 v1)), (2, .one (.int .i64 v2)), (17, .one (.bool v3))] [] : St D0) (onN (fun s => spec_NextQuarterWith.C.tidy 6 s (fun s' => runC spec_NextQuarterWith.C (spec_NextQuarterWith.O N) N (.seq (.seq spec_NextQuarterWith.c28 (.block 0 (.loop H116))) spec_NextQuarterWith.c15) 7 s' spec_NextQuarterWith.K0)) spec_NextQuarterWith.K0) = spec_NextQuarterWith.o1 N v0 v1 v2 v3 ((fun w0 w1 w2 w3 => iter (loopF spec_NextQuarterWith.C (spec_NextQuarterWith.O N) N H116 58) N (mkSt [(0, .one (.sl false 9 w0)), (1, .one (.int .i64 w1)), (2, .one (.int .i64 w2)), (8, .one (.int .i64 w3))] [] : St D0) (blockK 0 (onN (fun s => spec_NextQuarterWith.C.tidy 14 s (fun s' => runC spec_NextQuarterWith.C (spec_NextQuarterWith.O N) N spec_NextQuarterWith.c15 15 s' spec_NextQuarterWith.K0)) spec_NextQuarterWith.K0)))) := by kernel_rfl
noncomputable def spec_NextQuarterWith.d1 (N : Nat) (v0 : List ByteArray) (v1 : Int) (v2 : Int) (v3 : Bool) : Option spec_NextQuarterWith.R := spec_NextQuarterWith.o1 N v0 v1 v2 v3 ((fun w0 w1 w2 w3 => spec_NextQuarterWith.l2 N N w0 w1 w2 w3))
theorem spec_NextQuarterWith.d1.run (N : Nat) (v0 : List ByteArray) (v1 : Int) (v2 : Int) (v3 : Bool) : runC spec_NextQuarterWith.C (spec_NextQuarterWith.O N) N spec_NextQuarterWith.c13 13 (mkSt [(0, .one (.sl false 9 v0)), (1, .one (.int .i64 v1)), (2, .one (.int .i64 v2)), (17, .one (.bool v3))] [] : St D0) (spec_NextQuarterWith.K13 N) = spec_NextQuarterWith.d1 N v0 v1 v2 v3 := by
  unfold spec_NextQuarterWith.d1; exact (spec_NextQuarterWith.o1.run N spec_NextQuarterWith.c116 v0 v1 v2 v3).trans (congr rfl (funext fun w0 => funext fun w1 => funext fun w2 => funext fun w3 => (spec_NextQuarterWith.loop58 N N) w0 w1 w2 w3))
noncomputable def spec_NextQuarterWith.o0 (N : Nat) (a0 : List ByteArray) (a1 : Int) (a2 : Int) (c1 : (List ByteArray) → Int → Int → Bool → Option spec_NextQuarterWith.R) : Option spec_NextQuarterWith.R :=
 (spec_beAsked.g N a0 a2).bind fun r1 =>
 bif (!r1) then
  c1 a0 a1 a2 true
 else
 (spec_beIs.g N a1).bind fun r2 =>
 c1 a0 a1 a2 (!r2)
theorem spec_NextQuarterWith.o0.run (N : Nat) (H13 : Code) (a0 : List ByteArray) (a1 : Int) (a2 : Int) : runC spec_NextQuarterWith.C (spec_NextQuarterWith.O N) N (.seq spec_NextQuarterWith.c2 (.seq (.seq spec_NextQuarterWith.c12 H13) spec_NextQuarterWith.c7)) 1 (st0 [.one (.sl false 9 a0), .one (.int .i64 a1), .one (.int .i64 a2)] [] : St D0) spec_NextQuarterWith.K0 = spec_NextQuarterWith.o0 N a0 a1 a2 ((fun w0 w1 w2 w3 => runC spec_NextQuarterWith.C (spec_NextQuarterWith.O N) N H13 13 (mkSt [(0, .one (.sl false 9 w0)), (1, .one (.int .i64 w1)), (2, .one (.int .i64 w2)), (17, .one (.bool w3))] [] : St D0) (onN (fun s => spec_NextQuarterWith.C.tidy 6 s (fun s' => runC spec_NextQuarterWith.C (spec_NextQuarterWith.O N) N spec_NextQuarterWith.c7 7 s' spec_NextQuarterWith.K0)) spec_NextQuarterWith.K0))) := by kernel_rfl
noncomputable def spec_NextQuarterWith.B6 (N : Nat) : St D0 → Option spec_NextQuarterWith.R := fun s' => runC spec_NextQuarterWith.C (spec_NextQuarterWith.O N) N spec_NextQuarterWith.c13 13 s' (spec_NextQuarterWith.K13 N)
noncomputable def spec_NextQuarterWith.g (N : Nat) (a0 : List ByteArray) (a1 : Int) (a2 : Int) : Option spec_NextQuarterWith.R := spec_NextQuarterWith.o0 N a0 a1 a2 ((fun w0 w1 w2 w3 => spec_NextQuarterWith.d1 N w0 w1 w2 w3))
theorem spec_NextQuarterWith.c1_0 : spec_NextQuarterWith.c1 = (.seq spec_NextQuarterWith.c2 (.seq (.seq spec_NextQuarterWith.c12 spec_NextQuarterWith.c13) spec_NextQuarterWith.c7)) := by kernel_rfl
theorem spec_NextQuarterWith.g.run (N : Nat) (a0 : List ByteArray) (a1 : Int) (a2 : Int) : runC spec_NextQuarterWith.C (spec_NextQuarterWith.O N) N spec_NextQuarterWith.c1 1 (st0 [.one (.sl false 9 a0), .one (.int .i64 a1), .one (.int .i64 a2)] [] : St D0) spec_NextQuarterWith.K0 = spec_NextQuarterWith.g N a0 a1 a2 := by
  rw [spec_NextQuarterWith.c1_0]; unfold spec_NextQuarterWith.g; exact (spec_NextQuarterWith.o0.run N spec_NextQuarterWith.c13 a0 a1 a2).trans (congr rfl (funext fun w0 => funext fun w1 => funext fun w2 => funext fun w3 => spec_NextQuarterWith.d1.run N w0 w1 w2 w3))
theorem spec_NextQuarterWith.good (N : Nat) (a0 : List ByteArray) (a1 : Int) (a2 : Int) (r : spec_NextQuarterWith.R) (h : spec_NextQuarterWith.g N a0 a1 a2 = some r) : Go.PM.Good Go.Proofs.Try.prog T0 26 [.one (.sl false 9 a0), .one (.int .i64 a1), .one (.int .i64 a2)] [] (spec_NextQuarterWith.sig.ret r) (spec_NextQuarterWith.sig.bs r) :=
  good_fn tabOk0 mixed0 spec_NextQuarterWith.sig (spec_NextQuarterWith.E N) Go.Proofs.Try.func26 (by kernel_rfl) (by kernel_rfl) 4299293127 0 0 [(12, [0, 1, 2, 17], []), (58, [0, 1, 2, 8], [])] 27087619584 false [] [(false, [.any]), (false, [.any])] (by kernel_rfl) rfl rfl ((spec_NextQuarterWith.g.run N a0 a1 a2).trans h)
noncomputable def spec_NextQuarterWith.ent (N : Nat) : Ent Go.Proofs.Try.prog T0 := mkEnt 26 [(false, [.ro 9]), (false, [.any]), (false, [.any])] spec_NextQuarterWith.sig (fun t => spec_NextQuarterWith.g N t.1 t.2.1 t.2.2) (fun t r h => spec_NextQuarterWith.good N t.1 t.2.1 t.2.2 r h)
end Go.Proofs.Ytpmipkbfohcjiaa.M

namespace Go.Proofs.Ytpmipkbfohcjiaa.M
open Go Go.PM Go.Proofs.Ytpmipkbfohcjiaa.P
set_option linter.unusedVariables false
set_option maxRecDepth 100000
/-! ### impl_PlayedAt -/
abbrev impl_PlayedAt.R : Type := ByteArray × Bool
abbrev impl_PlayedAt.sig : Sig := ⟨[(false, 1), (false, 1)], [], [.sl false 9, .int .i64], [(false, 1), (false, 1)], [], [.str, .bool]⟩
noncomputable def impl_PlayedAt.C : Cfg D0 := ⟨Go.Proofs.Try.prog, T0, 563, 0, 13, 0, [], 3264, false, []⟩
noncomputable def impl_PlayedAt.E (N : Nat) : List (Ent Go.Proofs.Try.prog T0) := [impl_isQuarter.ent N, impl_notes.ent N]
noncomputable def impl_PlayedAt.O (N : Nat) : Orc D0 impl_PlayedAt.R := orcOf (impl_PlayedAt.E N)
noncomputable def impl_PlayedAt.K0 : Ex → St D0 → Option impl_PlayedAt.R := exitK impl_PlayedAt.C Go.Proofs.Try.f5.results.toList [(false, [.any]), (false, [.any])] (decOut impl_PlayedAt.sig)
noncomputable def impl_PlayedAt.c1 : Code := codeAt (Go.Proofs.Try.f5.body.getD .skip) []
noncomputable def impl_PlayedAt.o0 (N : Nat) (a0 : List ByteArray) (a1 : Int) : Option impl_PlayedAt.R :=
 (impl_isQuarter.g N a0 a1).bind fun r1 =>
 bif (!r1) then
  some ((⟨#[]⟩ : ByteArray), false)
 else
 (impl_notes.g N a0 a1).bind fun r2 =>
 some (r2, true)
theorem impl_PlayedAt.o0.run (N : Nat) (a0 : List ByteArray) (a1 : Int) : runC impl_PlayedAt.C (impl_PlayedAt.O N) N impl_PlayedAt.c1 1 (st0 [.one (.sl false 9 a0), .one (.int .i64 a1)] [] : St D0) impl_PlayedAt.K0 = impl_PlayedAt.o0 N a0 a1 := by kernel_rfl
noncomputable def impl_PlayedAt.g (N : Nat) (a0 : List ByteArray) (a1 : Int) : Option impl_PlayedAt.R := impl_PlayedAt.o0 N a0 a1
theorem impl_PlayedAt.g.run (N : Nat) (a0 : List ByteArray) (a1 : Int) : runC impl_PlayedAt.C (impl_PlayedAt.O N) N impl_PlayedAt.c1 1 (st0 [.one (.sl false 9 a0), .one (.int .i64 a1)] [] : St D0) impl_PlayedAt.K0 = impl_PlayedAt.g N a0 a1 := by
  exact (impl_PlayedAt.o0.run N a0 a1).trans rfl
theorem impl_PlayedAt.good (N : Nat) (a0 : List ByteArray) (a1 : Int) (r : impl_PlayedAt.R) (h : impl_PlayedAt.g N a0 a1 = some r) : Go.PM.Good Go.Proofs.Try.prog T0 5 [.one (.sl false 9 a0), .one (.int .i64 a1)] [] (impl_PlayedAt.sig.ret r) (impl_PlayedAt.sig.bs r) :=
  good_fn tabOk0 mixed0 impl_PlayedAt.sig (impl_PlayedAt.E N) Go.Proofs.Try.func5 (by kernel_rfl) (by kernel_rfl) 563 0 0 [] 3264 false [] [(false, [.any]), (false, [.any])] (by kernel_rfl) rfl rfl ((impl_PlayedAt.g.run N a0 a1).trans h)
noncomputable def impl_PlayedAt.ent (N : Nat) : Ent Go.Proofs.Try.prog T0 := mkEnt 5 [(false, [.ro 9]), (false, [.any])] impl_PlayedAt.sig (fun t => impl_PlayedAt.g N t.1 t.2) (fun t r h => impl_PlayedAt.good N t.1 t.2 r h)
end Go.Proofs.Ytpmipkbfohcjiaa.M

namespace Go.Proofs.Ytpmipkbfohcjiaa.M
open Go Go.PM Go.Proofs.Ytpmipkbfohcjiaa.P
set_option linter.unusedVariables false
set_option maxRecDepth 100000
/-! ### spec_PlayedAt -/
abbrev spec_PlayedAt.R : Type := ByteArray × Bool
abbrev spec_PlayedAt.sig : Sig := ⟨[(false, 1), (false, 1)], [], [.sl false 9, .int .i64], [(false, 1), (false, 1)], [], [.str, .bool]⟩
noncomputable def spec_PlayedAt.C : Cfg D0 := ⟨Go.Proofs.Try.prog, T0, 563, 0, 13, 0, [], 3264, false, []⟩
noncomputable def spec_PlayedAt.E (N : Nat) : List (Ent Go.Proofs.Try.prog T0) := [spec_beAsked.ent N, spec_beNotes.ent N]
noncomputable def spec_PlayedAt.O (N : Nat) : Orc D0 spec_PlayedAt.R := orcOf (spec_PlayedAt.E N)
noncomputable def spec_PlayedAt.K0 : Ex → St D0 → Option spec_PlayedAt.R := exitK spec_PlayedAt.C Go.Proofs.Try.f6.results.toList [(false, [.any]), (false, [.any])] (decOut spec_PlayedAt.sig)
noncomputable def spec_PlayedAt.c1 : Code := codeAt (Go.Proofs.Try.f6.body.getD .skip) []
noncomputable def spec_PlayedAt.o0 (N : Nat) (a0 : List ByteArray) (a1 : Int) : Option spec_PlayedAt.R :=
 (spec_beAsked.g N a0 a1).bind fun r1 =>
 bif (!r1) then
  some ((⟨#[]⟩ : ByteArray), false)
 else
 (spec_beNotes.g N a0 a1).bind fun r2 =>
 some (r2, true)
theorem spec_PlayedAt.o0.run (N : Nat) (a0 : List ByteArray) (a1 : Int) : runC spec_PlayedAt.C (spec_PlayedAt.O N) N spec_PlayedAt.c1 1 (st0 [.one (.sl false 9 a0), .one (.int .i64 a1)] [] : St D0) spec_PlayedAt.K0 = spec_PlayedAt.o0 N a0 a1 := by kernel_rfl
noncomputable def spec_PlayedAt.g (N : Nat) (a0 : List ByteArray) (a1 : Int) : Option spec_PlayedAt.R := spec_PlayedAt.o0 N a0 a1
theorem spec_PlayedAt.g.run (N : Nat) (a0 : List ByteArray) (a1 : Int) : runC spec_PlayedAt.C (spec_PlayedAt.O N) N spec_PlayedAt.c1 1 (st0 [.one (.sl false 9 a0), .one (.int .i64 a1)] [] : St D0) spec_PlayedAt.K0 = spec_PlayedAt.g N a0 a1 := by
  exact (spec_PlayedAt.o0.run N a0 a1).trans rfl
theorem spec_PlayedAt.good (N : Nat) (a0 : List ByteArray) (a1 : Int) (r : spec_PlayedAt.R) (h : spec_PlayedAt.g N a0 a1 = some r) : Go.PM.Good Go.Proofs.Try.prog T0 6 [.one (.sl false 9 a0), .one (.int .i64 a1)] [] (spec_PlayedAt.sig.ret r) (spec_PlayedAt.sig.bs r) :=
  good_fn tabOk0 mixed0 spec_PlayedAt.sig (spec_PlayedAt.E N) Go.Proofs.Try.func6 (by kernel_rfl) (by kernel_rfl) 563 0 0 [] 3264 false [] [(false, [.any]), (false, [.any])] (by kernel_rfl) rfl rfl ((spec_PlayedAt.g.run N a0 a1).trans h)
noncomputable def spec_PlayedAt.ent (N : Nat) : Ent Go.Proofs.Try.prog T0 := mkEnt 6 [(false, [.ro 9]), (false, [.any])] spec_PlayedAt.sig (fun t => spec_PlayedAt.g N t.1 t.2) (fun t r h => spec_PlayedAt.good N t.1 t.2 r h)
end Go.Proofs.Ytpmipkbfohcjiaa.M

namespace Go.Proofs.Ytpmipkbfohcjiaa.M
open Go Go.PM Go.Proofs.Ytpmipkbfohcjiaa.P
set_option linter.unusedVariables false
set_option maxRecDepth 100000
/-! ### impl_PhrasesOf -/
abbrev impl_PhrasesOf.R : Type := List Int × Bool
abbrev impl_PhrasesOf.sig : Sig := ⟨[(false, 1), (false, 1)], [], [.sl false 9, .int .i64], [(false, 1), (false, 1)], [], [.sl true 3, .bool]⟩
noncomputable def impl_PhrasesOf.C : Cfg D0 := ⟨Go.Proofs.Try.prog, T0, 563, 0, 13, 0, [], 3264, false, []⟩
noncomputable def impl_PhrasesOf.E (N : Nat) : List (Ent Go.Proofs.Try.prog T0) := [impl_isQuarter.ent N, impl_phrases.ent N]
noncomputable def impl_PhrasesOf.O (N : Nat) : Orc D0 impl_PhrasesOf.R := orcOf (impl_PhrasesOf.E N)
noncomputable def impl_PhrasesOf.K0 : Ex → St D0 → Option impl_PhrasesOf.R := exitK impl_PhrasesOf.C Go.Proofs.Try.f7.results.toList [(false, [.own 3]), (false, [.any])] (decOut impl_PhrasesOf.sig)
noncomputable def impl_PhrasesOf.c1 : Code := codeAt (Go.Proofs.Try.f7.body.getD .skip) []
noncomputable def impl_PhrasesOf.o0 (N : Nat) (a0 : List ByteArray) (a1 : Int) : Option impl_PhrasesOf.R :=
 (impl_isQuarter.g N a0 a1).bind fun r1 =>
 bif (!r1) then
  some (([] : List Int), false)
 else
 (impl_phrases.g N a0 a1).bind fun r2 =>
 some (r2, true)
theorem impl_PhrasesOf.o0.run (N : Nat) (a0 : List ByteArray) (a1 : Int) : runC impl_PhrasesOf.C (impl_PhrasesOf.O N) N impl_PhrasesOf.c1 1 (st0 [.one (.sl false 9 a0), .one (.int .i64 a1)] [] : St D0) impl_PhrasesOf.K0 = impl_PhrasesOf.o0 N a0 a1 := by kernel_rfl
noncomputable def impl_PhrasesOf.g (N : Nat) (a0 : List ByteArray) (a1 : Int) : Option impl_PhrasesOf.R := impl_PhrasesOf.o0 N a0 a1
theorem impl_PhrasesOf.g.run (N : Nat) (a0 : List ByteArray) (a1 : Int) : runC impl_PhrasesOf.C (impl_PhrasesOf.O N) N impl_PhrasesOf.c1 1 (st0 [.one (.sl false 9 a0), .one (.int .i64 a1)] [] : St D0) impl_PhrasesOf.K0 = impl_PhrasesOf.g N a0 a1 := by
  exact (impl_PhrasesOf.o0.run N a0 a1).trans rfl
theorem impl_PhrasesOf.good (N : Nat) (a0 : List ByteArray) (a1 : Int) (r : impl_PhrasesOf.R) (h : impl_PhrasesOf.g N a0 a1 = some r) : Go.PM.Good Go.Proofs.Try.prog T0 7 [.one (.sl false 9 a0), .one (.int .i64 a1)] [] (impl_PhrasesOf.sig.ret r) (impl_PhrasesOf.sig.bs r) :=
  good_fn tabOk0 mixed0 impl_PhrasesOf.sig (impl_PhrasesOf.E N) Go.Proofs.Try.func7 (by kernel_rfl) (by kernel_rfl) 563 0 0 [] 3264 false [] [(false, [.own 3]), (false, [.any])] (by kernel_rfl) rfl rfl ((impl_PhrasesOf.g.run N a0 a1).trans h)
noncomputable def impl_PhrasesOf.ent (N : Nat) : Ent Go.Proofs.Try.prog T0 := mkEnt 7 [(false, [.ro 9]), (false, [.any])] impl_PhrasesOf.sig (fun t => impl_PhrasesOf.g N t.1 t.2) (fun t r h => impl_PhrasesOf.good N t.1 t.2 r h)
end Go.Proofs.Ytpmipkbfohcjiaa.M

namespace Go.Proofs.Ytpmipkbfohcjiaa.M
open Go Go.PM Go.Proofs.Ytpmipkbfohcjiaa.P
set_option linter.unusedVariables false
set_option maxRecDepth 100000
/-! ### spec_PhrasesOf -/
abbrev spec_PhrasesOf.R : Type := List Int × Bool
abbrev spec_PhrasesOf.sig : Sig := ⟨[(false, 1), (false, 1)], [], [.sl false 9, .int .i64], [(false, 1), (false, 1)], [], [.sl true 3, .bool]⟩
noncomputable def spec_PhrasesOf.C : Cfg D0 := ⟨Go.Proofs.Try.prog, T0, 563, 0, 13, 0, [], 3264, false, []⟩
noncomputable def spec_PhrasesOf.E (N : Nat) : List (Ent Go.Proofs.Try.prog T0) := [spec_beAsked.ent N, spec_bePlays.ent N]
noncomputable def spec_PhrasesOf.O (N : Nat) : Orc D0 spec_PhrasesOf.R := orcOf (spec_PhrasesOf.E N)
noncomputable def spec_PhrasesOf.K0 : Ex → St D0 → Option spec_PhrasesOf.R := exitK spec_PhrasesOf.C Go.Proofs.Try.f8.results.toList [(false, [.own 3]), (false, [.any])] (decOut spec_PhrasesOf.sig)
noncomputable def spec_PhrasesOf.c1 : Code := codeAt (Go.Proofs.Try.f8.body.getD .skip) []
noncomputable def spec_PhrasesOf.o0 (N : Nat) (a0 : List ByteArray) (a1 : Int) : Option spec_PhrasesOf.R :=
 (spec_beAsked.g N a0 a1).bind fun r1 =>
 bif (!r1) then
  some (([] : List Int), false)
 else
 (spec_bePlays.g N a0 a1).bind fun r2 =>
 some (r2, true)
theorem spec_PhrasesOf.o0.run (N : Nat) (a0 : List ByteArray) (a1 : Int) : runC spec_PhrasesOf.C (spec_PhrasesOf.O N) N spec_PhrasesOf.c1 1 (st0 [.one (.sl false 9 a0), .one (.int .i64 a1)] [] : St D0) spec_PhrasesOf.K0 = spec_PhrasesOf.o0 N a0 a1 := by kernel_rfl
noncomputable def spec_PhrasesOf.g (N : Nat) (a0 : List ByteArray) (a1 : Int) : Option spec_PhrasesOf.R := spec_PhrasesOf.o0 N a0 a1
theorem spec_PhrasesOf.g.run (N : Nat) (a0 : List ByteArray) (a1 : Int) : runC spec_PhrasesOf.C (spec_PhrasesOf.O N) N spec_PhrasesOf.c1 1 (st0 [.one (.sl false 9 a0), .one (.int .i64 a1)] [] : St D0) spec_PhrasesOf.K0 = spec_PhrasesOf.g N a0 a1 := by
  exact (spec_PhrasesOf.o0.run N a0 a1).trans rfl
theorem spec_PhrasesOf.good (N : Nat) (a0 : List ByteArray) (a1 : Int) (r : spec_PhrasesOf.R) (h : spec_PhrasesOf.g N a0 a1 = some r) : Go.PM.Good Go.Proofs.Try.prog T0 8 [.one (.sl false 9 a0), .one (.int .i64 a1)] [] (spec_PhrasesOf.sig.ret r) (spec_PhrasesOf.sig.bs r) :=
  good_fn tabOk0 mixed0 spec_PhrasesOf.sig (spec_PhrasesOf.E N) Go.Proofs.Try.func8 (by kernel_rfl) (by kernel_rfl) 563 0 0 [] 3264 false [] [(false, [.own 3]), (false, [.any])] (by kernel_rfl) rfl rfl ((spec_PhrasesOf.g.run N a0 a1).trans h)
noncomputable def spec_PhrasesOf.ent (N : Nat) : Ent Go.Proofs.Try.prog T0 := mkEnt 8 [(false, [.ro 9]), (false, [.any])] spec_PhrasesOf.sig (fun t => spec_PhrasesOf.g N t.1 t.2) (fun t r h => spec_PhrasesOf.good N t.1 t.2 r h)
end Go.Proofs.Ytpmipkbfohcjiaa.M

namespace Go.Proofs.Ytpmipkbfohcjiaa.M
open Go Go.PM Go.Proofs.Ytpmipkbfohcjiaa.P
set_option linter.unusedVariables false
set_option maxRecDepth 100000
/-! ### impl_StandsAt -/
abbrev impl_StandsAt.R : Type := Int × Bool
abbrev impl_StandsAt.sig : Sig := ⟨[(false, 1), (false, 1)], [], [.sl false 9, .int .i64], [(false, 1), (false, 1)], [], [.int .i64, .bool]⟩
noncomputable def impl_StandsAt.C : Cfg D0 := ⟨Go.Proofs.Try.prog, T0, 563, 0, 15, 0, [], 5312, false, []⟩
noncomputable def impl_StandsAt.E (N : Nat) : List (Ent Go.Proofs.Try.prog T0) := [impl_isQuarter.ent N, impl_played.ent N]
noncomputable def impl_StandsAt.O (N : Nat) : Orc D0 impl_StandsAt.R := orcOf (impl_StandsAt.E N)
noncomputable def impl_StandsAt.K0 : Ex → St D0 → Option impl_StandsAt.R := exitK impl_StandsAt.C Go.Proofs.Try.f9.results.toList [(false, [.any]), (false, [.any])] (decOut impl_StandsAt.sig)
noncomputable def impl_StandsAt.c1 : Code := codeAt (Go.Proofs.Try.f9.body.getD .skip) []
noncomputable def impl_StandsAt.o0 (N : Nat) (a0 : List ByteArray) (a1 : Int) : Option impl_StandsAt.R :=
 (impl_isQuarter.g N a0 a1).bind fun r1 =>
 bif (!r1) then
  some (0, false)
 else
 (impl_played.g N a1).bind fun r2 =>
 bif ((a0.length : Int) == 0) then
  none
 else
 some ((Int.tmod r2 (a0.length : Int)), true)
theorem impl_StandsAt.o0.run (N : Nat) (a0 : List ByteArray) (a1 : Int) : runC impl_StandsAt.C (impl_StandsAt.O N) N impl_StandsAt.c1 1 (st0 [.one (.sl false 9 a0), .one (.int .i64 a1)] [] : St D0) impl_StandsAt.K0 = impl_StandsAt.o0 N a0 a1 := by kernel_rfl
noncomputable def impl_StandsAt.g (N : Nat) (a0 : List ByteArray) (a1 : Int) : Option impl_StandsAt.R := impl_StandsAt.o0 N a0 a1
theorem impl_StandsAt.g.run (N : Nat) (a0 : List ByteArray) (a1 : Int) : runC impl_StandsAt.C (impl_StandsAt.O N) N impl_StandsAt.c1 1 (st0 [.one (.sl false 9 a0), .one (.int .i64 a1)] [] : St D0) impl_StandsAt.K0 = impl_StandsAt.g N a0 a1 := by
  exact (impl_StandsAt.o0.run N a0 a1).trans rfl
theorem impl_StandsAt.good (N : Nat) (a0 : List ByteArray) (a1 : Int) (r : impl_StandsAt.R) (h : impl_StandsAt.g N a0 a1 = some r) : Go.PM.Good Go.Proofs.Try.prog T0 9 [.one (.sl false 9 a0), .one (.int .i64 a1)] [] (impl_StandsAt.sig.ret r) (impl_StandsAt.sig.bs r) :=
  good_fn tabOk0 mixed0 impl_StandsAt.sig (impl_StandsAt.E N) Go.Proofs.Try.func9 (by kernel_rfl) (by kernel_rfl) 563 0 0 [] 5312 false [] [(false, [.any]), (false, [.any])] (by kernel_rfl) rfl rfl ((impl_StandsAt.g.run N a0 a1).trans h)
noncomputable def impl_StandsAt.ent (N : Nat) : Ent Go.Proofs.Try.prog T0 := mkEnt 9 [(false, [.ro 9]), (false, [.any])] impl_StandsAt.sig (fun t => impl_StandsAt.g N t.1 t.2) (fun t r h => impl_StandsAt.good N t.1 t.2 r h)
end Go.Proofs.Ytpmipkbfohcjiaa.M

namespace Go.Proofs.Ytpmipkbfohcjiaa.M
open Go Go.PM Go.Proofs.Ytpmipkbfohcjiaa.P
set_option linter.unusedVariables false
set_option maxRecDepth 100000
/-! ### spec_StandsAt -/
abbrev spec_StandsAt.R : Type := Int × Bool
abbrev spec_StandsAt.sig : Sig := ⟨[(false, 1), (false, 1)], [], [.sl false 9, .int .i64], [(false, 1), (false, 1)], [], [.int .i64, .bool]⟩
noncomputable def spec_StandsAt.C : Cfg D0 := ⟨Go.Proofs.Try.prog, T0, 563, 0, 15, 0, [], 5312, false, []⟩
noncomputable def spec_StandsAt.E (N : Nat) : List (Ent Go.Proofs.Try.prog T0) := [spec_beAsked.ent N, spec_beBefore.ent N]
noncomputable def spec_StandsAt.O (N : Nat) : Orc D0 spec_StandsAt.R := orcOf (spec_StandsAt.E N)
noncomputable def spec_StandsAt.K0 : Ex → St D0 → Option spec_StandsAt.R := exitK spec_StandsAt.C Go.Proofs.Try.f10.results.toList [(false, [.any]), (false, [.any])] (decOut spec_StandsAt.sig)
noncomputable def spec_StandsAt.c1 : Code := codeAt (Go.Proofs.Try.f10.body.getD .skip) []
noncomputable def spec_StandsAt.o0 (N : Nat) (a0 : List ByteArray) (a1 : Int) : Option spec_StandsAt.R :=
 (spec_beAsked.g N a0 a1).bind fun r1 =>
 bif (!r1) then
  some (0, false)
 else
 (spec_beBefore.g N a1).bind fun r2 =>
 bif ((a0.length : Int) == 0) then
  none
 else
 some ((Int.tmod r2 (a0.length : Int)), true)
theorem spec_StandsAt.o0.run (N : Nat) (a0 : List ByteArray) (a1 : Int) : runC spec_StandsAt.C (spec_StandsAt.O N) N spec_StandsAt.c1 1 (st0 [.one (.sl false 9 a0), .one (.int .i64 a1)] [] : St D0) spec_StandsAt.K0 = spec_StandsAt.o0 N a0 a1 := by kernel_rfl
noncomputable def spec_StandsAt.g (N : Nat) (a0 : List ByteArray) (a1 : Int) : Option spec_StandsAt.R := spec_StandsAt.o0 N a0 a1
theorem spec_StandsAt.g.run (N : Nat) (a0 : List ByteArray) (a1 : Int) : runC spec_StandsAt.C (spec_StandsAt.O N) N spec_StandsAt.c1 1 (st0 [.one (.sl false 9 a0), .one (.int .i64 a1)] [] : St D0) spec_StandsAt.K0 = spec_StandsAt.g N a0 a1 := by
  exact (spec_StandsAt.o0.run N a0 a1).trans rfl
theorem spec_StandsAt.good (N : Nat) (a0 : List ByteArray) (a1 : Int) (r : spec_StandsAt.R) (h : spec_StandsAt.g N a0 a1 = some r) : Go.PM.Good Go.Proofs.Try.prog T0 10 [.one (.sl false 9 a0), .one (.int .i64 a1)] [] (spec_StandsAt.sig.ret r) (spec_StandsAt.sig.bs r) :=
  good_fn tabOk0 mixed0 spec_StandsAt.sig (spec_StandsAt.E N) Go.Proofs.Try.func10 (by kernel_rfl) (by kernel_rfl) 563 0 0 [] 5312 false [] [(false, [.any]), (false, [.any])] (by kernel_rfl) rfl rfl ((spec_StandsAt.g.run N a0 a1).trans h)
noncomputable def spec_StandsAt.ent (N : Nat) : Ent Go.Proofs.Try.prog T0 := mkEnt 10 [(false, [.ro 9]), (false, [.any])] spec_StandsAt.sig (fun t => spec_StandsAt.g N t.1 t.2) (fun t r h => spec_StandsAt.good N t.1 t.2 r h)
end Go.Proofs.Ytpmipkbfohcjiaa.M

namespace Go.Proofs.Ytpmipkbfohcjiaa.M
open Go Go.PM Go.Proofs.Ytpmipkbfohcjiaa.P
set_option linter.unusedVariables false
set_option maxRecDepth 100000
/-! ### impl_HoursUntilSame -/
abbrev impl_HoursUntilSame.R : Type := Int × Bool
abbrev impl_HoursUntilSame.sig : Sig := ⟨[(false, 1)], [], [.sl false 9], [(false, 1), (false, 1)], [], [.int .i64, .bool]⟩
noncomputable def impl_HoursUntilSame.C : Cfg D0 := ⟨Go.Proofs.Try.prog, T0, 77, 0, 9, 0, [], 144, false, []⟩
noncomputable def impl_HoursUntilSame.E (N : Nat) : List (Ent Go.Proofs.Try.prog T0) := [impl_IsTune.ent N, impl_hours.ent N]
noncomputable def impl_HoursUntilSame.O (N : Nat) : Orc D0 impl_HoursUntilSame.R := orcOf (impl_HoursUntilSame.E N)
noncomputable def impl_HoursUntilSame.K0 : Ex → St D0 → Option impl_HoursUntilSame.R := exitK impl_HoursUntilSame.C Go.Proofs.Try.f13.results.toList [(false, [.any]), (false, [.any])] (decOut impl_HoursUntilSame.sig)
noncomputable def impl_HoursUntilSame.c1 : Code := codeAt (Go.Proofs.Try.f13.body.getD .skip) []
noncomputable def impl_HoursUntilSame.o0 (N : Nat) (a0 : List ByteArray) : Option impl_HoursUntilSame.R :=
 (impl_IsTune.g N a0).bind fun r1 =>
 bif (!r1) then
  some (0, false)
 else
 (impl_hours.g N a0).bind fun r2 =>
 some (r2, true)
theorem impl_HoursUntilSame.o0.run (N : Nat) (a0 : List ByteArray) : runC impl_HoursUntilSame.C (impl_HoursUntilSame.O N) N impl_HoursUntilSame.c1 1 (st0 [.one (.sl false 9 a0)] [] : St D0) impl_HoursUntilSame.K0 = impl_HoursUntilSame.o0 N a0 := by kernel_rfl
noncomputable def impl_HoursUntilSame.g (N : Nat) (a0 : List ByteArray) : Option impl_HoursUntilSame.R := impl_HoursUntilSame.o0 N a0
theorem impl_HoursUntilSame.g.run (N : Nat) (a0 : List ByteArray) : runC impl_HoursUntilSame.C (impl_HoursUntilSame.O N) N impl_HoursUntilSame.c1 1 (st0 [.one (.sl false 9 a0)] [] : St D0) impl_HoursUntilSame.K0 = impl_HoursUntilSame.g N a0 := by
  exact (impl_HoursUntilSame.o0.run N a0).trans rfl
theorem impl_HoursUntilSame.good (N : Nat) (a0 : List ByteArray) (r : impl_HoursUntilSame.R) (h : impl_HoursUntilSame.g N a0 = some r) : Go.PM.Good Go.Proofs.Try.prog T0 13 [.one (.sl false 9 a0)] [] (impl_HoursUntilSame.sig.ret r) (impl_HoursUntilSame.sig.bs r) :=
  good_fn tabOk0 mixed0 impl_HoursUntilSame.sig (impl_HoursUntilSame.E N) Go.Proofs.Try.func13 (by kernel_rfl) (by kernel_rfl) 77 0 0 [] 144 false [] [(false, [.any]), (false, [.any])] (by kernel_rfl) rfl rfl ((impl_HoursUntilSame.g.run N a0).trans h)
noncomputable def impl_HoursUntilSame.ent (N : Nat) : Ent Go.Proofs.Try.prog T0 := mkEnt 13 [(false, [.ro 9])] impl_HoursUntilSame.sig (fun t => impl_HoursUntilSame.g N t) (fun t r h => impl_HoursUntilSame.good N t r h)
end Go.Proofs.Ytpmipkbfohcjiaa.M

namespace Go.Proofs.Ytpmipkbfohcjiaa.M
open Go Go.PM Go.Proofs.Ytpmipkbfohcjiaa.P
set_option linter.unusedVariables false
set_option maxRecDepth 100000
/-! ### spec_HoursUntilSame -/
abbrev spec_HoursUntilSame.R : Type := Int × Bool
abbrev spec_HoursUntilSame.sig : Sig := ⟨[(false, 1)], [], [.sl false 9], [(false, 1), (false, 1)], [], [.int .i64, .bool]⟩
noncomputable def spec_HoursUntilSame.C : Cfg D0 := ⟨Go.Proofs.Try.prog, T0, 77, 0, 9, 0, [], 144, false, []⟩
noncomputable def spec_HoursUntilSame.E (N : Nat) : List (Ent Go.Proofs.Try.prog T0) := [spec_beTune.ent N, spec_beHours.ent N]
noncomputable def spec_HoursUntilSame.O (N : Nat) : Orc D0 spec_HoursUntilSame.R := orcOf (spec_HoursUntilSame.E N)
noncomputable def spec_HoursUntilSame.K0 : Ex → St D0 → Option spec_HoursUntilSame.R := exitK spec_HoursUntilSame.C Go.Proofs.Try.f14.results.toList [(false, [.any]), (false, [.any])] (decOut spec_HoursUntilSame.sig)
noncomputable def spec_HoursUntilSame.c1 : Code := codeAt (Go.Proofs.Try.f14.body.getD .skip) []
noncomputable def spec_HoursUntilSame.o0 (N : Nat) (a0 : List ByteArray) : Option spec_HoursUntilSame.R :=
 (spec_beTune.g N a0).bind fun r1 =>
 bif (!r1) then
  some (0, false)
 else
 (spec_beHours.g N a0).bind fun r2 =>
 some (r2, true)
theorem spec_HoursUntilSame.o0.run (N : Nat) (a0 : List ByteArray) : runC spec_HoursUntilSame.C (spec_HoursUntilSame.O N) N spec_HoursUntilSame.c1 1 (st0 [.one (.sl false 9 a0)] [] : St D0) spec_HoursUntilSame.K0 = spec_HoursUntilSame.o0 N a0 := by kernel_rfl
noncomputable def spec_HoursUntilSame.g (N : Nat) (a0 : List ByteArray) : Option spec_HoursUntilSame.R := spec_HoursUntilSame.o0 N a0
theorem spec_HoursUntilSame.g.run (N : Nat) (a0 : List ByteArray) : runC spec_HoursUntilSame.C (spec_HoursUntilSame.O N) N spec_HoursUntilSame.c1 1 (st0 [.one (.sl false 9 a0)] [] : St D0) spec_HoursUntilSame.K0 = spec_HoursUntilSame.g N a0 := by
  exact (spec_HoursUntilSame.o0.run N a0).trans rfl
theorem spec_HoursUntilSame.good (N : Nat) (a0 : List ByteArray) (r : spec_HoursUntilSame.R) (h : spec_HoursUntilSame.g N a0 = some r) : Go.PM.Good Go.Proofs.Try.prog T0 14 [.one (.sl false 9 a0)] [] (spec_HoursUntilSame.sig.ret r) (spec_HoursUntilSame.sig.bs r) :=
  good_fn tabOk0 mixed0 spec_HoursUntilSame.sig (spec_HoursUntilSame.E N) Go.Proofs.Try.func14 (by kernel_rfl) (by kernel_rfl) 77 0 0 [] 144 false [] [(false, [.any]), (false, [.any])] (by kernel_rfl) rfl rfl ((spec_HoursUntilSame.g.run N a0).trans h)
noncomputable def spec_HoursUntilSame.ent (N : Nat) : Ent Go.Proofs.Try.prog T0 := mkEnt 14 [(false, [.ro 9])] spec_HoursUntilSame.sig (fun t => spec_HoursUntilSame.g N t) (fun t r h => spec_HoursUntilSame.good N t r h)
end Go.Proofs.Ytpmipkbfohcjiaa.M

namespace Go.Proofs.Ytpmipkbfohcjiaa.M
open Go Go.PM Go.Proofs.Ytpmipkbfohcjiaa.P
set_option linter.unusedVariables false
set_option maxRecDepth 100000
/-! ### impl_FullHours -/
abbrev impl_FullHours.R : Type := List ByteArray × Bool
abbrev impl_FullHours.sig : Sig := ⟨[(false, 1)], [], [.sl false 9], [(false, 1), (false, 1)], [], [.sl true 9, .bool]⟩
noncomputable def impl_FullHours.C : Cfg D0 := ⟨Go.Proofs.Try.prog, T0, 14653, 0, 25, 0, [(122, [0, 4, 11, 12], [])], 197696, false, []⟩
noncomputable def impl_FullHours.E (N : Nat) : List (Ent Go.Proofs.Try.prog T0) := [impl_IsTune.ent N, impl_hours.ent N, impl_notes.ent N]
noncomputable def impl_FullHours.O (N : Nat) : Orc D0 impl_FullHours.R := orcOf (impl_FullHours.E N)
noncomputable def impl_FullHours.K0 : Ex → St D0 → Option impl_FullHours.R := exitK impl_FullHours.C Go.Proofs.Try.f17.results.toList [(false, [.own 9]), (false, [.any])] (decOut impl_FullHours.sig)
noncomputable def impl_FullHours.c1 : Code := codeAt (Go.Proofs.Try.f17.body.getD .skip) []
noncomputable def impl_FullHours.c2 : Code := codeAt (Go.Proofs.Try.f17.body.getD .skip) [false]
noncomputable def impl_FullHours.c6 : Code := codeAt (Go.Proofs.Try.f17.body.getD .skip) [true, false]
noncomputable def impl_FullHours.c14 : Code := codeAt (Go.Proofs.Try.f17.body.getD .skip) [true, true, false]
noncomputable def impl_FullHours.c31 : Code := codeAt (Go.Proofs.Try.f17.body.getD .skip) [true, true, true, true]
noncomputable def impl_FullHours.c60 : Code := codeAt (Go.Proofs.Try.f17.body.getD .skip) [true, true, true, false, false]
noncomputable def impl_FullHours.c244 : Code := codeAt (Go.Proofs.Try.f17.body.getD .skip) [true, true, true, false, true, false, false]
noncomputable def impl_FullHours.K244 (N : Nat) (Kn122 : St D0 → Option impl_FullHours.R) : Ex → St D0 → Option impl_FullHours.R := (onN (fun s => impl_FullHours.C.tidy 122 s ((onN Kn122 (blockK 0 (onN (fun s => impl_FullHours.C.tidy 30 s (fun s' => runC impl_FullHours.C (impl_FullHours.O N) N impl_FullHours.c31 31 s' impl_FullHours.K0)) impl_FullHours.K0))) .normal)) (onN Kn122 (blockK 0 (onN (fun s => impl_FullHours.C.tidy 30 s (fun s' => runC impl_FullHours.C (impl_FullHours.O N) N impl_FullHours.c31 31 s' impl_FullHours.K0)) impl_FullHours.K0))))
noncomputable def impl_FullHours.o1 (N : Nat) (v0 : List ByteArray) (v1 : List ByteArray) (v2 : Int) (v3 : Int) (c1 : (List ByteArray) → (List ByteArray) → Int → Int → Option impl_FullHours.R) : Option impl_FullHours.R :=
 bif (decide (v3 < v2)) then
  (impl_notes.g N v0 (w64 ((w64 (4 * v3)) + 3))).bind fun r1 =>
  bif (Nat.blt (v1.length + ([r1] : List ByteArray).length) 8796093022208) then
   c1 v0 (v1 ++ ([r1] : List ByteArray)) v2 (w64 (v3 + 1))
  else
  none
 else
 some (v1, true)
theorem impl_FullHours.o1.run (N : Nat) (Kn122 : St D0 → Option impl_FullHours.R) (v0 : List ByteArray) (v1 : List ByteArray) (v2 : Int) (v3 : Int) : runC impl_FullHours.C (impl_FullHours.O N) N impl_FullHours.c244 244 (mkSt [(0, .one (.sl false 9 v0)), (4, .one (.sl true 9 v1)), (11, .one (.int .i64 v2)), (12, .one (.int .i64 v3))] [] : St D0) (onN (fun s => impl_FullHours.C.tidy 122 s ((onN Kn122 (blockK 0 (onN (fun s => impl_FullHours.C.tidy 30 s (fun s' => runC impl_FullHours.C (impl_FullHours.O N) N impl_FullHours.c31 31 s' impl_FullHours.K0)) impl_FullHours.K0))) .normal)) (onN Kn122 (blockK 0 (onN (fun s => impl_FullHours.C.tidy 30 s (fun s' => runC impl_FullHours.C (impl_FullHours.O N) N impl_FullHours.c31 31 s' impl_FullHours.K0)) impl_FullHours.K0)))) = impl_FullHours.o1 N v0 v1 v2 v3 ((fun w0 w1 w2 w3 => Kn122 (mkSt [(0, .one (.sl false 9 w0)), (4, .one (.sl true 9 w1)), (11, .one (.int .i64 w2)), (12, .one (.int .i64 w3))] [] : St D0))) := by kernel_rfl
noncomputable def impl_FullHours.d1 (N : Nat) (v0 : List ByteArray) (v1 : List ByteArray) (v2 : Int) (v3 : Int) (c1 : (List ByteArray) → (List ByteArray) → Int → Int → Option impl_FullHours.R) : Option impl_FullHours.R := impl_FullHours.o1 N v0 v1 v2 v3 c1
theorem impl_FullHours.d1.run (N : Nat) (Kn122 : St D0 → Option impl_FullHours.R) (v0 : List ByteArray) (v1 : List ByteArray) (v2 : Int) (v3 : Int) : runC impl_FullHours.C (impl_FullHours.O N) N impl_FullHours.c244 244 (mkSt [(0, .one (.sl false 9 v0)), (4, .one (.sl true 9 v1)), (11, .one (.int .i64 v2)), (12, .one (.int .i64 v3))] [] : St D0) (impl_FullHours.K244 N Kn122) = impl_FullHours.d1 N v0 v1 v2 v3 ((fun w0 w1 w2 w3 => Kn122 (mkSt [(0, .one (.sl false 9 w0)), (4, .one (.sl true 9 w1)), (11, .one (.int .i64 w2)), (12, .one (.int .i64 w3))] [] : St D0))) := by
  exact (impl_FullHours.o1.run N Kn122 v0 v1 v2 v3).trans rfl
noncomputable def impl_FullHours.K122 (N : Nat) : Ex → St D0 → Option impl_FullHours.R := (blockK 0 (onN (fun s => impl_FullHours.C.tidy 30 s (fun s' => runC impl_FullHours.C (impl_FullHours.O N) N impl_FullHours.c31 31 s' impl_FullHours.K0)) impl_FullHours.K0))
noncomputable def impl_FullHours.l1 (N : Nat) : Nat → (List ByteArray) → (List ByteArray) → Int → Int → Option impl_FullHours.R
  | 0, _, _, _, _ => none
  | n + 1, v0, v1, v2, v3 => impl_FullHours.d1 N v0 v1 v2 v3 ((fun w0 w1 w2 w3 => impl_FullHours.l1 N n w0 w1 w2 w3))
theorem impl_FullHours.loop122 (N : Nat) : ∀ n, (∀ (v0 : List ByteArray) (v1 : List ByteArray) (v2 : Int) (v3 : Int), iter (loopF impl_FullHours.C (impl_FullHours.O N) N impl_FullHours.c244 122) n (mkSt [(0, .one (.sl false 9 v0)), (4, .one (.sl true 9 v1)), (11, .one (.int .i64 v2)), (12, .one (.int .i64 v3))] [] : St D0) (impl_FullHours.K122 N) = impl_FullHours.l1 N n v0 v1 v2 v3)
  | 0 => (fun v0 v1 v2 v3 => rfl)
  | n + 1 => (fun v0 v1 v2 v3 => (impl_FullHours.d1.run N (fun s => iter (loopF impl_FullHours.C (impl_FullHours.O N) N impl_FullHours.c244 122) n s (impl_FullHours.K122 N)) v0 v1 v2 v3).trans (show _ = impl_FullHours.d1 N v0 v1 v2 v3 ((fun w0 w1 w2 w3 => impl_FullHours.l1 N n w0 w1 w2 w3)) from (congr rfl (funext fun w0 => funext fun w1 => funext fun w2 => funext fun w3 => (impl_FullHours.loop122 N n) w0 w1 w2 w3))))
noncomputable def impl_FullHours.o0 (N : Nat) (a0 : List ByteArray) (c1 : (List ByteArray) → (List ByteArray) → Int → Int → Option impl_FullHours.R) : Option impl_FullHours.R :=
 (impl_IsTune.g N a0).bind fun r1 =>
 bif (!r1) then
  some (([] : List ByteArray), false)
 else
 (impl_hours.g N a0).bind fun r2 =>
 c1 a0 ([] : List ByteArray) r2 0
theorem impl_FullHours.o0.run (N : Nat) (H244 : Code) (a0 : List ByteArray) : runC impl_FullHours.C (impl_FullHours.O N) N (.seq impl_FullHours.c2 (.seq impl_FullHours.c6 (.seq impl_FullHours.c14 (.seq (.seq impl_FullHours.c60 (.block 0 (.loop H244))) impl_FullHours.c31)))) 1 (st0 [.one (.sl false 9 a0)] [] : St D0) impl_FullHours.K0 = impl_FullHours.o0 N a0 ((fun w0 w1 w2 w3 => iter (loopF impl_FullHours.C (impl_FullHours.O N) N H244 122) N (mkSt [(0, .one (.sl false 9 w0)), (4, .one (.sl true 9 w1)), (11, .one (.int .i64 w2)), (12, .one (.int .i64 w3))] [] : St D0) (blockK 0 (onN (fun s => impl_FullHours.C.tidy 30 s (fun s' => runC impl_FullHours.C (impl_FullHours.O N) N impl_FullHours.c31 31 s' impl_FullHours.K0)) impl_FullHours.K0)))) := by kernel_rfl
noncomputable def impl_FullHours.g (N : Nat) (a0 : List ByteArray) : Option impl_FullHours.R := impl_FullHours.o0 N a0 ((fun w0 w1 w2 w3 => impl_FullHours.l1 N N w0 w1 w2 w3))
theorem impl_FullHours.c1_0 : impl_FullHours.c1 = (.seq impl_FullHours.c2 (.seq impl_FullHours.c6 (.seq impl_FullHours.c14 (.seq (.seq impl_FullHours.c60 (.block 0 (.loop impl_FullHours.c244))) impl_FullHours.c31)))) := by kernel_rfl
theorem impl_FullHours.g.run (N : Nat) (a0 : List ByteArray) : runC impl_FullHours.C (impl_FullHours.O N) N impl_FullHours.c1 1 (st0 [.one (.sl false 9 a0)] [] : St D0) impl_FullHours.K0 = impl_FullHours.g N a0 := by
  rw [impl_FullHours.c1_0]; unfold impl_FullHours.g; exact (impl_FullHours.o0.run N impl_FullHours.c244 a0).trans (congr rfl (funext fun w0 => funext fun w1 => funext fun w2 => funext fun w3 => (impl_FullHours.loop122 N N) w0 w1 w2 w3))
theorem impl_FullHours.good (N : Nat) (a0 : List ByteArray) (r : impl_FullHours.R) (h : impl_FullHours.g N a0 = some r) : Go.PM.Good Go.Proofs.Try.prog T0 17 [.one (.sl false 9 a0)] [] (impl_FullHours.sig.ret r) (impl_FullHours.sig.bs r) :=
  good_fn tabOk0 mixed0 impl_FullHours.sig (impl_FullHours.E N) Go.Proofs.Try.func17 (by kernel_rfl) (by kernel_rfl) 14653 0 0 [(122, [0, 4, 11, 12], [])] 197696 false [] [(false, [.own 9]), (false, [.any])] (by kernel_rfl) rfl rfl ((impl_FullHours.g.run N a0).trans h)
noncomputable def impl_FullHours.ent (N : Nat) : Ent Go.Proofs.Try.prog T0 := mkEnt 17 [(false, [.ro 9])] impl_FullHours.sig (fun t => impl_FullHours.g N t) (fun t r h => impl_FullHours.good N t r h)
end Go.Proofs.Ytpmipkbfohcjiaa.M

namespace Go.Proofs.Ytpmipkbfohcjiaa.M
open Go Go.PM Go.Proofs.Ytpmipkbfohcjiaa.P
set_option linter.unusedVariables false
set_option maxRecDepth 100000
/-! ### spec_FullHours -/
abbrev spec_FullHours.R : Type := List ByteArray × Bool
abbrev spec_FullHours.sig : Sig := ⟨[(false, 1)], [], [.sl false 9], [(false, 1), (false, 1)], [], [.sl true 9, .bool]⟩
noncomputable def spec_FullHours.C : Cfg D0 := ⟨Go.Proofs.Try.prog, T0, 4413, 0, 24, 0, [(122, [0, 4, 5], [])], 206400, false, []⟩
noncomputable def spec_FullHours.E (N : Nat) : List (Ent Go.Proofs.Try.prog T0) := [spec_beTune.ent N, spec_beHours.ent N, spec_beNotes.ent N]
noncomputable def spec_FullHours.O (N : Nat) : Orc D0 spec_FullHours.R := orcOf (spec_FullHours.E N)
noncomputable def spec_FullHours.K0 : Ex → St D0 → Option spec_FullHours.R := exitK spec_FullHours.C Go.Proofs.Try.f18.results.toList [(false, [.own 9]), (false, [.any])] (decOut spec_FullHours.sig)
noncomputable def spec_FullHours.c1 : Code := codeAt (Go.Proofs.Try.f18.body.getD .skip) []
noncomputable def spec_FullHours.c2 : Code := codeAt (Go.Proofs.Try.f18.body.getD .skip) [false]
noncomputable def spec_FullHours.c6 : Code := codeAt (Go.Proofs.Try.f18.body.getD .skip) [true, false]
noncomputable def spec_FullHours.c14 : Code := codeAt (Go.Proofs.Try.f18.body.getD .skip) [true, true, false]
noncomputable def spec_FullHours.c31 : Code := codeAt (Go.Proofs.Try.f18.body.getD .skip) [true, true, true, true]
noncomputable def spec_FullHours.c60 : Code := codeAt (Go.Proofs.Try.f18.body.getD .skip) [true, true, true, false, false]
noncomputable def spec_FullHours.c244 : Code := codeAt (Go.Proofs.Try.f18.body.getD .skip) [true, true, true, false, true, false, false]
noncomputable def spec_FullHours.K244 (N : Nat) (Kn122 : St D0 → Option spec_FullHours.R) : Ex → St D0 → Option spec_FullHours.R := (onN (fun s => spec_FullHours.C.tidy 122 s ((onN Kn122 (blockK 0 (onN (fun s => spec_FullHours.C.tidy 30 s (fun s' => runC spec_FullHours.C (spec_FullHours.O N) N spec_FullHours.c31 31 s' spec_FullHours.K0)) spec_FullHours.K0))) .normal)) (onN Kn122 (blockK 0 (onN (fun s => spec_FullHours.C.tidy 30 s (fun s' => runC spec_FullHours.C (spec_FullHours.O N) N spec_FullHours.c31 31 s' spec_FullHours.K0)) spec_FullHours.K0))))
noncomputable def spec_FullHours.o1 (N : Nat) (v0 : List ByteArray) (v1 : Int) (c2 : (List ByteArray) → (List ByteArray) → Int → Option spec_FullHours.R) : Option spec_FullHours.R :=
 (spec_beHours.g N v0).bind fun r1 =>
 bif (decide (v1 < r1)) then
  (spec_beNotes.g N v0 (w64 ((w64 (4 * v1)) + 3))).bind fun r2 =>
  bif (Nat.blt (([] : List ByteArray).length + ([r2] : List ByteArray).length) 8796093022208) then
   c2 v0 (([] : List ByteArray) ++ ([r2] : List ByteArray)) (w64 (v1 + 1))
  else
  none
 else
 some (([] : List ByteArray), true)
theorem spec_FullHours.o1.run (N : Nat) (Kn122 : St D0 → Option spec_FullHours.R) (v0 : List ByteArray) (v1 : Int) : runC spec_FullHours.C (spec_FullHours.O N) N spec_FullHours.c244 244 (mkSt [(0, .one (.sl false 9 v0)), (4, .one (.nl)), (5, .one (.int .i64 v1))] [] : St D0) (onN (fun s => spec_FullHours.C.tidy 122 s ((onN Kn122 (blockK 0 (onN (fun s => spec_FullHours.C.tidy 30 s (fun s' => runC spec_FullHours.C (spec_FullHours.O N) N spec_FullHours.c31 31 s' spec_FullHours.K0)) spec_FullHours.K0))) .normal)) (onN Kn122 (blockK 0 (onN (fun s => spec_FullHours.C.tidy 30 s (fun s' => runC spec_FullHours.C (spec_FullHours.O N) N spec_FullHours.c31 31 s' spec_FullHours.K0)) spec_FullHours.K0)))) = spec_FullHours.o1 N v0 v1 ((fun w0 w1 w2 => Kn122 (mkSt [(0, .one (.sl false 9 w0)), (4, .one (.sl true 9 w1)), (5, .one (.int .i64 w2))] [] : St D0))) := by kernel_rfl
noncomputable def spec_FullHours.d1 (N : Nat) (v0 : List ByteArray) (v1 : Int) (c2 : (List ByteArray) → (List ByteArray) → Int → Option spec_FullHours.R) : Option spec_FullHours.R := spec_FullHours.o1 N v0 v1 c2
theorem spec_FullHours.d1.run (N : Nat) (Kn122 : St D0 → Option spec_FullHours.R) (v0 : List ByteArray) (v1 : Int) : runC spec_FullHours.C (spec_FullHours.O N) N spec_FullHours.c244 244 (mkSt [(0, .one (.sl false 9 v0)), (4, .one (.nl)), (5, .one (.int .i64 v1))] [] : St D0) (spec_FullHours.K244 N Kn122) = spec_FullHours.d1 N v0 v1 ((fun w0 w1 w2 => Kn122 (mkSt [(0, .one (.sl false 9 w0)), (4, .one (.sl true 9 w1)), (5, .one (.int .i64 w2))] [] : St D0))) := by
  exact (spec_FullHours.o1.run N Kn122 v0 v1).trans rfl
noncomputable def spec_FullHours.o2 (N : Nat) (v0 : List ByteArray) (v1 : List ByteArray) (v2 : Int) (c2 : (List ByteArray) → (List ByteArray) → Int → Option spec_FullHours.R) : Option spec_FullHours.R :=
 (spec_beHours.g N v0).bind fun r1 =>
 bif (decide (v2 < r1)) then
  (spec_beNotes.g N v0 (w64 ((w64 (4 * v2)) + 3))).bind fun r2 =>
  bif (Nat.blt (v1.length + ([r2] : List ByteArray).length) 8796093022208) then
   c2 v0 (v1 ++ ([r2] : List ByteArray)) (w64 (v2 + 1))
  else
  none
 else
 some (v1, true)
theorem spec_FullHours.o2.run (N : Nat) (Kn122 : St D0 → Option spec_FullHours.R) (v0 : List ByteArray) (v1 : List ByteArray) (v2 : Int) : runC spec_FullHours.C (spec_FullHours.O N) N spec_FullHours.c244 244 (mkSt [(0, .one (.sl false 9 v0)), (4, .one (.sl true 9 v1)), (5, .one (.int .i64 v2))] [] : St D0) (onN (fun s => spec_FullHours.C.tidy 122 s ((onN Kn122 (blockK 0 (onN (fun s => spec_FullHours.C.tidy 30 s (fun s' => runC spec_FullHours.C (spec_FullHours.O N) N spec_FullHours.c31 31 s' spec_FullHours.K0)) spec_FullHours.K0))) .normal)) (onN Kn122 (blockK 0 (onN (fun s => spec_FullHours.C.tidy 30 s (fun s' => runC spec_FullHours.C (spec_FullHours.O N) N spec_FullHours.c31 31 s' spec_FullHours.K0)) spec_FullHours.K0)))) = spec_FullHours.o2 N v0 v1 v2 ((fun w0 w1 w2 => Kn122 (mkSt [(0, .one (.sl false 9 w0)), (4, .one (.sl true 9 w1)), (5, .one (.int .i64 w2))] [] : St D0))) := by kernel_rfl
noncomputable def spec_FullHours.d2 (N : Nat) (v0 : List ByteArray) (v1 : List ByteArray) (v2 : Int) (c2 : (List ByteArray) → (List ByteArray) → Int → Option spec_FullHours.R) : Option spec_FullHours.R := spec_FullHours.o2 N v0 v1 v2 c2
theorem spec_FullHours.d2.run (N : Nat) (Kn122 : St D0 → Option spec_FullHours.R) (v0 : List ByteArray) (v1 : List ByteArray) (v2 : Int) : runC spec_FullHours.C (spec_FullHours.O N) N spec_FullHours.c244 244 (mkSt [(0, .one (.sl false 9 v0)), (4, .one (.sl true 9 v1)), (5, .one (.int .i64 v2))] [] : St D0) (spec_FullHours.K244 N Kn122) = spec_FullHours.d2 N v0 v1 v2 ((fun w0 w1 w2 => Kn122 (mkSt [(0, .one (.sl false 9 w0)), (4, .one (.sl true 9 w1)), (5, .one (.int .i64 w2))] [] : St D0))) := by
  exact (spec_FullHours.o2.run N Kn122 v0 v1 v2).trans rfl
noncomputable def spec_FullHours.K122 (N : Nat) : Ex → St D0 → Option spec_FullHours.R := (blockK 0 (onN (fun s => spec_FullHours.C.tidy 30 s (fun s' => runC spec_FullHours.C (spec_FullHours.O N) N spec_FullHours.c31 31 s' spec_FullHours.K0)) spec_FullHours.K0))
mutual
noncomputable def spec_FullHours.l1 (N : Nat) : Nat → (List ByteArray) → Int → Option spec_FullHours.R
  | 0, _, _ => none
  | n + 1, v0, v1 => spec_FullHours.d1 N v0 v1 ((fun w0 w1 w2 => spec_FullHours.l2 N n w0 w1 w2))
noncomputable def spec_FullHours.l2 (N : Nat) : Nat → (List ByteArray) → (List ByteArray) → Int → Option spec_FullHours.R
  | 0, _, _, _ => none
  | n + 1, v0, v1, v2 => spec_FullHours.d2 N v0 v1 v2 ((fun w0 w1 w2 => spec_FullHours.l2 N n w0 w1 w2))
end
theorem spec_FullHours.loop122 (N : Nat) : ∀ n, (∀ (v0 : List ByteArray) (v1 : Int), iter (loopF spec_FullHours.C (spec_FullHours.O N) N spec_FullHours.c244 122) n (mkSt [(0, .one (.sl false 9 v0)), (4, .one (.nl)), (5, .one (.int .i64 v1))] [] : St D0) (spec_FullHours.K122 N) = spec_FullHours.l1 N n v0 v1) ∧ (∀ (v0 : List ByteArray) (v1 : List ByteArray) (v2 : Int), iter (loopF spec_FullHours.C (spec_FullHours.O N) N spec_FullHours.c244 122) n (mkSt [(0, .one (.sl false 9 v0)), (4, .one (.sl true 9 v1)), (5, .one (.int .i64 v2))] [] : St D0) (spec_FullHours.K122 N) = spec_FullHours.l2 N n v0 v1 v2)
  | 0 => ⟨(fun v0 v1 => rfl), (fun v0 v1 v2 => rfl)⟩
  | n + 1 => ⟨(fun v0 v1 => (spec_FullHours.d1.run N (fun s => iter (loopF spec_FullHours.C (spec_FullHours.O N) N spec_FullHours.c244 122) n s (spec_FullHours.K122 N)) v0 v1).trans (show _ = spec_FullHours.d1 N v0 v1 ((fun w0 w1 w2 => spec_FullHours.l2 N n w0 w1 w2)) from (congr rfl (funext fun w0 => funext fun w1 => funext fun w2 => (spec_FullHours.loop122 N n).2 w0 w1 w2)))), (fun v0 v1 v2 => (spec_FullHours.d2.run N (fun s => iter (loopF spec_FullHours.C (spec_FullHours.O N) N spec_FullHours.c244 122) n s (spec_FullHours.K122 N)) v0 v1 v2).trans (show _ = spec_FullHours.d2 N v0 v1 v2 ((fun w0 w1 w2 => spec_FullHours.l2 N n w0 w1 w2)) from (congr rfl (funext fun w0 => funext fun w1 => funext fun w2 => (spec_FullHours.loop122 N n).2 w0 w1 w2))))⟩
noncomputable def spec_FullHours.o0 (N : Nat) (a0 : List ByteArray) (c1 : (List ByteArray) → Int → Option spec_FullHours.R) : Option spec_FullHours.R :=
 (spec_beTune.g N a0).bind fun r1 =>
 bif (!r1) then
  some (([] : List ByteArray), false)
 else
 c1 a0 0
theorem spec_FullHours.o0.run (N : Nat) (H244 : Code) (a0 : List ByteArray) : runC spec_FullHours.C (spec_FullHours.O N) N (.seq spec_FullHours.c2 (.seq spec_FullHours.c6 (.seq spec_FullHours.c14 (.seq (.seq spec_FullHours.c60 (.block 0 (.loop H244))) spec_FullHours.c31)))) 1 (st0 [.one (.sl false 9 a0)] [] : St D0) spec_FullHours.K0 = spec_FullHours.o0 N a0 ((fun w0 w1 => iter (loopF spec_FullHours.C (spec_FullHours.O N) N H244 122) N (mkSt [(0, .one (.sl false 9 w0)), (4, .one (.nl)), (5, .one (.int .i64 w1))] [] : St D0) (blockK 0 (onN (fun s => spec_FullHours.C.tidy 30 s (fun s' => runC spec_FullHours.C (spec_FullHours.O N) N spec_FullHours.c31 31 s' spec_FullHours.K0)) spec_FullHours.K0)))) := by kernel_rfl
noncomputable def spec_FullHours.g (N : Nat) (a0 : List ByteArray) : Option spec_FullHours.R := spec_FullHours.o0 N a0 ((fun w0 w1 => spec_FullHours.l1 N N w0 w1))
theorem spec_FullHours.c1_0 : spec_FullHours.c1 = (.seq spec_FullHours.c2 (.seq spec_FullHours.c6 (.seq spec_FullHours.c14 (.seq (.seq spec_FullHours.c60 (.block 0 (.loop spec_FullHours.c244))) spec_FullHours.c31)))) := by kernel_rfl
theorem spec_FullHours.g.run (N : Nat) (a0 : List ByteArray) : runC spec_FullHours.C (spec_FullHours.O N) N spec_FullHours.c1 1 (st0 [.one (.sl false 9 a0)] [] : St D0) spec_FullHours.K0 = spec_FullHours.g N a0 := by
  rw [spec_FullHours.c1_0]; unfold spec_FullHours.g; exact (spec_FullHours.o0.run N spec_FullHours.c244 a0).trans (congr rfl (funext fun w0 => funext fun w1 => (spec_FullHours.loop122 N N).1 w0 w1))
theorem spec_FullHours.good (N : Nat) (a0 : List ByteArray) (r : spec_FullHours.R) (h : spec_FullHours.g N a0 = some r) : Go.PM.Good Go.Proofs.Try.prog T0 18 [.one (.sl false 9 a0)] [] (spec_FullHours.sig.ret r) (spec_FullHours.sig.bs r) :=
  good_fn tabOk0 mixed0 spec_FullHours.sig (spec_FullHours.E N) Go.Proofs.Try.func18 (by kernel_rfl) (by kernel_rfl) 4413 0 0 [(122, [0, 4, 5], [])] 206400 false [] [(false, [.own 9]), (false, [.any])] (by kernel_rfl) rfl rfl ((spec_FullHours.g.run N a0).trans h)
noncomputable def spec_FullHours.ent (N : Nat) : Ent Go.Proofs.Try.prog T0 := mkEnt 18 [(false, [.ro 9])] spec_FullHours.sig (fun t => spec_FullHours.g N t) (fun t r h => spec_FullHours.good N t r h)
end Go.Proofs.Ytpmipkbfohcjiaa.M

namespace Go.Proofs.Ytpmipkbfohcjiaa.M
open Go Go.PM Go.Proofs.Ytpmipkbfohcjiaa.P
set_option linter.unusedVariables false
set_option maxRecDepth 100000
/-! ### laws_kTexts -/
abbrev laws_kTexts.R : Type := Bool
abbrev laws_kTexts.sig : Sig := ⟨[(false, 1), (false, 1)], [], [.sl false 9, .sl false 9], [(false, 1)], [], [.bool]⟩
noncomputable def laws_kTexts.C : Cfg D0 := ⟨Go.Proofs.Try.prog, T0, 16806963, 0, 26, 0, [(58, [0, 1, 12, 13], [])], 3344704, false, []⟩
noncomputable def laws_kTexts.E (N : Nat) : List (Ent Go.Proofs.Try.prog T0) := []
noncomputable def laws_kTexts.O (N : Nat) : Orc D0 laws_kTexts.R := orcOf (laws_kTexts.E N)
noncomputable def laws_kTexts.K0 : Ex → St D0 → Option laws_kTexts.R := exitK laws_kTexts.C Go.Proofs.Try.f20.results.toList [(false, [.any])] (decOut laws_kTexts.sig)
noncomputable def laws_kTexts.c1 : Code := codeAt (Go.Proofs.Try.f20.body.getD .skip) []
noncomputable def laws_kTexts.c2 : Code := codeAt (Go.Proofs.Try.f20.body.getD .skip) [false]
noncomputable def laws_kTexts.c6 : Code := codeAt (Go.Proofs.Try.f20.body.getD .skip) [true, false]
noncomputable def laws_kTexts.c15 : Code := codeAt (Go.Proofs.Try.f20.body.getD .skip) [true, true, true]
noncomputable def laws_kTexts.c28 : Code := codeAt (Go.Proofs.Try.f20.body.getD .skip) [true, true, false, false]
noncomputable def laws_kTexts.c116 : Code := codeAt (Go.Proofs.Try.f20.body.getD .skip) [true, true, false, true, false, false]
noncomputable def laws_kTexts.K116 (N : Nat) (Kn58 : St D0 → Option laws_kTexts.R) : Ex → St D0 → Option laws_kTexts.R := (onN (fun s => laws_kTexts.C.tidy 58 s ((onN Kn58 (blockK 0 (onN (fun s => laws_kTexts.C.tidy 14 s (fun s' => runC laws_kTexts.C (laws_kTexts.O N) N laws_kTexts.c15 15 s' laws_kTexts.K0)) laws_kTexts.K0))) .normal)) (onN Kn58 (blockK 0 (onN (fun s => laws_kTexts.C.tidy 14 s (fun s' => runC laws_kTexts.C (laws_kTexts.O N) N laws_kTexts.c15 15 s' laws_kTexts.K0)) laws_kTexts.K0))))
noncomputable def laws_kTexts.o1 (N : Nat) (v0 : List ByteArray) (v1 : List ByteArray) (v2 : Int) (v3 : Int) (c1 : (List ByteArray) → (List ByteArray) → Int → Int → Option laws_kTexts.R) : Option laws_kTexts.R :=
 bif (decide (v3 < v2)) then
  bif (decide (0 ≤ v3)) then
   bif (decide (v3 < (v0.length : Int))) then
    (v0[(v3 : Int).toNat]?).bind fun x1 =>
    bif (decide (0 ≤ v3)) then
     bif (decide (v3 < (v1.length : Int))) then
      (v1[(v3 : Int).toNat]?).bind fun x2 =>
      bif (!(x1.toList == x2.toList)) then
       some (false)
      else
      c1 v0 v1 v2 (w64 (v3 + 1))
     else
     none
    else
    none
   else
   none
  else
  none
 else
 some (true)
theorem laws_kTexts.o1.run (N : Nat) (Kn58 : St D0 → Option laws_kTexts.R) (v0 : List ByteArray) (v1 : List ByteArray) (v2 : Int) (v3 : Int) : runC laws_kTexts.C (laws_kTexts.O N) N laws_kTexts.c116 116 (mkSt [(0, .one (.sl false 9 v0)), (1, .one (.sl false 9 v1)), (12, .one (.int .i64 v2)), (13, .one (.int .i64 v3))] [] : St D0) (onN (fun s => laws_kTexts.C.tidy 58 s ((onN Kn58 (blockK 0 (onN (fun s => laws_kTexts.C.tidy 14 s (fun s' => runC laws_kTexts.C (laws_kTexts.O N) N laws_kTexts.c15 15 s' laws_kTexts.K0)) laws_kTexts.K0))) .normal)) (onN Kn58 (blockK 0 (onN (fun s => laws_kTexts.C.tidy 14 s (fun s' => runC laws_kTexts.C (laws_kTexts.O N) N laws_kTexts.c15 15 s' laws_kTexts.K0)) laws_kTexts.K0)))) = laws_kTexts.o1 N v0 v1 v2 v3 ((fun w0 w1 w2 w3 => Kn58 (mkSt [(0, .one (.sl false 9 w0)), (1, .one (.sl false 9 w1)), (12, .one (.int .i64 w2)), (13, .one (.int .i64 w3))] [] : St D0))) := by kernel_rfl
noncomputable def laws_kTexts.d1 (N : Nat) (v0 : List ByteArray) (v1 : List ByteArray) (v2 : Int) (v3 : Int) (c1 : (List ByteArray) → (List ByteArray) → Int → Int → Option laws_kTexts.R) : Option laws_kTexts.R := laws_kTexts.o1 N v0 v1 v2 v3 c1
theorem laws_kTexts.d1.run (N : Nat) (Kn58 : St D0 → Option laws_kTexts.R) (v0 : List ByteArray) (v1 : List ByteArray) (v2 : Int) (v3 : Int) : runC laws_kTexts.C (laws_kTexts.O N) N laws_kTexts.c116 116 (mkSt [(0, .one (.sl false 9 v0)), (1, .one (.sl false 9 v1)), (12, .one (.int .i64 v2)), (13, .one (.int .i64 v3))] [] : St D0) (laws_kTexts.K116 N Kn58) = laws_kTexts.d1 N v0 v1 v2 v3 ((fun w0 w1 w2 w3 => Kn58 (mkSt [(0, .one (.sl false 9 w0)), (1, .one (.sl false 9 w1)), (12, .one (.int .i64 w2)), (13, .one (.int .i64 w3))] [] : St D0))) := by
  exact (laws_kTexts.o1.run N Kn58 v0 v1 v2 v3).trans rfl
noncomputable def laws_kTexts.K58 (N : Nat) : Ex → St D0 → Option laws_kTexts.R := (blockK 0 (onN (fun s => laws_kTexts.C.tidy 14 s (fun s' => runC laws_kTexts.C (laws_kTexts.O N) N laws_kTexts.c15 15 s' laws_kTexts.K0)) laws_kTexts.K0))
noncomputable def laws_kTexts.l1 (N : Nat) : Nat → (List ByteArray) → (List ByteArray) → Int → Int → Option laws_kTexts.R
  | 0, _, _, _, _ => none
  | n + 1, v0, v1, v2, v3 => laws_kTexts.d1 N v0 v1 v2 v3 ((fun w0 w1 w2 w3 => laws_kTexts.l1 N n w0 w1 w2 w3))
theorem laws_kTexts.loop58 (N : Nat) : ∀ n, (∀ (v0 : List ByteArray) (v1 : List ByteArray) (v2 : Int) (v3 : Int), iter (loopF laws_kTexts.C (laws_kTexts.O N) N laws_kTexts.c116 58) n (mkSt [(0, .one (.sl false 9 v0)), (1, .one (.sl false 9 v1)), (12, .one (.int .i64 v2)), (13, .one (.int .i64 v3))] [] : St D0) (laws_kTexts.K58 N) = laws_kTexts.l1 N n v0 v1 v2 v3)
  | 0 => (fun v0 v1 v2 v3 => rfl)
  | n + 1 => (fun v0 v1 v2 v3 => (laws_kTexts.d1.run N (fun s => iter (loopF laws_kTexts.C (laws_kTexts.O N) N laws_kTexts.c116 58) n s (laws_kTexts.K58 N)) v0 v1 v2 v3).trans (show _ = laws_kTexts.d1 N v0 v1 v2 v3 ((fun w0 w1 w2 w3 => laws_kTexts.l1 N n w0 w1 w2 w3)) from (congr rfl (funext fun w0 => funext fun w1 => funext fun w2 => funext fun w3 => (laws_kTexts.loop58 N n) w0 w1 w2 w3))))
noncomputable def laws_kTexts.o0 (N : Nat) (a0 : List ByteArray) (a1 : List ByteArray) (c1 : (List ByteArray) → (List ByteArray) → Int → Int → Option laws_kTexts.R) : Option laws_kTexts.R :=
 bif ((a0.length : Int) != (a1.length : Int)) then
  some (false)
 else
 c1 a0 a1 (a0.length : Int) 0
theorem laws_kTexts.o0.run (N : Nat) (H116 : Code) (a0 : List ByteArray) (a1 : List ByteArray) : runC laws_kTexts.C (laws_kTexts.O N) N (.seq laws_kTexts.c2 (.seq laws_kTexts.c6 (.seq (.seq laws_kTexts.c28 (.block 0 (.loop H116))) laws_kTexts.c15))) 1 (st0 [.one (.sl false 9 a0), .one (.sl false 9 a1)] [] : St D0) laws_kTexts.K0 = laws_kTexts.o0 N a0 a1 ((fun w0 w1 w2 w3 => iter (loopF laws_kTexts.C (laws_kTexts.O N) N H116 58) N (mkSt [(0, .one (.sl false 9 w0)), (1, .one (.sl false 9 w1)), (12, .one (.int .i64 w2)), (13, .one (.int .i64 w3))] [] : St D0) (blockK 0 (onN (fun s => laws_kTexts.C.tidy 14 s (fun s' => runC laws_kTexts.C (laws_kTexts.O N) N laws_kTexts.c15 15 s' laws_kTexts.K0)) laws_kTexts.K0)))) := by kernel_rfl
noncomputable def laws_kTexts.g (N : Nat) (a0 : List ByteArray) (a1 : List ByteArray) : Option laws_kTexts.R := laws_kTexts.o0 N a0 a1 ((fun w0 w1 w2 w3 => laws_kTexts.l1 N N w0 w1 w2 w3))
theorem laws_kTexts.c1_0 : laws_kTexts.c1 = (.seq laws_kTexts.c2 (.seq laws_kTexts.c6 (.seq (.seq laws_kTexts.c28 (.block 0 (.loop laws_kTexts.c116))) laws_kTexts.c15))) := by kernel_rfl
theorem laws_kTexts.g.run (N : Nat) (a0 : List ByteArray) (a1 : List ByteArray) : runC laws_kTexts.C (laws_kTexts.O N) N laws_kTexts.c1 1 (st0 [.one (.sl false 9 a0), .one (.sl false 9 a1)] [] : St D0) laws_kTexts.K0 = laws_kTexts.g N a0 a1 := by
  rw [laws_kTexts.c1_0]; unfold laws_kTexts.g; exact (laws_kTexts.o0.run N laws_kTexts.c116 a0 a1).trans (congr rfl (funext fun w0 => funext fun w1 => funext fun w2 => funext fun w3 => (laws_kTexts.loop58 N N) w0 w1 w2 w3))
theorem laws_kTexts.good (N : Nat) (a0 : List ByteArray) (a1 : List ByteArray) (r : laws_kTexts.R) (h : laws_kTexts.g N a0 a1 = some r) : Go.PM.Good Go.Proofs.Try.prog T0 20 [.one (.sl false 9 a0), .one (.sl false 9 a1)] [] (laws_kTexts.sig.ret r) (laws_kTexts.sig.bs r) :=
  good_fn tabOk0 mixed0 laws_kTexts.sig (laws_kTexts.E N) Go.Proofs.Try.func20 (by kernel_rfl) (by kernel_rfl) 16806963 0 0 [(58, [0, 1, 12, 13], [])] 3344704 false [] [(false, [.any])] (by kernel_rfl) rfl rfl ((laws_kTexts.g.run N a0 a1).trans h)
noncomputable def laws_kTexts.ent (N : Nat) : Ent Go.Proofs.Try.prog T0 := mkEnt 20 [(false, [.ro 9]), (false, [.ro 9])] laws_kTexts.sig (fun t => laws_kTexts.g N t.1 t.2) (fun t r h => laws_kTexts.good N t.1 t.2 r h)
end Go.Proofs.Ytpmipkbfohcjiaa.M

namespace Go.Proofs.Ytpmipkbfohcjiaa.M
open Go Go.PM Go.Proofs.Ytpmipkbfohcjiaa.P
set_option linter.unusedVariables false
set_option maxRecDepth 100000
/-! ### laws_big -/
abbrev laws_big.R : Type := Bool
abbrev laws_big.sig : Sig := ⟨[(false, 1), (false, 1)], [], [.sl false 5, .sl false 5], [(false, 1)], [], [.bool]⟩
noncomputable def laws_big.C : Cfg D0 := ⟨Go.Proofs.Try.prog, T0, 19, 0, 16, 0, [], 2592, false, []⟩
noncomputable def laws_big.E (N : Nat) : List (Ent Go.Proofs.Try.prog T0) := []
noncomputable def laws_big.O (N : Nat) : Orc D0 laws_big.R := orcOf (laws_big.E N)
noncomputable def laws_big.K0 : Ex → St D0 → Option laws_big.R := exitK laws_big.C Go.Proofs.Try.f28.results.toList [(false, [.any])] (decOut laws_big.sig)
noncomputable def laws_big.c1 : Code := codeAt (Go.Proofs.Try.f28.body.getD .skip) []
noncomputable def laws_big.o0 (N : Nat) (a0 : List Int) (a1 : List Int) : Option laws_big.R :=
 bif (decide ((a0.length : Int) > 1048576)) then
  some (true)
 else
 some ((decide ((a1.length : Int) > (w64 (1048576 - (a0.length : Int))))))
theorem laws_big.o0.run (N : Nat) (a0 : List Int) (a1 : List Int) : runC laws_big.C (laws_big.O N) N laws_big.c1 1 (st0 [.one (.sl false 5 a0), .one (.sl false 5 a1)] [] : St D0) laws_big.K0 = laws_big.o0 N a0 a1 := by kernel_rfl
noncomputable def laws_big.g (N : Nat) (a0 : List Int) (a1 : List Int) : Option laws_big.R := laws_big.o0 N a0 a1
theorem laws_big.g.run (N : Nat) (a0 : List Int) (a1 : List Int) : runC laws_big.C (laws_big.O N) N laws_big.c1 1 (st0 [.one (.sl false 5 a0), .one (.sl false 5 a1)] [] : St D0) laws_big.K0 = laws_big.g N a0 a1 := by
  exact (laws_big.o0.run N a0 a1).trans rfl
theorem laws_big.good (N : Nat) (a0 : List Int) (a1 : List Int) (r : laws_big.R) (h : laws_big.g N a0 a1 = some r) : Go.PM.Good Go.Proofs.Try.prog T0 28 [.one (.sl false 5 a0), .one (.sl false 5 a1)] [] (laws_big.sig.ret r) (laws_big.sig.bs r) :=
  good_fn tabOk0 mixed0 laws_big.sig (laws_big.E N) Go.Proofs.Try.func28 (by kernel_rfl) (by kernel_rfl) 19 0 0 [] 2592 false [] [(false, [.any])] (by kernel_rfl) rfl rfl ((laws_big.g.run N a0 a1).trans h)
noncomputable def laws_big.ent (N : Nat) : Ent Go.Proofs.Try.prog T0 := mkEnt 28 [(false, [.ro 5]), (false, [.ro 5])] laws_big.sig (fun t => laws_big.g N t.1 t.2) (fun t r h => laws_big.good N t.1 t.2 r h)
end Go.Proofs.Ytpmipkbfohcjiaa.M

namespace Go.Proofs.Ytpmipkbfohcjiaa.M
open Go Go.PM Go.Proofs.Ytpmipkbfohcjiaa.P
set_option linter.unusedVariables false
set_option maxRecDepth 100000
/-! ### spec_l1Cur_next -/
abbrev spec_l1Cur_next.R : Type := Int × List Int × Int × Int
abbrev spec_l1Cur_next.sig : Sig := ⟨[(false, 1)], [(70, 3)], [.ptr 0 0, .sl false 5, .int .i64, .int .u64], [(false, 1)], [(70, 3)], [.int .i64, .sl false 5, .int .i64, .int .u64]⟩
noncomputable def spec_l1Cur_next.C : Cfg D0 := ⟨Go.Proofs.Try.prog, T0, 9007199254749197, 0, 62, 1, [(14, [0, 3], [0])], 36328151978361104, false, []⟩
noncomputable def spec_l1Cur_next.E (N : Nat) : List (Ent Go.Proofs.Try.prog T0) := []
noncomputable def spec_l1Cur_next.O (N : Nat) : Orc D0 spec_l1Cur_next.R := orcOf (spec_l1Cur_next.E N)
noncomputable def spec_l1Cur_next.K0 : Ex → St D0 → Option spec_l1Cur_next.R := exitK spec_l1Cur_next.C Go.Proofs.Try.f87.results.toList [(false, [.any])] (decOut spec_l1Cur_next.sig)
noncomputable def spec_l1Cur_next.c1 : Code := codeAt (Go.Proofs.Try.f87.body.getD .skip) []
noncomputable def spec_l1Cur_next.c2 : Code := codeAt (Go.Proofs.Try.f87.body.getD .skip) [false]
noncomputable def spec_l1Cur_next.c6 : Code := codeAt (Go.Proofs.Try.f87.body.getD .skip) [true, false]
noncomputable def spec_l1Cur_next.c14 : Code := codeAt (Go.Proofs.Try.f87.body.getD .skip) [true, true, false]
noncomputable def spec_l1Cur_next.c15 : Code := codeAt (Go.Proofs.Try.f87.body.getD .skip) [true, true, true]
noncomputable def spec_l1Cur_next.K15 (N : Nat) : Ex → St D0 → Option spec_l1Cur_next.R := spec_l1Cur_next.K0
noncomputable def spec_l1Cur_next.o1 (N : Nat) (v0 : Int) (v1 : List Int) (v2 : Int) (v3 : Int) : Option spec_l1Cur_next.R :=
 bif (decide ((w64 (v2 + 1)) ≤ (v1.length : Int))) then
  some (v0, v1, (w64 (v2 + 1)), ((IntKind.wrap .u64) (((IntKind.wrap .u64) (((IntKind.wrap .u64) (v3 * 6364136223846793005)) + ((IntKind.wrap .u64) v0))) + 1442695040888963407)))
 else
 some ((w64 (andK .u64 (shrK .u64 ((IntKind.wrap .u64) (((IntKind.wrap .u64) (((IntKind.wrap .u64) (v3 * 6364136223846793005)) + ((IntKind.wrap .u64) v0))) + 1442695040888963407)) 40) 255)), v1, (w64 (v2 + 1)), ((IntKind.wrap .u64) (((IntKind.wrap .u64) (((IntKind.wrap .u64) (v3 * 6364136223846793005)) + ((IntKind.wrap .u64) v0))) + 1442695040888963407)))
theorem spec_l1Cur_next.o1.run (N : Nat) (v0 : Int) (v1 : List Int) (v2 : Int) (v3 : Int) : runC spec_l1Cur_next.C (spec_l1Cur_next.O N) N spec_l1Cur_next.c15 15 (mkSt [(0, .one (.ptr 0 0)), (3, .one (.int .i64 v0))] [(0, some (70, [.sl false 5 v1, .int .i64 v2, .int .u64 v3]))] : St D0) spec_l1Cur_next.K0 = spec_l1Cur_next.o1 N v0 v1 v2 v3 := by kernel_rfl
noncomputable def spec_l1Cur_next.d1 (N : Nat) (v0 : Int) (v1 : List Int) (v2 : Int) (v3 : Int) : Option spec_l1Cur_next.R := spec_l1Cur_next.o1 N v0 v1 v2 v3
theorem spec_l1Cur_next.d1.run (N : Nat) (v0 : Int) (v1 : List Int) (v2 : Int) (v3 : Int) : runC spec_l1Cur_next.C (spec_l1Cur_next.O N) N spec_l1Cur_next.c15 15 (mkSt [(0, .one (.ptr 0 0)), (3, .one (.int .i64 v0))] [(0, some (70, [.sl false 5 v1, .int .i64 v2, .int .u64 v3]))] : St D0) (spec_l1Cur_next.K15 N) = spec_l1Cur_next.d1 N v0 v1 v2 v3 := by
  exact (spec_l1Cur_next.o1.run N v0 v1 v2 v3).trans rfl
noncomputable def spec_l1Cur_next.o0 (N : Nat) (b0_0 : List Int) (b0_1 : Int) (b0_2 : Int) (c1 : Int → (List Int) → Int → Int → Option spec_l1Cur_next.R) : Option spec_l1Cur_next.R :=
 bif (decide (b0_1 < (b0_0.length : Int))) then
  bif (decide (0 ≤ b0_1)) then
   bif (decide (b0_1 < (b0_0.length : Int))) then
    (b0_0[(b0_1 : Int).toNat]?).bind fun x1 =>
    c1 (w64 x1) b0_0 b0_1 b0_2
   else
   none
  else
  none
 else
 c1 0 b0_0 b0_1 b0_2
theorem spec_l1Cur_next.o0.run (N : Nat) (H15 : Code) (b0_0 : List Int) (b0_1 : Int) (b0_2 : Int) : runC spec_l1Cur_next.C (spec_l1Cur_next.O N) N (.seq spec_l1Cur_next.c2 (.seq spec_l1Cur_next.c6 (.seq spec_l1Cur_next.c14 H15))) 1 (st0 [.one (.ptr 0 0)] [(70, [.sl false 5 b0_0, .int .i64 b0_1, .int .u64 b0_2])] : St D0) spec_l1Cur_next.K0 = spec_l1Cur_next.o0 N b0_0 b0_1 b0_2 ((fun w0 w1 w2 w3 => runC spec_l1Cur_next.C (spec_l1Cur_next.O N) N H15 15 (mkSt [(0, .one (.ptr 0 0)), (3, .one (.int .i64 w0))] [(0, some (70, [.sl false 5 w1, .int .i64 w2, .int .u64 w3]))] : St D0) spec_l1Cur_next.K0)) := by kernel_rfl
noncomputable def spec_l1Cur_next.B7 (N : Nat) : St D0 → Option spec_l1Cur_next.R := fun s' => runC spec_l1Cur_next.C (spec_l1Cur_next.O N) N spec_l1Cur_next.c15 15 s' (spec_l1Cur_next.K15 N)
noncomputable def spec_l1Cur_next.g (N : Nat) (b0_0 : List Int) (b0_1 : Int) (b0_2 : Int) : Option spec_l1Cur_next.R := spec_l1Cur_next.o0 N b0_0 b0_1 b0_2 ((fun w0 w1 w2 w3 => spec_l1Cur_next.d1 N w0 w1 w2 w3))
theorem spec_l1Cur_next.c1_0 : spec_l1Cur_next.c1 = (.seq spec_l1Cur_next.c2 (.seq spec_l1Cur_next.c6 (.seq spec_l1Cur_next.c14 spec_l1Cur_next.c15))) := by kernel_rfl
theorem spec_l1Cur_next.g.run (N : Nat) (b0_0 : List Int) (b0_1 : Int) (b0_2 : Int) : runC spec_l1Cur_next.C (spec_l1Cur_next.O N) N spec_l1Cur_next.c1 1 (st0 [.one (.ptr 0 0)] [(70, [.sl false 5 b0_0, .int .i64 b0_1, .int .u64 b0_2])] : St D0) spec_l1Cur_next.K0 = spec_l1Cur_next.g N b0_0 b0_1 b0_2 := by
  rw [spec_l1Cur_next.c1_0]; unfold spec_l1Cur_next.g; exact (spec_l1Cur_next.o0.run N spec_l1Cur_next.c15 b0_0 b0_1 b0_2).trans (congr rfl (funext fun w0 => funext fun w1 => funext fun w2 => funext fun w3 => spec_l1Cur_next.d1.run N w0 w1 w2 w3))
theorem spec_l1Cur_next.good (N : Nat) (b0_0 : List Int) (b0_1 : Int) (b0_2 : Int) (r : spec_l1Cur_next.R) (h : spec_l1Cur_next.g N b0_0 b0_1 b0_2 = some r) : Go.PM.Good Go.Proofs.Try.prog T0 87 [.one (.ptr 0 0)] [(70, [.sl false 5 b0_0, .int .i64 b0_1, .int .u64 b0_2])] (spec_l1Cur_next.sig.ret r) (spec_l1Cur_next.sig.bs r) :=
  good_fn tabOk0 mixed0 spec_l1Cur_next.sig (spec_l1Cur_next.E N) Go.Proofs.Try.func87 (by kernel_rfl) (by kernel_rfl) 9007199254749197 0 1 [(14, [0, 3], [0])] 36328151978361104 false [] [(false, [.any])] (by kernel_rfl) rfl rfl ((spec_l1Cur_next.g.run N b0_0 b0_1 b0_2).trans h)
noncomputable def spec_l1Cur_next.ent (N : Nat) : Ent Go.Proofs.Try.prog T0 := mkEnt 87 [(false, [.any])] spec_l1Cur_next.sig (fun t => spec_l1Cur_next.g N t.2.1 t.2.2.1 t.2.2.2) (fun t r h => spec_l1Cur_next.good N t.2.1 t.2.2.1 t.2.2.2 r h)
end Go.Proofs.Ytpmipkbfohcjiaa.M

namespace Go.Proofs.Ytpmipkbfohcjiaa.M
open Go Go.PM Go.Proofs.Ytpmipkbfohcjiaa.P
set_option linter.unusedVariables false
set_option maxRecDepth 100000
/-! ### spec_l1Cur_pick -/
abbrev spec_l1Cur_pick.R : Type := Int × List Int × Int × Int
abbrev spec_l1Cur_pick.sig : Sig := ⟨[(false, 1), (false, 1)], [(70, 3)], [.ptr 0 0, .int .i64, .sl false 5, .int .i64, .int .u64], [(false, 1)], [(70, 3)], [.int .i64, .sl false 5, .int .i64, .int .u64]⟩
noncomputable def spec_l1Cur_pick.C : Cfg D0 := ⟨Go.Proofs.Try.prog, T0, 2227, 0, 20, 1, [(30, [1, 5], [0])], 415040, false, []⟩
noncomputable def spec_l1Cur_pick.E (N : Nat) : List (Ent Go.Proofs.Try.prog T0) := [spec_l1Cur_next.ent N]
noncomputable def spec_l1Cur_pick.O (N : Nat) : Orc D0 spec_l1Cur_pick.R := orcOf (spec_l1Cur_pick.E N)
noncomputable def spec_l1Cur_pick.K0 : Ex → St D0 → Option spec_l1Cur_pick.R := exitK spec_l1Cur_pick.C Go.Proofs.Try.f77.results.toList [(false, [.any])] (decOut spec_l1Cur_pick.sig)
noncomputable def spec_l1Cur_pick.c1 : Code := codeAt (Go.Proofs.Try.f77.body.getD .skip) []
noncomputable def spec_l1Cur_pick.c2 : Code := codeAt (Go.Proofs.Try.f77.body.getD .skip) [false]
noncomputable def spec_l1Cur_pick.c6 : Code := codeAt (Go.Proofs.Try.f77.body.getD .skip) [true, false]
noncomputable def spec_l1Cur_pick.c14 : Code := codeAt (Go.Proofs.Try.f77.body.getD .skip) [true, true, false]
noncomputable def spec_l1Cur_pick.c30 : Code := codeAt (Go.Proofs.Try.f77.body.getD .skip) [true, true, true, false]
noncomputable def spec_l1Cur_pick.c31 : Code := codeAt (Go.Proofs.Try.f77.body.getD .skip) [true, true, true, true]
noncomputable def spec_l1Cur_pick.K31 (N : Nat) : Ex → St D0 → Option spec_l1Cur_pick.R := spec_l1Cur_pick.K0
noncomputable def spec_l1Cur_pick.o1 (N : Nat) (v0 : Int) (v1 : Int) (v2 : List Int) (v3 : Int) (v4 : Int) : Option spec_l1Cur_pick.R :=
 bif (v0 == 0) then
  none
 else
 some ((Int.tmod v1 v0), v2, v3, v4)
theorem spec_l1Cur_pick.o1.run (N : Nat) (v0 : Int) (v1 : Int) (v2 : List Int) (v3 : Int) (v4 : Int) : runC spec_l1Cur_pick.C (spec_l1Cur_pick.O N) N spec_l1Cur_pick.c31 31 (mkSt [(1, .one (.int .i64 v0)), (5, .one (.int .i64 v1))] [(0, some (70, [.sl false 5 v2, .int .i64 v3, .int .u64 v4]))] : St D0) spec_l1Cur_pick.K0 = spec_l1Cur_pick.o1 N v0 v1 v2 v3 v4 := by kernel_rfl
noncomputable def spec_l1Cur_pick.d1 (N : Nat) (v0 : Int) (v1 : Int) (v2 : List Int) (v3 : Int) (v4 : Int) : Option spec_l1Cur_pick.R := spec_l1Cur_pick.o1 N v0 v1 v2 v3 v4
theorem spec_l1Cur_pick.d1.run (N : Nat) (v0 : Int) (v1 : Int) (v2 : List Int) (v3 : Int) (v4 : Int) : runC spec_l1Cur_pick.C (spec_l1Cur_pick.O N) N spec_l1Cur_pick.c31 31 (mkSt [(1, .one (.int .i64 v0)), (5, .one (.int .i64 v1))] [(0, some (70, [.sl false 5 v2, .int .i64 v3, .int .u64 v4]))] : St D0) (spec_l1Cur_pick.K31 N) = spec_l1Cur_pick.d1 N v0 v1 v2 v3 v4 := by
  exact (spec_l1Cur_pick.o1.run N v0 v1 v2 v3 v4).trans rfl
noncomputable def spec_l1Cur_pick.o0 (N : Nat) (a1 : Int) (b0_0 : List Int) (b0_1 : Int) (b0_2 : Int) (c1 : Int → Int → (List Int) → Int → Int → Option spec_l1Cur_pick.R) : Option spec_l1Cur_pick.R :=
 bif (decide (a1 ≤ 1)) then
  some (0, b0_0, b0_1, b0_2)
 else
 (spec_l1Cur_next.g N b0_0 b0_1 b0_2).bind fun r1 =>
 bif (decide (a1 > 200)) then
  (spec_l1Cur_next.g N r1.2.1 r1.2.2.1 r1.2.2.2).bind fun r2 =>
  c1 a1 (w64 ((w64 (r1.1 * 256)) + r2.1)) r2.2.1 r2.2.2.1 r2.2.2.2
 else
 c1 a1 r1.1 r1.2.1 r1.2.2.1 r1.2.2.2
theorem spec_l1Cur_pick.o0.run (N : Nat) (H31 : Code) (a1 : Int) (b0_0 : List Int) (b0_1 : Int) (b0_2 : Int) : runC spec_l1Cur_pick.C (spec_l1Cur_pick.O N) N (.seq spec_l1Cur_pick.c2 (.seq spec_l1Cur_pick.c6 (.seq spec_l1Cur_pick.c14 (.seq spec_l1Cur_pick.c30 H31)))) 1 (st0 [.one (.ptr 0 0), .one (.int .i64 a1)] [(70, [.sl false 5 b0_0, .int .i64 b0_1, .int .u64 b0_2])] : St D0) spec_l1Cur_pick.K0 = spec_l1Cur_pick.o0 N a1 b0_0 b0_1 b0_2 ((fun w0 w1 w2 w3 w4 => runC spec_l1Cur_pick.C (spec_l1Cur_pick.O N) N H31 31 (mkSt [(1, .one (.int .i64 w0)), (5, .one (.int .i64 w1))] [(0, some (70, [.sl false 5 w2, .int .i64 w3, .int .u64 w4]))] : St D0) spec_l1Cur_pick.K0)) := by kernel_rfl
noncomputable def spec_l1Cur_pick.B15 (N : Nat) : St D0 → Option spec_l1Cur_pick.R := fun s' => runC spec_l1Cur_pick.C (spec_l1Cur_pick.O N) N spec_l1Cur_pick.c31 31 s' (spec_l1Cur_pick.K31 N)
noncomputable def spec_l1Cur_pick.g (N : Nat) (a1 : Int) (b0_0 : List Int) (b0_1 : Int) (b0_2 : Int) : Option spec_l1Cur_pick.R := spec_l1Cur_pick.o0 N a1 b0_0 b0_1 b0_2 ((fun w0 w1 w2 w3 w4 => spec_l1Cur_pick.d1 N w0 w1 w2 w3 w4))
theorem spec_l1Cur_pick.c1_0 : spec_l1Cur_pick.c1 = (.seq spec_l1Cur_pick.c2 (.seq spec_l1Cur_pick.c6 (.seq spec_l1Cur_pick.c14 (.seq spec_l1Cur_pick.c30 spec_l1Cur_pick.c31)))) := by kernel_rfl
theorem spec_l1Cur_pick.g.run (N : Nat) (a1 : Int) (b0_0 : List Int) (b0_1 : Int) (b0_2 : Int) : runC spec_l1Cur_pick.C (spec_l1Cur_pick.O N) N spec_l1Cur_pick.c1 1 (st0 [.one (.ptr 0 0), .one (.int .i64 a1)] [(70, [.sl false 5 b0_0, .int .i64 b0_1, .int .u64 b0_2])] : St D0) spec_l1Cur_pick.K0 = spec_l1Cur_pick.g N a1 b0_0 b0_1 b0_2 := by
  rw [spec_l1Cur_pick.c1_0]; unfold spec_l1Cur_pick.g; exact (spec_l1Cur_pick.o0.run N spec_l1Cur_pick.c31 a1 b0_0 b0_1 b0_2).trans (congr rfl (funext fun w0 => funext fun w1 => funext fun w2 => funext fun w3 => funext fun w4 => spec_l1Cur_pick.d1.run N w0 w1 w2 w3 w4))
theorem spec_l1Cur_pick.good (N : Nat) (a1 : Int) (b0_0 : List Int) (b0_1 : Int) (b0_2 : Int) (r : spec_l1Cur_pick.R) (h : spec_l1Cur_pick.g N a1 b0_0 b0_1 b0_2 = some r) : Go.PM.Good Go.Proofs.Try.prog T0 77 [.one (.ptr 0 0), .one (.int .i64 a1)] [(70, [.sl false 5 b0_0, .int .i64 b0_1, .int .u64 b0_2])] (spec_l1Cur_pick.sig.ret r) (spec_l1Cur_pick.sig.bs r) :=
  good_fn tabOk0 mixed0 spec_l1Cur_pick.sig (spec_l1Cur_pick.E N) Go.Proofs.Try.func77 (by kernel_rfl) (by kernel_rfl) 2227 0 1 [(30, [1, 5], [0])] 415040 false [] [(false, [.any])] (by kernel_rfl) rfl rfl ((spec_l1Cur_pick.g.run N a1 b0_0 b0_1 b0_2).trans h)
noncomputable def spec_l1Cur_pick.ent (N : Nat) : Ent Go.Proofs.Try.prog T0 := mkEnt 77 [(false, [.any]), (false, [.any])] spec_l1Cur_pick.sig (fun t => spec_l1Cur_pick.g N t.2.1 t.2.2.1 t.2.2.2.1 t.2.2.2.2) (fun t r h => spec_l1Cur_pick.good N t.2.1 t.2.2.1 t.2.2.2.1 t.2.2.2.2 r h)
end Go.Proofs.Ytpmipkbfohcjiaa.M

namespace Go.Proofs.Ytpmipkbfohcjiaa.M
open Go Go.PM Go.Proofs.Ytpmipkbfohcjiaa.P
set_option linter.unusedVariables false
set_option maxRecDepth 100000
/-! ### spec_l1Num -/
abbrev spec_l1Num.R : Type := ByteArray
abbrev spec_l1Num.sig : Sig := ⟨[(false, 1)], [], [.int .i64], [(false, 1)], [], [.str]⟩
noncomputable def spec_l1Num.C : Cfg D0 := ⟨Go.Proofs.Try.prog, T0, 21, 0, 20, 0, [], 9256, false, []⟩
noncomputable def spec_l1Num.E (N : Nat) (G : Int → Option spec_l1Num.R) (hG : ∀ (a0 : Int) (r : spec_l1Num.R), G a0 = some r → Go.PM.Good Go.Proofs.Try.prog T0 86 [.one (.int .i64 a0)] [] (spec_l1Num.sig.ret r) (spec_l1Num.sig.bs r)) : List (Ent Go.Proofs.Try.prog T0) := [mkEnt 86 [(false, [.any])] spec_l1Num.sig (fun t => G t) (fun t r h => hG t r h)]
noncomputable def spec_l1Num.O (N : Nat) (G : Int → Option spec_l1Num.R) (hG : ∀ (a0 : Int) (r : spec_l1Num.R), G a0 = some r → Go.PM.Good Go.Proofs.Try.prog T0 86 [.one (.int .i64 a0)] [] (spec_l1Num.sig.ret r) (spec_l1Num.sig.bs r)) : Orc D0 spec_l1Num.R := orcOf (spec_l1Num.E N G hG)
noncomputable def spec_l1Num.K0 : Ex → St D0 → Option spec_l1Num.R := exitK spec_l1Num.C Go.Proofs.Try.f86.results.toList [(false, [.any])] (decOut spec_l1Num.sig)
noncomputable def spec_l1Num.c1 : Code := codeAt (Go.Proofs.Try.f86.body.getD .skip) []
noncomputable def spec_l1Num.o0 (N : Nat) (G : Int → Option spec_l1Num.R) (a0 : Int) : Option spec_l1Num.R :=
 bif (decide (a0 < 10)) then
  (numsO T0 5 ([((IntKind.wrap .u8) (w64 (48 + a0)))] : List Int)).bind fun r1 =>
  some ((strOfNums r1))
 else
 (G (w64 (Int.tdiv a0 10))).bind fun r2 =>
 (numsO T0 5 ([((IntKind.wrap .u8) (w64 (48 + (Int.tmod a0 10))))] : List Int)).bind fun r3 =>
 bif (Nat.ble (r2.size + (strOfNums r3).size) 9223372036854775807) then
  some ((r2 ++ (strOfNums r3)))
 else
 none
theorem spec_l1Num.o0.run (N : Nat) (G : Int → Option spec_l1Num.R) (hG : ∀ (a0 : Int) (r : spec_l1Num.R), G a0 = some r → Go.PM.Good Go.Proofs.Try.prog T0 86 [.one (.int .i64 a0)] [] (spec_l1Num.sig.ret r) (spec_l1Num.sig.bs r)) (a0 : Int) : runC spec_l1Num.C (spec_l1Num.O N G hG) N spec_l1Num.c1 1 (st0 [.one (.int .i64 a0)] [] : St D0) spec_l1Num.K0 = spec_l1Num.o0 N G a0 := by kernel_rfl
noncomputable def spec_l1Num.s (N : Nat) (G : Int → Option spec_l1Num.R) (a0 : Int) : Option spec_l1Num.R := spec_l1Num.o0 N G a0
theorem spec_l1Num.s.run (N : Nat) (G : Int → Option spec_l1Num.R) (hG : ∀ (a0 : Int) (r : spec_l1Num.R), G a0 = some r → Go.PM.Good Go.Proofs.Try.prog T0 86 [.one (.int .i64 a0)] [] (spec_l1Num.sig.ret r) (spec_l1Num.sig.bs r)) (a0 : Int) : runC spec_l1Num.C (spec_l1Num.O N G hG) N spec_l1Num.c1 1 (st0 [.one (.int .i64 a0)] [] : St D0) spec_l1Num.K0 = spec_l1Num.s N G a0 := by
  exact (spec_l1Num.o0.run N G hG a0).trans rfl
noncomputable def spec_l1Num.gk (N : Nat) : Nat → Int → Option spec_l1Num.R
  | 0, _ => none
  | k + 1, a0 => spec_l1Num.s N (spec_l1Num.gk N k) a0
theorem spec_l1Num.goodk (N : Nat) : ∀ (k : Nat) (a0 : Int) (r : spec_l1Num.R), spec_l1Num.gk N k a0 = some r → Go.PM.Good Go.Proofs.Try.prog T0 86 [.one (.int .i64 a0)] [] (spec_l1Num.sig.ret r) (spec_l1Num.sig.bs r)
  | 0, _, _, h => by cases h
  | k + 1, a0, r, h => good_fn tabOk0 mixed0 spec_l1Num.sig (spec_l1Num.E N (spec_l1Num.gk N k) (spec_l1Num.goodk N k)) Go.Proofs.Try.func86 (by kernel_rfl) (by kernel_rfl) 21 0 0 [] 9256 false [] [(false, [.any])] (by kernel_rfl) rfl rfl ((spec_l1Num.s.run N (spec_l1Num.gk N k) (spec_l1Num.goodk N k) a0).trans h)
noncomputable def spec_l1Num.g (N : Nat) (a0 : Int) : Option spec_l1Num.R := spec_l1Num.gk N N a0
theorem spec_l1Num.good (N : Nat) (a0 : Int) (r : spec_l1Num.R) (h : spec_l1Num.g N a0 = some r) : Go.PM.Good Go.Proofs.Try.prog T0 86 [.one (.int .i64 a0)] [] (spec_l1Num.sig.ret r) (spec_l1Num.sig.bs r) := spec_l1Num.goodk N N a0 r h
noncomputable def spec_l1Num.ent (N : Nat) : Ent Go.Proofs.Try.prog T0 := mkEnt 86 [(false, [.any])] spec_l1Num.sig (fun t => spec_l1Num.g N t) (fun t r h => spec_l1Num.good N t r h)
end Go.Proofs.Ytpmipkbfohcjiaa.M

namespace Go.Proofs.Ytpmipkbfohcjiaa.M
open Go Go.PM Go.Proofs.Ytpmipkbfohcjiaa.P
set_option linter.unusedVariables false
set_option maxRecDepth 100000
/-! ### spec_l1Cur_one -/
abbrev spec_l1Cur_one.R : Type := Bool × List Int × Int × Int
abbrev spec_l1Cur_one.sig : Sig := ⟨[(false, 1), (false, 1)], [(70, 3)], [.ptr 0 0, .int .i64, .sl false 5, .int .i64, .int .u64], [(false, 1)], [(70, 3)], [.bool, .sl false 5, .int .i64, .int .u64]⟩
noncomputable def spec_l1Cur_one.C : Cfg D0 := ⟨Go.Proofs.Try.prog, T0, 19, 0, 9, 1, [], 96, false, []⟩
noncomputable def spec_l1Cur_one.E (N : Nat) : List (Ent Go.Proofs.Try.prog T0) := [spec_l1Cur_pick.ent N]
noncomputable def spec_l1Cur_one.O (N : Nat) : Orc D0 spec_l1Cur_one.R := orcOf (spec_l1Cur_one.E N)
noncomputable def spec_l1Cur_one.K0 : Ex → St D0 → Option spec_l1Cur_one.R := exitK spec_l1Cur_one.C Go.Proofs.Try.f79.results.toList [(false, [.any])] (decOut spec_l1Cur_one.sig)
noncomputable def spec_l1Cur_one.c1 : Code := codeAt (Go.Proofs.Try.f79.body.getD .skip) []
noncomputable def spec_l1Cur_one.o0 (N : Nat) (a1 : Int) (b0_0 : List Int) (b0_1 : Int) (b0_2 : Int) : Option spec_l1Cur_one.R :=
 (spec_l1Cur_pick.g N a1 b0_0 b0_1 b0_2).bind fun r1 =>
 some ((r1.1 == 0), r1.2.1, r1.2.2.1, r1.2.2.2)
theorem spec_l1Cur_one.o0.run (N : Nat) (a1 : Int) (b0_0 : List Int) (b0_1 : Int) (b0_2 : Int) : runC spec_l1Cur_one.C (spec_l1Cur_one.O N) N spec_l1Cur_one.c1 1 (st0 [.one (.ptr 0 0), .one (.int .i64 a1)] [(70, [.sl false 5 b0_0, .int .i64 b0_1, .int .u64 b0_2])] : St D0) spec_l1Cur_one.K0 = spec_l1Cur_one.o0 N a1 b0_0 b0_1 b0_2 := by kernel_rfl
noncomputable def spec_l1Cur_one.g (N : Nat) (a1 : Int) (b0_0 : List Int) (b0_1 : Int) (b0_2 : Int) : Option spec_l1Cur_one.R := spec_l1Cur_one.o0 N a1 b0_0 b0_1 b0_2
theorem spec_l1Cur_one.g.run (N : Nat) (a1 : Int) (b0_0 : List Int) (b0_1 : Int) (b0_2 : Int) : runC spec_l1Cur_one.C (spec_l1Cur_one.O N) N spec_l1Cur_one.c1 1 (st0 [.one (.ptr 0 0), .one (.int .i64 a1)] [(70, [.sl false 5 b0_0, .int .i64 b0_1, .int .u64 b0_2])] : St D0) spec_l1Cur_one.K0 = spec_l1Cur_one.g N a1 b0_0 b0_1 b0_2 := by
  exact (spec_l1Cur_one.o0.run N a1 b0_0 b0_1 b0_2).trans rfl
theorem spec_l1Cur_one.good (N : Nat) (a1 : Int) (b0_0 : List Int) (b0_1 : Int) (b0_2 : Int) (r : spec_l1Cur_one.R) (h : spec_l1Cur_one.g N a1 b0_0 b0_1 b0_2 = some r) : Go.PM.Good Go.Proofs.Try.prog T0 79 [.one (.ptr 0 0), .one (.int .i64 a1)] [(70, [.sl false 5 b0_0, .int .i64 b0_1, .int .u64 b0_2])] (spec_l1Cur_one.sig.ret r) (spec_l1Cur_one.sig.bs r) :=
  good_fn tabOk0 mixed0 spec_l1Cur_one.sig (spec_l1Cur_one.E N) Go.Proofs.Try.func79 (by kernel_rfl) (by kernel_rfl) 19 0 1 [] 96 false [] [(false, [.any])] (by kernel_rfl) rfl rfl ((spec_l1Cur_one.g.run N a1 b0_0 b0_1 b0_2).trans h)
noncomputable def spec_l1Cur_one.ent (N : Nat) : Ent Go.Proofs.Try.prog T0 := mkEnt 79 [(false, [.any]), (false, [.any])] spec_l1Cur_one.sig (fun t => spec_l1Cur_one.g N t.2.1 t.2.2.1 t.2.2.2.1 t.2.2.2.2) (fun t r h => spec_l1Cur_one.good N t.2.1 t.2.2.1 t.2.2.2.1 t.2.2.2.2 r h)
end Go.Proofs.Ytpmipkbfohcjiaa.M

namespace Go.Proofs.Ytpmipkbfohcjiaa.M
open Go Go.PM Go.Proofs.Ytpmipkbfohcjiaa.P
set_option linter.unusedVariables false
set_option maxRecDepth 100000
/-! ### spec_l1Cur_sureTune -/
abbrev spec_l1Cur_sureTune.R : Type := List ByteArray × List Int × Int × Int
abbrev spec_l1Cur_sureTune.sig : Sig := ⟨[(false, 1)], [(70, 3)], [.ptr 0 0, .sl false 5, .int .i64, .int .u64], [(false, 1)], [(70, 3)], [.sl true 9, .sl false 5, .int .i64, .int .u64]⟩
noncomputable def spec_l1Cur_sureTune.C : Cfg D0 := ⟨Go.Proofs.Try.prog, T0, 4398050738429, 0, 48, 1, [(122, [0, 3, 4, 5], [0]), (978, [0, 3, 4, 5], [0]), (31306, [0, 3, 4, 5, 6, 7], [0]), (31310, [0, 3, 4, 5, 6, 42], [0])], 618721003776, false, []⟩
noncomputable def spec_l1Cur_sureTune.E (N : Nat) : List (Ent Go.Proofs.Try.prog T0) := [spec_l1Cur_pick.ent N, spec_l1Num.ent N, spec_l1Cur_one.ent N]
noncomputable def spec_l1Cur_sureTune.O (N : Nat) : Orc D0 spec_l1Cur_sureTune.R := orcOf (spec_l1Cur_sureTune.E N)
noncomputable def spec_l1Cur_sureTune.K0 : Ex → St D0 → Option spec_l1Cur_sureTune.R := exitK spec_l1Cur_sureTune.C Go.Proofs.Try.f76.results.toList [(false, [.own 9])] (decOut spec_l1Cur_sureTune.sig)
noncomputable def spec_l1Cur_sureTune.c1 : Code := codeAt (Go.Proofs.Try.f76.body.getD .skip) []
noncomputable def spec_l1Cur_sureTune.c2 : Code := codeAt (Go.Proofs.Try.f76.body.getD .skip) [false]
noncomputable def spec_l1Cur_sureTune.c6 : Code := codeAt (Go.Proofs.Try.f76.body.getD .skip) [true, false]
noncomputable def spec_l1Cur_sureTune.c14 : Code := codeAt (Go.Proofs.Try.f76.body.getD .skip) [true, true, false]
noncomputable def spec_l1Cur_sureTune.c31 : Code := codeAt (Go.Proofs.Try.f76.body.getD .skip) [true, true, true, true]
noncomputable def spec_l1Cur_sureTune.c60 : Code := codeAt (Go.Proofs.Try.f76.body.getD .skip) [true, true, true, false, false]
noncomputable def spec_l1Cur_sureTune.c244 : Code := codeAt (Go.Proofs.Try.f76.body.getD .skip) [true, true, true, false, true, false, false]
noncomputable def spec_l1Cur_sureTune.c488 : Code := codeAt (Go.Proofs.Try.f76.body.getD .skip) [true, true, true, false, true, false, false, false]
noncomputable def spec_l1Cur_sureTune.c979 : Code := codeAt (Go.Proofs.Try.f76.body.getD .skip) [true, true, true, false, true, false, false, true, true]
noncomputable def spec_l1Cur_sureTune.c3912 : Code := codeAt (Go.Proofs.Try.f76.body.getD .skip) [true, true, true, false, true, false, false, true, false, false, false]
noncomputable def spec_l1Cur_sureTune.c7827 : Code := codeAt (Go.Proofs.Try.f76.body.getD .skip) [true, true, true, false, true, false, false, true, false, false, true, true]
noncomputable def spec_l1Cur_sureTune.c15652 : Code := codeAt (Go.Proofs.Try.f76.body.getD .skip) [true, true, true, false, true, false, false, true, false, false, true, false, false]
noncomputable def spec_l1Cur_sureTune.c15654 : Code := codeAt (Go.Proofs.Try.f76.body.getD .skip) [true, true, true, false, true, false, false, true, false, false, true, true, false]
noncomputable def spec_l1Cur_sureTune.c31310 : Code := codeAt (Go.Proofs.Try.f76.body.getD .skip) [true, true, true, false, true, false, false, true, false, false, true, true, true, false]
noncomputable def spec_l1Cur_sureTune.c31311 : Code := codeAt (Go.Proofs.Try.f76.body.getD .skip) [true, true, true, false, true, false, false, true, false, false, true, true, true, true]
noncomputable def spec_l1Cur_sureTune.c62612 : Code := codeAt (Go.Proofs.Try.f76.body.getD .skip) [true, true, true, false, true, false, false, true, false, false, true, false, true, false, false]
noncomputable def spec_l1Cur_sureTune.K979 (N : Nat) (Kn122 : St D0 → Option spec_l1Cur_sureTune.R) : Ex → St D0 → Option spec_l1Cur_sureTune.R := (onN (fun s => spec_l1Cur_sureTune.C.tidy 122 s ((onN Kn122 (blockK 0 (onN (fun s => spec_l1Cur_sureTune.C.tidy 30 s (fun s' => runC spec_l1Cur_sureTune.C (spec_l1Cur_sureTune.O N) N spec_l1Cur_sureTune.c31 31 s' spec_l1Cur_sureTune.K0)) spec_l1Cur_sureTune.K0))) .normal)) (onN Kn122 (blockK 0 (onN (fun s => spec_l1Cur_sureTune.C.tidy 30 s (fun s' => runC spec_l1Cur_sureTune.C (spec_l1Cur_sureTune.O N) N spec_l1Cur_sureTune.c31 31 s' spec_l1Cur_sureTune.K0)) spec_l1Cur_sureTune.K0))))
noncomputable def spec_l1Cur_sureTune.o4 (N : Nat) (v0 : List ByteArray) (v1 : Int) (v2 : Int) (v3 : List Int) (v4 : Int) (v5 : Int) (c5 : (List ByteArray) → Int → Int → (List Int) → Int → Int → Option spec_l1Cur_sureTune.R) : Option spec_l1Cur_sureTune.R :=
 c5 v0 v1 (w64 (v2 - 1)) v3 v4 v5
theorem spec_l1Cur_sureTune.o4.run (N : Nat) (Kn122 : St D0 → Option spec_l1Cur_sureTune.R) (v0 : List ByteArray) (v1 : Int) (v2 : Int) (v3 : List Int) (v4 : Int) (v5 : Int) : runC spec_l1Cur_sureTune.C (spec_l1Cur_sureTune.O N) N spec_l1Cur_sureTune.c979 979 (mkSt [(0, .one (.ptr 0 0)), (3, .one (.sl true 9 v0)), (4, .one (.int .i64 v1)), (5, .one (.int .i64 v2))] [(0, some (70, [.sl false 5 v3, .int .i64 v4, .int .u64 v5]))] : St D0) (onN (fun s => spec_l1Cur_sureTune.C.tidy 122 s ((onN Kn122 (blockK 0 (onN (fun s => spec_l1Cur_sureTune.C.tidy 30 s (fun s' => runC spec_l1Cur_sureTune.C (spec_l1Cur_sureTune.O N) N spec_l1Cur_sureTune.c31 31 s' spec_l1Cur_sureTune.K0)) spec_l1Cur_sureTune.K0))) .normal)) (onN Kn122 (blockK 0 (onN (fun s => spec_l1Cur_sureTune.C.tidy 30 s (fun s' => runC spec_l1Cur_sureTune.C (spec_l1Cur_sureTune.O N) N spec_l1Cur_sureTune.c31 31 s' spec_l1Cur_sureTune.K0)) spec_l1Cur_sureTune.K0)))) = spec_l1Cur_sureTune.o4 N v0 v1 v2 v3 v4 v5 ((fun w0 w1 w2 w3 w4 w5 => Kn122 (mkSt [(0, .one (.ptr 0 0)), (3, .one (.sl true 9 w0)), (4, .one (.int .i64 w1)), (5, .one (.int .i64 w2))] [(0, some (70, [.sl false 5 w3, .int .i64 w4, .int .u64 w5]))] : St D0))) := by kernel_rfl
noncomputable def spec_l1Cur_sureTune.d4 (N : Nat) (v0 : List ByteArray) (v1 : Int) (v2 : Int) (v3 : List Int) (v4 : Int) (v5 : Int) (c5 : (List ByteArray) → Int → Int → (List Int) → Int → Int → Option spec_l1Cur_sureTune.R) : Option spec_l1Cur_sureTune.R := spec_l1Cur_sureTune.o4 N v0 v1 v2 v3 v4 v5 c5
theorem spec_l1Cur_sureTune.d4.run (N : Nat) (Kn122 : St D0 → Option spec_l1Cur_sureTune.R) (v0 : List ByteArray) (v1 : Int) (v2 : Int) (v3 : List Int) (v4 : Int) (v5 : Int) : runC spec_l1Cur_sureTune.C (spec_l1Cur_sureTune.O N) N spec_l1Cur_sureTune.c979 979 (mkSt [(0, .one (.ptr 0 0)), (3, .one (.sl true 9 v0)), (4, .one (.int .i64 v1)), (5, .one (.int .i64 v2))] [(0, some (70, [.sl false 5 v3, .int .i64 v4, .int .u64 v5]))] : St D0) (spec_l1Cur_sureTune.K979 N Kn122) = spec_l1Cur_sureTune.d4 N v0 v1 v2 v3 v4 v5 ((fun w0 w1 w2 w3 w4 w5 => Kn122 (mkSt [(0, .one (.ptr 0 0)), (3, .one (.sl true 9 w0)), (4, .one (.int .i64 w1)), (5, .one (.int .i64 w2))] [(0, some (70, [.sl false 5 w3, .int .i64 w4, .int .u64 w5]))] : St D0))) := by
  exact (spec_l1Cur_sureTune.o4.run N Kn122 v0 v1 v2 v3 v4 v5).trans rfl
noncomputable def spec_l1Cur_sureTune.B489 (N : Nat) (Kn122 : St D0 → Option spec_l1Cur_sureTune.R) : St D0 → Option spec_l1Cur_sureTune.R := fun s' => runC spec_l1Cur_sureTune.C (spec_l1Cur_sureTune.O N) N spec_l1Cur_sureTune.c979 979 s' (spec_l1Cur_sureTune.K979 N Kn122)
noncomputable def spec_l1Cur_sureTune.K31311 (N : Nat) (Kn122 : St D0 → Option spec_l1Cur_sureTune.R) : Ex → St D0 → Option spec_l1Cur_sureTune.R := (blockK 1 (onN (fun s => spec_l1Cur_sureTune.C.tidy 978 s (spec_l1Cur_sureTune.B489 N Kn122)) (onN (fun s => spec_l1Cur_sureTune.C.tidy 122 s ((onN Kn122 (blockK 0 (onN (fun s => spec_l1Cur_sureTune.C.tidy 30 s (fun s' => runC spec_l1Cur_sureTune.C (spec_l1Cur_sureTune.O N) N spec_l1Cur_sureTune.c31 31 s' spec_l1Cur_sureTune.K0)) spec_l1Cur_sureTune.K0))) .normal)) (onN Kn122 (blockK 0 (onN (fun s => spec_l1Cur_sureTune.C.tidy 30 s (fun s' => runC spec_l1Cur_sureTune.C (spec_l1Cur_sureTune.O N) N spec_l1Cur_sureTune.c31 31 s' spec_l1Cur_sureTune.K0)) spec_l1Cur_sureTune.K0))))))
noncomputable def spec_l1Cur_sureTune.o3 (N : Nat) (v0 : List ByteArray) (v1 : Int) (v2 : Int) (v3 : ByteArray) (v4 : Bool) (v5 : List Int) (v6 : Int) (v7 : Int) (c4 : (List ByteArray) → Int → Int → (List Int) → Int → Int → Option spec_l1Cur_sureTune.R) : Option spec_l1Cur_sureTune.R :=
 bif v4 then
  bif (Nat.blt (v0.length + ([v3] : List ByteArray).length) 8796093022208) then
   c4 (v0 ++ ([v3] : List ByteArray)) v1 v2 v5 v6 v7
  else
  none
 else
 c4 v0 v1 v2 v5 v6 v7
theorem spec_l1Cur_sureTune.o3.run (N : Nat) (Kb489 : St D0 → Option spec_l1Cur_sureTune.R) (Kn122 : St D0 → Option spec_l1Cur_sureTune.R) (v0 : List ByteArray) (v1 : Int) (v2 : Int) (v3 : ByteArray) (v4 : Bool) (v5 : List Int) (v6 : Int) (v7 : Int) : runC spec_l1Cur_sureTune.C (spec_l1Cur_sureTune.O N) N spec_l1Cur_sureTune.c31311 31311 (mkSt [(0, .one (.ptr 0 0)), (3, .one (.sl true 9 v0)), (4, .one (.int .i64 v1)), (5, .one (.int .i64 v2)), (6, .one (.str v3)), (42, .one (.bool v4))] [(0, some (70, [.sl false 5 v5, .int .i64 v6, .int .u64 v7]))] : St D0) (blockK 1 (onN (fun s => spec_l1Cur_sureTune.C.tidy 978 s Kb489) (onN (fun s => spec_l1Cur_sureTune.C.tidy 122 s ((onN Kn122 (blockK 0 (onN (fun s => spec_l1Cur_sureTune.C.tidy 30 s (fun s' => runC spec_l1Cur_sureTune.C (spec_l1Cur_sureTune.O N) N spec_l1Cur_sureTune.c31 31 s' spec_l1Cur_sureTune.K0)) spec_l1Cur_sureTune.K0))) .normal)) (onN Kn122 (blockK 0 (onN (fun s => spec_l1Cur_sureTune.C.tidy 30 s (fun s' => runC spec_l1Cur_sureTune.C (spec_l1Cur_sureTune.O N) N spec_l1Cur_sureTune.c31 31 s' spec_l1Cur_sureTune.K0)) spec_l1Cur_sureTune.K0)))))) = spec_l1Cur_sureTune.o3 N v0 v1 v2 v3 v4 v5 v6 v7 ((fun w0 w1 w2 w3 w4 w5 => Kb489 (mkSt [(0, .one (.ptr 0 0)), (3, .one (.sl true 9 w0)), (4, .one (.int .i64 w1)), (5, .one (.int .i64 w2))] [(0, some (70, [.sl false 5 w3, .int .i64 w4, .int .u64 w5]))] : St D0))) := by kernel_rfl
noncomputable def spec_l1Cur_sureTune.d3 (N : Nat) (v0 : List ByteArray) (v1 : Int) (v2 : Int) (v3 : ByteArray) (v4 : Bool) (v5 : List Int) (v6 : Int) (v7 : Int) (c5 : (List ByteArray) → Int → Int → (List Int) → Int → Int → Option spec_l1Cur_sureTune.R) : Option spec_l1Cur_sureTune.R := spec_l1Cur_sureTune.o3 N v0 v1 v2 v3 v4 v5 v6 v7 ((fun w0 w1 w2 w3 w4 w5 => spec_l1Cur_sureTune.d4 N w0 w1 w2 w3 w4 w5 c5))
theorem spec_l1Cur_sureTune.d3.run (N : Nat) (Kn122 : St D0 → Option spec_l1Cur_sureTune.R) (v0 : List ByteArray) (v1 : Int) (v2 : Int) (v3 : ByteArray) (v4 : Bool) (v5 : List Int) (v6 : Int) (v7 : Int) : runC spec_l1Cur_sureTune.C (spec_l1Cur_sureTune.O N) N spec_l1Cur_sureTune.c31311 31311 (mkSt [(0, .one (.ptr 0 0)), (3, .one (.sl true 9 v0)), (4, .one (.int .i64 v1)), (5, .one (.int .i64 v2)), (6, .one (.str v3)), (42, .one (.bool v4))] [(0, some (70, [.sl false 5 v5, .int .i64 v6, .int .u64 v7]))] : St D0) (spec_l1Cur_sureTune.K31311 N Kn122) = spec_l1Cur_sureTune.d3 N v0 v1 v2 v3 v4 v5 v6 v7 ((fun w0 w1 w2 w3 w4 w5 => Kn122 (mkSt [(0, .one (.ptr 0 0)), (3, .one (.sl true 9 w0)), (4, .one (.int .i64 w1)), (5, .one (.int .i64 w2))] [(0, some (70, [.sl false 5 w3, .int .i64 w4, .int .u64 w5]))] : St D0))) := by
  unfold spec_l1Cur_sureTune.d3; exact (spec_l1Cur_sureTune.o3.run N (spec_l1Cur_sureTune.B489 N Kn122) Kn122 v0 v1 v2 v3 v4 v5 v6 v7).trans (congr rfl (funext fun w0 => funext fun w1 => funext fun w2 => funext fun w3 => funext fun w4 => funext fun w5 => spec_l1Cur_sureTune.d4.run N Kn122 w0 w1 w2 w3 w4 w5))
noncomputable def spec_l1Cur_sureTune.K62612 (N : Nat) (Kn122 : St D0 → Option spec_l1Cur_sureTune.R) (Kn31306 : St D0 → Option spec_l1Cur_sureTune.R) : Ex → St D0 → Option spec_l1Cur_sureTune.R := (onN (fun s => spec_l1Cur_sureTune.C.tidy 31306 s ((onN Kn31306 (blockK 2 (onN (fun s => spec_l1Cur_sureTune.C.tidy 7826 s (fun s' => runC spec_l1Cur_sureTune.C (spec_l1Cur_sureTune.O N) N spec_l1Cur_sureTune.c7827 7827 s' (blockK 1 (onN (fun s => spec_l1Cur_sureTune.C.tidy 978 s (spec_l1Cur_sureTune.B489 N Kn122)) (onN (fun s => spec_l1Cur_sureTune.C.tidy 122 s ((onN Kn122 (blockK 0 (onN (fun s => spec_l1Cur_sureTune.C.tidy 30 s (fun s' => runC spec_l1Cur_sureTune.C (spec_l1Cur_sureTune.O N) N spec_l1Cur_sureTune.c31 31 s' spec_l1Cur_sureTune.K0)) spec_l1Cur_sureTune.K0))) .normal)) (onN Kn122 (blockK 0 (onN (fun s => spec_l1Cur_sureTune.C.tidy 30 s (fun s' => runC spec_l1Cur_sureTune.C (spec_l1Cur_sureTune.O N) N spec_l1Cur_sureTune.c31 31 s' spec_l1Cur_sureTune.K0)) spec_l1Cur_sureTune.K0)))))))) (blockK 1 (onN (fun s => spec_l1Cur_sureTune.C.tidy 978 s (spec_l1Cur_sureTune.B489 N Kn122)) (onN (fun s => spec_l1Cur_sureTune.C.tidy 122 s ((onN Kn122 (blockK 0 (onN (fun s => spec_l1Cur_sureTune.C.tidy 30 s (fun s' => runC spec_l1Cur_sureTune.C (spec_l1Cur_sureTune.O N) N spec_l1Cur_sureTune.c31 31 s' spec_l1Cur_sureTune.K0)) spec_l1Cur_sureTune.K0))) .normal)) (onN Kn122 (blockK 0 (onN (fun s => spec_l1Cur_sureTune.C.tidy 30 s (fun s' => runC spec_l1Cur_sureTune.C (spec_l1Cur_sureTune.O N) N spec_l1Cur_sureTune.c31 31 s' spec_l1Cur_sureTune.K0)) spec_l1Cur_sureTune.K0))))))))) .normal)) (onN Kn31306 (blockK 2 (onN (fun s => spec_l1Cur_sureTune.C.tidy 7826 s (fun s' => runC spec_l1Cur_sureTune.C (spec_l1Cur_sureTune.O N) N spec_l1Cur_sureTune.c7827 7827 s' (blockK 1 (onN (fun s => spec_l1Cur_sureTune.C.tidy 978 s (spec_l1Cur_sureTune.B489 N Kn122)) (onN (fun s => spec_l1Cur_sureTune.C.tidy 122 s ((onN Kn122 (blockK 0 (onN (fun s => spec_l1Cur_sureTune.C.tidy 30 s (fun s' => runC spec_l1Cur_sureTune.C (spec_l1Cur_sureTune.O N) N spec_l1Cur_sureTune.c31 31 s' spec_l1Cur_sureTune.K0)) spec_l1Cur_sureTune.K0))) .normal)) (onN Kn122 (blockK 0 (onN (fun s => spec_l1Cur_sureTune.C.tidy 30 s (fun s' => runC spec_l1Cur_sureTune.C (spec_l1Cur_sureTune.O N) N spec_l1Cur_sureTune.c31 31 s' spec_l1Cur_sureTune.K0)) spec_l1Cur_sureTune.K0)))))))) (blockK 1 (onN (fun s => spec_l1Cur_sureTune.C.tidy 978 s (spec_l1Cur_sureTune.B489 N Kn122)) (onN (fun s => spec_l1Cur_sureTune.C.tidy 122 s ((onN Kn122 (blockK 0 (onN (fun s => spec_l1Cur_sureTune.C.tidy 30 s (fun s' => runC spec_l1Cur_sureTune.C (spec_l1Cur_sureTune.O N) N spec_l1Cur_sureTune.c31 31 s' spec_l1Cur_sureTune.K0)) spec_l1Cur_sureTune.K0))) .normal)) (onN Kn122 (blockK 0 (onN (fun s => spec_l1Cur_sureTune.C.tidy 30 s (fun s' => runC spec_l1Cur_sureTune.C (spec_l1Cur_sureTune.O N) N spec_l1Cur_sureTune.c31 31 s' spec_l1Cur_sureTune.K0)) spec_l1Cur_sureTune.K0))))))))))
noncomputable def spec_l1Cur_sureTune.o2 (N : Nat) (v0 : Int) (v1 : Int) (v2 : ByteArray) (v3 : Int) (v4 : List Int) (v5 : Int) (v6 : Int) (c2 : Int → Int → ByteArray → Int → (List Int) → Int → Int → Option spec_l1Cur_sureTune.R) (c3 : (List ByteArray) → Int → Int → ByteArray → Bool → (List Int) → Int → Int → Option spec_l1Cur_sureTune.R) : Option spec_l1Cur_sureTune.R :=
 bif (decide (v3 > 0)) then
  (spec_l1Cur_pick.g N v0 v4 v5 v6).bind fun r1 =>
  (spec_l1Num.g N (w64 (1 + r1.1))).bind fun r2 =>
  bif (Nat.ble (v2.size + r2.size) 9223372036854775807) then
   c2 v0 v1 (v2 ++ r2) (w64 (v3 - 1)) r1.2.1 r1.2.2.1 r1.2.2.2
  else
  none
 else
 bif (Nat.blt (([] : List ByteArray).length + ([v2] : List ByteArray).length) 8796093022208) then
  (spec_l1Cur_one.g N 4 v4 v5 v6).bind fun r3 =>
  bif r3.1 then
   c3 (([] : List ByteArray) ++ ([v2] : List ByteArray)) v0 v1 v2 (decide (((([] : List ByteArray) ++ ([v2] : List ByteArray)).length : Int) < 12)) r3.2.1 r3.2.2.1 r3.2.2.2
  else
  c3 (([] : List ByteArray) ++ ([v2] : List ByteArray)) v0 v1 v2 false r3.2.1 r3.2.2.1 r3.2.2.2
 else
 none
theorem spec_l1Cur_sureTune.o2.run (N : Nat) (Kb489 : St D0 → Option spec_l1Cur_sureTune.R) (Kn122 : St D0 → Option spec_l1Cur_sureTune.R) (Kn31306 : St D0 → Option spec_l1Cur_sureTune.R) (H31311 : Code) (v0 : Int) (v1 : Int) (v2 : ByteArray) (v3 : Int) (v4 : List Int) (v5 : Int) (v6 : Int) : runC spec_l1Cur_sureTune.C (spec_l1Cur_sureTune.O N) N spec_l1Cur_sureTune.c62612 62612 (mkSt [(0, .one (.ptr 0 0)), (3, .one (.nl)), (4, .one (.int .i64 v0)), (5, .one (.int .i64 v1)), (6, .one (.str v2)), (7, .one (.int .i64 v3))] [(0, some (70, [.sl false 5 v4, .int .i64 v5, .int .u64 v6]))] : St D0) (onN (fun s => spec_l1Cur_sureTune.C.tidy 31306 s ((onN Kn31306 (blockK 2 (onN (fun s => spec_l1Cur_sureTune.C.tidy 7826 s (fun s' => runC spec_l1Cur_sureTune.C (spec_l1Cur_sureTune.O N) N (.seq spec_l1Cur_sureTune.c15654 (.seq spec_l1Cur_sureTune.c31310 H31311)) 7827 s' (blockK 1 (onN (fun s => spec_l1Cur_sureTune.C.tidy 978 s Kb489) (onN (fun s => spec_l1Cur_sureTune.C.tidy 122 s ((onN Kn122 (blockK 0 (onN (fun s => spec_l1Cur_sureTune.C.tidy 30 s (fun s' => runC spec_l1Cur_sureTune.C (spec_l1Cur_sureTune.O N) N spec_l1Cur_sureTune.c31 31 s' spec_l1Cur_sureTune.K0)) spec_l1Cur_sureTune.K0))) .normal)) (onN Kn122 (blockK 0 (onN (fun s => spec_l1Cur_sureTune.C.tidy 30 s (fun s' => runC spec_l1Cur_sureTune.C (spec_l1Cur_sureTune.O N) N spec_l1Cur_sureTune.c31 31 s' spec_l1Cur_sureTune.K0)) spec_l1Cur_sureTune.K0)))))))) (blockK 1 (onN (fun s => spec_l1Cur_sureTune.C.tidy 978 s Kb489) (onN (fun s => spec_l1Cur_sureTune.C.tidy 122 s ((onN Kn122 (blockK 0 (onN (fun s => spec_l1Cur_sureTune.C.tidy 30 s (fun s' => runC spec_l1Cur_sureTune.C (spec_l1Cur_sureTune.O N) N spec_l1Cur_sureTune.c31 31 s' spec_l1Cur_sureTune.K0)) spec_l1Cur_sureTune.K0))) .normal)) (onN Kn122 (blockK 0 (onN (fun s => spec_l1Cur_sureTune.C.tidy 30 s (fun s' => runC spec_l1Cur_sureTune.C (spec_l1Cur_sureTune.O N) N spec_l1Cur_sureTune.c31 31 s' spec_l1Cur_sureTune.K0)) spec_l1Cur_sureTune.K0))))))))) .normal)) (onN Kn31306 (blockK 2 (onN (fun s => spec_l1Cur_sureTune.C.tidy 7826 s (fun s' => runC spec_l1Cur_sureTune.C (spec_l1Cur_sureTune.O N) N (.seq spec_l1Cur_sureTune.c15654 (.seq spec_l1Cur_sureTune.c31310 H31311)) 7827 s' (blockK 1 (onN (fun s => spec_l1Cur_sureTune.C.tidy 978 s Kb489) (onN (fun s => spec_l1Cur_sureTune.C.tidy 122 s ((onN Kn122 (blockK 0 (onN (fun s => spec_l1Cur_sureTune.C.tidy 30 s (fun s' => runC spec_l1Cur_sureTune.C (spec_l1Cur_sureTune.O N) N spec_l1Cur_sureTune.c31 31 s' spec_l1Cur_sureTune.K0)) spec_l1Cur_sureTune.K0))) .normal)) (onN Kn122 (blockK 0 (onN (fun s => spec_l1Cur_sureTune.C.tidy 30 s (fun s' => runC spec_l1Cur_sureTune.C (spec_l1Cur_sureTune.O N) N spec_l1Cur_sureTune.c31 31 s' spec_l1Cur_sureTune.K0)) spec_l1Cur_sureTune.K0)))))))) (blockK 1 (onN (fun s => spec_l1Cur_sureTune.C.tidy 978 s Kb489) (onN (fun s => spec_l1Cur_sureTune.C.tidy 122 s ((onN Kn122 (blockK 0 (onN (fun s => spec_l1Cur_sureTune.C.tidy 30 s (fun s' => runC spec_l1Cur_sureTune.C (spec_l1Cur_sureTune.O N) N spec_l1Cur_sureTune.c31 31 s' spec_l1Cur_sureTune.K0)) spec_l1Cur_sureTune.K0))) .normal)) (onN Kn122 (blockK 0 (onN (fun s => spec_l1Cur_sureTune.C.tidy 30 s (fun s' => runC spec_l1Cur_sureTune.C (spec_l1Cur_sureTune.O N) N spec_l1Cur_sureTune.c31 31 s' spec_l1Cur_sureTune.K0)) spec_l1Cur_sureTune.K0)))))))))) = spec_l1Cur_sureTune.o2 N v0 v1 v2 v3 v4 v5 v6 ((fun w0 w1 w2 w3 w4 w5 w6 => Kn31306 (mkSt [(0, .one (.ptr 0 0)), (3, .one (.nl)), (4, .one (.int .i64 w0)), (5, .one (.int .i64 w1)), (6, .one (.str w2)), (7, .one (.int .i64 w3))] [(0, some (70, [.sl false 5 w4, .int .i64 w5, .int .u64 w6]))] : St D0))) ((fun w0 w1 w2 w3 w4 w5 w6 w7 => runC spec_l1Cur_sureTune.C (spec_l1Cur_sureTune.O N) N H31311 31311 (mkSt [(0, .one (.ptr 0 0)), (3, .one (.sl true 9 w0)), (4, .one (.int .i64 w1)), (5, .one (.int .i64 w2)), (6, .one (.str w3)), (42, .one (.bool w4))] [(0, some (70, [.sl false 5 w5, .int .i64 w6, .int .u64 w7]))] : St D0) (blockK 1 (onN (fun s => spec_l1Cur_sureTune.C.tidy 978 s Kb489) (onN (fun s => spec_l1Cur_sureTune.C.tidy 122 s ((onN Kn122 (blockK 0 (onN (fun s => spec_l1Cur_sureTune.C.tidy 30 s (fun s' => runC spec_l1Cur_sureTune.C (spec_l1Cur_sureTune.O N) N spec_l1Cur_sureTune.c31 31 s' spec_l1Cur_sureTune.K0)) spec_l1Cur_sureTune.K0))) .normal)) (onN Kn122 (blockK 0 (onN (fun s => spec_l1Cur_sureTune.C.tidy 30 s (fun s' => runC spec_l1Cur_sureTune.C (spec_l1Cur_sureTune.O N) N spec_l1Cur_sureTune.c31 31 s' spec_l1Cur_sureTune.K0)) spec_l1Cur_sureTune.K0)))))))) := by kernel_rfl
noncomputable def spec_l1Cur_sureTune.B15655 (N : Nat) (Kn122 : St D0 → Option spec_l1Cur_sureTune.R) : St D0 → Option spec_l1Cur_sureTune.R := fun s' => runC spec_l1Cur_sureTune.C (spec_l1Cur_sureTune.O N) N spec_l1Cur_sureTune.c31311 31311 s' (spec_l1Cur_sureTune.K31311 N Kn122)
noncomputable def spec_l1Cur_sureTune.d2 (N : Nat) (v0 : Int) (v1 : Int) (v2 : ByteArray) (v3 : Int) (v4 : List Int) (v5 : Int) (v6 : Int) (c2 : Int → Int → ByteArray → Int → (List Int) → Int → Int → Option spec_l1Cur_sureTune.R) (c5 : (List ByteArray) → Int → Int → (List Int) → Int → Int → Option spec_l1Cur_sureTune.R) : Option spec_l1Cur_sureTune.R := spec_l1Cur_sureTune.o2 N v0 v1 v2 v3 v4 v5 v6 c2 ((fun w0 w1 w2 w3 w4 w5 w6 w7 => spec_l1Cur_sureTune.d3 N w0 w1 w2 w3 w4 w5 w6 w7 c5))
theorem spec_l1Cur_sureTune.d2.run (N : Nat) (Kn122 : St D0 → Option spec_l1Cur_sureTune.R) (Kn31306 : St D0 → Option spec_l1Cur_sureTune.R) (v0 : Int) (v1 : Int) (v2 : ByteArray) (v3 : Int) (v4 : List Int) (v5 : Int) (v6 : Int) : runC spec_l1Cur_sureTune.C (spec_l1Cur_sureTune.O N) N spec_l1Cur_sureTune.c62612 62612 (mkSt [(0, .one (.ptr 0 0)), (3, .one (.nl)), (4, .one (.int .i64 v0)), (5, .one (.int .i64 v1)), (6, .one (.str v2)), (7, .one (.int .i64 v3))] [(0, some (70, [.sl false 5 v4, .int .i64 v5, .int .u64 v6]))] : St D0) (spec_l1Cur_sureTune.K62612 N Kn122 Kn31306) = spec_l1Cur_sureTune.d2 N v0 v1 v2 v3 v4 v5 v6 ((fun w0 w1 w2 w3 w4 w5 w6 => Kn31306 (mkSt [(0, .one (.ptr 0 0)), (3, .one (.nl)), (4, .one (.int .i64 w0)), (5, .one (.int .i64 w1)), (6, .one (.str w2)), (7, .one (.int .i64 w3))] [(0, some (70, [.sl false 5 w4, .int .i64 w5, .int .u64 w6]))] : St D0))) ((fun w0 w1 w2 w3 w4 w5 => Kn122 (mkSt [(0, .one (.ptr 0 0)), (3, .one (.sl true 9 w0)), (4, .one (.int .i64 w1)), (5, .one (.int .i64 w2))] [(0, some (70, [.sl false 5 w3, .int .i64 w4, .int .u64 w5]))] : St D0))) := by
  unfold spec_l1Cur_sureTune.d2; exact (spec_l1Cur_sureTune.o2.run N (spec_l1Cur_sureTune.B489 N Kn122) Kn122 Kn31306 spec_l1Cur_sureTune.c31311 v0 v1 v2 v3 v4 v5 v6).trans (congr (congr rfl rfl) (funext fun w0 => funext fun w1 => funext fun w2 => funext fun w3 => funext fun w4 => funext fun w5 => funext fun w6 => funext fun w7 => spec_l1Cur_sureTune.d3.run N Kn122 w0 w1 w2 w3 w4 w5 w6 w7))
noncomputable def spec_l1Cur_sureTune.o6 (N : Nat) (v0 : List ByteArray) (v1 : Int) (v2 : Int) (v3 : ByteArray) (v4 : Int) (v5 : List Int) (v6 : Int) (v7 : Int) (c6 : (List ByteArray) → Int → Int → ByteArray → Int → (List Int) → Int → Int → Option spec_l1Cur_sureTune.R) (c3 : (List ByteArray) → Int → Int → ByteArray → Bool → (List Int) → Int → Int → Option spec_l1Cur_sureTune.R) : Option spec_l1Cur_sureTune.R :=
 bif (decide (v4 > 0)) then
  (spec_l1Cur_pick.g N v1 v5 v6 v7).bind fun r1 =>
  (spec_l1Num.g N (w64 (1 + r1.1))).bind fun r2 =>
  bif (Nat.ble (v3.size + r2.size) 9223372036854775807) then
   c6 v0 v1 v2 (v3 ++ r2) (w64 (v4 - 1)) r1.2.1 r1.2.2.1 r1.2.2.2
  else
  none
 else
 bif (Nat.blt (v0.length + ([v3] : List ByteArray).length) 8796093022208) then
  (spec_l1Cur_one.g N 4 v5 v6 v7).bind fun r3 =>
  bif r3.1 then
   c3 (v0 ++ ([v3] : List ByteArray)) v1 v2 v3 (decide (((v0 ++ ([v3] : List ByteArray)).length : Int) < 12)) r3.2.1 r3.2.2.1 r3.2.2.2
  else
  c3 (v0 ++ ([v3] : List ByteArray)) v1 v2 v3 false r3.2.1 r3.2.2.1 r3.2.2.2
 else
 none
theorem spec_l1Cur_sureTune.o6.run (N : Nat) (Kb489 : St D0 → Option spec_l1Cur_sureTune.R) (Kn122 : St D0 → Option spec_l1Cur_sureTune.R) (Kn31306 : St D0 → Option spec_l1Cur_sureTune.R) (H31311 : Code) (v0 : List ByteArray) (v1 : Int) (v2 : Int) (v3 : ByteArray) (v4 : Int) (v5 : List Int) (v6 : Int) (v7 : Int) : runC spec_l1Cur_sureTune.C (spec_l1Cur_sureTune.O N) N spec_l1Cur_sureTune.c62612 62612 (mkSt [(0, .one (.ptr 0 0)), (3, .one (.sl true 9 v0)), (4, .one (.int .i64 v1)), (5, .one (.int .i64 v2)), (6, .one (.str v3)), (7, .one (.int .i64 v4))] [(0, some (70, [.sl false 5 v5, .int .i64 v6, .int .u64 v7]))] : St D0) (onN (fun s => spec_l1Cur_sureTune.C.tidy 31306 s ((onN Kn31306 (blockK 2 (onN (fun s => spec_l1Cur_sureTune.C.tidy 7826 s (fun s' => runC spec_l1Cur_sureTune.C (spec_l1Cur_sureTune.O N) N (.seq spec_l1Cur_sureTune.c15654 (.seq spec_l1Cur_sureTune.c31310 H31311)) 7827 s' (blockK 1 (onN (fun s => spec_l1Cur_sureTune.C.tidy 978 s Kb489) (onN (fun s => spec_l1Cur_sureTune.C.tidy 122 s ((onN Kn122 (blockK 0 (onN (fun s => spec_l1Cur_sureTune.C.tidy 30 s (fun s' => runC spec_l1Cur_sureTune.C (spec_l1Cur_sureTune.O N) N spec_l1Cur_sureTune.c31 31 s' spec_l1Cur_sureTune.K0)) spec_l1Cur_sureTune.K0))) .normal)) (onN Kn122 (blockK 0 (onN (fun s => spec_l1Cur_sureTune.C.tidy 30 s (fun s' => runC spec_l1Cur_sureTune.C (spec_l1Cur_sureTune.O N) N spec_l1Cur_sureTune.c31 31 s' spec_l1Cur_sureTune.K0)) spec_l1Cur_sureTune.K0)))))))) (blockK 1 (onN (fun s => spec_l1Cur_sureTune.C.tidy 978 s Kb489) (onN (fun s => spec_l1Cur_sureTune.C.tidy 122 s ((onN Kn122 (blockK 0 (onN (fun s => spec_l1Cur_sureTune.C.tidy 30 s (fun s' => runC spec_l1Cur_sureTune.C (spec_l1Cur_sureTune.O N) N spec_l1Cur_sureTune.c31 31 s' spec_l1Cur_sureTune.K0)) spec_l1Cur_sureTune.K0))) .normal)) (onN Kn122 (blockK 0 (onN (fun s => spec_l1Cur_sureTune.C.tidy 30 s (fun s' => runC spec_l1Cur_sureTune.C (spec_l1Cur_sureTune.O N) N spec_l1Cur_sureTune.c31 31 s' spec_l1Cur_sureTune.K0)) spec_l1Cur_sureTune.K0))))))))) .normal)) (onN Kn31306 (blockK 2 (onN (fun s => spec_l1Cur_sureTune.C.tidy 7826 s (fun s' => runC spec_l1Cur_sureTune.C (spec_l1Cur_sureTune.O N) N (.seq spec_l1Cur_sureTune.c15654 (.seq spec_l1Cur_sureTune.c31310 H31311)) 7827 s' (blockK 1 (onN (fun s => spec_l1Cur_sureTune.C.tidy 978 s Kb489) (onN (fun s => spec_l1Cur_sureTune.C.tidy 122 s ((onN Kn122 (blockK 0 (onN (fun s => spec_l1Cur_sureTune.C.tidy 30 s (fun s' => runC spec_l1Cur_sureTune.C (spec_l1Cur_sureTune.O N) N spec_l1Cur_sureTune.c31 31 s' spec_l1Cur_sureTune.K0)) spec_l1Cur_sureTune.K0))) .normal)) (onN Kn122 (blockK 0 (onN (fun s => spec_l1Cur_sureTune.C.tidy 30 s (fun s' => runC spec_l1Cur_sureTune.C (spec_l1Cur_sureTune.O N) N spec_l1Cur_sureTune.c31 31 s' spec_l1Cur_sureTune.K0)) spec_l1Cur_sureTune.K0)))))))) (blockK 1 (onN (fun s => spec_l1Cur_sureTune.C.tidy 978 s Kb489) (onN (fun s => spec_l1Cur_sureTune.C.tidy 122 s ((onN Kn122 (blockK 0 (onN (fun s => spec_l1Cur_sureTune.C.tidy 30 s (fun s' => runC spec_l1Cur_sureTune.C (spec_l1Cur_sureTune.O N) N spec_l1Cur_sureTune.c31 31 s' spec_l1Cur_sureTune.K0)) spec_l1Cur_sureTune.K0))) .normal)) (onN Kn122 (blockK 0 (onN (fun s => spec_l1Cur_sureTune.C.tidy 30 s (fun s' => runC spec_l1Cur_sureTune.C (spec_l1Cur_sureTune.O N) N spec_l1Cur_sureTune.c31 31 s' spec_l1Cur_sureTune.K0)) spec_l1Cur_sureTune.K0)))))))))) = spec_l1Cur_sureTune.o6 N v0 v1 v2 v3 v4 v5 v6 v7 ((fun w0 w1 w2 w3 w4 w5 w6 w7 => Kn31306 (mkSt [(0, .one (.ptr 0 0)), (3, .one (.sl true 9 w0)), (4, .one (.int .i64 w1)), (5, .one (.int .i64 w2)), (6, .one (.str w3)), (7, .one (.int .i64 w4))] [(0, some (70, [.sl false 5 w5, .int .i64 w6, .int .u64 w7]))] : St D0))) ((fun w0 w1 w2 w3 w4 w5 w6 w7 => runC spec_l1Cur_sureTune.C (spec_l1Cur_sureTune.O N) N H31311 31311 (mkSt [(0, .one (.ptr 0 0)), (3, .one (.sl true 9 w0)), (4, .one (.int .i64 w1)), (5, .one (.int .i64 w2)), (6, .one (.str w3)), (42, .one (.bool w4))] [(0, some (70, [.sl false 5 w5, .int .i64 w6, .int .u64 w7]))] : St D0) (blockK 1 (onN (fun s => spec_l1Cur_sureTune.C.tidy 978 s Kb489) (onN (fun s => spec_l1Cur_sureTune.C.tidy 122 s ((onN Kn122 (blockK 0 (onN (fun s => spec_l1Cur_sureTune.C.tidy 30 s (fun s' => runC spec_l1Cur_sureTune.C (spec_l1Cur_sureTune.O N) N spec_l1Cur_sureTune.c31 31 s' spec_l1Cur_sureTune.K0)) spec_l1Cur_sureTune.K0))) .normal)) (onN Kn122 (blockK 0 (onN (fun s => spec_l1Cur_sureTune.C.tidy 30 s (fun s' => runC spec_l1Cur_sureTune.C (spec_l1Cur_sureTune.O N) N spec_l1Cur_sureTune.c31 31 s' spec_l1Cur_sureTune.K0)) spec_l1Cur_sureTune.K0)))))))) := by kernel_rfl
noncomputable def spec_l1Cur_sureTune.d6 (N : Nat) (v0 : List ByteArray) (v1 : Int) (v2 : Int) (v3 : ByteArray) (v4 : Int) (v5 : List Int) (v6 : Int) (v7 : Int) (c5 : (List ByteArray) → Int → Int → (List Int) → Int → Int → Option spec_l1Cur_sureTune.R) (c6 : (List ByteArray) → Int → Int → ByteArray → Int → (List Int) → Int → Int → Option spec_l1Cur_sureTune.R) : Option spec_l1Cur_sureTune.R := spec_l1Cur_sureTune.o6 N v0 v1 v2 v3 v4 v5 v6 v7 c6 ((fun w0 w1 w2 w3 w4 w5 w6 w7 => spec_l1Cur_sureTune.d3 N w0 w1 w2 w3 w4 w5 w6 w7 c5))
theorem spec_l1Cur_sureTune.d6.run (N : Nat) (Kn122 : St D0 → Option spec_l1Cur_sureTune.R) (Kn31306 : St D0 → Option spec_l1Cur_sureTune.R) (v0 : List ByteArray) (v1 : Int) (v2 : Int) (v3 : ByteArray) (v4 : Int) (v5 : List Int) (v6 : Int) (v7 : Int) : runC spec_l1Cur_sureTune.C (spec_l1Cur_sureTune.O N) N spec_l1Cur_sureTune.c62612 62612 (mkSt [(0, .one (.ptr 0 0)), (3, .one (.sl true 9 v0)), (4, .one (.int .i64 v1)), (5, .one (.int .i64 v2)), (6, .one (.str v3)), (7, .one (.int .i64 v4))] [(0, some (70, [.sl false 5 v5, .int .i64 v6, .int .u64 v7]))] : St D0) (spec_l1Cur_sureTune.K62612 N Kn122 Kn31306) = spec_l1Cur_sureTune.d6 N v0 v1 v2 v3 v4 v5 v6 v7 ((fun w0 w1 w2 w3 w4 w5 => Kn122 (mkSt [(0, .one (.ptr 0 0)), (3, .one (.sl true 9 w0)), (4, .one (.int .i64 w1)), (5, .one (.int .i64 w2))] [(0, some (70, [.sl false 5 w3, .int .i64 w4, .int .u64 w5]))] : St D0))) ((fun w0 w1 w2 w3 w4 w5 w6 w7 => Kn31306 (mkSt [(0, .one (.ptr 0 0)), (3, .one (.sl true 9 w0)), (4, .one (.int .i64 w1)), (5, .one (.int .i64 w2)), (6, .one (.str w3)), (7, .one (.int .i64 w4))] [(0, some (70, [.sl false 5 w5, .int .i64 w6, .int .u64 w7]))] : St D0))) := by
  unfold spec_l1Cur_sureTune.d6; exact (spec_l1Cur_sureTune.o6.run N (spec_l1Cur_sureTune.B489 N Kn122) Kn122 Kn31306 spec_l1Cur_sureTune.c31311 v0 v1 v2 v3 v4 v5 v6 v7).trans (congr (congr rfl rfl) (funext fun w0 => funext fun w1 => funext fun w2 => funext fun w3 => funext fun w4 => funext fun w5 => funext fun w6 => funext fun w7 => spec_l1Cur_sureTune.d3.run N Kn122 w0 w1 w2 w3 w4 w5 w6 w7))
noncomputable def spec_l1Cur_sureTune.K31306 (N : Nat) (Kn122 : St D0 → Option spec_l1Cur_sureTune.R) : Ex → St D0 → Option spec_l1Cur_sureTune.R := (blockK 2 (onN (fun s => spec_l1Cur_sureTune.C.tidy 7826 s (fun s' => runC spec_l1Cur_sureTune.C (spec_l1Cur_sureTune.O N) N spec_l1Cur_sureTune.c7827 7827 s' (blockK 1 (onN (fun s => spec_l1Cur_sureTune.C.tidy 978 s (spec_l1Cur_sureTune.B489 N Kn122)) (onN (fun s => spec_l1Cur_sureTune.C.tidy 122 s ((onN Kn122 (blockK 0 (onN (fun s => spec_l1Cur_sureTune.C.tidy 30 s (fun s' => runC spec_l1Cur_sureTune.C (spec_l1Cur_sureTune.O N) N spec_l1Cur_sureTune.c31 31 s' spec_l1Cur_sureTune.K0)) spec_l1Cur_sureTune.K0))) .normal)) (onN Kn122 (blockK 0 (onN (fun s => spec_l1Cur_sureTune.C.tidy 30 s (fun s' => runC spec_l1Cur_sureTune.C (spec_l1Cur_sureTune.O N) N spec_l1Cur_sureTune.c31 31 s' spec_l1Cur_sureTune.K0)) spec_l1Cur_sureTune.K0)))))))) (blockK 1 (onN (fun s => spec_l1Cur_sureTune.C.tidy 978 s (spec_l1Cur_sureTune.B489 N Kn122)) (onN (fun s => spec_l1Cur_sureTune.C.tidy 122 s ((onN Kn122 (blockK 0 (onN (fun s => spec_l1Cur_sureTune.C.tidy 30 s (fun s' => runC spec_l1Cur_sureTune.C (spec_l1Cur_sureTune.O N) N spec_l1Cur_sureTune.c31 31 s' spec_l1Cur_sureTune.K0)) spec_l1Cur_sureTune.K0))) .normal)) (onN Kn122 (blockK 0 (onN (fun s => spec_l1Cur_sureTune.C.tidy 30 s (fun s' => runC spec_l1Cur_sureTune.C (spec_l1Cur_sureTune.O N) N spec_l1Cur_sureTune.c31 31 s' spec_l1Cur_sureTune.K0)) spec_l1Cur_sureTune.K0))))))))
mutual
noncomputable def spec_l1Cur_sureTune.l2 (N : Nat) : Nat → Int → Int → ByteArray → Int → (List Int) → Int → Int → ((List ByteArray) → Int → Int → (List Int) → Int → Int → Option spec_l1Cur_sureTune.R) → Option spec_l1Cur_sureTune.R
  | 0, _, _, _, _, _, _, _, _ => none
  | n + 1, v0, v1, v2, v3, v4, v5, v6, c5 => spec_l1Cur_sureTune.d2 N v0 v1 v2 v3 v4 v5 v6 ((fun w0 w1 w2 w3 w4 w5 w6 => spec_l1Cur_sureTune.l2 N n w0 w1 w2 w3 w4 w5 w6 c5)) c5
noncomputable def spec_l1Cur_sureTune.l6 (N : Nat) : Nat → (List ByteArray) → Int → Int → ByteArray → Int → (List Int) → Int → Int → ((List ByteArray) → Int → Int → (List Int) → Int → Int → Option spec_l1Cur_sureTune.R) → Option spec_l1Cur_sureTune.R
  | 0, _, _, _, _, _, _, _, _, _ => none
  | n + 1, v0, v1, v2, v3, v4, v5, v6, v7, c5 => spec_l1Cur_sureTune.d6 N v0 v1 v2 v3 v4 v5 v6 v7 c5 ((fun w0 w1 w2 w3 w4 w5 w6 w7 => spec_l1Cur_sureTune.l6 N n w0 w1 w2 w3 w4 w5 w6 w7 c5))
end
theorem spec_l1Cur_sureTune.loop31306 (N : Nat) (Kn122 : St D0 → Option spec_l1Cur_sureTune.R) : ∀ n, (∀ (v0 : Int) (v1 : Int) (v2 : ByteArray) (v3 : Int) (v4 : List Int) (v5 : Int) (v6 : Int), iter (loopF spec_l1Cur_sureTune.C (spec_l1Cur_sureTune.O N) N spec_l1Cur_sureTune.c62612 31306) n (mkSt [(0, .one (.ptr 0 0)), (3, .one (.nl)), (4, .one (.int .i64 v0)), (5, .one (.int .i64 v1)), (6, .one (.str v2)), (7, .one (.int .i64 v3))] [(0, some (70, [.sl false 5 v4, .int .i64 v5, .int .u64 v6]))] : St D0) (spec_l1Cur_sureTune.K31306 N Kn122) = spec_l1Cur_sureTune.l2 N n v0 v1 v2 v3 v4 v5 v6 ((fun w0 w1 w2 w3 w4 w5 => Kn122 (mkSt [(0, .one (.ptr 0 0)), (3, .one (.sl true 9 w0)), (4, .one (.int .i64 w1)), (5, .one (.int .i64 w2))] [(0, some (70, [.sl false 5 w3, .int .i64 w4, .int .u64 w5]))] : St D0)))) ∧ (∀ (v0 : List ByteArray) (v1 : Int) (v2 : Int) (v3 : ByteArray) (v4 : Int) (v5 : List Int) (v6 : Int) (v7 : Int), iter (loopF spec_l1Cur_sureTune.C (spec_l1Cur_sureTune.O N) N spec_l1Cur_sureTune.c62612 31306) n (mkSt [(0, .one (.ptr 0 0)), (3, .one (.sl true 9 v0)), (4, .one (.int .i64 v1)), (5, .one (.int .i64 v2)), (6, .one (.str v3)), (7, .one (.int .i64 v4))] [(0, some (70, [.sl false 5 v5, .int .i64 v6, .int .u64 v7]))] : St D0) (spec_l1Cur_sureTune.K31306 N Kn122) = spec_l1Cur_sureTune.l6 N n v0 v1 v2 v3 v4 v5 v6 v7 ((fun w0 w1 w2 w3 w4 w5 => Kn122 (mkSt [(0, .one (.ptr 0 0)), (3, .one (.sl true 9 w0)), (4, .one (.int .i64 w1)), (5, .one (.int .i64 w2))] [(0, some (70, [.sl false 5 w3, .int .i64 w4, .int .u64 w5]))] : St D0))))
  | 0 => ⟨(fun v0 v1 v2 v3 v4 v5 v6 => rfl), (fun v0 v1 v2 v3 v4 v5 v6 v7 => rfl)⟩
  | n + 1 => ⟨(fun v0 v1 v2 v3 v4 v5 v6 => (spec_l1Cur_sureTune.d2.run N Kn122 (fun s => iter (loopF spec_l1Cur_sureTune.C (spec_l1Cur_sureTune.O N) N spec_l1Cur_sureTune.c62612 31306) n s (spec_l1Cur_sureTune.K31306 N Kn122)) v0 v1 v2 v3 v4 v5 v6).trans (show _ = spec_l1Cur_sureTune.d2 N v0 v1 v2 v3 v4 v5 v6 ((fun w0 w1 w2 w3 w4 w5 w6 => spec_l1Cur_sureTune.l2 N n w0 w1 w2 w3 w4 w5 w6 ((fun w0 w1 w2 w3 w4 w5 => Kn122 (mkSt [(0, .one (.ptr 0 0)), (3, .one (.sl true 9 w0)), (4, .one (.int .i64 w1)), (5, .one (.int .i64 w2))] [(0, some (70, [.sl false 5 w3, .int .i64 w4, .int .u64 w5]))] : St D0))))) ((fun w0 w1 w2 w3 w4 w5 => Kn122 (mkSt [(0, .one (.ptr 0 0)), (3, .one (.sl true 9 w0)), (4, .one (.int .i64 w1)), (5, .one (.int .i64 w2))] [(0, some (70, [.sl false 5 w3, .int .i64 w4, .int .u64 w5]))] : St D0))) from (congr (congr rfl (funext fun w0 => funext fun w1 => funext fun w2 => funext fun w3 => funext fun w4 => funext fun w5 => funext fun w6 => (spec_l1Cur_sureTune.loop31306 N Kn122 n).1 w0 w1 w2 w3 w4 w5 w6)) rfl))), (fun v0 v1 v2 v3 v4 v5 v6 v7 => (spec_l1Cur_sureTune.d6.run N Kn122 (fun s => iter (loopF spec_l1Cur_sureTune.C (spec_l1Cur_sureTune.O N) N spec_l1Cur_sureTune.c62612 31306) n s (spec_l1Cur_sureTune.K31306 N Kn122)) v0 v1 v2 v3 v4 v5 v6 v7).trans (show _ = spec_l1Cur_sureTune.d6 N v0 v1 v2 v3 v4 v5 v6 v7 ((fun w0 w1 w2 w3 w4 w5 => Kn122 (mkSt [(0, .one (.ptr 0 0)), (3, .one (.sl true 9 w0)), (4, .one (.int .i64 w1)), (5, .one (.int .i64 w2))] [(0, some (70, [.sl false 5 w3, .int .i64 w4, .int .u64 w5]))] : St D0))) ((fun w0 w1 w2 w3 w4 w5 w6 w7 => spec_l1Cur_sureTune.l6 N n w0 w1 w2 w3 w4 w5 w6 w7 ((fun w0 w1 w2 w3 w4 w5 => Kn122 (mkSt [(0, .one (.ptr 0 0)), (3, .one (.sl true 9 w0)), (4, .one (.int .i64 w1)), (5, .one (.int .i64 w2))] [(0, some (70, [.sl false 5 w3, .int .i64 w4, .int .u64 w5]))] : St D0))))) from (congr (congr rfl rfl) (funext fun w0 => funext fun w1 => funext fun w2 => funext fun w3 => funext fun w4 => funext fun w5 => funext fun w6 => funext fun w7 => (spec_l1Cur_sureTune.loop31306 N Kn122 n).2 w0 w1 w2 w3 w4 w5 w6 w7))))⟩
noncomputable def spec_l1Cur_sureTune.K244 (N : Nat) (Kn122 : St D0 → Option spec_l1Cur_sureTune.R) : Ex → St D0 → Option spec_l1Cur_sureTune.R := (onN (fun s => spec_l1Cur_sureTune.C.tidy 122 s ((onN Kn122 (blockK 0 (onN (fun s => spec_l1Cur_sureTune.C.tidy 30 s (fun s' => runC spec_l1Cur_sureTune.C (spec_l1Cur_sureTune.O N) N spec_l1Cur_sureTune.c31 31 s' spec_l1Cur_sureTune.K0)) spec_l1Cur_sureTune.K0))) .normal)) (onN Kn122 (blockK 0 (onN (fun s => spec_l1Cur_sureTune.C.tidy 30 s (fun s' => runC spec_l1Cur_sureTune.C (spec_l1Cur_sureTune.O N) N spec_l1Cur_sureTune.c31 31 s' spec_l1Cur_sureTune.K0)) spec_l1Cur_sureTune.K0))))
noncomputable def spec_l1Cur_sureTune.o1 (N : Nat) (v0 : Int) (v1 : Int) (v2 : List Int) (v3 : Int) (v4 : Int) (c2 : Int → Int → ByteArray → Int → (List Int) → Int → Int → Option spec_l1Cur_sureTune.R) : Option spec_l1Cur_sureTune.R :=
 bif (decide (v1 > 0)) then
  (spec_l1Cur_pick.g N 4 v2 v3 v4).bind fun r1 =>
  c2 v0 v1 (⟨#[]⟩ : ByteArray) (w64 (1 + r1.1)) r1.2.1 r1.2.2.1 r1.2.2.2
 else
 some (([] : List ByteArray), v2, v3, v4)
theorem spec_l1Cur_sureTune.o1.run (N : Nat) (Kn122 : St D0 → Option spec_l1Cur_sureTune.R) (H62612 : Code) (v0 : Int) (v1 : Int) (v2 : List Int) (v3 : Int) (v4 : Int) : runC spec_l1Cur_sureTune.C (spec_l1Cur_sureTune.O N) N (.seq spec_l1Cur_sureTune.c488 (.seq (.block 1 (.seq spec_l1Cur_sureTune.c3912 (.seq (.seq spec_l1Cur_sureTune.c15652 (.block 2 (.loop H62612))) spec_l1Cur_sureTune.c7827))) spec_l1Cur_sureTune.c979)) 244 (mkSt [(0, .one (.ptr 0 0)), (3, .one (.nl)), (4, .one (.int .i64 v0)), (5, .one (.int .i64 v1))] [(0, some (70, [.sl false 5 v2, .int .i64 v3, .int .u64 v4]))] : St D0) (onN (fun s => spec_l1Cur_sureTune.C.tidy 122 s ((onN Kn122 (blockK 0 (onN (fun s => spec_l1Cur_sureTune.C.tidy 30 s (fun s' => runC spec_l1Cur_sureTune.C (spec_l1Cur_sureTune.O N) N spec_l1Cur_sureTune.c31 31 s' spec_l1Cur_sureTune.K0)) spec_l1Cur_sureTune.K0))) .normal)) (onN Kn122 (blockK 0 (onN (fun s => spec_l1Cur_sureTune.C.tidy 30 s (fun s' => runC spec_l1Cur_sureTune.C (spec_l1Cur_sureTune.O N) N spec_l1Cur_sureTune.c31 31 s' spec_l1Cur_sureTune.K0)) spec_l1Cur_sureTune.K0)))) = spec_l1Cur_sureTune.o1 N v0 v1 v2 v3 v4 ((fun w0 w1 w2 w3 w4 w5 w6 => iter (loopF spec_l1Cur_sureTune.C (spec_l1Cur_sureTune.O N) N H62612 31306) N (mkSt [(0, .one (.ptr 0 0)), (3, .one (.nl)), (4, .one (.int .i64 w0)), (5, .one (.int .i64 w1)), (6, .one (.str w2)), (7, .one (.int .i64 w3))] [(0, some (70, [.sl false 5 w4, .int .i64 w5, .int .u64 w6]))] : St D0) (blockK 2 (onN (fun s => spec_l1Cur_sureTune.C.tidy 7826 s (fun s' => runC spec_l1Cur_sureTune.C (spec_l1Cur_sureTune.O N) N spec_l1Cur_sureTune.c7827 7827 s' (blockK 1 (onN (fun s => spec_l1Cur_sureTune.C.tidy 978 s (fun s' => runC spec_l1Cur_sureTune.C (spec_l1Cur_sureTune.O N) N spec_l1Cur_sureTune.c979 979 s' (onN (fun s => spec_l1Cur_sureTune.C.tidy 122 s ((onN Kn122 (blockK 0 (onN (fun s => spec_l1Cur_sureTune.C.tidy 30 s (fun s' => runC spec_l1Cur_sureTune.C (spec_l1Cur_sureTune.O N) N spec_l1Cur_sureTune.c31 31 s' spec_l1Cur_sureTune.K0)) spec_l1Cur_sureTune.K0))) .normal)) (onN Kn122 (blockK 0 (onN (fun s => spec_l1Cur_sureTune.C.tidy 30 s (fun s' => runC spec_l1Cur_sureTune.C (spec_l1Cur_sureTune.O N) N spec_l1Cur_sureTune.c31 31 s' spec_l1Cur_sureTune.K0)) spec_l1Cur_sureTune.K0)))))) (onN (fun s => spec_l1Cur_sureTune.C.tidy 122 s ((onN Kn122 (blockK 0 (onN (fun s => spec_l1Cur_sureTune.C.tidy 30 s (fun s' => runC spec_l1Cur_sureTune.C (spec_l1Cur_sureTune.O N) N spec_l1Cur_sureTune.c31 31 s' spec_l1Cur_sureTune.K0)) spec_l1Cur_sureTune.K0))) .normal)) (onN Kn122 (blockK 0 (onN (fun s => spec_l1Cur_sureTune.C.tidy 30 s (fun s' => runC spec_l1Cur_sureTune.C (spec_l1Cur_sureTune.O N) N spec_l1Cur_sureTune.c31 31 s' spec_l1Cur_sureTune.K0)) spec_l1Cur_sureTune.K0)))))))) (blockK 1 (onN (fun s => spec_l1Cur_sureTune.C.tidy 978 s (fun s' => runC spec_l1Cur_sureTune.C (spec_l1Cur_sureTune.O N) N spec_l1Cur_sureTune.c979 979 s' (onN (fun s => spec_l1Cur_sureTune.C.tidy 122 s ((onN Kn122 (blockK 0 (onN (fun s => spec_l1Cur_sureTune.C.tidy 30 s (fun s' => runC spec_l1Cur_sureTune.C (spec_l1Cur_sureTune.O N) N spec_l1Cur_sureTune.c31 31 s' spec_l1Cur_sureTune.K0)) spec_l1Cur_sureTune.K0))) .normal)) (onN Kn122 (blockK 0 (onN (fun s => spec_l1Cur_sureTune.C.tidy 30 s (fun s' => runC spec_l1Cur_sureTune.C (spec_l1Cur_sureTune.O N) N spec_l1Cur_sureTune.c31 31 s' spec_l1Cur_sureTune.K0)) spec_l1Cur_sureTune.K0)))))) (onN (fun s => spec_l1Cur_sureTune.C.tidy 122 s ((onN Kn122 (blockK 0 (onN (fun s => spec_l1Cur_sureTune.C.tidy 30 s (fun s' => runC spec_l1Cur_sureTune.C (spec_l1Cur_sureTune.O N) N spec_l1Cur_sureTune.c31 31 s' spec_l1Cur_sureTune.K0)) spec_l1Cur_sureTune.K0))) .normal)) (onN Kn122 (blockK 0 (onN (fun s => spec_l1Cur_sureTune.C.tidy 30 s (fun s' => runC spec_l1Cur_sureTune.C (spec_l1Cur_sureTune.O N) N spec_l1Cur_sureTune.c31 31 s' spec_l1Cur_sureTune.K0)) spec_l1Cur_sureTune.K0)))))))))) := by kernel_rfl
noncomputable def spec_l1Cur_sureTune.d1 (N : Nat) (v0 : Int) (v1 : Int) (v2 : List Int) (v3 : Int) (v4 : Int) (c5 : (List ByteArray) → Int → Int → (List Int) → Int → Int → Option spec_l1Cur_sureTune.R) : Option spec_l1Cur_sureTune.R := spec_l1Cur_sureTune.o1 N v0 v1 v2 v3 v4 ((fun w0 w1 w2 w3 w4 w5 w6 => spec_l1Cur_sureTune.l2 N N w0 w1 w2 w3 w4 w5 w6 c5))
theorem spec_l1Cur_sureTune.c244_1 : spec_l1Cur_sureTune.c244 = (.seq spec_l1Cur_sureTune.c488 (.seq (.block 1 (.seq spec_l1Cur_sureTune.c3912 (.seq (.seq spec_l1Cur_sureTune.c15652 (.block 2 (.loop spec_l1Cur_sureTune.c62612))) spec_l1Cur_sureTune.c7827))) spec_l1Cur_sureTune.c979)) := by kernel_rfl
theorem spec_l1Cur_sureTune.d1.run (N : Nat) (Kn122 : St D0 → Option spec_l1Cur_sureTune.R) (v0 : Int) (v1 : Int) (v2 : List Int) (v3 : Int) (v4 : Int) : runC spec_l1Cur_sureTune.C (spec_l1Cur_sureTune.O N) N spec_l1Cur_sureTune.c244 244 (mkSt [(0, .one (.ptr 0 0)), (3, .one (.nl)), (4, .one (.int .i64 v0)), (5, .one (.int .i64 v1))] [(0, some (70, [.sl false 5 v2, .int .i64 v3, .int .u64 v4]))] : St D0) (spec_l1Cur_sureTune.K244 N Kn122) = spec_l1Cur_sureTune.d1 N v0 v1 v2 v3 v4 ((fun w0 w1 w2 w3 w4 w5 => Kn122 (mkSt [(0, .one (.ptr 0 0)), (3, .one (.sl true 9 w0)), (4, .one (.int .i64 w1)), (5, .one (.int .i64 w2))] [(0, some (70, [.sl false 5 w3, .int .i64 w4, .int .u64 w5]))] : St D0))) := by
  rw [spec_l1Cur_sureTune.c244_1]; unfold spec_l1Cur_sureTune.d1; exact (spec_l1Cur_sureTune.o1.run N Kn122 spec_l1Cur_sureTune.c62612 v0 v1 v2 v3 v4).trans (congr rfl (funext fun w0 => funext fun w1 => funext fun w2 => funext fun w3 => funext fun w4 => funext fun w5 => funext fun w6 => (spec_l1Cur_sureTune.loop31306 N Kn122 N).1 w0 w1 w2 w3 w4 w5 w6))
noncomputable def spec_l1Cur_sureTune.o5 (N : Nat) (v0 : List ByteArray) (v1 : Int) (v2 : Int) (v3 : List Int) (v4 : Int) (v5 : Int) (c6 : (List ByteArray) → Int → Int → ByteArray → Int → (List Int) → Int → Int → Option spec_l1Cur_sureTune.R) : Option spec_l1Cur_sureTune.R :=
 bif (decide (v2 > 0)) then
  (spec_l1Cur_pick.g N 4 v3 v4 v5).bind fun r1 =>
  c6 v0 v1 v2 (⟨#[]⟩ : ByteArray) (w64 (1 + r1.1)) r1.2.1 r1.2.2.1 r1.2.2.2
 else
 some (v0, v3, v4, v5)
theorem spec_l1Cur_sureTune.o5.run (N : Nat) (Kn122 : St D0 → Option spec_l1Cur_sureTune.R) (H62612 : Code) (v0 : List ByteArray) (v1 : Int) (v2 : Int) (v3 : List Int) (v4 : Int) (v5 : Int) : runC spec_l1Cur_sureTune.C (spec_l1Cur_sureTune.O N) N (.seq spec_l1Cur_sureTune.c488 (.seq (.block 1 (.seq spec_l1Cur_sureTune.c3912 (.seq (.seq spec_l1Cur_sureTune.c15652 (.block 2 (.loop H62612))) spec_l1Cur_sureTune.c7827))) spec_l1Cur_sureTune.c979)) 244 (mkSt [(0, .one (.ptr 0 0)), (3, .one (.sl true 9 v0)), (4, .one (.int .i64 v1)), (5, .one (.int .i64 v2))] [(0, some (70, [.sl false 5 v3, .int .i64 v4, .int .u64 v5]))] : St D0) (onN (fun s => spec_l1Cur_sureTune.C.tidy 122 s ((onN Kn122 (blockK 0 (onN (fun s => spec_l1Cur_sureTune.C.tidy 30 s (fun s' => runC spec_l1Cur_sureTune.C (spec_l1Cur_sureTune.O N) N spec_l1Cur_sureTune.c31 31 s' spec_l1Cur_sureTune.K0)) spec_l1Cur_sureTune.K0))) .normal)) (onN Kn122 (blockK 0 (onN (fun s => spec_l1Cur_sureTune.C.tidy 30 s (fun s' => runC spec_l1Cur_sureTune.C (spec_l1Cur_sureTune.O N) N spec_l1Cur_sureTune.c31 31 s' spec_l1Cur_sureTune.K0)) spec_l1Cur_sureTune.K0)))) = spec_l1Cur_sureTune.o5 N v0 v1 v2 v3 v4 v5 ((fun w0 w1 w2 w3 w4 w5 w6 w7 => iter (loopF spec_l1Cur_sureTune.C (spec_l1Cur_sureTune.O N) N H62612 31306) N (mkSt [(0, .one (.ptr 0 0)), (3, .one (.sl true 9 w0)), (4, .one (.int .i64 w1)), (5, .one (.int .i64 w2)), (6, .one (.str w3)), (7, .one (.int .i64 w4))] [(0, some (70, [.sl false 5 w5, .int .i64 w6, .int .u64 w7]))] : St D0) (blockK 2 (onN (fun s => spec_l1Cur_sureTune.C.tidy 7826 s (fun s' => runC spec_l1Cur_sureTune.C (spec_l1Cur_sureTune.O N) N spec_l1Cur_sureTune.c7827 7827 s' (blockK 1 (onN (fun s => spec_l1Cur_sureTune.C.tidy 978 s (fun s' => runC spec_l1Cur_sureTune.C (spec_l1Cur_sureTune.O N) N spec_l1Cur_sureTune.c979 979 s' (onN (fun s => spec_l1Cur_sureTune.C.tidy 122 s ((onN Kn122 (blockK 0 (onN (fun s => spec_l1Cur_sureTune.C.tidy 30 s (fun s' => runC spec_l1Cur_sureTune.C (spec_l1Cur_sureTune.O N) N spec_l1Cur_sureTune.c31 31 s' spec_l1Cur_sureTune.K0)) spec_l1Cur_sureTune.K0))) .normal)) (onN Kn122 (blockK 0 (onN (fun s => spec_l1Cur_sureTune.C.tidy 30 s (fun s' => runC spec_l1Cur_sureTune.C (spec_l1Cur_sureTune.O N) N spec_l1Cur_sureTune.c31 31 s' spec_l1Cur_sureTune.K0)) spec_l1Cur_sureTune.K0)))))) (onN (fun s => spec_l1Cur_sureTune.C.tidy 122 s ((onN Kn122 (blockK 0 (onN (fun s => spec_l1Cur_sureTune.C.tidy 30 s (fun s' => runC spec_l1Cur_sureTune.C (spec_l1Cur_sureTune.O N) N spec_l1Cur_sureTune.c31 31 s' spec_l1Cur_sureTune.K0)) spec_l1Cur_sureTune.K0))) .normal)) (onN Kn122 (blockK 0 (onN (fun s => spec_l1Cur_sureTune.C.tidy 30 s (fun s' => runC spec_l1Cur_sureTune.C (spec_l1Cur_sureTune.O N) N spec_l1Cur_sureTune.c31 31 s' spec_l1Cur_sureTune.K0)) spec_l1Cur_sureTune.K0)))))))) (blockK 1 (onN (fun s => spec_l1Cur_sureTune.C.tidy 978 s (fun s' => runC spec_l1Cur_sureTune.C (spec_l1Cur_sureTune.O N) N spec_l1Cur_sureTune.c979 979 s' (onN (fun s => spec_l1Cur_sureTune.C.tidy 122 s ((onN Kn122 (blockK 0 (onN (fun s => spec_l1Cur_sureTune.C.tidy 30 s (fun s' => runC spec_l1Cur_sureTune.C (spec_l1Cur_sureTune.O N) N spec_l1Cur_sureTune.c31 31 s' spec_l1Cur_sureTune.K0)) spec_l1Cur_sureTune.K0))) .normal)) (onN Kn122 (blockK 0 (onN (fun s => spec_l1Cur_sureTune.C.tidy 30 s (fun s' => runC spec_l1Cur_sureTune.C (spec_l1Cur_sureTune.O N) N spec_l1Cur_sureTune.c31 31 s' spec_l1Cur_sureTune.K0)) spec_l1Cur_sureTune.K0)))))) (onN (fun s => spec_l1Cur_sureTune.C.tidy 122 s ((onN Kn122 (blockK 0 (onN (fun s => spec_l1Cur_sureTune.C.tidy 30 s (fun s' => runC spec_l1Cur_sureTune.C (spec_l1Cur_sureTune.O N) N spec_l1Cur_sureTune.c31 31 s' spec_l1Cur_sureTune.K0)) spec_l1Cur_sureTune.K0))) .normal)) (onN Kn122 (blockK 0 (onN (fun s => spec_l1Cur_sureTune.C.tidy 30 s (fun s' => runC spec_l1Cur_sureTune.C (spec_l1Cur_sureTune.O N) N spec_l1Cur_sureTune.c31 31 s' spec_l1Cur_sureTune.K0)) spec_l1Cur_sureTune.K0)))))))))) := by kernel_rfl
noncomputable def spec_l1Cur_sureTune.d5 (N : Nat) (v0 : List ByteArray) (v1 : Int) (v2 : Int) (v3 : List Int) (v4 : Int) (v5 : Int) (c5 : (List ByteArray) → Int → Int → (List Int) → Int → Int → Option spec_l1Cur_sureTune.R) : Option spec_l1Cur_sureTune.R := spec_l1Cur_sureTune.o5 N v0 v1 v2 v3 v4 v5 ((fun w0 w1 w2 w3 w4 w5 w6 w7 => spec_l1Cur_sureTune.l6 N N w0 w1 w2 w3 w4 w5 w6 w7 c5))
theorem spec_l1Cur_sureTune.c244_5 : spec_l1Cur_sureTune.c244 = (.seq spec_l1Cur_sureTune.c488 (.seq (.block 1 (.seq spec_l1Cur_sureTune.c3912 (.seq (.seq spec_l1Cur_sureTune.c15652 (.block 2 (.loop spec_l1Cur_sureTune.c62612))) spec_l1Cur_sureTune.c7827))) spec_l1Cur_sureTune.c979)) := by kernel_rfl
theorem spec_l1Cur_sureTune.d5.run (N : Nat) (Kn122 : St D0 → Option spec_l1Cur_sureTune.R) (v0 : List ByteArray) (v1 : Int) (v2 : Int) (v3 : List Int) (v4 : Int) (v5 : Int) : runC spec_l1Cur_sureTune.C (spec_l1Cur_sureTune.O N) N spec_l1Cur_sureTune.c244 244 (mkSt [(0, .one (.ptr 0 0)), (3, .one (.sl true 9 v0)), (4, .one (.int .i64 v1)), (5, .one (.int .i64 v2))] [(0, some (70, [.sl false 5 v3, .int .i64 v4, .int .u64 v5]))] : St D0) (spec_l1Cur_sureTune.K244 N Kn122) = spec_l1Cur_sureTune.d5 N v0 v1 v2 v3 v4 v5 ((fun w0 w1 w2 w3 w4 w5 => Kn122 (mkSt [(0, .one (.ptr 0 0)), (3, .one (.sl true 9 w0)), (4, .one (.int .i64 w1)), (5, .one (.int .i64 w2))] [(0, some (70, [.sl false 5 w3, .int .i64 w4, .int .u64 w5]))] : St D0))) := by
  rw [spec_l1Cur_sureTune.c244_5]; unfold spec_l1Cur_sureTune.d5; exact (spec_l1Cur_sureTune.o5.run N Kn122 spec_l1Cur_sureTune.c62612 v0 v1 v2 v3 v4 v5).trans (congr rfl (funext fun w0 => funext fun w1 => funext fun w2 => funext fun w3 => funext fun w4 => funext fun w5 => funext fun w6 => funext fun w7 => (spec_l1Cur_sureTune.loop31306 N Kn122 N).2 w0 w1 w2 w3 w4 w5 w6 w7))
noncomputable def spec_l1Cur_sureTune.K122 (N : Nat) : Ex → St D0 → Option spec_l1Cur_sureTune.R := (blockK 0 (onN (fun s => spec_l1Cur_sureTune.C.tidy 30 s (fun s' => runC spec_l1Cur_sureTune.C (spec_l1Cur_sureTune.O N) N spec_l1Cur_sureTune.c31 31 s' spec_l1Cur_sureTune.K0)) spec_l1Cur_sureTune.K0))
mutual
noncomputable def spec_l1Cur_sureTune.l1 (N : Nat) : Nat → Int → Int → (List Int) → Int → Int → Option spec_l1Cur_sureTune.R
  | 0, _, _, _, _, _ => none
  | n + 1, v0, v1, v2, v3, v4 => spec_l1Cur_sureTune.d1 N v0 v1 v2 v3 v4 ((fun w0 w1 w2 w3 w4 w5 => spec_l1Cur_sureTune.l5 N n w0 w1 w2 w3 w4 w5))
noncomputable def spec_l1Cur_sureTune.l5 (N : Nat) : Nat → (List ByteArray) → Int → Int → (List Int) → Int → Int → Option spec_l1Cur_sureTune.R
  | 0, _, _, _, _, _, _ => none
  | n + 1, v0, v1, v2, v3, v4, v5 => spec_l1Cur_sureTune.d5 N v0 v1 v2 v3 v4 v5 ((fun w0 w1 w2 w3 w4 w5 => spec_l1Cur_sureTune.l5 N n w0 w1 w2 w3 w4 w5))
end
theorem spec_l1Cur_sureTune.loop122 (N : Nat) : ∀ n, (∀ (v0 : Int) (v1 : Int) (v2 : List Int) (v3 : Int) (v4 : Int), iter (loopF spec_l1Cur_sureTune.C (spec_l1Cur_sureTune.O N) N spec_l1Cur_sureTune.c244 122) n (mkSt [(0, .one (.ptr 0 0)), (3, .one (.nl)), (4, .one (.int .i64 v0)), (5, .one (.int .i64 v1))] [(0, some (70, [.sl false 5 v2, .int .i64 v3, .int .u64 v4]))] : St D0) (spec_l1Cur_sureTune.K122 N) = spec_l1Cur_sureTune.l1 N n v0 v1 v2 v3 v4) ∧ (∀ (v0 : List ByteArray) (v1 : Int) (v2 : Int) (v3 : List Int) (v4 : Int) (v5 : Int), iter (loopF spec_l1Cur_sureTune.C (spec_l1Cur_sureTune.O N) N spec_l1Cur_sureTune.c244 122) n (mkSt [(0, .one (.ptr 0 0)), (3, .one (.sl true 9 v0)), (4, .one (.int .i64 v1)), (5, .one (.int .i64 v2))] [(0, some (70, [.sl false 5 v3, .int .i64 v4, .int .u64 v5]))] : St D0) (spec_l1Cur_sureTune.K122 N) = spec_l1Cur_sureTune.l5 N n v0 v1 v2 v3 v4 v5)
  | 0 => ⟨(fun v0 v1 v2 v3 v4 => rfl), (fun v0 v1 v2 v3 v4 v5 => rfl)⟩
  | n + 1 => ⟨(fun v0 v1 v2 v3 v4 => (spec_l1Cur_sureTune.d1.run N (fun s => iter (loopF spec_l1Cur_sureTune.C (spec_l1Cur_sureTune.O N) N spec_l1Cur_sureTune.c244 122) n s (spec_l1Cur_sureTune.K122 N)) v0 v1 v2 v3 v4).trans (show _ = spec_l1Cur_sureTune.d1 N v0 v1 v2 v3 v4 ((fun w0 w1 w2 w3 w4 w5 => spec_l1Cur_sureTune.l5 N n w0 w1 w2 w3 w4 w5)) from (congr rfl (funext fun w0 => funext fun w1 => funext fun w2 => funext fun w3 => funext fun w4 => funext fun w5 => (spec_l1Cur_sureTune.loop122 N n).2 w0 w1 w2 w3 w4 w5)))), (fun v0 v1 v2 v3 v4 v5 => (spec_l1Cur_sureTune.d5.run N (fun s => iter (loopF spec_l1Cur_sureTune.C (spec_l1Cur_sureTune.O N) N spec_l1Cur_sureTune.c244 122) n s (spec_l1Cur_sureTune.K122 N)) v0 v1 v2 v3 v4 v5).trans (show _ = spec_l1Cur_sureTune.d5 N v0 v1 v2 v3 v4 v5 ((fun w0 w1 w2 w3 w4 w5 => spec_l1Cur_sureTune.l5 N n w0 w1 w2 w3 w4 w5)) from (congr rfl (funext fun w0 => funext fun w1 => funext fun w2 => funext fun w3 => funext fun w4 => funext fun w5 => (spec_l1Cur_sureTune.loop122 N n).2 w0 w1 w2 w3 w4 w5))))⟩
noncomputable def spec_l1Cur_sureTune.o0 (N : Nat) (b0_0 : List Int) (b0_1 : Int) (b0_2 : Int) (c1 : Int → Int → (List Int) → Int → Int → Option spec_l1Cur_sureTune.R) : Option spec_l1Cur_sureTune.R :=
 (spec_l1Cur_pick.g N 4 b0_0 b0_1 b0_2).bind fun r1 =>
 (spec_l1Cur_pick.g N 6 r1.2.1 r1.2.2.1 r1.2.2.2).bind fun r2 =>
 c1 (w64 (1 + r1.1)) (w64 (1 + r2.1)) r2.2.1 r2.2.2.1 r2.2.2.2
theorem spec_l1Cur_sureTune.o0.run (N : Nat) (H244 : Code) (b0_0 : List Int) (b0_1 : Int) (b0_2 : Int) : runC spec_l1Cur_sureTune.C (spec_l1Cur_sureTune.O N) N (.seq spec_l1Cur_sureTune.c2 (.seq spec_l1Cur_sureTune.c6 (.seq spec_l1Cur_sureTune.c14 (.seq (.seq spec_l1Cur_sureTune.c60 (.block 0 (.loop H244))) spec_l1Cur_sureTune.c31)))) 1 (st0 [.one (.ptr 0 0)] [(70, [.sl false 5 b0_0, .int .i64 b0_1, .int .u64 b0_2])] : St D0) spec_l1Cur_sureTune.K0 = spec_l1Cur_sureTune.o0 N b0_0 b0_1 b0_2 ((fun w0 w1 w2 w3 w4 => iter (loopF spec_l1Cur_sureTune.C (spec_l1Cur_sureTune.O N) N H244 122) N (mkSt [(0, .one (.ptr 0 0)), (3, .one (.nl)), (4, .one (.int .i64 w0)), (5, .one (.int .i64 w1))] [(0, some (70, [.sl false 5 w2, .int .i64 w3, .int .u64 w4]))] : St D0) (blockK 0 (onN (fun s => spec_l1Cur_sureTune.C.tidy 30 s (fun s' => runC spec_l1Cur_sureTune.C (spec_l1Cur_sureTune.O N) N spec_l1Cur_sureTune.c31 31 s' spec_l1Cur_sureTune.K0)) spec_l1Cur_sureTune.K0)))) := by kernel_rfl
noncomputable def spec_l1Cur_sureTune.g (N : Nat) (b0_0 : List Int) (b0_1 : Int) (b0_2 : Int) : Option spec_l1Cur_sureTune.R := spec_l1Cur_sureTune.o0 N b0_0 b0_1 b0_2 ((fun w0 w1 w2 w3 w4 => spec_l1Cur_sureTune.l1 N N w0 w1 w2 w3 w4))
theorem spec_l1Cur_sureTune.c1_0 : spec_l1Cur_sureTune.c1 = (.seq spec_l1Cur_sureTune.c2 (.seq spec_l1Cur_sureTune.c6 (.seq spec_l1Cur_sureTune.c14 (.seq (.seq spec_l1Cur_sureTune.c60 (.block 0 (.loop spec_l1Cur_sureTune.c244))) spec_l1Cur_sureTune.c31)))) := by kernel_rfl
theorem spec_l1Cur_sureTune.g.run (N : Nat) (b0_0 : List Int) (b0_1 : Int) (b0_2 : Int) : runC spec_l1Cur_sureTune.C (spec_l1Cur_sureTune.O N) N spec_l1Cur_sureTune.c1 1 (st0 [.one (.ptr 0 0)] [(70, [.sl false 5 b0_0, .int .i64 b0_1, .int .u64 b0_2])] : St D0) spec_l1Cur_sureTune.K0 = spec_l1Cur_sureTune.g N b0_0 b0_1 b0_2 := by
  rw [spec_l1Cur_sureTune.c1_0]; unfold spec_l1Cur_sureTune.g; exact (spec_l1Cur_sureTune.o0.run N spec_l1Cur_sureTune.c244 b0_0 b0_1 b0_2).trans (congr rfl (funext fun w0 => funext fun w1 => funext fun w2 => funext fun w3 => funext fun w4 => (spec_l1Cur_sureTune.loop122 N N).1 w0 w1 w2 w3 w4))
theorem spec_l1Cur_sureTune.good (N : Nat) (b0_0 : List Int) (b0_1 : Int) (b0_2 : Int) (r : spec_l1Cur_sureTune.R) (h : spec_l1Cur_sureTune.g N b0_0 b0_1 b0_2 = some r) : Go.PM.Good Go.Proofs.Try.prog T0 76 [.one (.ptr 0 0)] [(70, [.sl false 5 b0_0, .int .i64 b0_1, .int .u64 b0_2])] (spec_l1Cur_sureTune.sig.ret r) (spec_l1Cur_sureTune.sig.bs r) :=
  good_fn tabOk0 mixed0 spec_l1Cur_sureTune.sig (spec_l1Cur_sureTune.E N) Go.Proofs.Try.func76 (by kernel_rfl) (by kernel_rfl) 4398050738429 0 1 [(122, [0, 3, 4, 5], [0]), (978, [0, 3, 4, 5], [0]), (31306, [0, 3, 4, 5, 6, 7], [0]), (31310, [0, 3, 4, 5, 6, 42], [0])] 618721003776 false [] [(false, [.own 9])] (by kernel_rfl) rfl rfl ((spec_l1Cur_sureTune.g.run N b0_0 b0_1 b0_2).trans h)
noncomputable def spec_l1Cur_sureTune.ent (N : Nat) : Ent Go.Proofs.Try.prog T0 := mkEnt 76 [(false, [.any])] spec_l1Cur_sureTune.sig (fun t => spec_l1Cur_sureTune.g N t.2.1 t.2.2.1 t.2.2.2) (fun t r h => spec_l1Cur_sureTune.good N t.2.1 t.2.2.1 t.2.2.2 r h)
end Go.Proofs.Ytpmipkbfohcjiaa.M
