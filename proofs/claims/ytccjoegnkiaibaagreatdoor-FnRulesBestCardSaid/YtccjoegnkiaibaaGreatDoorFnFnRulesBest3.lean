/- What the program's functions compute, walked by the machine (part 3). No conditions but those stated. -/
import Derived.Test.YtccjoegnkiaibaaGreatDoorFnFnRulesBest2
noncomputable section
namespace Go.Proofs.YtccjoegnkiaibaaGreatDoor.M
open Go Go.PM Go.Proofs.YtccjoegnkiaibaaGreatDoor.P
set_option linter.unusedVariables false
set_option maxRecDepth 100000
/-! ### zq29 -/
abbrev zq29.R : Type := Int × Bool
abbrev zq29.sig : Sig := ⟨[(true, 3), (false, 1), (false, 1)], [], [.int .i64, .int .i64, .int .i64, .int .i64, .int .i64], [(false, 1), (false, 1)], [], [.int .i64, .bool]⟩
def zq29.C : Cfg D0 := ⟨Tryz.prog, T0, 2147746767, 0, 38, 0, [(12, [1, 2, 3, 18], [3])], 82885787648, false, []⟩
def zq29.E (N : Nat) : List (Ent Tryz.prog T0) := [zq6.ent N, zq37.ent N, zq10.ent N]
def zq29.O (N : Nat) : Orc D0 zq29.R := orcOf (zq29.E N)
def zq29.K0 : Ex → St D0 → Option zq29.R := exitK zq29.C Tryz.f35.results.toList [(false, [.any]), (false, [.any])] (decOut zq29.sig)
def zq29.c1 : Code := codeAt (Tryz.f35.body.getD .skip) []
def zq29.c2 : Code := codeAt (Tryz.f35.body.getD .skip) [false]
def zq29.c7 : Code := codeAt (Tryz.f35.body.getD .skip) [true, true]
def zq29.c12 : Code := codeAt (Tryz.f35.body.getD .skip) [true, false, false]
def zq29.c13 : Code := codeAt (Tryz.f35.body.getD .skip) [true, false, true]
def zq29.K13 (N : Nat) : Ex → St D0 → Option zq29.R := (onN (fun s => zq29.C.tidy 6 s (fun s' => runC zq29.C (zq29.O N) N zq29.c7 7 s' zq29.K0)) zq29.K0)
def zq29.o1 (N : Nat) (v0 : Int) (v1 : Int) (v2 : Bool) (v3 : Int) (v4 : Int) (v5 : Int) : Option zq29.R :=
 bif v2 then
  some (0, false)
 else
 (zq10.g N v3 v4 v5 v0 v1).bind fun r1 =>
 bif ((if (w64 (0 - r1.1)) > r1.1 then (w64 (0 - r1.1)) else r1.1) == 0) then
  some (0, false)
 else
 bif ((if (w64 (0 - r1.1)) > r1.1 then (w64 (0 - r1.1)) else r1.1) == 0) then
  none
 else
 some ((w64 (Int.tdiv (w64 ((w64 (r1.2 + (if (w64 (0 - r1.1)) > r1.1 then (w64 (0 - r1.1)) else r1.1))) - 1)) (if (w64 (0 - r1.1)) > r1.1 then (w64 (0 - r1.1)) else r1.1))), true)
theorem zq29.o1.run (N : Nat) (v0 : Int) (v1 : Int) (v2 : Bool) (v3 : Int) (v4 : Int) (v5 : Int) : runC zq29.C (zq29.O N) N zq29.c13 13 (mkSt [(1, .one (.int .i64 v0)), (2, .one (.int .i64 v1)), (3, .one (.ptr 3 0)), (18, .one (.bool v2))] [(3, some (47, [.int .i64 v3, .int .i64 v4, .int .i64 v5]))] : St D0) (onN (fun s => zq29.C.tidy 6 s (fun s' => runC zq29.C (zq29.O N) N zq29.c7 7 s' zq29.K0)) zq29.K0) = zq29.o1 N v0 v1 v2 v3 v4 v5 := by kernel_rfl
def zq29.d1 (N : Nat) (v0 : Int) (v1 : Int) (v2 : Bool) (v3 : Int) (v4 : Int) (v5 : Int) : Option zq29.R := zq29.o1 N v0 v1 v2 v3 v4 v5
theorem zq29.d1.run (N : Nat) (v0 : Int) (v1 : Int) (v2 : Bool) (v3 : Int) (v4 : Int) (v5 : Int) : runC zq29.C (zq29.O N) N zq29.c13 13 (mkSt [(1, .one (.int .i64 v0)), (2, .one (.int .i64 v1)), (3, .one (.ptr 3 0)), (18, .one (.bool v2))] [(3, some (47, [.int .i64 v3, .int .i64 v4, .int .i64 v5]))] : St D0) (zq29.K13 N) = zq29.d1 N v0 v1 v2 v3 v4 v5 := by
  exact (zq29.o1.run N v0 v1 v2 v3 v4 v5).trans rfl
def zq29.o0 (N : Nat) (a0_0 : Int) (a0_1 : Int) (a0_2 : Int) (a1 : Int) (a2 : Int) (c1 : Int → Int → Bool → Int → Int → Int → Option zq29.R) : Option zq29.R :=
 (zq6.g N a0_0 a0_1 a0_2).bind fun r1 =>
 bif (!r1) then
  c1 a1 a2 true a0_0 a0_1 a0_2
 else
 (zq37.g N a1 a2).bind fun r2 =>
 c1 a1 a2 (!r2) a0_0 a0_1 a0_2
theorem zq29.o0.run (N : Nat) (H13 : Code) (a0_0 : Int) (a0_1 : Int) (a0_2 : Int) (a1 : Int) (a2 : Int) : runC zq29.C (zq29.O N) N (.seq zq29.c2 (.seq (.seq zq29.c12 H13) zq29.c7)) 1 (st0 [.agg [.int .i64 a0_0, .int .i64 a0_1, .int .i64 a0_2], .one (.int .i64 a1), .one (.int .i64 a2)] [] : St D0) zq29.K0 = zq29.o0 N a0_0 a0_1 a0_2 a1 a2 ((fun w0 w1 w2 w3 w4 w5 => runC zq29.C (zq29.O N) N H13 13 (mkSt [(1, .one (.int .i64 w0)), (2, .one (.int .i64 w1)), (3, .one (.ptr 3 0)), (18, .one (.bool w2))] [(3, some (47, [.int .i64 w3, .int .i64 w4, .int .i64 w5]))] : St D0) (onN (fun s => zq29.C.tidy 6 s (fun s' => runC zq29.C (zq29.O N) N zq29.c7 7 s' zq29.K0)) zq29.K0))) := by kernel_rfl
def zq29.g (N : Nat) (a0_0 : Int) (a0_1 : Int) (a0_2 : Int) (a1 : Int) (a2 : Int) : Option zq29.R := zq29.o0 N a0_0 a0_1 a0_2 a1 a2 ((fun w0 w1 w2 w3 w4 w5 => zq29.d1 N w0 w1 w2 w3 w4 w5))
theorem zq29.c1_0 : zq29.c1 = (.seq zq29.c2 (.seq (.seq zq29.c12 zq29.c13) zq29.c7)) := by kernel_rfl
theorem zq29.g.run (N : Nat) (a0_0 : Int) (a0_1 : Int) (a0_2 : Int) (a1 : Int) (a2 : Int) : runC zq29.C (zq29.O N) N zq29.c1 1 (st0 [.agg [.int .i64 a0_0, .int .i64 a0_1, .int .i64 a0_2], .one (.int .i64 a1), .one (.int .i64 a2)] [] : St D0) zq29.K0 = zq29.g N a0_0 a0_1 a0_2 a1 a2 := by
  rw [zq29.c1_0]; unfold zq29.g; exact (zq29.o0.run N zq29.c13 a0_0 a0_1 a0_2 a1 a2).trans (congr rfl (funext fun w0 => funext fun w1 => funext fun w2 => funext fun w3 => funext fun w4 => funext fun w5 => zq29.d1.run N w0 w1 w2 w3 w4 w5))
theorem zq29.good (N : Nat) (a0_0 : Int) (a0_1 : Int) (a0_2 : Int) (a1 : Int) (a2 : Int) (r : zq29.R) (h : zq29.g N a0_0 a0_1 a0_2 a1 a2 = some r) : Go.PM.Good Tryz.prog T0 35 [.agg [.int .i64 a0_0, .int .i64 a0_1, .int .i64 a0_2], .one (.int .i64 a1), .one (.int .i64 a2)] [] (zq29.sig.ret r) (zq29.sig.bs r) :=
  good_fn tabOk0 mixed0 zq29.sig (zq29.E N) Tryz.func35 (by kernel_rfl) (by kernel_rfl) 2147746767 0 0 [(12, [1, 2, 3, 18], [3])] 82885787648 false [] [(false, [.any]), (false, [.any])] (by kernel_rfl) rfl rfl ((zq29.g.run N a0_0 a0_1 a0_2 a1 a2).trans h)
def zq29.ent (N : Nat) : Ent Tryz.prog T0 := mkEnt 35 [(true, [.any, .any, .any]), (false, [.any]), (false, [.any])] zq29.sig (fun t => zq29.g N t.1 t.2.1 t.2.2.1 t.2.2.2.1 t.2.2.2.2) (fun t r h => zq29.good N t.1 t.2.1 t.2.2.1 t.2.2.2.1 t.2.2.2.2 r h)
/-! ### zq81 -/
abbrev zq81.R : Type := Int × Bool
abbrev zq81.sig : Sig := ⟨[(true, 3), (false, 1), (false, 1)], [], [.int .i64, .int .i64, .int .i64, .int .i64, .int .i64], [(false, 1), (false, 1)], [], [.int .i64, .bool]⟩
def zq81.C : Cfg D0 := ⟨Tryz.prog, T0, 134480847, 0, 36, 0, [(12, [1, 2, 3, 18], [3])], 20742979584, false, []⟩
def zq81.E (N : Nat) : List (Ent Tryz.prog T0) := [zq86.ent N, zq84.ent N, zq85.ent N, zq99.ent N]
def zq81.O (N : Nat) : Orc D0 zq81.R := orcOf (zq81.E N)
def zq81.K0 : Ex → St D0 → Option zq81.R := exitK zq81.C Tryz.f36.results.toList [(false, [.any]), (false, [.any])] (decOut zq81.sig)
def zq81.c1 : Code := codeAt (Tryz.f36.body.getD .skip) []
def zq81.c2 : Code := codeAt (Tryz.f36.body.getD .skip) [false]
def zq81.c7 : Code := codeAt (Tryz.f36.body.getD .skip) [true, true]
def zq81.c12 : Code := codeAt (Tryz.f36.body.getD .skip) [true, false, false]
def zq81.c13 : Code := codeAt (Tryz.f36.body.getD .skip) [true, false, true]
def zq81.K13 (N : Nat) : Ex → St D0 → Option zq81.R := (onN (fun s => zq81.C.tidy 6 s (fun s' => runC zq81.C (zq81.O N) N zq81.c7 7 s' zq81.K0)) zq81.K0)
def zq81.o1 (N : Nat) (v0 : Int) (v1 : Int) (v2 : Bool) (v3 : Int) (v4 : Int) (v5 : Int) : Option zq81.R :=
 bif v2 then
  some (0, false)
 else
 (zq85.g N v3 v4 v5 v0 v1).bind fun r1 =>
 bif (r1.1 == 0) then
  some (0, false)
 else
 (zq99.g N r1.1).bind fun r2 =>
 bif (r2 == 0) then
  none
 else
 some ((w64 (Int.tdiv (w64 ((w64 (r1.2 + r2)) - 1)) r2)), true)
theorem zq81.o1.run (N : Nat) (v0 : Int) (v1 : Int) (v2 : Bool) (v3 : Int) (v4 : Int) (v5 : Int) : runC zq81.C (zq81.O N) N zq81.c13 13 (mkSt [(1, .one (.int .i64 v0)), (2, .one (.int .i64 v1)), (3, .one (.ptr 3 0)), (18, .one (.bool v2))] [(3, some (47, [.int .i64 v3, .int .i64 v4, .int .i64 v5]))] : St D0) (onN (fun s => zq81.C.tidy 6 s (fun s' => runC zq81.C (zq81.O N) N zq81.c7 7 s' zq81.K0)) zq81.K0) = zq81.o1 N v0 v1 v2 v3 v4 v5 := by kernel_rfl
def zq81.d1 (N : Nat) (v0 : Int) (v1 : Int) (v2 : Bool) (v3 : Int) (v4 : Int) (v5 : Int) : Option zq81.R := zq81.o1 N v0 v1 v2 v3 v4 v5
theorem zq81.d1.run (N : Nat) (v0 : Int) (v1 : Int) (v2 : Bool) (v3 : Int) (v4 : Int) (v5 : Int) : runC zq81.C (zq81.O N) N zq81.c13 13 (mkSt [(1, .one (.int .i64 v0)), (2, .one (.int .i64 v1)), (3, .one (.ptr 3 0)), (18, .one (.bool v2))] [(3, some (47, [.int .i64 v3, .int .i64 v4, .int .i64 v5]))] : St D0) (zq81.K13 N) = zq81.d1 N v0 v1 v2 v3 v4 v5 := by
  exact (zq81.o1.run N v0 v1 v2 v3 v4 v5).trans rfl
def zq81.o0 (N : Nat) (a0_0 : Int) (a0_1 : Int) (a0_2 : Int) (a1 : Int) (a2 : Int) (c1 : Int → Int → Bool → Int → Int → Int → Option zq81.R) : Option zq81.R :=
 (zq86.g N a0_0 a0_1 a0_2).bind fun r1 =>
 bif (!r1) then
  c1 a1 a2 true a0_0 a0_1 a0_2
 else
 (zq84.g N a1 a2).bind fun r2 =>
 c1 a1 a2 (!r2) a0_0 a0_1 a0_2
theorem zq81.o0.run (N : Nat) (H13 : Code) (a0_0 : Int) (a0_1 : Int) (a0_2 : Int) (a1 : Int) (a2 : Int) : runC zq81.C (zq81.O N) N (.seq zq81.c2 (.seq (.seq zq81.c12 H13) zq81.c7)) 1 (st0 [.agg [.int .i64 a0_0, .int .i64 a0_1, .int .i64 a0_2], .one (.int .i64 a1), .one (.int .i64 a2)] [] : St D0) zq81.K0 = zq81.o0 N a0_0 a0_1 a0_2 a1 a2 ((fun w0 w1 w2 w3 w4 w5 => runC zq81.C (zq81.O N) N H13 13 (mkSt [(1, .one (.int .i64 w0)), (2, .one (.int .i64 w1)), (3, .one (.ptr 3 0)), (18, .one (.bool w2))] [(3, some (47, [.int .i64 w3, .int .i64 w4, .int .i64 w5]))] : St D0) (onN (fun s => zq81.C.tidy 6 s (fun s' => runC zq81.C (zq81.O N) N zq81.c7 7 s' zq81.K0)) zq81.K0))) := by kernel_rfl
def zq81.g (N : Nat) (a0_0 : Int) (a0_1 : Int) (a0_2 : Int) (a1 : Int) (a2 : Int) : Option zq81.R := zq81.o0 N a0_0 a0_1 a0_2 a1 a2 ((fun w0 w1 w2 w3 w4 w5 => zq81.d1 N w0 w1 w2 w3 w4 w5))
theorem zq81.c1_0 : zq81.c1 = (.seq zq81.c2 (.seq (.seq zq81.c12 zq81.c13) zq81.c7)) := by kernel_rfl
theorem zq81.g.run (N : Nat) (a0_0 : Int) (a0_1 : Int) (a0_2 : Int) (a1 : Int) (a2 : Int) : runC zq81.C (zq81.O N) N zq81.c1 1 (st0 [.agg [.int .i64 a0_0, .int .i64 a0_1, .int .i64 a0_2], .one (.int .i64 a1), .one (.int .i64 a2)] [] : St D0) zq81.K0 = zq81.g N a0_0 a0_1 a0_2 a1 a2 := by
  rw [zq81.c1_0]; unfold zq81.g; exact (zq81.o0.run N zq81.c13 a0_0 a0_1 a0_2 a1 a2).trans (congr rfl (funext fun w0 => funext fun w1 => funext fun w2 => funext fun w3 => funext fun w4 => funext fun w5 => zq81.d1.run N w0 w1 w2 w3 w4 w5))
theorem zq81.good (N : Nat) (a0_0 : Int) (a0_1 : Int) (a0_2 : Int) (a1 : Int) (a2 : Int) (r : zq81.R) (h : zq81.g N a0_0 a0_1 a0_2 a1 a2 = some r) : Go.PM.Good Tryz.prog T0 36 [.agg [.int .i64 a0_0, .int .i64 a0_1, .int .i64 a0_2], .one (.int .i64 a1), .one (.int .i64 a2)] [] (zq81.sig.ret r) (zq81.sig.bs r) :=
  good_fn tabOk0 mixed0 zq81.sig (zq81.E N) Tryz.func36 (by kernel_rfl) (by kernel_rfl) 134480847 0 0 [(12, [1, 2, 3, 18], [3])] 20742979584 false [] [(false, [.any]), (false, [.any])] (by kernel_rfl) rfl rfl ((zq81.g.run N a0_0 a0_1 a0_2 a1 a2).trans h)
def zq81.ent (N : Nat) : Ent Tryz.prog T0 := mkEnt 36 [(true, [.any, .any, .any]), (false, [.any]), (false, [.any])] zq81.sig (fun t => zq81.g N t.1 t.2.1 t.2.2.1 t.2.2.2.1 t.2.2.2.2) (fun t r h => zq81.good N t.1 t.2.1 t.2.2.1 t.2.2.2.1 t.2.2.2.2 r h)
/-! ### zq11 -/
abbrev zq11.R : Type := Int × Int × Bool
abbrev zq11.sig : Sig := ⟨[(true, 3)], [], [.int .i64, .int .i64, .int .i64], [(false, 1), (false, 1), (false, 1)], [], [.int .i64, .int .i64, .bool]⟩
def zq11.C : Cfg D0 := ⟨Tryz.prog, T0, 159, 0, 14, 0, [], 0, false, []⟩
def zq11.E (N : Nat) : List (Ent Tryz.prog T0) := [zq6.ent N, zq8.ent N, zq9.ent N]
def zq11.O (N : Nat) : Orc D0 zq11.R := orcOf (zq11.E N)
def zq11.K0 : Ex → St D0 → Option zq11.R := exitK zq11.C Tryz.f37.results.toList [(false, [.any]), (false, [.any]), (false, [.any])] (decOut zq11.sig)
def zq11.c1 : Code := codeAt (Tryz.f37.body.getD .skip) []
def zq11.o0 (N : Nat) (a0_0 : Int) (a0_1 : Int) (a0_2 : Int) : Option zq11.R :=
 (zq6.g N a0_0 a0_1 a0_2).bind fun r1 =>
 bif (!r1) then
  some (0, 0, false)
 else
 (zq8.g N a0_0 a0_1 a0_2).bind fun r2 =>
 (zq8.g N a0_0 a0_1 a0_2).bind fun r3 =>
 (zq9.g N a0_0 a0_1 a0_2 r3).bind fun r4 =>
 some (r2, r4, true)
theorem zq11.o0.run (N : Nat) (a0_0 : Int) (a0_1 : Int) (a0_2 : Int) : runC zq11.C (zq11.O N) N zq11.c1 1 (st0 [.agg [.int .i64 a0_0, .int .i64 a0_1, .int .i64 a0_2]] [] : St D0) zq11.K0 = zq11.o0 N a0_0 a0_1 a0_2 := by kernel_rfl
def zq11.g (N : Nat) (a0_0 : Int) (a0_1 : Int) (a0_2 : Int) : Option zq11.R := zq11.o0 N a0_0 a0_1 a0_2
theorem zq11.g.run (N : Nat) (a0_0 : Int) (a0_1 : Int) (a0_2 : Int) : runC zq11.C (zq11.O N) N zq11.c1 1 (st0 [.agg [.int .i64 a0_0, .int .i64 a0_1, .int .i64 a0_2]] [] : St D0) zq11.K0 = zq11.g N a0_0 a0_1 a0_2 := by
  exact (zq11.o0.run N a0_0 a0_1 a0_2).trans rfl
theorem zq11.good (N : Nat) (a0_0 : Int) (a0_1 : Int) (a0_2 : Int) (r : zq11.R) (h : zq11.g N a0_0 a0_1 a0_2 = some r) : Go.PM.Good Tryz.prog T0 37 [.agg [.int .i64 a0_0, .int .i64 a0_1, .int .i64 a0_2]] [] (zq11.sig.ret r) (zq11.sig.bs r) :=
  good_fn tabOk0 mixed0 zq11.sig (zq11.E N) Tryz.func37 (by kernel_rfl) (by kernel_rfl) 159 0 0 [] 0 false [] [(false, [.any]), (false, [.any]), (false, [.any])] (by kernel_rfl) rfl rfl ((zq11.g.run N a0_0 a0_1 a0_2).trans h)
def zq11.ent (N : Nat) : Ent Tryz.prog T0 := mkEnt 37 [(true, [.any, .any, .any])] zq11.sig (fun t => zq11.g N t.1 t.2.1 t.2.2) (fun t r h => zq11.good N t.1 t.2.1 t.2.2 r h)
/-! ### zq101 -/
abbrev zq101.R : Type := Int × Int × List Int × Int × Int
abbrev zq101.sig : Sig := ⟨[(false, 1)], [(77, 3)], [.ptr 0 0, .sl false 5, .int .i64, .int .u64], [(false, 1), (false, 1)], [(77, 3)], [.int .i64, .int .i64, .sl false 5, .int .i64, .int .u64]⟩
def zq101.C : Cfg D0 := ⟨Tryz.prog, T0, 164061, 0, 28, 1, [], 13111840, false, []⟩
def zq101.E (N : Nat) : List (Ent Tryz.prog T0) := [zq105.ent N, zq100.ent N]
def zq101.O (N : Nat) : Orc D0 zq101.R := orcOf (zq101.E N)
def zq101.K0 : Ex → St D0 → Option zq101.R := exitK zq101.C Tryz.f90.results.toList [(false, [.any]), (false, [.any])] (decOut zq101.sig)
def zq101.c1 : Code := codeAt (Tryz.f90.body.getD .skip) []
def zq101.o0 (N : Nat) (b0_0 : List Int) (b0_1 : Int) (b0_2 : Int) : Option zq101.R :=
 (zq105.g N 8 b0_0 b0_1 b0_2).bind fun r1 =>
 bif (r1.1 == 0) then
  (zq100.g N ([0, 1, 2422, (-1)] : List Int) r1.2.1 r1.2.2.1 r1.2.2.2).bind fun r2 =>
  (zq100.g N ([1, 2, 10000, 100000, 100001, 0] : List Int) r2.2.1 r2.2.2.1 r2.2.2.2).bind fun r3 =>
  some (r2.1, r3.1, r3.2.1, r3.2.2.1, r3.2.2.2)
 else
 bif (r1.1 == 1) then
  some (1, 4, r1.2.1, r1.2.2.1, r1.2.2.2)
 else
 bif (r1.1 == 2) then
  some (2422, 10000, r1.2.1, r1.2.2.1, r1.2.2.2)
 else
 (zq105.g N 400 r1.2.1 r1.2.2.1 r1.2.2.2).bind fun r4 =>
 (zq105.g N (w64 ((w64 (2 + r4.1)) - 1)) r4.2.1 r4.2.2.1 r4.2.2.2).bind fun r5 =>
 some ((w64 (1 + r5.1)), (w64 (2 + r4.1)), r5.2.1, r5.2.2.1, r5.2.2.2)
theorem zq101.o0.run (N : Nat) (b0_0 : List Int) (b0_1 : Int) (b0_2 : Int) : runC zq101.C (zq101.O N) N zq101.c1 1 (st0 [.one (.ptr 0 0)] [(77, [.sl false 5 b0_0, .int .i64 b0_1, .int .u64 b0_2])] : St D0) zq101.K0 = zq101.o0 N b0_0 b0_1 b0_2 := by kernel_rfl
def zq101.g (N : Nat) (b0_0 : List Int) (b0_1 : Int) (b0_2 : Int) : Option zq101.R := zq101.o0 N b0_0 b0_1 b0_2
theorem zq101.g.run (N : Nat) (b0_0 : List Int) (b0_1 : Int) (b0_2 : Int) : runC zq101.C (zq101.O N) N zq101.c1 1 (st0 [.one (.ptr 0 0)] [(77, [.sl false 5 b0_0, .int .i64 b0_1, .int .u64 b0_2])] : St D0) zq101.K0 = zq101.g N b0_0 b0_1 b0_2 := by
  exact (zq101.o0.run N b0_0 b0_1 b0_2).trans rfl
theorem zq101.good (N : Nat) (b0_0 : List Int) (b0_1 : Int) (b0_2 : Int) (r : zq101.R) (h : zq101.g N b0_0 b0_1 b0_2 = some r) : Go.PM.Good Tryz.prog T0 90 [.one (.ptr 0 0)] [(77, [.sl false 5 b0_0, .int .i64 b0_1, .int .u64 b0_2])] (zq101.sig.ret r) (zq101.sig.bs r) :=
  good_fn tabOk0 mixed0 zq101.sig (zq101.E N) Tryz.func90 (by kernel_rfl) (by kernel_rfl) 164061 0 1 [] 13111840 false [] [(false, [.any]), (false, [.any])] (by kernel_rfl) rfl rfl ((zq101.g.run N b0_0 b0_1 b0_2).trans h)
def zq101.ent (N : Nat) : Ent Tryz.prog T0 := mkEnt 90 [(false, [.any])] zq101.sig (fun t => zq101.g N t.2.1 t.2.2.1 t.2.2.2) (fun t r h => zq101.good N t.2.1 t.2.2.1 t.2.2.2 r h)
/-! ### zq106 -/
abbrev zq106.R : Type := Int × Int × Int × List Int × Int × Int
abbrev zq106.sig : Sig := ⟨[(false, 1)], [(77, 3)], [.ptr 0 0, .sl false 5, .int .i64, .int .u64], [(true, 3)], [(77, 3)], [.int .i64, .int .i64, .int .i64, .sl false 5, .int .i64, .int .u64]⟩
def zq106.C : Cfg D0 := ⟨Tryz.prog, T0, 68744642589, 0, 46, 1, [], 2478804533248, false, []⟩
def zq106.E (N : Nat) : List (Ent Tryz.prog T0) := [zq105.ent N, zq100.ent N]
def zq106.O (N : Nat) : Orc D0 zq106.R := orcOf (zq106.E N)
def zq106.K0 : Ex → St D0 → Option zq106.R := exitK zq106.C Tryz.f91.results.toList [(true, [.any, .any, .any])] (decOut zq106.sig)
def zq106.c1 : Code := codeAt (Tryz.f91.body.getD .skip) []
def zq106.o0 (N : Nat) (b0_0 : List Int) (b0_1 : Int) (b0_2 : Int) : Option zq106.R :=
 (zq105.g N (([(⟨4, 0, 0⟩ : S47), (⟨4, 100, 0⟩ : S47), (⟨4, 100, 400⟩ : S47), (⟨4, 128, 0⟩ : S47), (⟨5, 0, 0⟩ : S47), (⟨3, 30, 90⟩ : S47), (⟨1, 0, 0⟩ : S47), (⟨2, 4, 0⟩ : S47), (⟨1, 5, 10⟩ : S47)] : List S47).length : Int) b0_0 b0_1 b0_2).bind fun r1 =>
 bif (decide (0 ≤ r1.1)) then
  bif (decide (r1.1 < (([(⟨4, 0, 0⟩ : S47), (⟨4, 100, 0⟩ : S47), (⟨4, 100, 400⟩ : S47), (⟨4, 128, 0⟩ : S47), (⟨5, 0, 0⟩ : S47), (⟨3, 30, 90⟩ : S47), (⟨1, 0, 0⟩ : S47), (⟨2, 4, 0⟩ : S47), (⟨1, 5, 10⟩ : S47)] : List S47).length : Int))) then
   (([(⟨4, 0, 0⟩ : S47), (⟨4, 100, 0⟩ : S47), (⟨4, 100, 400⟩ : S47), (⟨4, 128, 0⟩ : S47), (⟨5, 0, 0⟩ : S47), (⟨3, 30, 90⟩ : S47), (⟨1, 0, 0⟩ : S47), (⟨2, 4, 0⟩ : S47), (⟨1, 5, 10⟩ : S47)] : List S47)[(r1.1 : Int).toNat]?).bind fun x2 =>
   (zq105.g N 14 r1.2.1 r1.2.2.1 r1.2.2.2).bind fun r3 =>
   bif (r3.1 == 0) then
    (zq100.g N ([0, 4, (-1), 10001] : List Int) r3.2.1 r3.2.2.1 r3.2.2.2).bind fun r4 =>
    (zq100.g N ([0, 4, 6, 100] : List Int) r4.2.1 r4.2.2.1 r4.2.2.2).bind fun r5 =>
    (zq100.g N ([0, 100, 200] : List Int) r5.2.1 r5.2.2.1 r5.2.2.2).bind fun r6 =>
    some (r4.1, r5.1, r6.1, r6.2.1, r6.2.2.1, r6.2.2.2)
   else
   bif (r3.1 == 1) then
    (zq100.g N ([4, 10000] : List Int) r3.2.1 r3.2.2.1 r3.2.2.2).bind fun r7 =>
    (zq100.g N ([0, 10000, 8, 4611686018427387904] : List Int) r7.2.1 r7.2.2.1 r7.2.2.2).bind fun r8 =>
    some (r7.1, r8.1, 0, r8.2.1, r8.2.2.1, r8.2.2.2)
   else
   some (x2.f0, x2.f1, x2.f2, r3.2.1, r3.2.2.1, r3.2.2.2)
  else
  none
 else
 none
theorem zq106.o0.run (N : Nat) (b0_0 : List Int) (b0_1 : Int) (b0_2 : Int) : runC zq106.C (zq106.O N) N zq106.c1 1 (st0 [.one (.ptr 0 0)] [(77, [.sl false 5 b0_0, .int .i64 b0_1, .int .u64 b0_2])] : St D0) zq106.K0 = zq106.o0 N b0_0 b0_1 b0_2 := by kernel_rfl
def zq106.g (N : Nat) (b0_0 : List Int) (b0_1 : Int) (b0_2 : Int) : Option zq106.R := zq106.o0 N b0_0 b0_1 b0_2
theorem zq106.g.run (N : Nat) (b0_0 : List Int) (b0_1 : Int) (b0_2 : Int) : runC zq106.C (zq106.O N) N zq106.c1 1 (st0 [.one (.ptr 0 0)] [(77, [.sl false 5 b0_0, .int .i64 b0_1, .int .u64 b0_2])] : St D0) zq106.K0 = zq106.g N b0_0 b0_1 b0_2 := by
  exact (zq106.o0.run N b0_0 b0_1 b0_2).trans rfl
theorem zq106.good (N : Nat) (b0_0 : List Int) (b0_1 : Int) (b0_2 : Int) (r : zq106.R) (h : zq106.g N b0_0 b0_1 b0_2 = some r) : Go.PM.Good Tryz.prog T0 91 [.one (.ptr 0 0)] [(77, [.sl false 5 b0_0, .int .i64 b0_1, .int .u64 b0_2])] (zq106.sig.ret r) (zq106.sig.bs r) :=
  good_fn tabOk0 mixed0 zq106.sig (zq106.E N) Tryz.func91 (by kernel_rfl) (by kernel_rfl) 68744642589 0 1 [] 2478804533248 false [] [(true, [.any, .any, .any])] (by kernel_rfl) rfl rfl ((zq106.g.run N b0_0 b0_1 b0_2).trans h)
def zq106.ent (N : Nat) : Ent Tryz.prog T0 := mkEnt 91 [(false, [.any])] zq106.sig (fun t => zq106.g N t.2.1 t.2.2.1 t.2.2.2) (fun t r h => zq106.good N t.2.1 t.2.2.1 t.2.2.2 r h)
/-! ### zq61 -/
abbrev zq61.R : Type := Int × Int × Int × Int × Int
abbrev zq61.sig : Sig := ⟨[(false, 1)], [], [.sl false 5], [(true, 3), (false, 1), (false, 1)], [], [.int .i64, .int .i64, .int .i64, .int .i64, .int .i64]⟩
def zq61.C : Cfg D0 := ⟨Tryz.prog, T0, 253, 0, 20, 0, [], 69632, false, []⟩
def zq61.E (N : Nat) : List (Ent Tryz.prog T0) := [zq101.ent N, zq106.ent N]
def zq61.O (N : Nat) : Orc D0 zq61.R := orcOf (zq61.E N)
def zq61.K0 : Ex → St D0 → Option zq61.R := exitK zq61.C Tryz.f32.results.toList [(true, [.any, .any, .any]), (false, [.any]), (false, [.any])] (decOut zq61.sig)
def zq61.c1 : Code := codeAt (Tryz.f32.body.getD .skip) []
def zq61.o0 (N : Nat) (a0 : List Int) : Option zq61.R :=
 (zq101.g N a0 0 0).bind fun r1 =>
 (zq106.g N r1.2.2.1 r1.2.2.2.1 r1.2.2.2.2).bind fun r2 =>
 some (r2.1, r2.2.1, r2.2.2.1, r1.1, r1.2.1)
theorem zq61.o0.run (N : Nat) (a0 : List Int) : runC zq61.C (zq61.O N) N zq61.c1 1 (st0 [.one (.sl false 5 a0)] [] : St D0) zq61.K0 = zq61.o0 N a0 := by kernel_rfl
def zq61.g (N : Nat) (a0 : List Int) : Option zq61.R := zq61.o0 N a0
theorem zq61.g.run (N : Nat) (a0 : List Int) : runC zq61.C (zq61.O N) N zq61.c1 1 (st0 [.one (.sl false 5 a0)] [] : St D0) zq61.K0 = zq61.g N a0 := by
  exact (zq61.o0.run N a0).trans rfl
theorem zq61.good (N : Nat) (a0 : List Int) (r : zq61.R) (h : zq61.g N a0 = some r) : Go.PM.Good Tryz.prog T0 32 [.one (.sl false 5 a0)] [] (zq61.sig.ret r) (zq61.sig.bs r) :=
  good_fn tabOk0 mixed0 zq61.sig (zq61.E N) Tryz.func32 (by kernel_rfl) (by kernel_rfl) 253 0 0 [] 69632 false [] [(true, [.any, .any, .any]), (false, [.any]), (false, [.any])] (by kernel_rfl) rfl rfl ((zq61.g.run N a0).trans h)
def zq61.ent (N : Nat) : Ent Tryz.prog T0 := mkEnt 32 [(false, [.ro 5])] zq61.sig (fun t => zq61.g N t) (fun t r h => zq61.good N t r h)
/-! ### zq4 -/
abbrev zq4.R : Type := List ((List Int)) × Bool
abbrev zq4.sig : Sig := ⟨[(false, 1), (false, 1), (false, 1)], [], [.int .i64, .int .i64, .int .i64], [(false, 1), (false, 1)], [], [.sl true 59, .bool]⟩
def zq4.C : Cfg D0 := ⟨Tryz.prog, T0, 275968491463, 0, 59, 0, [(12, [0, 1, 2, 24], []), (126, [8], []), (252, [2, 8, 9, 10, 11, 12, 13, 14], [])], 50341827880091648, false, []⟩
def zq4.E (N : Nat) : List (Ent Tryz.prog T0) := [zq37.ent N, zq46.ent N]
def zq4.O (N : Nat) : Orc D0 zq4.R := orcOf (zq4.E N)
def zq4.K0 : Ex → St D0 → Option zq4.R := exitK zq4.C Tryz.f39.results.toList [(false, [.own 59]), (false, [.any])] (decOut zq4.sig)
def zq4.c1 : Code := codeAt (Tryz.f39.body.getD .skip) []
def zq4.c2 : Code := codeAt (Tryz.f39.body.getD .skip) [false]
def zq4.c7 : Code := codeAt (Tryz.f39.body.getD .skip) [true, true]
def zq4.c12 : Code := codeAt (Tryz.f39.body.getD .skip) [true, false, false]
def zq4.c13 : Code := codeAt (Tryz.f39.body.getD .skip) [true, false, true]
def zq4.c14 : Code := codeAt (Tryz.f39.body.getD .skip) [true, true, false]
def zq4.c30 : Code := codeAt (Tryz.f39.body.getD .skip) [true, true, true, false]
def zq4.c62 : Code := codeAt (Tryz.f39.body.getD .skip) [true, true, true, true, false]
def zq4.c127 : Code := codeAt (Tryz.f39.body.getD .skip) [true, true, true, true, true, true]
def zq4.c504 : Code := codeAt (Tryz.f39.body.getD .skip) [true, true, true, true, true, false, false, false]
def zq4.K127 (N : Nat) : Ex → St D0 → Option zq4.R := zq4.K0
def zq4.o3 (N : Nat) (v0 : List ((List Int))) : Option zq4.R :=
 some (v0, true)
theorem zq4.o3.run (N : Nat) (v0 : List ((List Int))) : runC zq4.C (zq4.O N) N zq4.c127 127 (mkSt [(8, .one (.sl true 59 v0))] [] : St D0) zq4.K0 = zq4.o3 N v0 := by kernel_rfl
def zq4.d3 (N : Nat) (v0 : List ((List Int))) : Option zq4.R := zq4.o3 N v0
theorem zq4.d3.run (N : Nat) (v0 : List ((List Int))) : runC zq4.C (zq4.O N) N zq4.c127 127 (mkSt [(8, .one (.sl true 59 v0))] [] : St D0) (zq4.K127 N) = zq4.d3 N v0 := by
  exact (zq4.o3.run N v0).trans rfl
def zq4.B63 (N : Nat) : St D0 → Option zq4.R := fun s' => runC zq4.C (zq4.O N) N zq4.c127 127 s' (zq4.K127 N)
def zq4.K504 (N : Nat) (Kn252 : St D0 → Option zq4.R) : Ex → St D0 → Option zq4.R := ((fun up => (onN (fun s => zq4.C.tidy 252 s ((onN Kn252 up) .normal)) (onN Kn252 up))) (blockK 0 (onN (fun s => zq4.C.tidy 126 s (zq4.B63 N)) zq4.K0)))
def zq4.o2 (N : Nat) (v0 : Int) (v1 : List ((List Int))) (v2 : Int) (v3 : Int) (v4 : Int) (v5 : Int) (v6 : Int) (v7 : Int) (c3 : (List ((List Int))) → Option zq4.R) (c2 : Int → (List ((List Int))) → Int → Int → Int → Int → Int → Int → Option zq4.R) : Option zq4.R :=
 bif (decide (v3 ≤ v0)) then
  bif (Nat.blt (v1.length + ([([v2, v3] : List Int)] : List (List Int)).length) 5864062014805) then
   bif (v7 == 0) then
    c3 (v1 ++ ([([v2, v3] : List Int)] : List (List Int)))
   else
   bif (v7 == 0) then
    none
   else
   bif (v7 == 0) then
    none
   else
   c2 v0 (v1 ++ ([([v2, v3] : List Int)] : List (List Int))) (w64 ((w64 ((w64 (Int.tdiv v6 v7)) * v2)) + v4)) (w64 ((w64 ((w64 (Int.tdiv v6 v7)) * v3)) + v5)) v2 v3 v7 (Int.tmod v6 v7)
  else
  none
 else
 c3 v1
theorem zq4.o2.run (N : Nat) (Kb63 : St D0 → Option zq4.R) (Kn252 : St D0 → Option zq4.R) (v0 : Int) (v1 : List ((List Int))) (v2 : Int) (v3 : Int) (v4 : Int) (v5 : Int) (v6 : Int) (v7 : Int) : runC zq4.C (zq4.O N) N zq4.c504 504 (mkSt [(2, .one (.int .i64 v0)), (8, .one (.sl true 59 v1)), (9, .one (.int .i64 v2)), (10, .one (.int .i64 v3)), (11, .one (.int .i64 v4)), (12, .one (.int .i64 v5)), (13, .one (.int .i64 v6)), (14, .one (.int .i64 v7))] [] : St D0) (onN (fun s => zq4.C.tidy 252 s ((onN Kn252 (blockK 0 (onN (fun s => zq4.C.tidy 126 s Kb63) zq4.K0))) .normal)) (onN Kn252 (blockK 0 (onN (fun s => zq4.C.tidy 126 s Kb63) zq4.K0)))) = zq4.o2 N v0 v1 v2 v3 v4 v5 v6 v7 ((fun w0 => Kb63 (mkSt [(8, .one (.sl true 59 w0))] [] : St D0))) ((fun w0 w1 w2 w3 w4 w5 w6 w7 => Kn252 (mkSt [(2, .one (.int .i64 w0)), (8, .one (.sl true 59 w1)), (9, .one (.int .i64 w2)), (10, .one (.int .i64 w3)), (11, .one (.int .i64 w4)), (12, .one (.int .i64 w5)), (13, .one (.int .i64 w6)), (14, .one (.int .i64 w7))] [] : St D0))) := by kernel_rfl
def zq4.d2 (N : Nat) (v0 : Int) (v1 : List ((List Int))) (v2 : Int) (v3 : Int) (v4 : Int) (v5 : Int) (v6 : Int) (v7 : Int) (c2 : Int → (List ((List Int))) → Int → Int → Int → Int → Int → Int → Option zq4.R) : Option zq4.R := zq4.o2 N v0 v1 v2 v3 v4 v5 v6 v7 ((fun w0 => zq4.d3 N w0)) c2
theorem zq4.d2.run (N : Nat) (Kn252 : St D0 → Option zq4.R) (v0 : Int) (v1 : List ((List Int))) (v2 : Int) (v3 : Int) (v4 : Int) (v5 : Int) (v6 : Int) (v7 : Int) : runC zq4.C (zq4.O N) N zq4.c504 504 (mkSt [(2, .one (.int .i64 v0)), (8, .one (.sl true 59 v1)), (9, .one (.int .i64 v2)), (10, .one (.int .i64 v3)), (11, .one (.int .i64 v4)), (12, .one (.int .i64 v5)), (13, .one (.int .i64 v6)), (14, .one (.int .i64 v7))] [] : St D0) (zq4.K504 N Kn252) = zq4.d2 N v0 v1 v2 v3 v4 v5 v6 v7 ((fun w0 w1 w2 w3 w4 w5 w6 w7 => Kn252 (mkSt [(2, .one (.int .i64 w0)), (8, .one (.sl true 59 w1)), (9, .one (.int .i64 w2)), (10, .one (.int .i64 w3)), (11, .one (.int .i64 w4)), (12, .one (.int .i64 w5)), (13, .one (.int .i64 w6)), (14, .one (.int .i64 w7))] [] : St D0))) := by
  unfold zq4.d2; exact (zq4.o2.run N (zq4.B63 N) Kn252 v0 v1 v2 v3 v4 v5 v6 v7).trans (congr (congr rfl (funext fun w0 => zq4.d3.run N w0)) rfl)
def zq4.K252 (N : Nat) : Ex → St D0 → Option zq4.R := (blockK 0 (onN (fun s => zq4.C.tidy 126 s (zq4.B63 N)) zq4.K0))
def zq4.l2 (N : Nat) : Nat → Int → (List ((List Int))) → Int → Int → Int → Int → Int → Int → Option zq4.R
  | 0, _, _, _, _, _, _, _, _ => none
  | n + 1, v0, v1, v2, v3, v4, v5, v6, v7 => zq4.d2 N v0 v1 v2 v3 v4 v5 v6 v7 ((fun w0 w1 w2 w3 w4 w5 w6 w7 => zq4.l2 N n w0 w1 w2 w3 w4 w5 w6 w7))
theorem zq4.loop252 (N : Nat) : ∀ n, (∀ (v0 : Int) (v1 : List ((List Int))) (v2 : Int) (v3 : Int) (v4 : Int) (v5 : Int) (v6 : Int) (v7 : Int), iter (loopF zq4.C (zq4.O N) N zq4.c504 252) n (mkSt [(2, .one (.int .i64 v0)), (8, .one (.sl true 59 v1)), (9, .one (.int .i64 v2)), (10, .one (.int .i64 v3)), (11, .one (.int .i64 v4)), (12, .one (.int .i64 v5)), (13, .one (.int .i64 v6)), (14, .one (.int .i64 v7))] [] : St D0) (zq4.K252 N) = zq4.l2 N n v0 v1 v2 v3 v4 v5 v6 v7)
  | 0 => (fun v0 v1 v2 v3 v4 v5 v6 v7 => rfl)
  | n + 1 => (fun v0 v1 v2 v3 v4 v5 v6 v7 => (zq4.d2.run N (fun s => iter (loopF zq4.C (zq4.O N) N zq4.c504 252) n s (zq4.K252 N)) v0 v1 v2 v3 v4 v5 v6 v7).trans (show _ = zq4.d2 N v0 v1 v2 v3 v4 v5 v6 v7 ((fun w0 w1 w2 w3 w4 w5 w6 w7 => zq4.l2 N n w0 w1 w2 w3 w4 w5 w6 w7)) from (congr rfl (funext fun w0 => funext fun w1 => funext fun w2 => funext fun w3 => funext fun w4 => funext fun w5 => funext fun w6 => funext fun w7 => (zq4.loop252 N n) w0 w1 w2 w3 w4 w5 w6 w7))))
def zq4.K13 (N : Nat) : Ex → St D0 → Option zq4.R := (onN (fun s => zq4.C.tidy 6 s (fun s' => runC zq4.C (zq4.O N) N zq4.c7 7 s' zq4.K0)) zq4.K0)
def zq4.o1 (N : Nat) (v0 : Int) (v1 : Int) (v2 : Int) (v3 : Bool) (c2 : Int → (List ((List Int))) → Int → Int → Int → Int → Int → Int → Option zq4.R) : Option zq4.R :=
 bif v3 then
  some (([] : List (List Int)), false)
 else
 c2 v2 ([] : List (List Int)) 0 1 1 0 v1 v0
theorem zq4.o1.run (N : Nat) (H504 : Code) (v0 : Int) (v1 : Int) (v2 : Int) (v3 : Bool) : runC zq4.C (zq4.O N) N zq4.c13 13 (mkSt [(0, .one (.int .i64 v0)), (1, .one (.int .i64 v1)), (2, .one (.int .i64 v2)), (24, .one (.bool v3))] [] : St D0) (onN (fun s => zq4.C.tidy 6 s (fun s' => runC zq4.C (zq4.O N) N (.seq zq4.c14 (.seq zq4.c30 (.seq zq4.c62 (.seq (.block 0 (.loop H504)) zq4.c127)))) 7 s' zq4.K0)) zq4.K0) = zq4.o1 N v0 v1 v2 v3 ((fun w0 w1 w2 w3 w4 w5 w6 w7 => iter (loopF zq4.C (zq4.O N) N H504 252) N (mkSt [(2, .one (.int .i64 w0)), (8, .one (.sl true 59 w1)), (9, .one (.int .i64 w2)), (10, .one (.int .i64 w3)), (11, .one (.int .i64 w4)), (12, .one (.int .i64 w5)), (13, .one (.int .i64 w6)), (14, .one (.int .i64 w7))] [] : St D0) (blockK 0 (onN (fun s => zq4.C.tidy 126 s (fun s' => runC zq4.C (zq4.O N) N zq4.c127 127 s' zq4.K0)) zq4.K0)))) := by kernel_rfl
def zq4.d1 (N : Nat) (v0 : Int) (v1 : Int) (v2 : Int) (v3 : Bool) : Option zq4.R := zq4.o1 N v0 v1 v2 v3 ((fun w0 w1 w2 w3 w4 w5 w6 w7 => zq4.l2 N N w0 w1 w2 w3 w4 w5 w6 w7))
theorem zq4.d1.run (N : Nat) (v0 : Int) (v1 : Int) (v2 : Int) (v3 : Bool) : runC zq4.C (zq4.O N) N zq4.c13 13 (mkSt [(0, .one (.int .i64 v0)), (1, .one (.int .i64 v1)), (2, .one (.int .i64 v2)), (24, .one (.bool v3))] [] : St D0) (zq4.K13 N) = zq4.d1 N v0 v1 v2 v3 := by
  unfold zq4.d1; exact (zq4.o1.run N zq4.c504 v0 v1 v2 v3).trans (congr rfl (funext fun w0 => funext fun w1 => funext fun w2 => funext fun w3 => funext fun w4 => funext fun w5 => funext fun w6 => funext fun w7 => (zq4.loop252 N N) w0 w1 w2 w3 w4 w5 w6 w7))
def zq4.o0 (N : Nat) (a0 : Int) (a1 : Int) (a2 : Int) (c1 : Int → Int → Int → Bool → Option zq4.R) : Option zq4.R :=
 (zq37.g N a0 a1).bind fun r1 =>
 bif (!r1) then
  c1 a0 a1 a2 true
 else
 (zq46.g N a2 1 100000).bind fun r2 =>
 c1 a0 a1 a2 (!r2)
theorem zq4.o0.run (N : Nat) (H13 : Code) (a0 : Int) (a1 : Int) (a2 : Int) : runC zq4.C (zq4.O N) N (.seq zq4.c2 (.seq (.seq zq4.c12 H13) zq4.c7)) 1 (st0 [.one (.int .i64 a0), .one (.int .i64 a1), .one (.int .i64 a2)] [] : St D0) zq4.K0 = zq4.o0 N a0 a1 a2 ((fun w0 w1 w2 w3 => runC zq4.C (zq4.O N) N H13 13 (mkSt [(0, .one (.int .i64 w0)), (1, .one (.int .i64 w1)), (2, .one (.int .i64 w2)), (24, .one (.bool w3))] [] : St D0) (onN (fun s => zq4.C.tidy 6 s (fun s' => runC zq4.C (zq4.O N) N zq4.c7 7 s' zq4.K0)) zq4.K0))) := by kernel_rfl
def zq4.g (N : Nat) (a0 : Int) (a1 : Int) (a2 : Int) : Option zq4.R := zq4.o0 N a0 a1 a2 ((fun w0 w1 w2 w3 => zq4.d1 N w0 w1 w2 w3))
theorem zq4.c1_0 : zq4.c1 = (.seq zq4.c2 (.seq (.seq zq4.c12 zq4.c13) zq4.c7)) := by kernel_rfl
theorem zq4.g.run (N : Nat) (a0 : Int) (a1 : Int) (a2 : Int) : runC zq4.C (zq4.O N) N zq4.c1 1 (st0 [.one (.int .i64 a0), .one (.int .i64 a1), .one (.int .i64 a2)] [] : St D0) zq4.K0 = zq4.g N a0 a1 a2 := by
  rw [zq4.c1_0]; unfold zq4.g; exact (zq4.o0.run N zq4.c13 a0 a1 a2).trans (congr rfl (funext fun w0 => funext fun w1 => funext fun w2 => funext fun w3 => zq4.d1.run N w0 w1 w2 w3))
theorem zq4.good (N : Nat) (a0 : Int) (a1 : Int) (a2 : Int) (r : zq4.R) (h : zq4.g N a0 a1 a2 = some r) : Go.PM.Good Tryz.prog T0 39 [.one (.int .i64 a0), .one (.int .i64 a1), .one (.int .i64 a2)] [] (zq4.sig.ret r) (zq4.sig.bs r) :=
  good_fn tabOk0 mixed0 zq4.sig (zq4.E N) Tryz.func39 (by kernel_rfl) (by kernel_rfl) 275968491463 0 0 [(12, [0, 1, 2, 24], []), (126, [8], []), (252, [2, 8, 9, 10, 11, 12, 13, 14], [])] 50341827880091648 false [] [(false, [.own 59]), (false, [.any])] (by kernel_rfl) rfl rfl ((zq4.g.run N a0 a1 a2).trans h)
def zq4.ent (N : Nat) : Ent Tryz.prog T0 := mkEnt 39 [(false, [.any]), (false, [.any]), (false, [.any])] zq4.sig (fun t => zq4.g N t.1 t.2.1 t.2.2) (fun t r h => zq4.good N t.1 t.2.1 t.2.2 r h)
/-! ### zq57 -/
abbrev zq57.R : Type := List ((List Int)) × Bool
abbrev zq57.sig : Sig := ⟨[(false, 1), (false, 1), (false, 1)], [], [.int .i64, .int .i64, .int .i64], [(false, 1), (false, 1)], [], [.sl true 59, .bool]⟩
def zq57.C : Cfg D0 := ⟨Tryz.prog, T0, 4503599912648647, 0, 60, 0, [(12, [0, 1, 2, 24], []), (126, [12], []), (252, [0, 1, 2, 8, 9, 10, 11, 12], [])], 3402659522609152, false, []⟩
def zq57.E (N : Nat) : List (Ent Tryz.prog T0) := [zq84.ent N, zq110.ent N]
def zq57.O (N : Nat) : Orc D0 zq57.R := orcOf (zq57.E N)
def zq57.K0 : Ex → St D0 → Option zq57.R := exitK zq57.C Tryz.f40.results.toList [(false, [.own 59]), (false, [.any])] (decOut zq57.sig)
def zq57.c1 : Code := codeAt (Tryz.f40.body.getD .skip) []
def zq57.c2 : Code := codeAt (Tryz.f40.body.getD .skip) [false]
def zq57.c7 : Code := codeAt (Tryz.f40.body.getD .skip) [true, true]
def zq57.c12 : Code := codeAt (Tryz.f40.body.getD .skip) [true, false, false]
def zq57.c13 : Code := codeAt (Tryz.f40.body.getD .skip) [true, false, true]
def zq57.c14 : Code := codeAt (Tryz.f40.body.getD .skip) [true, true, false]
def zq57.c30 : Code := codeAt (Tryz.f40.body.getD .skip) [true, true, true, false]
def zq57.c62 : Code := codeAt (Tryz.f40.body.getD .skip) [true, true, true, true, false]
def zq57.c127 : Code := codeAt (Tryz.f40.body.getD .skip) [true, true, true, true, true, true]
def zq57.c504 : Code := codeAt (Tryz.f40.body.getD .skip) [true, true, true, true, true, false, false, false]
def zq57.K127 (N : Nat) : Ex → St D0 → Option zq57.R := zq57.K0
def zq57.o3 (N : Nat) (v0 : List ((List Int))) : Option zq57.R :=
 some (v0, true)
theorem zq57.o3.run (N : Nat) (v0 : List ((List Int))) : runC zq57.C (zq57.O N) N zq57.c127 127 (mkSt [(12, .one (.sl true 59 v0))] [] : St D0) zq57.K0 = zq57.o3 N v0 := by kernel_rfl
def zq57.d3 (N : Nat) (v0 : List ((List Int))) : Option zq57.R := zq57.o3 N v0
theorem zq57.d3.run (N : Nat) (v0 : List ((List Int))) : runC zq57.C (zq57.O N) N zq57.c127 127 (mkSt [(12, .one (.sl true 59 v0))] [] : St D0) (zq57.K127 N) = zq57.d3 N v0 := by
  exact (zq57.o3.run N v0).trans rfl
def zq57.B63 (N : Nat) : St D0 → Option zq57.R := fun s' => runC zq57.C (zq57.O N) N zq57.c127 127 s' (zq57.K127 N)
def zq57.K504 (N : Nat) (Kn252 : St D0 → Option zq57.R) : Ex → St D0 → Option zq57.R := ((fun up => (onN (fun s => zq57.C.tidy 252 s ((onN Kn252 up) .normal)) (onN Kn252 up))) (blockK 0 (onN (fun s => zq57.C.tidy 126 s (zq57.B63 N)) zq57.K0)))
def zq57.o2 (N : Nat) (v0 : Int) (v1 : Int) (v2 : Int) (v3 : Int) (v4 : Int) (v5 : Int) (v6 : Int) (v7 : List ((List Int))) (c3 : (List ((List Int))) → Option zq57.R) (c2 : Int → Int → Int → Int → Int → Int → Int → (List ((List Int))) → Option zq57.R) : Option zq57.R :=
 bif (decide (v0 > 0)) then
  bif (v0 == 0) then
   none
  else
  bif (v0 == 0) then
   none
  else
  bif (decide ((w64 ((w64 ((w64 (Int.tdiv v1 v0)) * v6)) + v4)) > v2)) then
   c3 v7
  else
  bif (Nat.blt (v7.length + ([([(w64 ((w64 ((w64 (Int.tdiv v1 v0)) * v5)) + v3)), (w64 ((w64 ((w64 (Int.tdiv v1 v0)) * v6)) + v4))] : List Int)] : List (List Int)).length) 5864062014805) then
   c2 (Int.tmod v1 v0) v0 v2 v5 v6 (w64 ((w64 ((w64 (Int.tdiv v1 v0)) * v5)) + v3)) (w64 ((w64 ((w64 (Int.tdiv v1 v0)) * v6)) + v4)) (v7 ++ ([([(w64 ((w64 ((w64 (Int.tdiv v1 v0)) * v5)) + v3)), (w64 ((w64 ((w64 (Int.tdiv v1 v0)) * v6)) + v4))] : List Int)] : List (List Int)))
  else
  none
 else
 c3 v7
theorem zq57.o2.run (N : Nat) (Kb63 : St D0 → Option zq57.R) (Kn252 : St D0 → Option zq57.R) (v0 : Int) (v1 : Int) (v2 : Int) (v3 : Int) (v4 : Int) (v5 : Int) (v6 : Int) (v7 : List ((List Int))) : runC zq57.C (zq57.O N) N zq57.c504 504 (mkSt [(0, .one (.int .i64 v0)), (1, .one (.int .i64 v1)), (2, .one (.int .i64 v2)), (8, .one (.int .i64 v3)), (9, .one (.int .i64 v4)), (10, .one (.int .i64 v5)), (11, .one (.int .i64 v6)), (12, .one (.sl true 59 v7))] [] : St D0) (onN (fun s => zq57.C.tidy 252 s ((onN Kn252 (blockK 0 (onN (fun s => zq57.C.tidy 126 s Kb63) zq57.K0))) .normal)) (onN Kn252 (blockK 0 (onN (fun s => zq57.C.tidy 126 s Kb63) zq57.K0)))) = zq57.o2 N v0 v1 v2 v3 v4 v5 v6 v7 ((fun w0 => Kb63 (mkSt [(12, .one (.sl true 59 w0))] [] : St D0))) ((fun w0 w1 w2 w3 w4 w5 w6 w7 => Kn252 (mkSt [(0, .one (.int .i64 w0)), (1, .one (.int .i64 w1)), (2, .one (.int .i64 w2)), (8, .one (.int .i64 w3)), (9, .one (.int .i64 w4)), (10, .one (.int .i64 w5)), (11, .one (.int .i64 w6)), (12, .one (.sl true 59 w7))] [] : St D0))) := by kernel_rfl
def zq57.d2 (N : Nat) (v0 : Int) (v1 : Int) (v2 : Int) (v3 : Int) (v4 : Int) (v5 : Int) (v6 : Int) (v7 : List ((List Int))) (c2 : Int → Int → Int → Int → Int → Int → Int → (List ((List Int))) → Option zq57.R) : Option zq57.R := zq57.o2 N v0 v1 v2 v3 v4 v5 v6 v7 ((fun w0 => zq57.d3 N w0)) c2
theorem zq57.d2.run (N : Nat) (Kn252 : St D0 → Option zq57.R) (v0 : Int) (v1 : Int) (v2 : Int) (v3 : Int) (v4 : Int) (v5 : Int) (v6 : Int) (v7 : List ((List Int))) : runC zq57.C (zq57.O N) N zq57.c504 504 (mkSt [(0, .one (.int .i64 v0)), (1, .one (.int .i64 v1)), (2, .one (.int .i64 v2)), (8, .one (.int .i64 v3)), (9, .one (.int .i64 v4)), (10, .one (.int .i64 v5)), (11, .one (.int .i64 v6)), (12, .one (.sl true 59 v7))] [] : St D0) (zq57.K504 N Kn252) = zq57.d2 N v0 v1 v2 v3 v4 v5 v6 v7 ((fun w0 w1 w2 w3 w4 w5 w6 w7 => Kn252 (mkSt [(0, .one (.int .i64 w0)), (1, .one (.int .i64 w1)), (2, .one (.int .i64 w2)), (8, .one (.int .i64 w3)), (9, .one (.int .i64 w4)), (10, .one (.int .i64 w5)), (11, .one (.int .i64 w6)), (12, .one (.sl true 59 w7))] [] : St D0))) := by
  unfold zq57.d2; exact (zq57.o2.run N (zq57.B63 N) Kn252 v0 v1 v2 v3 v4 v5 v6 v7).trans (congr (congr rfl (funext fun w0 => zq57.d3.run N w0)) rfl)
def zq57.K252 (N : Nat) : Ex → St D0 → Option zq57.R := (blockK 0 (onN (fun s => zq57.C.tidy 126 s (zq57.B63 N)) zq57.K0))
def zq57.l2 (N : Nat) : Nat → Int → Int → Int → Int → Int → Int → Int → (List ((List Int))) → Option zq57.R
  | 0, _, _, _, _, _, _, _, _ => none
  | n + 1, v0, v1, v2, v3, v4, v5, v6, v7 => zq57.d2 N v0 v1 v2 v3 v4 v5 v6 v7 ((fun w0 w1 w2 w3 w4 w5 w6 w7 => zq57.l2 N n w0 w1 w2 w3 w4 w5 w6 w7))
theorem zq57.loop252 (N : Nat) : ∀ n, (∀ (v0 : Int) (v1 : Int) (v2 : Int) (v3 : Int) (v4 : Int) (v5 : Int) (v6 : Int) (v7 : List ((List Int))), iter (loopF zq57.C (zq57.O N) N zq57.c504 252) n (mkSt [(0, .one (.int .i64 v0)), (1, .one (.int .i64 v1)), (2, .one (.int .i64 v2)), (8, .one (.int .i64 v3)), (9, .one (.int .i64 v4)), (10, .one (.int .i64 v5)), (11, .one (.int .i64 v6)), (12, .one (.sl true 59 v7))] [] : St D0) (zq57.K252 N) = zq57.l2 N n v0 v1 v2 v3 v4 v5 v6 v7)
  | 0 => (fun v0 v1 v2 v3 v4 v5 v6 v7 => rfl)
  | n + 1 => (fun v0 v1 v2 v3 v4 v5 v6 v7 => (zq57.d2.run N (fun s => iter (loopF zq57.C (zq57.O N) N zq57.c504 252) n s (zq57.K252 N)) v0 v1 v2 v3 v4 v5 v6 v7).trans (show _ = zq57.d2 N v0 v1 v2 v3 v4 v5 v6 v7 ((fun w0 w1 w2 w3 w4 w5 w6 w7 => zq57.l2 N n w0 w1 w2 w3 w4 w5 w6 w7)) from (congr rfl (funext fun w0 => funext fun w1 => funext fun w2 => funext fun w3 => funext fun w4 => funext fun w5 => funext fun w6 => funext fun w7 => (zq57.loop252 N n) w0 w1 w2 w3 w4 w5 w6 w7))))
def zq57.K13 (N : Nat) : Ex → St D0 → Option zq57.R := (onN (fun s => zq57.C.tidy 6 s (fun s' => runC zq57.C (zq57.O N) N zq57.c7 7 s' zq57.K0)) zq57.K0)
def zq57.o1 (N : Nat) (v0 : Int) (v1 : Int) (v2 : Int) (v3 : Bool) (c2 : Int → Int → Int → Int → Int → Int → Int → (List ((List Int))) → Option zq57.R) : Option zq57.R :=
 bif v3 then
  some (([] : List (List Int)), false)
 else
 c2 v0 v1 v2 1 0 0 1 ([([0, 1] : List Int)] : List (List Int))
theorem zq57.o1.run (N : Nat) (H504 : Code) (v0 : Int) (v1 : Int) (v2 : Int) (v3 : Bool) : runC zq57.C (zq57.O N) N zq57.c13 13 (mkSt [(0, .one (.int .i64 v0)), (1, .one (.int .i64 v1)), (2, .one (.int .i64 v2)), (24, .one (.bool v3))] [] : St D0) (onN (fun s => zq57.C.tidy 6 s (fun s' => runC zq57.C (zq57.O N) N (.seq zq57.c14 (.seq zq57.c30 (.seq zq57.c62 (.seq (.block 0 (.loop H504)) zq57.c127)))) 7 s' zq57.K0)) zq57.K0) = zq57.o1 N v0 v1 v2 v3 ((fun w0 w1 w2 w3 w4 w5 w6 w7 => iter (loopF zq57.C (zq57.O N) N H504 252) N (mkSt [(0, .one (.int .i64 w0)), (1, .one (.int .i64 w1)), (2, .one (.int .i64 w2)), (8, .one (.int .i64 w3)), (9, .one (.int .i64 w4)), (10, .one (.int .i64 w5)), (11, .one (.int .i64 w6)), (12, .one (.sl true 59 w7))] [] : St D0) (blockK 0 (onN (fun s => zq57.C.tidy 126 s (fun s' => runC zq57.C (zq57.O N) N zq57.c127 127 s' zq57.K0)) zq57.K0)))) := by kernel_rfl
def zq57.d1 (N : Nat) (v0 : Int) (v1 : Int) (v2 : Int) (v3 : Bool) : Option zq57.R := zq57.o1 N v0 v1 v2 v3 ((fun w0 w1 w2 w3 w4 w5 w6 w7 => zq57.l2 N N w0 w1 w2 w3 w4 w5 w6 w7))
theorem zq57.d1.run (N : Nat) (v0 : Int) (v1 : Int) (v2 : Int) (v3 : Bool) : runC zq57.C (zq57.O N) N zq57.c13 13 (mkSt [(0, .one (.int .i64 v0)), (1, .one (.int .i64 v1)), (2, .one (.int .i64 v2)), (24, .one (.bool v3))] [] : St D0) (zq57.K13 N) = zq57.d1 N v0 v1 v2 v3 := by
  unfold zq57.d1; exact (zq57.o1.run N zq57.c504 v0 v1 v2 v3).trans (congr rfl (funext fun w0 => funext fun w1 => funext fun w2 => funext fun w3 => funext fun w4 => funext fun w5 => funext fun w6 => funext fun w7 => (zq57.loop252 N N) w0 w1 w2 w3 w4 w5 w6 w7))
def zq57.o0 (N : Nat) (a0 : Int) (a1 : Int) (a2 : Int) (c1 : Int → Int → Int → Bool → Option zq57.R) : Option zq57.R :=
 (zq84.g N a0 a1).bind fun r1 =>
 bif (!r1) then
  c1 a0 a1 a2 true
 else
 (zq110.g N a2 1 100000).bind fun r2 =>
 c1 a0 a1 a2 (!r2)
theorem zq57.o0.run (N : Nat) (H13 : Code) (a0 : Int) (a1 : Int) (a2 : Int) : runC zq57.C (zq57.O N) N (.seq zq57.c2 (.seq (.seq zq57.c12 H13) zq57.c7)) 1 (st0 [.one (.int .i64 a0), .one (.int .i64 a1), .one (.int .i64 a2)] [] : St D0) zq57.K0 = zq57.o0 N a0 a1 a2 ((fun w0 w1 w2 w3 => runC zq57.C (zq57.O N) N H13 13 (mkSt [(0, .one (.int .i64 w0)), (1, .one (.int .i64 w1)), (2, .one (.int .i64 w2)), (24, .one (.bool w3))] [] : St D0) (onN (fun s => zq57.C.tidy 6 s (fun s' => runC zq57.C (zq57.O N) N zq57.c7 7 s' zq57.K0)) zq57.K0))) := by kernel_rfl
def zq57.g (N : Nat) (a0 : Int) (a1 : Int) (a2 : Int) : Option zq57.R := zq57.o0 N a0 a1 a2 ((fun w0 w1 w2 w3 => zq57.d1 N w0 w1 w2 w3))
theorem zq57.c1_0 : zq57.c1 = (.seq zq57.c2 (.seq (.seq zq57.c12 zq57.c13) zq57.c7)) := by kernel_rfl
theorem zq57.g.run (N : Nat) (a0 : Int) (a1 : Int) (a2 : Int) : runC zq57.C (zq57.O N) N zq57.c1 1 (st0 [.one (.int .i64 a0), .one (.int .i64 a1), .one (.int .i64 a2)] [] : St D0) zq57.K0 = zq57.g N a0 a1 a2 := by
  rw [zq57.c1_0]; unfold zq57.g; exact (zq57.o0.run N zq57.c13 a0 a1 a2).trans (congr rfl (funext fun w0 => funext fun w1 => funext fun w2 => funext fun w3 => zq57.d1.run N w0 w1 w2 w3))
theorem zq57.good (N : Nat) (a0 : Int) (a1 : Int) (a2 : Int) (r : zq57.R) (h : zq57.g N a0 a1 a2 = some r) : Go.PM.Good Tryz.prog T0 40 [.one (.int .i64 a0), .one (.int .i64 a1), .one (.int .i64 a2)] [] (zq57.sig.ret r) (zq57.sig.bs r) :=
  good_fn tabOk0 mixed0 zq57.sig (zq57.E N) Tryz.func40 (by kernel_rfl) (by kernel_rfl) 4503599912648647 0 0 [(12, [0, 1, 2, 24], []), (126, [12], []), (252, [0, 1, 2, 8, 9, 10, 11, 12], [])] 3402659522609152 false [] [(false, [.own 59]), (false, [.any])] (by kernel_rfl) rfl rfl ((zq57.g.run N a0 a1 a2).trans h)
def zq57.ent (N : Nat) : Ent Tryz.prog T0 := mkEnt 40 [(false, [.any]), (false, [.any]), (false, [.any])] zq57.sig (fun t => zq57.g N t.1 t.2.1 t.2.2) (fun t r h => zq57.good N t.1 t.2.1 t.2.2 r h)
/-! ### zq14 -/
abbrev zq14.R : Type := List Int × Bool
abbrev zq14.sig : Sig := ⟨[(false, 1), (false, 1), (false, 1)], [], [.int .i64, .int .i64, .int .i64], [(false, 1), (false, 1)], [], [.sl true 3, .bool]⟩
def zq14.C : Cfg D0 := ⟨Tryz.prog, T0, 142607303, 0, 46, 0, [(12, [0, 1, 2, 23], []), (122, [0, 1, 2, 8, 9], [])], 1467101529088, false, []⟩
def zq14.E (N : Nat) : List (Ent Tryz.prog T0) := [zq46.ent N]
def zq14.O (N : Nat) : Orc D0 zq14.R := orcOf (zq14.E N)
def zq14.K0 : Ex → St D0 → Option zq14.R := exitK zq14.C Tryz.f42.results.toList [(false, [.own 3]), (false, [.any])] (decOut zq14.sig)
def zq14.c1 : Code := codeAt (Tryz.f42.body.getD .skip) []
def zq14.c2 : Code := codeAt (Tryz.f42.body.getD .skip) [false]
def zq14.c7 : Code := codeAt (Tryz.f42.body.getD .skip) [true, true]
def zq14.c12 : Code := codeAt (Tryz.f42.body.getD .skip) [true, false, false]
def zq14.c13 : Code := codeAt (Tryz.f42.body.getD .skip) [true, false, true]
def zq14.c14 : Code := codeAt (Tryz.f42.body.getD .skip) [true, true, false]
def zq14.c31 : Code := codeAt (Tryz.f42.body.getD .skip) [true, true, true, true]
def zq14.c60 : Code := codeAt (Tryz.f42.body.getD .skip) [true, true, true, false, false]
def zq14.c244 : Code := codeAt (Tryz.f42.body.getD .skip) [true, true, true, false, true, false, false]
def zq14.K244 (N : Nat) (Kn122 : St D0 → Option zq14.R) : Ex → St D0 → Option zq14.R := ((fun up => (onN (fun s => zq14.C.tidy 122 s ((onN Kn122 up) .normal)) (onN Kn122 up))) (blockK 0 (onN (fun s => zq14.C.tidy 30 s (fun s' => runC zq14.C (zq14.O N) N zq14.c31 31 s' zq14.K0)) zq14.K0)))
def zq14.o2 (N : Nat) (v0 : Int) (v1 : Int) (v2 : Int) (v3 : List Int) (v4 : Int) (c2 : Int → Int → Int → (List Int) → Int → Option zq14.R) : Option zq14.R :=
 bif (decide (v4 ≤ v2)) then
  bif (v1 == 0) then
   none
  else
  bif (v1 == 0) then
   none
  else
  bif (Nat.blt (v3.length + ([(w64 ((w64 (Int.tdiv (w64 (v4 * v0)) v1)) - (w64 (Int.tdiv (w64 ((w64 (v4 - 1)) * v0)) v1))))] : List Int).length) 17592186044416) then
   c2 v0 v1 v2 (v3 ++ ([(w64 ((w64 (Int.tdiv (w64 (v4 * v0)) v1)) - (w64 (Int.tdiv (w64 ((w64 (v4 - 1)) * v0)) v1))))] : List Int)) (w64 (v4 + 1))
  else
  none
 else
 some (v3, true)
theorem zq14.o2.run (N : Nat) (Kn122 : St D0 → Option zq14.R) (v0 : Int) (v1 : Int) (v2 : Int) (v3 : List Int) (v4 : Int) : runC zq14.C (zq14.O N) N zq14.c244 244 (mkSt [(0, .one (.int .i64 v0)), (1, .one (.int .i64 v1)), (2, .one (.int .i64 v2)), (8, .one (.sl true 3 v3)), (9, .one (.int .i64 v4))] [] : St D0) ((fun up => (onN (fun s => zq14.C.tidy 122 s ((onN Kn122 up) .normal)) (onN Kn122 up))) (blockK 0 (onN (fun s => zq14.C.tidy 30 s (fun s' => runC zq14.C (zq14.O N) N zq14.c31 31 s' zq14.K0)) zq14.K0))) = zq14.o2 N v0 v1 v2 v3 v4 ((fun w0 w1 w2 w3 w4 => Kn122 (mkSt [(0, .one (.int .i64 w0)), (1, .one (.int .i64 w1)), (2, .one (.int .i64 w2)), (8, .one (.sl true 3 w3)), (9, .one (.int .i64 w4))] [] : St D0))) := by kernel_rfl
def zq14.d2 (N : Nat) (v0 : Int) (v1 : Int) (v2 : Int) (v3 : List Int) (v4 : Int) (c2 : Int → Int → Int → (List Int) → Int → Option zq14.R) : Option zq14.R := zq14.o2 N v0 v1 v2 v3 v4 c2
theorem zq14.d2.run (N : Nat) (Kn122 : St D0 → Option zq14.R) (v0 : Int) (v1 : Int) (v2 : Int) (v3 : List Int) (v4 : Int) : runC zq14.C (zq14.O N) N zq14.c244 244 (mkSt [(0, .one (.int .i64 v0)), (1, .one (.int .i64 v1)), (2, .one (.int .i64 v2)), (8, .one (.sl true 3 v3)), (9, .one (.int .i64 v4))] [] : St D0) (zq14.K244 N Kn122) = zq14.d2 N v0 v1 v2 v3 v4 ((fun w0 w1 w2 w3 w4 => Kn122 (mkSt [(0, .one (.int .i64 w0)), (1, .one (.int .i64 w1)), (2, .one (.int .i64 w2)), (8, .one (.sl true 3 w3)), (9, .one (.int .i64 w4))] [] : St D0))) := by
  exact (zq14.o2.run N Kn122 v0 v1 v2 v3 v4).trans rfl
def zq14.K122 (N : Nat) : Ex → St D0 → Option zq14.R := (blockK 0 (onN (fun s => zq14.C.tidy 30 s (fun s' => runC zq14.C (zq14.O N) N zq14.c31 31 s' zq14.K0)) zq14.K0))
def zq14.l2 (N : Nat) : Nat → Int → Int → Int → (List Int) → Int → Option zq14.R
  | 0, _, _, _, _, _ => none
  | n + 1, v0, v1, v2, v3, v4 => zq14.d2 N v0 v1 v2 v3 v4 ((fun w0 w1 w2 w3 w4 => zq14.l2 N n w0 w1 w2 w3 w4))
theorem zq14.loop122 (N : Nat) : ∀ n, (∀ (v0 : Int) (v1 : Int) (v2 : Int) (v3 : List Int) (v4 : Int), iter (loopF zq14.C (zq14.O N) N zq14.c244 122) n (mkSt [(0, .one (.int .i64 v0)), (1, .one (.int .i64 v1)), (2, .one (.int .i64 v2)), (8, .one (.sl true 3 v3)), (9, .one (.int .i64 v4))] [] : St D0) (zq14.K122 N) = zq14.l2 N n v0 v1 v2 v3 v4)
  | 0 => (fun v0 v1 v2 v3 v4 => rfl)
  | n + 1 => (fun v0 v1 v2 v3 v4 => (zq14.d2.run N (fun s => iter (loopF zq14.C (zq14.O N) N zq14.c244 122) n s (zq14.K122 N)) v0 v1 v2 v3 v4).trans (show _ = zq14.d2 N v0 v1 v2 v3 v4 ((fun w0 w1 w2 w3 w4 => zq14.l2 N n w0 w1 w2 w3 w4)) from (congr rfl (funext fun w0 => funext fun w1 => funext fun w2 => funext fun w3 => funext fun w4 => (zq14.loop122 N n) w0 w1 w2 w3 w4))))
def zq14.K13 (N : Nat) : Ex → St D0 → Option zq14.R := (onN (fun s => zq14.C.tidy 6 s (fun s' => runC zq14.C (zq14.O N) N zq14.c7 7 s' zq14.K0)) zq14.K0)
def zq14.o1 (N : Nat) (v0 : Int) (v1 : Int) (v2 : Int) (v3 : Bool) (c2 : Int → Int → Int → (List Int) → Int → Option zq14.R) : Option zq14.R :=
 bif v3 then
  some (([] : List Int), false)
 else
 c2 v0 v1 v2 ([] : List Int) 1
theorem zq14.o1.run (N : Nat) (H244 : Code) (v0 : Int) (v1 : Int) (v2 : Int) (v3 : Bool) : runC zq14.C (zq14.O N) N zq14.c13 13 (mkSt [(0, .one (.int .i64 v0)), (1, .one (.int .i64 v1)), (2, .one (.int .i64 v2)), (23, .one (.bool v3))] [] : St D0) (onN (fun s => zq14.C.tidy 6 s (fun s' => runC zq14.C (zq14.O N) N (.seq zq14.c14 (.seq (.seq zq14.c60 (.block 0 (.loop H244))) zq14.c31)) 7 s' zq14.K0)) zq14.K0) = zq14.o1 N v0 v1 v2 v3 ((fun w0 w1 w2 w3 w4 => iter (loopF zq14.C (zq14.O N) N H244 122) N (mkSt [(0, .one (.int .i64 w0)), (1, .one (.int .i64 w1)), (2, .one (.int .i64 w2)), (8, .one (.sl true 3 w3)), (9, .one (.int .i64 w4))] [] : St D0) (blockK 0 (onN (fun s => zq14.C.tidy 30 s (fun s' => runC zq14.C (zq14.O N) N zq14.c31 31 s' zq14.K0)) zq14.K0)))) := by kernel_rfl
def zq14.d1 (N : Nat) (v0 : Int) (v1 : Int) (v2 : Int) (v3 : Bool) : Option zq14.R := zq14.o1 N v0 v1 v2 v3 ((fun w0 w1 w2 w3 w4 => zq14.l2 N N w0 w1 w2 w3 w4))
theorem zq14.d1.run (N : Nat) (v0 : Int) (v1 : Int) (v2 : Int) (v3 : Bool) : runC zq14.C (zq14.O N) N zq14.c13 13 (mkSt [(0, .one (.int .i64 v0)), (1, .one (.int .i64 v1)), (2, .one (.int .i64 v2)), (23, .one (.bool v3))] [] : St D0) (zq14.K13 N) = zq14.d1 N v0 v1 v2 v3 := by
  unfold zq14.d1; exact (zq14.o1.run N zq14.c244 v0 v1 v2 v3).trans (congr rfl (funext fun w0 => funext fun w1 => funext fun w2 => funext fun w3 => funext fun w4 => (zq14.loop122 N N) w0 w1 w2 w3 w4))
def zq14.o0 (N : Nat) (a0 : Int) (a1 : Int) (a2 : Int) (c1 : Int → Int → Int → Bool → Option zq14.R) : Option zq14.R :=
 (zq46.g N a0 1 1000000).bind fun r1 =>
 bif (!r1) then
  c1 a0 a1 a2 true
 else
 (zq46.g N a1 1 a0).bind fun r2 =>
 bif (!r2) then
  c1 a0 a1 a2 true
 else
 (zq46.g N a2 1 400).bind fun r3 =>
 c1 a0 a1 a2 (!r3)
theorem zq14.o0.run (N : Nat) (H13 : Code) (a0 : Int) (a1 : Int) (a2 : Int) : runC zq14.C (zq14.O N) N (.seq zq14.c2 (.seq (.seq zq14.c12 H13) zq14.c7)) 1 (st0 [.one (.int .i64 a0), .one (.int .i64 a1), .one (.int .i64 a2)] [] : St D0) zq14.K0 = zq14.o0 N a0 a1 a2 ((fun w0 w1 w2 w3 => runC zq14.C (zq14.O N) N H13 13 (mkSt [(0, .one (.int .i64 w0)), (1, .one (.int .i64 w1)), (2, .one (.int .i64 w2)), (23, .one (.bool w3))] [] : St D0) (onN (fun s => zq14.C.tidy 6 s (fun s' => runC zq14.C (zq14.O N) N zq14.c7 7 s' zq14.K0)) zq14.K0))) := by kernel_rfl
def zq14.g (N : Nat) (a0 : Int) (a1 : Int) (a2 : Int) : Option zq14.R := zq14.o0 N a0 a1 a2 ((fun w0 w1 w2 w3 => zq14.d1 N w0 w1 w2 w3))
theorem zq14.c1_0 : zq14.c1 = (.seq zq14.c2 (.seq (.seq zq14.c12 zq14.c13) zq14.c7)) := by kernel_rfl
theorem zq14.g.run (N : Nat) (a0 : Int) (a1 : Int) (a2 : Int) : runC zq14.C (zq14.O N) N zq14.c1 1 (st0 [.one (.int .i64 a0), .one (.int .i64 a1), .one (.int .i64 a2)] [] : St D0) zq14.K0 = zq14.g N a0 a1 a2 := by
  rw [zq14.c1_0]; unfold zq14.g; exact (zq14.o0.run N zq14.c13 a0 a1 a2).trans (congr rfl (funext fun w0 => funext fun w1 => funext fun w2 => funext fun w3 => zq14.d1.run N w0 w1 w2 w3))
theorem zq14.good (N : Nat) (a0 : Int) (a1 : Int) (a2 : Int) (r : zq14.R) (h : zq14.g N a0 a1 a2 = some r) : Go.PM.Good Tryz.prog T0 42 [.one (.int .i64 a0), .one (.int .i64 a1), .one (.int .i64 a2)] [] (zq14.sig.ret r) (zq14.sig.bs r) :=
  good_fn tabOk0 mixed0 zq14.sig (zq14.E N) Tryz.func42 (by kernel_rfl) (by kernel_rfl) 142607303 0 0 [(12, [0, 1, 2, 23], []), (122, [0, 1, 2, 8, 9], [])] 1467101529088 false [] [(false, [.own 3]), (false, [.any])] (by kernel_rfl) rfl rfl ((zq14.g.run N a0 a1 a2).trans h)
def zq14.ent (N : Nat) : Ent Tryz.prog T0 := mkEnt 42 [(false, [.any]), (false, [.any]), (false, [.any])] zq14.sig (fun t => zq14.g N t.1 t.2.1 t.2.2) (fun t r h => zq14.good N t.1 t.2.1 t.2.2 r h)
/-! ### zq70 -/
abbrev zq70.R : Type := List Int × Bool
abbrev zq70.sig : Sig := ⟨[(false, 1), (false, 1), (false, 1)], [], [.int .i64, .int .i64, .int .i64], [(false, 1), (false, 1)], [], [.sl true 3, .bool]⟩
def zq70.C : Cfg D0 := ⟨Tryz.prog, T0, 75498439, 0, 45, 0, [(12, [0, 1, 2, 23], []), (122, [0, 1, 2, 8, 9], [])], 733551313920, false, []⟩
def zq70.E (N : Nat) : List (Ent Tryz.prog T0) := [zq110.ent N]
def zq70.O (N : Nat) : Orc D0 zq70.R := orcOf (zq70.E N)
def zq70.K0 : Ex → St D0 → Option zq70.R := exitK zq70.C Tryz.f43.results.toList [(false, [.own 3]), (false, [.any])] (decOut zq70.sig)
def zq70.c1 : Code := codeAt (Tryz.f43.body.getD .skip) []
def zq70.c2 : Code := codeAt (Tryz.f43.body.getD .skip) [false]
def zq70.c7 : Code := codeAt (Tryz.f43.body.getD .skip) [true, true]
def zq70.c12 : Code := codeAt (Tryz.f43.body.getD .skip) [true, false, false]
def zq70.c13 : Code := codeAt (Tryz.f43.body.getD .skip) [true, false, true]
def zq70.c14 : Code := codeAt (Tryz.f43.body.getD .skip) [true, true, false]
def zq70.c31 : Code := codeAt (Tryz.f43.body.getD .skip) [true, true, true, true]
def zq70.c60 : Code := codeAt (Tryz.f43.body.getD .skip) [true, true, true, false, false]
def zq70.c244 : Code := codeAt (Tryz.f43.body.getD .skip) [true, true, true, false, true, false, false]
def zq70.K244 (N : Nat) (Kn122 : St D0 → Option zq70.R) : Ex → St D0 → Option zq70.R := ((fun up => (onN (fun s => zq70.C.tidy 122 s ((onN Kn122 up) .normal)) (onN Kn122 up))) (blockK 0 (onN (fun s => zq70.C.tidy 30 s (fun s' => runC zq70.C (zq70.O N) N zq70.c31 31 s' zq70.K0)) zq70.K0)))
def zq70.o2 (N : Nat) (v0 : Int) (v1 : Int) (v2 : Int) (v3 : Int) (c3 : Int → Int → Int → (List Int) → Int → Option zq70.R) : Option zq70.R :=
 bif (decide (v3 ≤ v2)) then
  bif (v1 == 0) then
   none
  else
  bif (v1 == 0) then
   none
  else
  bif (Nat.blt (([] : List Int).length + ([(w64 ((w64 (Int.tdiv (w64 (v3 * v0)) v1)) - (w64 (Int.tdiv (w64 ((w64 (v3 - 1)) * v0)) v1))))] : List Int).length) 17592186044416) then
   c3 v0 v1 v2 (([] : List Int) ++ ([(w64 ((w64 (Int.tdiv (w64 (v3 * v0)) v1)) - (w64 (Int.tdiv (w64 ((w64 (v3 - 1)) * v0)) v1))))] : List Int)) (w64 (v3 + 1))
  else
  none
 else
 some (([] : List Int), true)
theorem zq70.o2.run (N : Nat) (Kn122 : St D0 → Option zq70.R) (v0 : Int) (v1 : Int) (v2 : Int) (v3 : Int) : runC zq70.C (zq70.O N) N zq70.c244 244 (mkSt [(0, .one (.int .i64 v0)), (1, .one (.int .i64 v1)), (2, .one (.int .i64 v2)), (8, .one (.nl)), (9, .one (.int .i64 v3))] [] : St D0) ((fun up => (onN (fun s => zq70.C.tidy 122 s ((onN Kn122 up) .normal)) (onN Kn122 up))) (blockK 0 (onN (fun s => zq70.C.tidy 30 s (fun s' => runC zq70.C (zq70.O N) N zq70.c31 31 s' zq70.K0)) zq70.K0))) = zq70.o2 N v0 v1 v2 v3 ((fun w0 w1 w2 w3 w4 => Kn122 (mkSt [(0, .one (.int .i64 w0)), (1, .one (.int .i64 w1)), (2, .one (.int .i64 w2)), (8, .one (.sl true 3 w3)), (9, .one (.int .i64 w4))] [] : St D0))) := by kernel_rfl
def zq70.d2 (N : Nat) (v0 : Int) (v1 : Int) (v2 : Int) (v3 : Int) (c3 : Int → Int → Int → (List Int) → Int → Option zq70.R) : Option zq70.R := zq70.o2 N v0 v1 v2 v3 c3
theorem zq70.d2.run (N : Nat) (Kn122 : St D0 → Option zq70.R) (v0 : Int) (v1 : Int) (v2 : Int) (v3 : Int) : runC zq70.C (zq70.O N) N zq70.c244 244 (mkSt [(0, .one (.int .i64 v0)), (1, .one (.int .i64 v1)), (2, .one (.int .i64 v2)), (8, .one (.nl)), (9, .one (.int .i64 v3))] [] : St D0) (zq70.K244 N Kn122) = zq70.d2 N v0 v1 v2 v3 ((fun w0 w1 w2 w3 w4 => Kn122 (mkSt [(0, .one (.int .i64 w0)), (1, .one (.int .i64 w1)), (2, .one (.int .i64 w2)), (8, .one (.sl true 3 w3)), (9, .one (.int .i64 w4))] [] : St D0))) := by
  exact (zq70.o2.run N Kn122 v0 v1 v2 v3).trans rfl
def zq70.o3 (N : Nat) (v0 : Int) (v1 : Int) (v2 : Int) (v3 : List Int) (v4 : Int) (c3 : Int → Int → Int → (List Int) → Int → Option zq70.R) : Option zq70.R :=
 bif (decide (v4 ≤ v2)) then
  bif (v1 == 0) then
   none
  else
  bif (v1 == 0) then
   none
  else
  bif (Nat.blt (v3.length + ([(w64 ((w64 (Int.tdiv (w64 (v4 * v0)) v1)) - (w64 (Int.tdiv (w64 ((w64 (v4 - 1)) * v0)) v1))))] : List Int).length) 17592186044416) then
   c3 v0 v1 v2 (v3 ++ ([(w64 ((w64 (Int.tdiv (w64 (v4 * v0)) v1)) - (w64 (Int.tdiv (w64 ((w64 (v4 - 1)) * v0)) v1))))] : List Int)) (w64 (v4 + 1))
  else
  none
 else
 some (v3, true)
theorem zq70.o3.run (N : Nat) (Kn122 : St D0 → Option zq70.R) (v0 : Int) (v1 : Int) (v2 : Int) (v3 : List Int) (v4 : Int) : runC zq70.C (zq70.O N) N zq70.c244 244 (mkSt [(0, .one (.int .i64 v0)), (1, .one (.int .i64 v1)), (2, .one (.int .i64 v2)), (8, .one (.sl true 3 v3)), (9, .one (.int .i64 v4))] [] : St D0) ((fun up => (onN (fun s => zq70.C.tidy 122 s ((onN Kn122 up) .normal)) (onN Kn122 up))) (blockK 0 (onN (fun s => zq70.C.tidy 30 s (fun s' => runC zq70.C (zq70.O N) N zq70.c31 31 s' zq70.K0)) zq70.K0))) = zq70.o3 N v0 v1 v2 v3 v4 ((fun w0 w1 w2 w3 w4 => Kn122 (mkSt [(0, .one (.int .i64 w0)), (1, .one (.int .i64 w1)), (2, .one (.int .i64 w2)), (8, .one (.sl true 3 w3)), (9, .one (.int .i64 w4))] [] : St D0))) := by kernel_rfl
def zq70.d3 (N : Nat) (v0 : Int) (v1 : Int) (v2 : Int) (v3 : List Int) (v4 : Int) (c3 : Int → Int → Int → (List Int) → Int → Option zq70.R) : Option zq70.R := zq70.o3 N v0 v1 v2 v3 v4 c3
theorem zq70.d3.run (N : Nat) (Kn122 : St D0 → Option zq70.R) (v0 : Int) (v1 : Int) (v2 : Int) (v3 : List Int) (v4 : Int) : runC zq70.C (zq70.O N) N zq70.c244 244 (mkSt [(0, .one (.int .i64 v0)), (1, .one (.int .i64 v1)), (2, .one (.int .i64 v2)), (8, .one (.sl true 3 v3)), (9, .one (.int .i64 v4))] [] : St D0) (zq70.K244 N Kn122) = zq70.d3 N v0 v1 v2 v3 v4 ((fun w0 w1 w2 w3 w4 => Kn122 (mkSt [(0, .one (.int .i64 w0)), (1, .one (.int .i64 w1)), (2, .one (.int .i64 w2)), (8, .one (.sl true 3 w3)), (9, .one (.int .i64 w4))] [] : St D0))) := by
  exact (zq70.o3.run N Kn122 v0 v1 v2 v3 v4).trans rfl
def zq70.K122 (N : Nat) : Ex → St D0 → Option zq70.R := (blockK 0 (onN (fun s => zq70.C.tidy 30 s (fun s' => runC zq70.C (zq70.O N) N zq70.c31 31 s' zq70.K0)) zq70.K0))
mutual
def zq70.l2 (N : Nat) : Nat → Int → Int → Int → Int → Option zq70.R
  | 0, _, _, _, _ => none
  | n + 1, v0, v1, v2, v3 => zq70.d2 N v0 v1 v2 v3 ((fun w0 w1 w2 w3 w4 => zq70.l3 N n w0 w1 w2 w3 w4))
def zq70.l3 (N : Nat) : Nat → Int → Int → Int → (List Int) → Int → Option zq70.R
  | 0, _, _, _, _, _ => none
  | n + 1, v0, v1, v2, v3, v4 => zq70.d3 N v0 v1 v2 v3 v4 ((fun w0 w1 w2 w3 w4 => zq70.l3 N n w0 w1 w2 w3 w4))
end
theorem zq70.loop122 (N : Nat) : ∀ n, (∀ (v0 : Int) (v1 : Int) (v2 : Int) (v3 : Int), iter (loopF zq70.C (zq70.O N) N zq70.c244 122) n (mkSt [(0, .one (.int .i64 v0)), (1, .one (.int .i64 v1)), (2, .one (.int .i64 v2)), (8, .one (.nl)), (9, .one (.int .i64 v3))] [] : St D0) (zq70.K122 N) = zq70.l2 N n v0 v1 v2 v3) ∧ (∀ (v0 : Int) (v1 : Int) (v2 : Int) (v3 : List Int) (v4 : Int), iter (loopF zq70.C (zq70.O N) N zq70.c244 122) n (mkSt [(0, .one (.int .i64 v0)), (1, .one (.int .i64 v1)), (2, .one (.int .i64 v2)), (8, .one (.sl true 3 v3)), (9, .one (.int .i64 v4))] [] : St D0) (zq70.K122 N) = zq70.l3 N n v0 v1 v2 v3 v4)
  | 0 => ⟨(fun v0 v1 v2 v3 => rfl), (fun v0 v1 v2 v3 v4 => rfl)⟩
  | n + 1 => ⟨(fun v0 v1 v2 v3 => (zq70.d2.run N (fun s => iter (loopF zq70.C (zq70.O N) N zq70.c244 122) n s (zq70.K122 N)) v0 v1 v2 v3).trans (show _ = zq70.d2 N v0 v1 v2 v3 ((fun w0 w1 w2 w3 w4 => zq70.l3 N n w0 w1 w2 w3 w4)) from (congr rfl (funext fun w0 => funext fun w1 => funext fun w2 => funext fun w3 => funext fun w4 => (zq70.loop122 N n).2 w0 w1 w2 w3 w4)))), (fun v0 v1 v2 v3 v4 => (zq70.d3.run N (fun s => iter (loopF zq70.C (zq70.O N) N zq70.c244 122) n s (zq70.K122 N)) v0 v1 v2 v3 v4).trans (show _ = zq70.d3 N v0 v1 v2 v3 v4 ((fun w0 w1 w2 w3 w4 => zq70.l3 N n w0 w1 w2 w3 w4)) from (congr rfl (funext fun w0 => funext fun w1 => funext fun w2 => funext fun w3 => funext fun w4 => (zq70.loop122 N n).2 w0 w1 w2 w3 w4))))⟩
def zq70.K13 (N : Nat) : Ex → St D0 → Option zq70.R := (onN (fun s => zq70.C.tidy 6 s (fun s' => runC zq70.C (zq70.O N) N zq70.c7 7 s' zq70.K0)) zq70.K0)
def zq70.o1 (N : Nat) (v0 : Int) (v1 : Int) (v2 : Int) (v3 : Bool) (c2 : Int → Int → Int → Int → Option zq70.R) : Option zq70.R :=
 bif v3 then
  some (([] : List Int), false)
 else
 c2 v0 v1 v2 1
theorem zq70.o1.run (N : Nat) (H244 : Code) (v0 : Int) (v1 : Int) (v2 : Int) (v3 : Bool) : runC zq70.C (zq70.O N) N zq70.c13 13 (mkSt [(0, .one (.int .i64 v0)), (1, .one (.int .i64 v1)), (2, .one (.int .i64 v2)), (23, .one (.bool v3))] [] : St D0) (onN (fun s => zq70.C.tidy 6 s (fun s' => runC zq70.C (zq70.O N) N (.seq zq70.c14 (.seq (.seq zq70.c60 (.block 0 (.loop H244))) zq70.c31)) 7 s' zq70.K0)) zq70.K0) = zq70.o1 N v0 v1 v2 v3 ((fun w0 w1 w2 w3 => iter (loopF zq70.C (zq70.O N) N H244 122) N (mkSt [(0, .one (.int .i64 w0)), (1, .one (.int .i64 w1)), (2, .one (.int .i64 w2)), (8, .one (.nl)), (9, .one (.int .i64 w3))] [] : St D0) (blockK 0 (onN (fun s => zq70.C.tidy 30 s (fun s' => runC zq70.C (zq70.O N) N zq70.c31 31 s' zq70.K0)) zq70.K0)))) := by kernel_rfl
def zq70.d1 (N : Nat) (v0 : Int) (v1 : Int) (v2 : Int) (v3 : Bool) : Option zq70.R := zq70.o1 N v0 v1 v2 v3 ((fun w0 w1 w2 w3 => zq70.l2 N N w0 w1 w2 w3))
theorem zq70.d1.run (N : Nat) (v0 : Int) (v1 : Int) (v2 : Int) (v3 : Bool) : runC zq70.C (zq70.O N) N zq70.c13 13 (mkSt [(0, .one (.int .i64 v0)), (1, .one (.int .i64 v1)), (2, .one (.int .i64 v2)), (23, .one (.bool v3))] [] : St D0) (zq70.K13 N) = zq70.d1 N v0 v1 v2 v3 := by
  unfold zq70.d1; exact (zq70.o1.run N zq70.c244 v0 v1 v2 v3).trans (congr rfl (funext fun w0 => funext fun w1 => funext fun w2 => funext fun w3 => (zq70.loop122 N N).1 w0 w1 w2 w3))
def zq70.o0 (N : Nat) (a0 : Int) (a1 : Int) (a2 : Int) (c1 : Int → Int → Int → Bool → Option zq70.R) : Option zq70.R :=
 (zq110.g N a0 1 1000000).bind fun r1 =>
 bif (!r1) then
  c1 a0 a1 a2 true
 else
 (zq110.g N a1 1 a0).bind fun r2 =>
 bif (!r2) then
  c1 a0 a1 a2 true
 else
 (zq110.g N a2 1 400).bind fun r3 =>
 c1 a0 a1 a2 (!r3)
theorem zq70.o0.run (N : Nat) (H13 : Code) (a0 : Int) (a1 : Int) (a2 : Int) : runC zq70.C (zq70.O N) N (.seq zq70.c2 (.seq (.seq zq70.c12 H13) zq70.c7)) 1 (st0 [.one (.int .i64 a0), .one (.int .i64 a1), .one (.int .i64 a2)] [] : St D0) zq70.K0 = zq70.o0 N a0 a1 a2 ((fun w0 w1 w2 w3 => runC zq70.C (zq70.O N) N H13 13 (mkSt [(0, .one (.int .i64 w0)), (1, .one (.int .i64 w1)), (2, .one (.int .i64 w2)), (23, .one (.bool w3))] [] : St D0) (onN (fun s => zq70.C.tidy 6 s (fun s' => runC zq70.C (zq70.O N) N zq70.c7 7 s' zq70.K0)) zq70.K0))) := by kernel_rfl
def zq70.g (N : Nat) (a0 : Int) (a1 : Int) (a2 : Int) : Option zq70.R := zq70.o0 N a0 a1 a2 ((fun w0 w1 w2 w3 => zq70.d1 N w0 w1 w2 w3))
theorem zq70.c1_0 : zq70.c1 = (.seq zq70.c2 (.seq (.seq zq70.c12 zq70.c13) zq70.c7)) := by kernel_rfl
theorem zq70.g.run (N : Nat) (a0 : Int) (a1 : Int) (a2 : Int) : runC zq70.C (zq70.O N) N zq70.c1 1 (st0 [.one (.int .i64 a0), .one (.int .i64 a1), .one (.int .i64 a2)] [] : St D0) zq70.K0 = zq70.g N a0 a1 a2 := by
  rw [zq70.c1_0]; unfold zq70.g; exact (zq70.o0.run N zq70.c13 a0 a1 a2).trans (congr rfl (funext fun w0 => funext fun w1 => funext fun w2 => funext fun w3 => zq70.d1.run N w0 w1 w2 w3))
theorem zq70.good (N : Nat) (a0 : Int) (a1 : Int) (a2 : Int) (r : zq70.R) (h : zq70.g N a0 a1 a2 = some r) : Go.PM.Good Tryz.prog T0 43 [.one (.int .i64 a0), .one (.int .i64 a1), .one (.int .i64 a2)] [] (zq70.sig.ret r) (zq70.sig.bs r) :=
  good_fn tabOk0 mixed0 zq70.sig (zq70.E N) Tryz.func43 (by kernel_rfl) (by kernel_rfl) 75498439 0 0 [(12, [0, 1, 2, 23], []), (122, [0, 1, 2, 8, 9], [])] 733551313920 false [] [(false, [.own 3]), (false, [.any])] (by kernel_rfl) rfl rfl ((zq70.g.run N a0 a1 a2).trans h)
def zq70.ent (N : Nat) : Ent Tryz.prog T0 := mkEnt 43 [(false, [.any]), (false, [.any]), (false, [.any])] zq70.sig (fun t => zq70.g N t.1 t.2.1 t.2.2) (fun t r h => zq70.good N t.1 t.2.1 t.2.2 r h)
/-! ### zq20 -/
abbrev zq20.R : Type := List Bool × Bool
abbrev zq20.sig : Sig := ⟨[(false, 1), (false, 1)], [], [.int .i64, .int .i64], [(false, 1), (false, 1)], [], [.sl true 4, .bool]⟩
def zq20.C : Cfg D0 := ⟨Tryz.prog, T0, 1114355, 0, 39, 0, [(12, [0, 1, 16], []), (122, [0, 1, 6, 7], [])], 11461734656, false, []⟩
def zq20.E (N : Nat) : List (Ent Tryz.prog T0) := [zq46.ent N]
def zq20.O (N : Nat) : Orc D0 zq20.R := orcOf (zq20.E N)
def zq20.K0 : Ex → St D0 → Option zq20.R := exitK zq20.C Tryz.f45.results.toList [(false, [.own 4]), (false, [.any])] (decOut zq20.sig)
def zq20.c1 : Code := codeAt (Tryz.f45.body.getD .skip) []
def zq20.c2 : Code := codeAt (Tryz.f45.body.getD .skip) [false]
def zq20.c7 : Code := codeAt (Tryz.f45.body.getD .skip) [true, true]
def zq20.c12 : Code := codeAt (Tryz.f45.body.getD .skip) [true, false, false]
def zq20.c13 : Code := codeAt (Tryz.f45.body.getD .skip) [true, false, true]
def zq20.c14 : Code := codeAt (Tryz.f45.body.getD .skip) [true, true, false]
def zq20.c31 : Code := codeAt (Tryz.f45.body.getD .skip) [true, true, true, true]
def zq20.c60 : Code := codeAt (Tryz.f45.body.getD .skip) [true, true, true, false, false]
def zq20.c244 : Code := codeAt (Tryz.f45.body.getD .skip) [true, true, true, false, true, false, false]
def zq20.K244 (N : Nat) (Kn122 : St D0 → Option zq20.R) : Ex → St D0 → Option zq20.R := ((fun up => (onN (fun s => zq20.C.tidy 122 s ((onN Kn122 up) .normal)) (onN Kn122 up))) (blockK 0 (onN (fun s => zq20.C.tidy 30 s (fun s' => runC zq20.C (zq20.O N) N zq20.c31 31 s' zq20.K0)) zq20.K0)))
def zq20.o2 (N : Nat) (v0 : Int) (v1 : Int) (v2 : List Bool) (v3 : Int) (c2 : Int → Int → (List Bool) → Int → Option zq20.R) : Option zq20.R :=
 bif (decide (v3 ≤ v1)) then
  bif (v1 == 0) then
   none
  else
  bif (v1 == 0) then
   none
  else
  bif (Nat.blt (v2.length + ([(decide ((w64 (Int.tdiv (w64 (v3 * v0)) v1)) > (w64 (Int.tdiv (w64 ((w64 (v3 - 1)) * v0)) v1))))] : List Bool).length) 140737488355328) then
   c2 v0 v1 (v2 ++ ([(decide ((w64 (Int.tdiv (w64 (v3 * v0)) v1)) > (w64 (Int.tdiv (w64 ((w64 (v3 - 1)) * v0)) v1))))] : List Bool)) (w64 (v3 + 1))
  else
  none
 else
 some (v2, true)
theorem zq20.o2.run (N : Nat) (Kn122 : St D0 → Option zq20.R) (v0 : Int) (v1 : Int) (v2 : List Bool) (v3 : Int) : runC zq20.C (zq20.O N) N zq20.c244 244 (mkSt [(0, .one (.int .i64 v0)), (1, .one (.int .i64 v1)), (6, .one (.sl true 4 v2)), (7, .one (.int .i64 v3))] [] : St D0) ((fun up => (onN (fun s => zq20.C.tidy 122 s ((onN Kn122 up) .normal)) (onN Kn122 up))) (blockK 0 (onN (fun s => zq20.C.tidy 30 s (fun s' => runC zq20.C (zq20.O N) N zq20.c31 31 s' zq20.K0)) zq20.K0))) = zq20.o2 N v0 v1 v2 v3 ((fun w0 w1 w2 w3 => Kn122 (mkSt [(0, .one (.int .i64 w0)), (1, .one (.int .i64 w1)), (6, .one (.sl true 4 w2)), (7, .one (.int .i64 w3))] [] : St D0))) := by kernel_rfl
def zq20.d2 (N : Nat) (v0 : Int) (v1 : Int) (v2 : List Bool) (v3 : Int) (c2 : Int → Int → (List Bool) → Int → Option zq20.R) : Option zq20.R := zq20.o2 N v0 v1 v2 v3 c2
theorem zq20.d2.run (N : Nat) (Kn122 : St D0 → Option zq20.R) (v0 : Int) (v1 : Int) (v2 : List Bool) (v3 : Int) : runC zq20.C (zq20.O N) N zq20.c244 244 (mkSt [(0, .one (.int .i64 v0)), (1, .one (.int .i64 v1)), (6, .one (.sl true 4 v2)), (7, .one (.int .i64 v3))] [] : St D0) (zq20.K244 N Kn122) = zq20.d2 N v0 v1 v2 v3 ((fun w0 w1 w2 w3 => Kn122 (mkSt [(0, .one (.int .i64 w0)), (1, .one (.int .i64 w1)), (6, .one (.sl true 4 w2)), (7, .one (.int .i64 w3))] [] : St D0))) := by
  exact (zq20.o2.run N Kn122 v0 v1 v2 v3).trans rfl
def zq20.K122 (N : Nat) : Ex → St D0 → Option zq20.R := (blockK 0 (onN (fun s => zq20.C.tidy 30 s (fun s' => runC zq20.C (zq20.O N) N zq20.c31 31 s' zq20.K0)) zq20.K0))
def zq20.l2 (N : Nat) : Nat → Int → Int → (List Bool) → Int → Option zq20.R
  | 0, _, _, _, _ => none
  | n + 1, v0, v1, v2, v3 => zq20.d2 N v0 v1 v2 v3 ((fun w0 w1 w2 w3 => zq20.l2 N n w0 w1 w2 w3))
theorem zq20.loop122 (N : Nat) : ∀ n, (∀ (v0 : Int) (v1 : Int) (v2 : List Bool) (v3 : Int), iter (loopF zq20.C (zq20.O N) N zq20.c244 122) n (mkSt [(0, .one (.int .i64 v0)), (1, .one (.int .i64 v1)), (6, .one (.sl true 4 v2)), (7, .one (.int .i64 v3))] [] : St D0) (zq20.K122 N) = zq20.l2 N n v0 v1 v2 v3)
  | 0 => (fun v0 v1 v2 v3 => rfl)
  | n + 1 => (fun v0 v1 v2 v3 => (zq20.d2.run N (fun s => iter (loopF zq20.C (zq20.O N) N zq20.c244 122) n s (zq20.K122 N)) v0 v1 v2 v3).trans (show _ = zq20.d2 N v0 v1 v2 v3 ((fun w0 w1 w2 w3 => zq20.l2 N n w0 w1 w2 w3)) from (congr rfl (funext fun w0 => funext fun w1 => funext fun w2 => funext fun w3 => (zq20.loop122 N n) w0 w1 w2 w3))))
def zq20.K13 (N : Nat) : Ex → St D0 → Option zq20.R := (onN (fun s => zq20.C.tidy 6 s (fun s' => runC zq20.C (zq20.O N) N zq20.c7 7 s' zq20.K0)) zq20.K0)
def zq20.o1 (N : Nat) (v0 : Int) (v1 : Int) (v2 : Bool) (c2 : Int → Int → (List Bool) → Int → Option zq20.R) : Option zq20.R :=
 bif v2 then
  some (([] : List Bool), false)
 else
 c2 v0 v1 ([] : List Bool) 1
theorem zq20.o1.run (N : Nat) (H244 : Code) (v0 : Int) (v1 : Int) (v2 : Bool) : runC zq20.C (zq20.O N) N zq20.c13 13 (mkSt [(0, .one (.int .i64 v0)), (1, .one (.int .i64 v1)), (16, .one (.bool v2))] [] : St D0) (onN (fun s => zq20.C.tidy 6 s (fun s' => runC zq20.C (zq20.O N) N (.seq zq20.c14 (.seq (.seq zq20.c60 (.block 0 (.loop H244))) zq20.c31)) 7 s' zq20.K0)) zq20.K0) = zq20.o1 N v0 v1 v2 ((fun w0 w1 w2 w3 => iter (loopF zq20.C (zq20.O N) N H244 122) N (mkSt [(0, .one (.int .i64 w0)), (1, .one (.int .i64 w1)), (6, .one (.sl true 4 w2)), (7, .one (.int .i64 w3))] [] : St D0) (blockK 0 (onN (fun s => zq20.C.tidy 30 s (fun s' => runC zq20.C (zq20.O N) N zq20.c31 31 s' zq20.K0)) zq20.K0)))) := by kernel_rfl
def zq20.d1 (N : Nat) (v0 : Int) (v1 : Int) (v2 : Bool) : Option zq20.R := zq20.o1 N v0 v1 v2 ((fun w0 w1 w2 w3 => zq20.l2 N N w0 w1 w2 w3))
theorem zq20.d1.run (N : Nat) (v0 : Int) (v1 : Int) (v2 : Bool) : runC zq20.C (zq20.O N) N zq20.c13 13 (mkSt [(0, .one (.int .i64 v0)), (1, .one (.int .i64 v1)), (16, .one (.bool v2))] [] : St D0) (zq20.K13 N) = zq20.d1 N v0 v1 v2 := by
  unfold zq20.d1; exact (zq20.o1.run N zq20.c244 v0 v1 v2).trans (congr rfl (funext fun w0 => funext fun w1 => funext fun w2 => funext fun w3 => (zq20.loop122 N N) w0 w1 w2 w3))
def zq20.o0 (N : Nat) (a0 : Int) (a1 : Int) (c1 : Int → Int → Bool → Option zq20.R) : Option zq20.R :=
 (zq46.g N a1 1 1000).bind fun r1 =>
 bif (!r1) then
  c1 a0 a1 true
 else
 (zq46.g N a0 0 a1).bind fun r2 =>
 c1 a0 a1 (!r2)
theorem zq20.o0.run (N : Nat) (H13 : Code) (a0 : Int) (a1 : Int) : runC zq20.C (zq20.O N) N (.seq zq20.c2 (.seq (.seq zq20.c12 H13) zq20.c7)) 1 (st0 [.one (.int .i64 a0), .one (.int .i64 a1)] [] : St D0) zq20.K0 = zq20.o0 N a0 a1 ((fun w0 w1 w2 => runC zq20.C (zq20.O N) N H13 13 (mkSt [(0, .one (.int .i64 w0)), (1, .one (.int .i64 w1)), (16, .one (.bool w2))] [] : St D0) (onN (fun s => zq20.C.tidy 6 s (fun s' => runC zq20.C (zq20.O N) N zq20.c7 7 s' zq20.K0)) zq20.K0))) := by kernel_rfl
def zq20.g (N : Nat) (a0 : Int) (a1 : Int) : Option zq20.R := zq20.o0 N a0 a1 ((fun w0 w1 w2 => zq20.d1 N w0 w1 w2))
theorem zq20.c1_0 : zq20.c1 = (.seq zq20.c2 (.seq (.seq zq20.c12 zq20.c13) zq20.c7)) := by kernel_rfl
theorem zq20.g.run (N : Nat) (a0 : Int) (a1 : Int) : runC zq20.C (zq20.O N) N zq20.c1 1 (st0 [.one (.int .i64 a0), .one (.int .i64 a1)] [] : St D0) zq20.K0 = zq20.g N a0 a1 := by
  rw [zq20.c1_0]; unfold zq20.g; exact (zq20.o0.run N zq20.c13 a0 a1).trans (congr rfl (funext fun w0 => funext fun w1 => funext fun w2 => zq20.d1.run N w0 w1 w2))
theorem zq20.good (N : Nat) (a0 : Int) (a1 : Int) (r : zq20.R) (h : zq20.g N a0 a1 = some r) : Go.PM.Good Tryz.prog T0 45 [.one (.int .i64 a0), .one (.int .i64 a1)] [] (zq20.sig.ret r) (zq20.sig.bs r) :=
  good_fn tabOk0 mixed0 zq20.sig (zq20.E N) Tryz.func45 (by kernel_rfl) (by kernel_rfl) 1114355 0 0 [(12, [0, 1, 16], []), (122, [0, 1, 6, 7], [])] 11461734656 false [] [(false, [.own 4]), (false, [.any])] (by kernel_rfl) rfl rfl ((zq20.g.run N a0 a1).trans h)
def zq20.ent (N : Nat) : Ent Tryz.prog T0 := mkEnt 45 [(false, [.any]), (false, [.any])] zq20.sig (fun t => zq20.g N t.1 t.2) (fun t r h => zq20.good N t.1 t.2 r h)
/-! ### zq76 -/
abbrev zq76.R : Type := List Bool × Bool
abbrev zq76.sig : Sig := ⟨[(false, 1), (false, 1)], [], [.int .i64, .int .i64], [(false, 1), (false, 1)], [], [.sl true 4, .bool]⟩
def zq76.C : Cfg D0 := ⟨Tryz.prog, T0, 590067, 0, 38, 0, [(12, [0, 1, 16], []), (122, [0, 1, 6, 7], [])], 5730873600, false, []⟩
def zq76.E (N : Nat) : List (Ent Tryz.prog T0) := [zq110.ent N]
def zq76.O (N : Nat) : Orc D0 zq76.R := orcOf (zq76.E N)
def zq76.K0 : Ex → St D0 → Option zq76.R := exitK zq76.C Tryz.f46.results.toList [(false, [.own 4]), (false, [.any])] (decOut zq76.sig)
def zq76.c1 : Code := codeAt (Tryz.f46.body.getD .skip) []
def zq76.c2 : Code := codeAt (Tryz.f46.body.getD .skip) [false]
def zq76.c7 : Code := codeAt (Tryz.f46.body.getD .skip) [true, true]
def zq76.c12 : Code := codeAt (Tryz.f46.body.getD .skip) [true, false, false]
def zq76.c13 : Code := codeAt (Tryz.f46.body.getD .skip) [true, false, true]
def zq76.c14 : Code := codeAt (Tryz.f46.body.getD .skip) [true, true, false]
def zq76.c31 : Code := codeAt (Tryz.f46.body.getD .skip) [true, true, true, true]
def zq76.c60 : Code := codeAt (Tryz.f46.body.getD .skip) [true, true, true, false, false]
def zq76.c244 : Code := codeAt (Tryz.f46.body.getD .skip) [true, true, true, false, true, false, false]
def zq76.K244 (N : Nat) (Kn122 : St D0 → Option zq76.R) : Ex → St D0 → Option zq76.R := ((fun up => (onN (fun s => zq76.C.tidy 122 s ((onN Kn122 up) .normal)) (onN Kn122 up))) (blockK 0 (onN (fun s => zq76.C.tidy 30 s (fun s' => runC zq76.C (zq76.O N) N zq76.c31 31 s' zq76.K0)) zq76.K0)))
def zq76.o2 (N : Nat) (v0 : Int) (v1 : Int) (v2 : Int) (c3 : Int → Int → (List Bool) → Int → Option zq76.R) : Option zq76.R :=
 bif (decide (v2 ≤ v1)) then
  bif (v1 == 0) then
   none
  else
  bif (v1 == 0) then
   none
  else
  bif (Nat.blt (([] : List Bool).length + ([(decide ((w64 (Int.tdiv (w64 (v2 * v0)) v1)) > (w64 (Int.tdiv (w64 ((w64 (v2 - 1)) * v0)) v1))))] : List Bool).length) 140737488355328) then
   c3 v0 v1 (([] : List Bool) ++ ([(decide ((w64 (Int.tdiv (w64 (v2 * v0)) v1)) > (w64 (Int.tdiv (w64 ((w64 (v2 - 1)) * v0)) v1))))] : List Bool)) (w64 (v2 + 1))
  else
  none
 else
 some (([] : List Bool), true)
theorem zq76.o2.run (N : Nat) (Kn122 : St D0 → Option zq76.R) (v0 : Int) (v1 : Int) (v2 : Int) : runC zq76.C (zq76.O N) N zq76.c244 244 (mkSt [(0, .one (.int .i64 v0)), (1, .one (.int .i64 v1)), (6, .one (.nl)), (7, .one (.int .i64 v2))] [] : St D0) ((fun up => (onN (fun s => zq76.C.tidy 122 s ((onN Kn122 up) .normal)) (onN Kn122 up))) (blockK 0 (onN (fun s => zq76.C.tidy 30 s (fun s' => runC zq76.C (zq76.O N) N zq76.c31 31 s' zq76.K0)) zq76.K0))) = zq76.o2 N v0 v1 v2 ((fun w0 w1 w2 w3 => Kn122 (mkSt [(0, .one (.int .i64 w0)), (1, .one (.int .i64 w1)), (6, .one (.sl true 4 w2)), (7, .one (.int .i64 w3))] [] : St D0))) := by kernel_rfl
def zq76.d2 (N : Nat) (v0 : Int) (v1 : Int) (v2 : Int) (c3 : Int → Int → (List Bool) → Int → Option zq76.R) : Option zq76.R := zq76.o2 N v0 v1 v2 c3
theorem zq76.d2.run (N : Nat) (Kn122 : St D0 → Option zq76.R) (v0 : Int) (v1 : Int) (v2 : Int) : runC zq76.C (zq76.O N) N zq76.c244 244 (mkSt [(0, .one (.int .i64 v0)), (1, .one (.int .i64 v1)), (6, .one (.nl)), (7, .one (.int .i64 v2))] [] : St D0) (zq76.K244 N Kn122) = zq76.d2 N v0 v1 v2 ((fun w0 w1 w2 w3 => Kn122 (mkSt [(0, .one (.int .i64 w0)), (1, .one (.int .i64 w1)), (6, .one (.sl true 4 w2)), (7, .one (.int .i64 w3))] [] : St D0))) := by
  exact (zq76.o2.run N Kn122 v0 v1 v2).trans rfl
def zq76.o3 (N : Nat) (v0 : Int) (v1 : Int) (v2 : List Bool) (v3 : Int) (c3 : Int → Int → (List Bool) → Int → Option zq76.R) : Option zq76.R :=
 bif (decide (v3 ≤ v1)) then
  bif (v1 == 0) then
   none
  else
  bif (v1 == 0) then
   none
  else
  bif (Nat.blt (v2.length + ([(decide ((w64 (Int.tdiv (w64 (v3 * v0)) v1)) > (w64 (Int.tdiv (w64 ((w64 (v3 - 1)) * v0)) v1))))] : List Bool).length) 140737488355328) then
   c3 v0 v1 (v2 ++ ([(decide ((w64 (Int.tdiv (w64 (v3 * v0)) v1)) > (w64 (Int.tdiv (w64 ((w64 (v3 - 1)) * v0)) v1))))] : List Bool)) (w64 (v3 + 1))
  else
  none
 else
 some (v2, true)
theorem zq76.o3.run (N : Nat) (Kn122 : St D0 → Option zq76.R) (v0 : Int) (v1 : Int) (v2 : List Bool) (v3 : Int) : runC zq76.C (zq76.O N) N zq76.c244 244 (mkSt [(0, .one (.int .i64 v0)), (1, .one (.int .i64 v1)), (6, .one (.sl true 4 v2)), (7, .one (.int .i64 v3))] [] : St D0) ((fun up => (onN (fun s => zq76.C.tidy 122 s ((onN Kn122 up) .normal)) (onN Kn122 up))) (blockK 0 (onN (fun s => zq76.C.tidy 30 s (fun s' => runC zq76.C (zq76.O N) N zq76.c31 31 s' zq76.K0)) zq76.K0))) = zq76.o3 N v0 v1 v2 v3 ((fun w0 w1 w2 w3 => Kn122 (mkSt [(0, .one (.int .i64 w0)), (1, .one (.int .i64 w1)), (6, .one (.sl true 4 w2)), (7, .one (.int .i64 w3))] [] : St D0))) := by kernel_rfl
def zq76.d3 (N : Nat) (v0 : Int) (v1 : Int) (v2 : List Bool) (v3 : Int) (c3 : Int → Int → (List Bool) → Int → Option zq76.R) : Option zq76.R := zq76.o3 N v0 v1 v2 v3 c3
theorem zq76.d3.run (N : Nat) (Kn122 : St D0 → Option zq76.R) (v0 : Int) (v1 : Int) (v2 : List Bool) (v3 : Int) : runC zq76.C (zq76.O N) N zq76.c244 244 (mkSt [(0, .one (.int .i64 v0)), (1, .one (.int .i64 v1)), (6, .one (.sl true 4 v2)), (7, .one (.int .i64 v3))] [] : St D0) (zq76.K244 N Kn122) = zq76.d3 N v0 v1 v2 v3 ((fun w0 w1 w2 w3 => Kn122 (mkSt [(0, .one (.int .i64 w0)), (1, .one (.int .i64 w1)), (6, .one (.sl true 4 w2)), (7, .one (.int .i64 w3))] [] : St D0))) := by
  exact (zq76.o3.run N Kn122 v0 v1 v2 v3).trans rfl
def zq76.K122 (N : Nat) : Ex → St D0 → Option zq76.R := (blockK 0 (onN (fun s => zq76.C.tidy 30 s (fun s' => runC zq76.C (zq76.O N) N zq76.c31 31 s' zq76.K0)) zq76.K0))
mutual
def zq76.l2 (N : Nat) : Nat → Int → Int → Int → Option zq76.R
  | 0, _, _, _ => none
  | n + 1, v0, v1, v2 => zq76.d2 N v0 v1 v2 ((fun w0 w1 w2 w3 => zq76.l3 N n w0 w1 w2 w3))
def zq76.l3 (N : Nat) : Nat → Int → Int → (List Bool) → Int → Option zq76.R
  | 0, _, _, _, _ => none
  | n + 1, v0, v1, v2, v3 => zq76.d3 N v0 v1 v2 v3 ((fun w0 w1 w2 w3 => zq76.l3 N n w0 w1 w2 w3))
end
theorem zq76.loop122 (N : Nat) : ∀ n, (∀ (v0 : Int) (v1 : Int) (v2 : Int), iter (loopF zq76.C (zq76.O N) N zq76.c244 122) n (mkSt [(0, .one (.int .i64 v0)), (1, .one (.int .i64 v1)), (6, .one (.nl)), (7, .one (.int .i64 v2))] [] : St D0) (zq76.K122 N) = zq76.l2 N n v0 v1 v2) ∧ (∀ (v0 : Int) (v1 : Int) (v2 : List Bool) (v3 : Int), iter (loopF zq76.C (zq76.O N) N zq76.c244 122) n (mkSt [(0, .one (.int .i64 v0)), (1, .one (.int .i64 v1)), (6, .one (.sl true 4 v2)), (7, .one (.int .i64 v3))] [] : St D0) (zq76.K122 N) = zq76.l3 N n v0 v1 v2 v3)
  | 0 => ⟨(fun v0 v1 v2 => rfl), (fun v0 v1 v2 v3 => rfl)⟩
  | n + 1 => ⟨(fun v0 v1 v2 => (zq76.d2.run N (fun s => iter (loopF zq76.C (zq76.O N) N zq76.c244 122) n s (zq76.K122 N)) v0 v1 v2).trans (show _ = zq76.d2 N v0 v1 v2 ((fun w0 w1 w2 w3 => zq76.l3 N n w0 w1 w2 w3)) from (congr rfl (funext fun w0 => funext fun w1 => funext fun w2 => funext fun w3 => (zq76.loop122 N n).2 w0 w1 w2 w3)))), (fun v0 v1 v2 v3 => (zq76.d3.run N (fun s => iter (loopF zq76.C (zq76.O N) N zq76.c244 122) n s (zq76.K122 N)) v0 v1 v2 v3).trans (show _ = zq76.d3 N v0 v1 v2 v3 ((fun w0 w1 w2 w3 => zq76.l3 N n w0 w1 w2 w3)) from (congr rfl (funext fun w0 => funext fun w1 => funext fun w2 => funext fun w3 => (zq76.loop122 N n).2 w0 w1 w2 w3))))⟩
def zq76.K13 (N : Nat) : Ex → St D0 → Option zq76.R := (onN (fun s => zq76.C.tidy 6 s (fun s' => runC zq76.C (zq76.O N) N zq76.c7 7 s' zq76.K0)) zq76.K0)
def zq76.o1 (N : Nat) (v0 : Int) (v1 : Int) (v2 : Bool) (c2 : Int → Int → Int → Option zq76.R) : Option zq76.R :=
 bif v2 then
  some (([] : List Bool), false)
 else
 c2 v0 v1 1
theorem zq76.o1.run (N : Nat) (H244 : Code) (v0 : Int) (v1 : Int) (v2 : Bool) : runC zq76.C (zq76.O N) N zq76.c13 13 (mkSt [(0, .one (.int .i64 v0)), (1, .one (.int .i64 v1)), (16, .one (.bool v2))] [] : St D0) (onN (fun s => zq76.C.tidy 6 s (fun s' => runC zq76.C (zq76.O N) N (.seq zq76.c14 (.seq (.seq zq76.c60 (.block 0 (.loop H244))) zq76.c31)) 7 s' zq76.K0)) zq76.K0) = zq76.o1 N v0 v1 v2 ((fun w0 w1 w2 => iter (loopF zq76.C (zq76.O N) N H244 122) N (mkSt [(0, .one (.int .i64 w0)), (1, .one (.int .i64 w1)), (6, .one (.nl)), (7, .one (.int .i64 w2))] [] : St D0) (blockK 0 (onN (fun s => zq76.C.tidy 30 s (fun s' => runC zq76.C (zq76.O N) N zq76.c31 31 s' zq76.K0)) zq76.K0)))) := by kernel_rfl
def zq76.d1 (N : Nat) (v0 : Int) (v1 : Int) (v2 : Bool) : Option zq76.R := zq76.o1 N v0 v1 v2 ((fun w0 w1 w2 => zq76.l2 N N w0 w1 w2))
theorem zq76.d1.run (N : Nat) (v0 : Int) (v1 : Int) (v2 : Bool) : runC zq76.C (zq76.O N) N zq76.c13 13 (mkSt [(0, .one (.int .i64 v0)), (1, .one (.int .i64 v1)), (16, .one (.bool v2))] [] : St D0) (zq76.K13 N) = zq76.d1 N v0 v1 v2 := by
  unfold zq76.d1; exact (zq76.o1.run N zq76.c244 v0 v1 v2).trans (congr rfl (funext fun w0 => funext fun w1 => funext fun w2 => (zq76.loop122 N N).1 w0 w1 w2))
def zq76.o0 (N : Nat) (a0 : Int) (a1 : Int) (c1 : Int → Int → Bool → Option zq76.R) : Option zq76.R :=
 (zq110.g N a1 1 1000).bind fun r1 =>
 bif (!r1) then
  c1 a0 a1 true
 else
 (zq110.g N a0 0 a1).bind fun r2 =>
 c1 a0 a1 (!r2)
theorem zq76.o0.run (N : Nat) (H13 : Code) (a0 : Int) (a1 : Int) : runC zq76.C (zq76.O N) N (.seq zq76.c2 (.seq (.seq zq76.c12 H13) zq76.c7)) 1 (st0 [.one (.int .i64 a0), .one (.int .i64 a1)] [] : St D0) zq76.K0 = zq76.o0 N a0 a1 ((fun w0 w1 w2 => runC zq76.C (zq76.O N) N H13 13 (mkSt [(0, .one (.int .i64 w0)), (1, .one (.int .i64 w1)), (16, .one (.bool w2))] [] : St D0) (onN (fun s => zq76.C.tidy 6 s (fun s' => runC zq76.C (zq76.O N) N zq76.c7 7 s' zq76.K0)) zq76.K0))) := by kernel_rfl
def zq76.g (N : Nat) (a0 : Int) (a1 : Int) : Option zq76.R := zq76.o0 N a0 a1 ((fun w0 w1 w2 => zq76.d1 N w0 w1 w2))
theorem zq76.c1_0 : zq76.c1 = (.seq zq76.c2 (.seq (.seq zq76.c12 zq76.c13) zq76.c7)) := by kernel_rfl
theorem zq76.g.run (N : Nat) (a0 : Int) (a1 : Int) : runC zq76.C (zq76.O N) N zq76.c1 1 (st0 [.one (.int .i64 a0), .one (.int .i64 a1)] [] : St D0) zq76.K0 = zq76.g N a0 a1 := by
  rw [zq76.c1_0]; unfold zq76.g; exact (zq76.o0.run N zq76.c13 a0 a1).trans (congr rfl (funext fun w0 => funext fun w1 => funext fun w2 => zq76.d1.run N w0 w1 w2))
theorem zq76.good (N : Nat) (a0 : Int) (a1 : Int) (r : zq76.R) (h : zq76.g N a0 a1 = some r) : Go.PM.Good Tryz.prog T0 46 [.one (.int .i64 a0), .one (.int .i64 a1)] [] (zq76.sig.ret r) (zq76.sig.bs r) :=
  good_fn tabOk0 mixed0 zq76.sig (zq76.E N) Tryz.func46 (by kernel_rfl) (by kernel_rfl) 590067 0 0 [(12, [0, 1, 16], []), (122, [0, 1, 6, 7], [])] 5730873600 false [] [(false, [.own 4]), (false, [.any])] (by kernel_rfl) rfl rfl ((zq76.g.run N a0 a1).trans h)
def zq76.ent (N : Nat) : Ent Tryz.prog T0 := mkEnt 46 [(false, [.any]), (false, [.any])] zq76.sig (fun t => zq76.g N t.1 t.2) (fun t r h => zq76.good N t.1 t.2 r h)
/-! ### zq51 -/
abbrev zq51.R : Type := Bool
abbrev zq51.sig : Sig := ⟨[(false, 1), (false, 1)], [], [.sl false 3, .sl false 3], [(false, 1)], [], [.bool]⟩
def zq51.C : Cfg D0 := ⟨Tryz.prog, T0, 16806963, 0, 26, 0, [(58, [0, 1, 12, 13], [])], 3344704, false, []⟩
def zq51.E (N : Nat) : List (Ent Tryz.prog T0) := []
def zq51.O (N : Nat) : Orc D0 zq51.R := orcOf (zq51.E N)
def zq51.K0 : Ex → St D0 → Option zq51.R := exitK zq51.C Tryz.f54.results.toList [(false, [.any])] (decOut zq51.sig)
def zq51.c1 : Code := codeAt (Tryz.f54.body.getD .skip) []
def zq51.c2 : Code := codeAt (Tryz.f54.body.getD .skip) [false]
def zq51.c6 : Code := codeAt (Tryz.f54.body.getD .skip) [true, false]
def zq51.c15 : Code := codeAt (Tryz.f54.body.getD .skip) [true, true, true]
def zq51.c28 : Code := codeAt (Tryz.f54.body.getD .skip) [true, true, false, false]
def zq51.c116 : Code := codeAt (Tryz.f54.body.getD .skip) [true, true, false, true, false, false]
def zq51.K116 (N : Nat) (Kn58 : St D0 → Option zq51.R) : Ex → St D0 → Option zq51.R := ((fun up => (onN (fun s => zq51.C.tidy 58 s ((onN Kn58 up) .normal)) (onN Kn58 up))) (blockK 0 (onN (fun s => zq51.C.tidy 14 s (fun s' => runC zq51.C (zq51.O N) N zq51.c15 15 s' zq51.K0)) zq51.K0)))
def zq51.o1 (N : Nat) (v0 : List Int) (v1 : List Int) (v2 : Int) (v3 : Int) (c1 : (List Int) → (List Int) → Int → Int → Option zq51.R) : Option zq51.R :=
 bif (decide (v3 < v2)) then
  bif (decide (0 ≤ v3)) then
   bif (decide (v3 < (v0.length : Int))) then
    (v0[(v3 : Int).toNat]?).bind fun x1 =>
    bif (decide (0 ≤ v3)) then
     bif (decide (v3 < (v1.length : Int))) then
      (v1[(v3 : Int).toNat]?).bind fun x2 =>
      bif (x1 != x2) then
       some (false)
      else
      c1 v0 v1 v2 (w64 (v3 + 1))
     else
     none
    else
    none
   else
   none
  else
  none
 else
 some (true)
theorem zq51.o1.run (N : Nat) (Kn58 : St D0 → Option zq51.R) (v0 : List Int) (v1 : List Int) (v2 : Int) (v3 : Int) : runC zq51.C (zq51.O N) N zq51.c116 116 (mkSt [(0, .one (.sl false 3 v0)), (1, .one (.sl false 3 v1)), (12, .one (.int .i64 v2)), (13, .one (.int .i64 v3))] [] : St D0) ((fun up => (onN (fun s => zq51.C.tidy 58 s ((onN Kn58 up) .normal)) (onN Kn58 up))) (blockK 0 (onN (fun s => zq51.C.tidy 14 s (fun s' => runC zq51.C (zq51.O N) N zq51.c15 15 s' zq51.K0)) zq51.K0))) = zq51.o1 N v0 v1 v2 v3 ((fun w0 w1 w2 w3 => Kn58 (mkSt [(0, .one (.sl false 3 w0)), (1, .one (.sl false 3 w1)), (12, .one (.int .i64 w2)), (13, .one (.int .i64 w3))] [] : St D0))) := by kernel_rfl
def zq51.d1 (N : Nat) (v0 : List Int) (v1 : List Int) (v2 : Int) (v3 : Int) (c1 : (List Int) → (List Int) → Int → Int → Option zq51.R) : Option zq51.R := zq51.o1 N v0 v1 v2 v3 c1
theorem zq51.d1.run (N : Nat) (Kn58 : St D0 → Option zq51.R) (v0 : List Int) (v1 : List Int) (v2 : Int) (v3 : Int) : runC zq51.C (zq51.O N) N zq51.c116 116 (mkSt [(0, .one (.sl false 3 v0)), (1, .one (.sl false 3 v1)), (12, .one (.int .i64 v2)), (13, .one (.int .i64 v3))] [] : St D0) (zq51.K116 N Kn58) = zq51.d1 N v0 v1 v2 v3 ((fun w0 w1 w2 w3 => Kn58 (mkSt [(0, .one (.sl false 3 w0)), (1, .one (.sl false 3 w1)), (12, .one (.int .i64 w2)), (13, .one (.int .i64 w3))] [] : St D0))) := by
  exact (zq51.o1.run N Kn58 v0 v1 v2 v3).trans rfl
def zq51.K58 (N : Nat) : Ex → St D0 → Option zq51.R := (blockK 0 (onN (fun s => zq51.C.tidy 14 s (fun s' => runC zq51.C (zq51.O N) N zq51.c15 15 s' zq51.K0)) zq51.K0))
def zq51.l1 (N : Nat) : Nat → (List Int) → (List Int) → Int → Int → Option zq51.R
  | 0, _, _, _, _ => none
  | n + 1, v0, v1, v2, v3 => zq51.d1 N v0 v1 v2 v3 ((fun w0 w1 w2 w3 => zq51.l1 N n w0 w1 w2 w3))
theorem zq51.loop58 (N : Nat) : ∀ n, (∀ (v0 : List Int) (v1 : List Int) (v2 : Int) (v3 : Int), iter (loopF zq51.C (zq51.O N) N zq51.c116 58) n (mkSt [(0, .one (.sl false 3 v0)), (1, .one (.sl false 3 v1)), (12, .one (.int .i64 v2)), (13, .one (.int .i64 v3))] [] : St D0) (zq51.K58 N) = zq51.l1 N n v0 v1 v2 v3)
  | 0 => (fun v0 v1 v2 v3 => rfl)
  | n + 1 => (fun v0 v1 v2 v3 => (zq51.d1.run N (fun s => iter (loopF zq51.C (zq51.O N) N zq51.c116 58) n s (zq51.K58 N)) v0 v1 v2 v3).trans (show _ = zq51.d1 N v0 v1 v2 v3 ((fun w0 w1 w2 w3 => zq51.l1 N n w0 w1 w2 w3)) from (congr rfl (funext fun w0 => funext fun w1 => funext fun w2 => funext fun w3 => (zq51.loop58 N n) w0 w1 w2 w3))))
def zq51.o0 (N : Nat) (a0 : List Int) (a1 : List Int) (c1 : (List Int) → (List Int) → Int → Int → Option zq51.R) : Option zq51.R :=
 bif ((a0.length : Int) != (a1.length : Int)) then
  some (false)
 else
 c1 a0 a1 (a0.length : Int) 0
theorem zq51.o0.run (N : Nat) (H116 : Code) (a0 : List Int) (a1 : List Int) : runC zq51.C (zq51.O N) N (.seq zq51.c2 (.seq zq51.c6 (.seq (.seq zq51.c28 (.block 0 (.loop H116))) zq51.c15))) 1 (st0 [.one (.sl false 3 a0), .one (.sl false 3 a1)] [] : St D0) zq51.K0 = zq51.o0 N a0 a1 ((fun w0 w1 w2 w3 => iter (loopF zq51.C (zq51.O N) N H116 58) N (mkSt [(0, .one (.sl false 3 w0)), (1, .one (.sl false 3 w1)), (12, .one (.int .i64 w2)), (13, .one (.int .i64 w3))] [] : St D0) (blockK 0 (onN (fun s => zq51.C.tidy 14 s (fun s' => runC zq51.C (zq51.O N) N zq51.c15 15 s' zq51.K0)) zq51.K0)))) := by kernel_rfl
def zq51.g (N : Nat) (a0 : List Int) (a1 : List Int) : Option zq51.R := zq51.o0 N a0 a1 ((fun w0 w1 w2 w3 => zq51.l1 N N w0 w1 w2 w3))
theorem zq51.c1_0 : zq51.c1 = (.seq zq51.c2 (.seq zq51.c6 (.seq (.seq zq51.c28 (.block 0 (.loop zq51.c116))) zq51.c15))) := by kernel_rfl
theorem zq51.g.run (N : Nat) (a0 : List Int) (a1 : List Int) : runC zq51.C (zq51.O N) N zq51.c1 1 (st0 [.one (.sl false 3 a0), .one (.sl false 3 a1)] [] : St D0) zq51.K0 = zq51.g N a0 a1 := by
  rw [zq51.c1_0]; unfold zq51.g; exact (zq51.o0.run N zq51.c116 a0 a1).trans (congr rfl (funext fun w0 => funext fun w1 => funext fun w2 => funext fun w3 => (zq51.loop58 N N) w0 w1 w2 w3))
theorem zq51.good (N : Nat) (a0 : List Int) (a1 : List Int) (r : zq51.R) (h : zq51.g N a0 a1 = some r) : Go.PM.Good Tryz.prog T0 54 [.one (.sl false 3 a0), .one (.sl false 3 a1)] [] (zq51.sig.ret r) (zq51.sig.bs r) :=
  good_fn tabOk0 mixed0 zq51.sig (zq51.E N) Tryz.func54 (by kernel_rfl) (by kernel_rfl) 16806963 0 0 [(58, [0, 1, 12, 13], [])] 3344704 false [] [(false, [.any])] (by kernel_rfl) rfl rfl ((zq51.g.run N a0 a1).trans h)
def zq51.ent (N : Nat) : Ent Tryz.prog T0 := mkEnt 54 [(false, [.ro 3]), (false, [.ro 3])] zq51.sig (fun t => zq51.g N t.1 t.2) (fun t r h => zq51.good N t.1 t.2 r h)
/-! ### zq50 -/
abbrev zq50.R : Type := Bool
abbrev zq50.sig : Sig := ⟨[(false, 1), (false, 1)], [], [.sl false 59, .sl false 59], [(false, 1)], [], [.bool]⟩
def zq50.C : Cfg D0 := ⟨Tryz.prog, T0, 33584179, 0, 27, 0, [(58, [0, 1, 12, 13], [])], 3344704, false, []⟩
def zq50.E (N : Nat) : List (Ent Tryz.prog T0) := [zq51.ent N]
def zq50.O (N : Nat) : Orc D0 zq50.R := orcOf (zq50.E N)
def zq50.K0 : Ex → St D0 → Option zq50.R := exitK zq50.C Tryz.f53.results.toList [(false, [.any])] (decOut zq50.sig)
def zq50.c1 : Code := codeAt (Tryz.f53.body.getD .skip) []
def zq50.c2 : Code := codeAt (Tryz.f53.body.getD .skip) [false]
def zq50.c6 : Code := codeAt (Tryz.f53.body.getD .skip) [true, false]
def zq50.c15 : Code := codeAt (Tryz.f53.body.getD .skip) [true, true, true]
def zq50.c28 : Code := codeAt (Tryz.f53.body.getD .skip) [true, true, false, false]
def zq50.c116 : Code := codeAt (Tryz.f53.body.getD .skip) [true, true, false, true, false, false]
def zq50.K116 (N : Nat) (Kn58 : St D0 → Option zq50.R) : Ex → St D0 → Option zq50.R := ((fun up => (onN (fun s => zq50.C.tidy 58 s ((onN Kn58 up) .normal)) (onN Kn58 up))) (blockK 0 (onN (fun s => zq50.C.tidy 14 s (fun s' => runC zq50.C (zq50.O N) N zq50.c15 15 s' zq50.K0)) zq50.K0)))
def zq50.o1 (N : Nat) (v0 : List ((List Int))) (v1 : List ((List Int))) (v2 : Int) (v3 : Int) (c1 : (List ((List Int))) → (List ((List Int))) → Int → Int → Option zq50.R) : Option zq50.R :=
 bif (decide (v3 < v2)) then
  bif (decide (0 ≤ v3)) then
   bif (decide (v3 < (v0.length : Int))) then
    (v0[(v3 : Int).toNat]?).bind fun x1 =>
    bif (decide (0 ≤ v3)) then
     bif (decide (v3 < (v1.length : Int))) then
      (v1[(v3 : Int).toNat]?).bind fun x2 =>
      (zq51.g N x1 x2).bind fun r3 =>
      bif (!r3) then
       some (false)
      else
      c1 v0 v1 v2 (w64 (v3 + 1))
     else
     none
    else
    none
   else
   none
  else
  none
 else
 some (true)
theorem zq50.o1.run (N : Nat) (Kn58 : St D0 → Option zq50.R) (v0 : List ((List Int))) (v1 : List ((List Int))) (v2 : Int) (v3 : Int) : runC zq50.C (zq50.O N) N zq50.c116 116 (mkSt [(0, .one (.sl false 59 v0)), (1, .one (.sl false 59 v1)), (12, .one (.int .i64 v2)), (13, .one (.int .i64 v3))] [] : St D0) ((fun up => (onN (fun s => zq50.C.tidy 58 s ((onN Kn58 up) .normal)) (onN Kn58 up))) (blockK 0 (onN (fun s => zq50.C.tidy 14 s (fun s' => runC zq50.C (zq50.O N) N zq50.c15 15 s' zq50.K0)) zq50.K0))) = zq50.o1 N v0 v1 v2 v3 ((fun w0 w1 w2 w3 => Kn58 (mkSt [(0, .one (.sl false 59 w0)), (1, .one (.sl false 59 w1)), (12, .one (.int .i64 w2)), (13, .one (.int .i64 w3))] [] : St D0))) := by kernel_rfl
def zq50.d1 (N : Nat) (v0 : List ((List Int))) (v1 : List ((List Int))) (v2 : Int) (v3 : Int) (c1 : (List ((List Int))) → (List ((List Int))) → Int → Int → Option zq50.R) : Option zq50.R := zq50.o1 N v0 v1 v2 v3 c1
theorem zq50.d1.run (N : Nat) (Kn58 : St D0 → Option zq50.R) (v0 : List ((List Int))) (v1 : List ((List Int))) (v2 : Int) (v3 : Int) : runC zq50.C (zq50.O N) N zq50.c116 116 (mkSt [(0, .one (.sl false 59 v0)), (1, .one (.sl false 59 v1)), (12, .one (.int .i64 v2)), (13, .one (.int .i64 v3))] [] : St D0) (zq50.K116 N Kn58) = zq50.d1 N v0 v1 v2 v3 ((fun w0 w1 w2 w3 => Kn58 (mkSt [(0, .one (.sl false 59 w0)), (1, .one (.sl false 59 w1)), (12, .one (.int .i64 w2)), (13, .one (.int .i64 w3))] [] : St D0))) := by
  exact (zq50.o1.run N Kn58 v0 v1 v2 v3).trans rfl
def zq50.K58 (N : Nat) : Ex → St D0 → Option zq50.R := (blockK 0 (onN (fun s => zq50.C.tidy 14 s (fun s' => runC zq50.C (zq50.O N) N zq50.c15 15 s' zq50.K0)) zq50.K0))
def zq50.l1 (N : Nat) : Nat → (List ((List Int))) → (List ((List Int))) → Int → Int → Option zq50.R
  | 0, _, _, _, _ => none
  | n + 1, v0, v1, v2, v3 => zq50.d1 N v0 v1 v2 v3 ((fun w0 w1 w2 w3 => zq50.l1 N n w0 w1 w2 w3))
theorem zq50.loop58 (N : Nat) : ∀ n, (∀ (v0 : List ((List Int))) (v1 : List ((List Int))) (v2 : Int) (v3 : Int), iter (loopF zq50.C (zq50.O N) N zq50.c116 58) n (mkSt [(0, .one (.sl false 59 v0)), (1, .one (.sl false 59 v1)), (12, .one (.int .i64 v2)), (13, .one (.int .i64 v3))] [] : St D0) (zq50.K58 N) = zq50.l1 N n v0 v1 v2 v3)
  | 0 => (fun v0 v1 v2 v3 => rfl)
  | n + 1 => (fun v0 v1 v2 v3 => (zq50.d1.run N (fun s => iter (loopF zq50.C (zq50.O N) N zq50.c116 58) n s (zq50.K58 N)) v0 v1 v2 v3).trans (show _ = zq50.d1 N v0 v1 v2 v3 ((fun w0 w1 w2 w3 => zq50.l1 N n w0 w1 w2 w3)) from (congr rfl (funext fun w0 => funext fun w1 => funext fun w2 => funext fun w3 => (zq50.loop58 N n) w0 w1 w2 w3))))
def zq50.o0 (N : Nat) (a0 : List ((List Int))) (a1 : List ((List Int))) (c1 : (List ((List Int))) → (List ((List Int))) → Int → Int → Option zq50.R) : Option zq50.R :=
 bif ((a0.length : Int) != (a1.length : Int)) then
  some (false)
 else
 c1 a0 a1 (a0.length : Int) 0
theorem zq50.o0.run (N : Nat) (H116 : Code) (a0 : List ((List Int))) (a1 : List ((List Int))) : runC zq50.C (zq50.O N) N (.seq zq50.c2 (.seq zq50.c6 (.seq (.seq zq50.c28 (.block 0 (.loop H116))) zq50.c15))) 1 (st0 [.one (.sl false 59 a0), .one (.sl false 59 a1)] [] : St D0) zq50.K0 = zq50.o0 N a0 a1 ((fun w0 w1 w2 w3 => iter (loopF zq50.C (zq50.O N) N H116 58) N (mkSt [(0, .one (.sl false 59 w0)), (1, .one (.sl false 59 w1)), (12, .one (.int .i64 w2)), (13, .one (.int .i64 w3))] [] : St D0) (blockK 0 (onN (fun s => zq50.C.tidy 14 s (fun s' => runC zq50.C (zq50.O N) N zq50.c15 15 s' zq50.K0)) zq50.K0)))) := by kernel_rfl
def zq50.g (N : Nat) (a0 : List ((List Int))) (a1 : List ((List Int))) : Option zq50.R := zq50.o0 N a0 a1 ((fun w0 w1 w2 w3 => zq50.l1 N N w0 w1 w2 w3))
theorem zq50.c1_0 : zq50.c1 = (.seq zq50.c2 (.seq zq50.c6 (.seq (.seq zq50.c28 (.block 0 (.loop zq50.c116))) zq50.c15))) := by kernel_rfl
theorem zq50.g.run (N : Nat) (a0 : List ((List Int))) (a1 : List ((List Int))) : runC zq50.C (zq50.O N) N zq50.c1 1 (st0 [.one (.sl false 59 a0), .one (.sl false 59 a1)] [] : St D0) zq50.K0 = zq50.g N a0 a1 := by
  rw [zq50.c1_0]; unfold zq50.g; exact (zq50.o0.run N zq50.c116 a0 a1).trans (congr rfl (funext fun w0 => funext fun w1 => funext fun w2 => funext fun w3 => (zq50.loop58 N N) w0 w1 w2 w3))
theorem zq50.good (N : Nat) (a0 : List ((List Int))) (a1 : List ((List Int))) (r : zq50.R) (h : zq50.g N a0 a1 = some r) : Go.PM.Good Tryz.prog T0 53 [.one (.sl false 59 a0), .one (.sl false 59 a1)] [] (zq50.sig.ret r) (zq50.sig.bs r) :=
  good_fn tabOk0 mixed0 zq50.sig (zq50.E N) Tryz.func53 (by kernel_rfl) (by kernel_rfl) 33584179 0 0 [(58, [0, 1, 12, 13], [])] 3344704 false [] [(false, [.any])] (by kernel_rfl) rfl rfl ((zq50.g.run N a0 a1).trans h)
def zq50.ent (N : Nat) : Ent Tryz.prog T0 := mkEnt 53 [(false, [.ro 59]), (false, [.ro 59])] zq50.sig (fun t => zq50.g N t.1 t.2) (fun t r h => zq50.good N t.1 t.2 r h)
/-! ### zq53 -/
abbrev zq53.R : Type := Bool
abbrev zq53.sig : Sig := ⟨[(false, 1), (false, 1)], [], [.sl false 4, .sl false 4], [(false, 1)], [], [.bool]⟩
def zq53.C : Cfg D0 := ⟨Tryz.prog, T0, 16806963, 0, 26, 0, [(58, [0, 1, 12, 13], [])], 3344704, false, []⟩
def zq53.E (N : Nat) : List (Ent Tryz.prog T0) := []
def zq53.O (N : Nat) : Orc D0 zq53.R := orcOf (zq53.E N)
def zq53.K0 : Ex → St D0 → Option zq53.R := exitK zq53.C Tryz.f55.results.toList [(false, [.any])] (decOut zq53.sig)
def zq53.c1 : Code := codeAt (Tryz.f55.body.getD .skip) []
def zq53.c2 : Code := codeAt (Tryz.f55.body.getD .skip) [false]
def zq53.c6 : Code := codeAt (Tryz.f55.body.getD .skip) [true, false]
def zq53.c15 : Code := codeAt (Tryz.f55.body.getD .skip) [true, true, true]
def zq53.c28 : Code := codeAt (Tryz.f55.body.getD .skip) [true, true, false, false]
def zq53.c116 : Code := codeAt (Tryz.f55.body.getD .skip) [true, true, false, true, false, false]
def zq53.K116 (N : Nat) (Kn58 : St D0 → Option zq53.R) : Ex → St D0 → Option zq53.R := ((fun up => (onN (fun s => zq53.C.tidy 58 s ((onN Kn58 up) .normal)) (onN Kn58 up))) (blockK 0 (onN (fun s => zq53.C.tidy 14 s (fun s' => runC zq53.C (zq53.O N) N zq53.c15 15 s' zq53.K0)) zq53.K0)))
def zq53.o1 (N : Nat) (v0 : List Bool) (v1 : List Bool) (v2 : Int) (v3 : Int) (c1 : (List Bool) → (List Bool) → Int → Int → Option zq53.R) : Option zq53.R :=
 bif (decide (v3 < v2)) then
  bif (decide (0 ≤ v3)) then
   bif (decide (v3 < (v0.length : Int))) then
    (v0[(v3 : Int).toNat]?).bind fun x1 =>
    bif (decide (0 ≤ v3)) then
     bif (decide (v3 < (v1.length : Int))) then
      (v1[(v3 : Int).toNat]?).bind fun x2 =>
      bif (!(x1 == x2)) then
       some (false)
      else
      c1 v0 v1 v2 (w64 (v3 + 1))
     else
     none
    else
    none
   else
   none
  else
  none
 else
 some (true)
theorem zq53.o1.run (N : Nat) (Kn58 : St D0 → Option zq53.R) (v0 : List Bool) (v1 : List Bool) (v2 : Int) (v3 : Int) : runC zq53.C (zq53.O N) N zq53.c116 116 (mkSt [(0, .one (.sl false 4 v0)), (1, .one (.sl false 4 v1)), (12, .one (.int .i64 v2)), (13, .one (.int .i64 v3))] [] : St D0) ((fun up => (onN (fun s => zq53.C.tidy 58 s ((onN Kn58 up) .normal)) (onN Kn58 up))) (blockK 0 (onN (fun s => zq53.C.tidy 14 s (fun s' => runC zq53.C (zq53.O N) N zq53.c15 15 s' zq53.K0)) zq53.K0))) = zq53.o1 N v0 v1 v2 v3 ((fun w0 w1 w2 w3 => Kn58 (mkSt [(0, .one (.sl false 4 w0)), (1, .one (.sl false 4 w1)), (12, .one (.int .i64 w2)), (13, .one (.int .i64 w3))] [] : St D0))) := by kernel_rfl
def zq53.d1 (N : Nat) (v0 : List Bool) (v1 : List Bool) (v2 : Int) (v3 : Int) (c1 : (List Bool) → (List Bool) → Int → Int → Option zq53.R) : Option zq53.R := zq53.o1 N v0 v1 v2 v3 c1
theorem zq53.d1.run (N : Nat) (Kn58 : St D0 → Option zq53.R) (v0 : List Bool) (v1 : List Bool) (v2 : Int) (v3 : Int) : runC zq53.C (zq53.O N) N zq53.c116 116 (mkSt [(0, .one (.sl false 4 v0)), (1, .one (.sl false 4 v1)), (12, .one (.int .i64 v2)), (13, .one (.int .i64 v3))] [] : St D0) (zq53.K116 N Kn58) = zq53.d1 N v0 v1 v2 v3 ((fun w0 w1 w2 w3 => Kn58 (mkSt [(0, .one (.sl false 4 w0)), (1, .one (.sl false 4 w1)), (12, .one (.int .i64 w2)), (13, .one (.int .i64 w3))] [] : St D0))) := by
  exact (zq53.o1.run N Kn58 v0 v1 v2 v3).trans rfl
def zq53.K58 (N : Nat) : Ex → St D0 → Option zq53.R := (blockK 0 (onN (fun s => zq53.C.tidy 14 s (fun s' => runC zq53.C (zq53.O N) N zq53.c15 15 s' zq53.K0)) zq53.K0))
def zq53.l1 (N : Nat) : Nat → (List Bool) → (List Bool) → Int → Int → Option zq53.R
  | 0, _, _, _, _ => none
  | n + 1, v0, v1, v2, v3 => zq53.d1 N v0 v1 v2 v3 ((fun w0 w1 w2 w3 => zq53.l1 N n w0 w1 w2 w3))
theorem zq53.loop58 (N : Nat) : ∀ n, (∀ (v0 : List Bool) (v1 : List Bool) (v2 : Int) (v3 : Int), iter (loopF zq53.C (zq53.O N) N zq53.c116 58) n (mkSt [(0, .one (.sl false 4 v0)), (1, .one (.sl false 4 v1)), (12, .one (.int .i64 v2)), (13, .one (.int .i64 v3))] [] : St D0) (zq53.K58 N) = zq53.l1 N n v0 v1 v2 v3)
  | 0 => (fun v0 v1 v2 v3 => rfl)
  | n + 1 => (fun v0 v1 v2 v3 => (zq53.d1.run N (fun s => iter (loopF zq53.C (zq53.O N) N zq53.c116 58) n s (zq53.K58 N)) v0 v1 v2 v3).trans (show _ = zq53.d1 N v0 v1 v2 v3 ((fun w0 w1 w2 w3 => zq53.l1 N n w0 w1 w2 w3)) from (congr rfl (funext fun w0 => funext fun w1 => funext fun w2 => funext fun w3 => (zq53.loop58 N n) w0 w1 w2 w3))))
def zq53.o0 (N : Nat) (a0 : List Bool) (a1 : List Bool) (c1 : (List Bool) → (List Bool) → Int → Int → Option zq53.R) : Option zq53.R :=
 bif ((a0.length : Int) != (a1.length : Int)) then
  some (false)
 else
 c1 a0 a1 (a0.length : Int) 0
theorem zq53.o0.run (N : Nat) (H116 : Code) (a0 : List Bool) (a1 : List Bool) : runC zq53.C (zq53.O N) N (.seq zq53.c2 (.seq zq53.c6 (.seq (.seq zq53.c28 (.block 0 (.loop H116))) zq53.c15))) 1 (st0 [.one (.sl false 4 a0), .one (.sl false 4 a1)] [] : St D0) zq53.K0 = zq53.o0 N a0 a1 ((fun w0 w1 w2 w3 => iter (loopF zq53.C (zq53.O N) N H116 58) N (mkSt [(0, .one (.sl false 4 w0)), (1, .one (.sl false 4 w1)), (12, .one (.int .i64 w2)), (13, .one (.int .i64 w3))] [] : St D0) (blockK 0 (onN (fun s => zq53.C.tidy 14 s (fun s' => runC zq53.C (zq53.O N) N zq53.c15 15 s' zq53.K0)) zq53.K0)))) := by kernel_rfl
def zq53.g (N : Nat) (a0 : List Bool) (a1 : List Bool) : Option zq53.R := zq53.o0 N a0 a1 ((fun w0 w1 w2 w3 => zq53.l1 N N w0 w1 w2 w3))
theorem zq53.c1_0 : zq53.c1 = (.seq zq53.c2 (.seq zq53.c6 (.seq (.seq zq53.c28 (.block 0 (.loop zq53.c116))) zq53.c15))) := by kernel_rfl
theorem zq53.g.run (N : Nat) (a0 : List Bool) (a1 : List Bool) : runC zq53.C (zq53.O N) N zq53.c1 1 (st0 [.one (.sl false 4 a0), .one (.sl false 4 a1)] [] : St D0) zq53.K0 = zq53.g N a0 a1 := by
  rw [zq53.c1_0]; unfold zq53.g; exact (zq53.o0.run N zq53.c116 a0 a1).trans (congr rfl (funext fun w0 => funext fun w1 => funext fun w2 => funext fun w3 => (zq53.loop58 N N) w0 w1 w2 w3))
theorem zq53.good (N : Nat) (a0 : List Bool) (a1 : List Bool) (r : zq53.R) (h : zq53.g N a0 a1 = some r) : Go.PM.Good Tryz.prog T0 55 [.one (.sl false 4 a0), .one (.sl false 4 a1)] [] (zq53.sig.ret r) (zq53.sig.bs r) :=
  good_fn tabOk0 mixed0 zq53.sig (zq53.E N) Tryz.func55 (by kernel_rfl) (by kernel_rfl) 16806963 0 0 [(58, [0, 1, 12, 13], [])] 3344704 false [] [(false, [.any])] (by kernel_rfl) rfl rfl ((zq53.g.run N a0 a1).trans h)
def zq53.ent (N : Nat) : Ent Tryz.prog T0 := mkEnt 55 [(false, [.ro 4]), (false, [.ro 4])] zq53.sig (fun t => zq53.g N t.1 t.2) (fun t r h => zq53.good N t.1 t.2 r h)
/-! ### zq17 -/
abbrev zq17.R : Type := List S25 × Bool
abbrev zq17.sig : Sig := ⟨[(false, 1), (false, 1)], [], [.int .i64, .int .i64], [(false, 1), (false, 1)], [], [.sl false 25, .bool]⟩
def zq17.C : Cfg D0 := ⟨Tryz.prog, T0, 262195, 0, 33, 0, [(12, [0, 1, 18], [])], 28410944, false, []⟩
def zq17.E (N : Nat) : List (Ent Tryz.prog T0) := [zq36.ent N, zq43.ent N, zq35.ent N]
def zq17.O (N : Nat) : Orc D0 zq17.R := orcOf (zq17.E N)
def zq17.K0 : Ex → St D0 → Option zq17.R := exitK zq17.C Tryz.f51.results.toList [(false, [.ro 25]), (false, [.any])] (decOut zq17.sig)
def zq17.c1 : Code := codeAt (Tryz.f51.body.getD .skip) []
def zq17.c2 : Code := codeAt (Tryz.f51.body.getD .skip) [false]
def zq17.c7 : Code := codeAt (Tryz.f51.body.getD .skip) [true, true]
def zq17.c12 : Code := codeAt (Tryz.f51.body.getD .skip) [true, false, false]
def zq17.c13 : Code := codeAt (Tryz.f51.body.getD .skip) [true, false, true]
def zq17.K13 (N : Nat) : Ex → St D0 → Option zq17.R := (onN (fun s => zq17.C.tidy 6 s (fun s' => runC zq17.C (zq17.O N) N zq17.c7 7 s' zq17.K0)) zq17.K0)
def zq17.o1 (N : Nat) (v0 : Int) (v1 : Int) (v2 : Bool) : Option zq17.R :=
 bif v2 then
  some (([] : List S25), false)
 else
 (zq43.g N 0 1 (if (w64 (v1 - v0)) > (w64 (v0 - v1)) then (w64 (v1 - v0)) else (w64 (v0 - v1)))).bind fun r1 =>
 (zq35.g N r1.1 r1.2).bind fun r2 =>
 some (r2.1, r2.2)
theorem zq17.o1.run (N : Nat) (v0 : Int) (v1 : Int) (v2 : Bool) : runC zq17.C (zq17.O N) N zq17.c13 13 (mkSt [(0, .one (.int .i64 v0)), (1, .one (.int .i64 v1)), (18, .one (.bool v2))] [] : St D0) (onN (fun s => zq17.C.tidy 6 s (fun s' => runC zq17.C (zq17.O N) N zq17.c7 7 s' zq17.K0)) zq17.K0) = zq17.o1 N v0 v1 v2 := by kernel_rfl
def zq17.d1 (N : Nat) (v0 : Int) (v1 : Int) (v2 : Bool) : Option zq17.R := zq17.o1 N v0 v1 v2
theorem zq17.d1.run (N : Nat) (v0 : Int) (v1 : Int) (v2 : Bool) : runC zq17.C (zq17.O N) N zq17.c13 13 (mkSt [(0, .one (.int .i64 v0)), (1, .one (.int .i64 v1)), (18, .one (.bool v2))] [] : St D0) (zq17.K13 N) = zq17.d1 N v0 v1 v2 := by
  exact (zq17.o1.run N v0 v1 v2).trans rfl
def zq17.o0 (N : Nat) (a0 : Int) (a1 : Int) (c1 : Int → Int → Bool → Option zq17.R) : Option zq17.R :=
 (zq36.g N a0).bind fun r1 =>
 bif (!r1) then
  c1 a0 a1 true
 else
 (zq36.g N a1).bind fun r2 =>
 bif (!r2) then
  c1 a0 a1 true
 else
 c1 a0 a1 (a0 == a1)
theorem zq17.o0.run (N : Nat) (H13 : Code) (a0 : Int) (a1 : Int) : runC zq17.C (zq17.O N) N (.seq zq17.c2 (.seq (.seq zq17.c12 H13) zq17.c7)) 1 (st0 [.one (.int .i64 a0), .one (.int .i64 a1)] [] : St D0) zq17.K0 = zq17.o0 N a0 a1 ((fun w0 w1 w2 => runC zq17.C (zq17.O N) N H13 13 (mkSt [(0, .one (.int .i64 w0)), (1, .one (.int .i64 w1)), (18, .one (.bool w2))] [] : St D0) (onN (fun s => zq17.C.tidy 6 s (fun s' => runC zq17.C (zq17.O N) N zq17.c7 7 s' zq17.K0)) zq17.K0))) := by kernel_rfl
def zq17.g (N : Nat) (a0 : Int) (a1 : Int) : Option zq17.R := zq17.o0 N a0 a1 ((fun w0 w1 w2 => zq17.d1 N w0 w1 w2))
theorem zq17.c1_0 : zq17.c1 = (.seq zq17.c2 (.seq (.seq zq17.c12 zq17.c13) zq17.c7)) := by kernel_rfl
theorem zq17.g.run (N : Nat) (a0 : Int) (a1 : Int) : runC zq17.C (zq17.O N) N zq17.c1 1 (st0 [.one (.int .i64 a0), .one (.int .i64 a1)] [] : St D0) zq17.K0 = zq17.g N a0 a1 := by
  rw [zq17.c1_0]; unfold zq17.g; exact (zq17.o0.run N zq17.c13 a0 a1).trans (congr rfl (funext fun w0 => funext fun w1 => funext fun w2 => zq17.d1.run N w0 w1 w2))
theorem zq17.good (N : Nat) (a0 : Int) (a1 : Int) (r : zq17.R) (h : zq17.g N a0 a1 = some r) : Go.PM.Good Tryz.prog T0 51 [.one (.int .i64 a0), .one (.int .i64 a1)] [] (zq17.sig.ret r) (zq17.sig.bs r) :=
  good_fn tabOk0 mixed0 zq17.sig (zq17.E N) Tryz.func51 (by kernel_rfl) (by kernel_rfl) 262195 0 0 [(12, [0, 1, 18], [])] 28410944 false [] [(false, [.ro 25]), (false, [.any])] (by kernel_rfl) rfl rfl ((zq17.g.run N a0 a1).trans h)
def zq17.ent (N : Nat) : Ent Tryz.prog T0 := mkEnt 51 [(false, [.any]), (false, [.any])] zq17.sig (fun t => zq17.g N t.1 t.2) (fun t r h => zq17.good N t.1 t.2 r h)
/-! ### zq116 -/
abbrev zq116.R : Type := List S25
abbrev zq116.sig : Sig := ⟨[(false, 1), (false, 1)], [], [.int .i64, .int .i64], [(false, 1)], [], [.sl true 25]⟩
def zq116.C : Cfg D0 := ⟨Tryz.prog, T0, 16627, 0, 28, 0, [(58, [0, 1, 5, 6], [])], 826368, false, []⟩
def zq116.E (N : Nat) : List (Ent Tryz.prog T0) := [zq92.ent N]
def zq116.O (N : Nat) : Orc D0 zq116.R := orcOf (zq116.E N)
def zq116.K0 : Ex → St D0 → Option zq116.R := exitK zq116.C Tryz.f102.results.toList [(false, [.own 25])] (decOut zq116.sig)
def zq116.c1 : Code := codeAt (Tryz.f102.body.getD .skip) []
def zq116.c2 : Code := codeAt (Tryz.f102.body.getD .skip) [false]
def zq116.c6 : Code := codeAt (Tryz.f102.body.getD .skip) [true, false]
def zq116.c15 : Code := codeAt (Tryz.f102.body.getD .skip) [true, true, true]
def zq116.c28 : Code := codeAt (Tryz.f102.body.getD .skip) [true, true, false, false]
def zq116.c116 : Code := codeAt (Tryz.f102.body.getD .skip) [true, true, false, true, false, false]
def zq116.K116 (N : Nat) (Kn58 : St D0 → Option zq116.R) : Ex → St D0 → Option zq116.R := ((fun up => (onN (fun s => zq116.C.tidy 58 s ((onN Kn58 up) .normal)) (onN Kn58 up))) (blockK 0 (onN (fun s => zq116.C.tidy 14 s (fun s' => runC zq116.C (zq116.O N) N zq116.c15 15 s' zq116.K0)) zq116.K0)))
def zq116.o1 (N : Nat) (v0 : Int) (v1 : Int) (v2 : Int) (c2 : Int → Int → (List S25) → Int → Option zq116.R) : Option zq116.R :=
 bif (decide (v2 < (w64 (v0 + v1)))) then
  (zq92.g N v2 v1).bind fun r1 =>
  bif (Nat.blt (([] : List S25).length + ([(⟨r1.1, r1.2.1⟩ : S25)] : List S25).length) 8796093022208) then
   c2 v0 v1 (([] : List S25) ++ ([(⟨r1.1, r1.2.1⟩ : S25)] : List S25)) (w64 (v2 + 1))
  else
  none
 else
 some (([] : List S25))
theorem zq116.o1.run (N : Nat) (Kn58 : St D0 → Option zq116.R) (v0 : Int) (v1 : Int) (v2 : Int) : runC zq116.C (zq116.O N) N zq116.c116 116 (mkSt [(0, .one (.int .i64 v0)), (1, .one (.int .i64 v1)), (5, .one (.nl)), (6, .one (.int .i64 v2))] [] : St D0) ((fun up => (onN (fun s => zq116.C.tidy 58 s ((onN Kn58 up) .normal)) (onN Kn58 up))) (blockK 0 (onN (fun s => zq116.C.tidy 14 s (fun s' => runC zq116.C (zq116.O N) N zq116.c15 15 s' zq116.K0)) zq116.K0))) = zq116.o1 N v0 v1 v2 ((fun w0 w1 w2 w3 => Kn58 (mkSt [(0, .one (.int .i64 w0)), (1, .one (.int .i64 w1)), (5, .one (.sl true 25 w2)), (6, .one (.int .i64 w3))] [] : St D0))) := by kernel_rfl
def zq116.d1 (N : Nat) (v0 : Int) (v1 : Int) (v2 : Int) (c2 : Int → Int → (List S25) → Int → Option zq116.R) : Option zq116.R := zq116.o1 N v0 v1 v2 c2
theorem zq116.d1.run (N : Nat) (Kn58 : St D0 → Option zq116.R) (v0 : Int) (v1 : Int) (v2 : Int) : runC zq116.C (zq116.O N) N zq116.c116 116 (mkSt [(0, .one (.int .i64 v0)), (1, .one (.int .i64 v1)), (5, .one (.nl)), (6, .one (.int .i64 v2))] [] : St D0) (zq116.K116 N Kn58) = zq116.d1 N v0 v1 v2 ((fun w0 w1 w2 w3 => Kn58 (mkSt [(0, .one (.int .i64 w0)), (1, .one (.int .i64 w1)), (5, .one (.sl true 25 w2)), (6, .one (.int .i64 w3))] [] : St D0))) := by
  exact (zq116.o1.run N Kn58 v0 v1 v2).trans rfl
def zq116.o2 (N : Nat) (v0 : Int) (v1 : Int) (v2 : List S25) (v3 : Int) (c2 : Int → Int → (List S25) → Int → Option zq116.R) : Option zq116.R :=
 bif (decide (v3 < (w64 (v0 + v1)))) then
  (zq92.g N v3 v1).bind fun r1 =>
  bif (Nat.blt (v2.length + ([(⟨r1.1, r1.2.1⟩ : S25)] : List S25).length) 8796093022208) then
   c2 v0 v1 (v2 ++ ([(⟨r1.1, r1.2.1⟩ : S25)] : List S25)) (w64 (v3 + 1))
  else
  none
 else
 some (v2)
theorem zq116.o2.run (N : Nat) (Kn58 : St D0 → Option zq116.R) (v0 : Int) (v1 : Int) (v2 : List S25) (v3 : Int) : runC zq116.C (zq116.O N) N zq116.c116 116 (mkSt [(0, .one (.int .i64 v0)), (1, .one (.int .i64 v1)), (5, .one (.sl true 25 v2)), (6, .one (.int .i64 v3))] [] : St D0) ((fun up => (onN (fun s => zq116.C.tidy 58 s ((onN Kn58 up) .normal)) (onN Kn58 up))) (blockK 0 (onN (fun s => zq116.C.tidy 14 s (fun s' => runC zq116.C (zq116.O N) N zq116.c15 15 s' zq116.K0)) zq116.K0))) = zq116.o2 N v0 v1 v2 v3 ((fun w0 w1 w2 w3 => Kn58 (mkSt [(0, .one (.int .i64 w0)), (1, .one (.int .i64 w1)), (5, .one (.sl true 25 w2)), (6, .one (.int .i64 w3))] [] : St D0))) := by kernel_rfl
def zq116.d2 (N : Nat) (v0 : Int) (v1 : Int) (v2 : List S25) (v3 : Int) (c2 : Int → Int → (List S25) → Int → Option zq116.R) : Option zq116.R := zq116.o2 N v0 v1 v2 v3 c2
theorem zq116.d2.run (N : Nat) (Kn58 : St D0 → Option zq116.R) (v0 : Int) (v1 : Int) (v2 : List S25) (v3 : Int) : runC zq116.C (zq116.O N) N zq116.c116 116 (mkSt [(0, .one (.int .i64 v0)), (1, .one (.int .i64 v1)), (5, .one (.sl true 25 v2)), (6, .one (.int .i64 v3))] [] : St D0) (zq116.K116 N Kn58) = zq116.d2 N v0 v1 v2 v3 ((fun w0 w1 w2 w3 => Kn58 (mkSt [(0, .one (.int .i64 w0)), (1, .one (.int .i64 w1)), (5, .one (.sl true 25 w2)), (6, .one (.int .i64 w3))] [] : St D0))) := by
  exact (zq116.o2.run N Kn58 v0 v1 v2 v3).trans rfl
def zq116.K58 (N : Nat) : Ex → St D0 → Option zq116.R := (blockK 0 (onN (fun s => zq116.C.tidy 14 s (fun s' => runC zq116.C (zq116.O N) N zq116.c15 15 s' zq116.K0)) zq116.K0))
mutual
def zq116.l1 (N : Nat) : Nat → Int → Int → Int → Option zq116.R
  | 0, _, _, _ => none
  | n + 1, v0, v1, v2 => zq116.d1 N v0 v1 v2 ((fun w0 w1 w2 w3 => zq116.l2 N n w0 w1 w2 w3))
def zq116.l2 (N : Nat) : Nat → Int → Int → (List S25) → Int → Option zq116.R
  | 0, _, _, _, _ => none
  | n + 1, v0, v1, v2, v3 => zq116.d2 N v0 v1 v2 v3 ((fun w0 w1 w2 w3 => zq116.l2 N n w0 w1 w2 w3))
end
theorem zq116.loop58 (N : Nat) : ∀ n, (∀ (v0 : Int) (v1 : Int) (v2 : Int), iter (loopF zq116.C (zq116.O N) N zq116.c116 58) n (mkSt [(0, .one (.int .i64 v0)), (1, .one (.int .i64 v1)), (5, .one (.nl)), (6, .one (.int .i64 v2))] [] : St D0) (zq116.K58 N) = zq116.l1 N n v0 v1 v2) ∧ (∀ (v0 : Int) (v1 : Int) (v2 : List S25) (v3 : Int), iter (loopF zq116.C (zq116.O N) N zq116.c116 58) n (mkSt [(0, .one (.int .i64 v0)), (1, .one (.int .i64 v1)), (5, .one (.sl true 25 v2)), (6, .one (.int .i64 v3))] [] : St D0) (zq116.K58 N) = zq116.l2 N n v0 v1 v2 v3)
  | 0 => ⟨(fun v0 v1 v2 => rfl), (fun v0 v1 v2 v3 => rfl)⟩
  | n + 1 => ⟨(fun v0 v1 v2 => (zq116.d1.run N (fun s => iter (loopF zq116.C (zq116.O N) N zq116.c116 58) n s (zq116.K58 N)) v0 v1 v2).trans (show _ = zq116.d1 N v0 v1 v2 ((fun w0 w1 w2 w3 => zq116.l2 N n w0 w1 w2 w3)) from (congr rfl (funext fun w0 => funext fun w1 => funext fun w2 => funext fun w3 => (zq116.loop58 N n).2 w0 w1 w2 w3)))), (fun v0 v1 v2 v3 => (zq116.d2.run N (fun s => iter (loopF zq116.C (zq116.O N) N zq116.c116 58) n s (zq116.K58 N)) v0 v1 v2 v3).trans (show _ = zq116.d2 N v0 v1 v2 v3 ((fun w0 w1 w2 w3 => zq116.l2 N n w0 w1 w2 w3)) from (congr rfl (funext fun w0 => funext fun w1 => funext fun w2 => funext fun w3 => (zq116.loop58 N n).2 w0 w1 w2 w3))))⟩
def zq116.o0 (N : Nat) (a0 : Int) (a1 : Int) (c1 : Int → Int → Int → Option zq116.R) : Option zq116.R :=
 c1 a0 a1 a0
theorem zq116.o0.run (N : Nat) (H116 : Code) (a0 : Int) (a1 : Int) : runC zq116.C (zq116.O N) N (.seq zq116.c2 (.seq zq116.c6 (.seq (.seq zq116.c28 (.block 0 (.loop H116))) zq116.c15))) 1 (st0 [.one (.int .i64 a0), .one (.int .i64 a1)] [] : St D0) zq116.K0 = zq116.o0 N a0 a1 ((fun w0 w1 w2 => iter (loopF zq116.C (zq116.O N) N H116 58) N (mkSt [(0, .one (.int .i64 w0)), (1, .one (.int .i64 w1)), (5, .one (.nl)), (6, .one (.int .i64 w2))] [] : St D0) (blockK 0 (onN (fun s => zq116.C.tidy 14 s (fun s' => runC zq116.C (zq116.O N) N zq116.c15 15 s' zq116.K0)) zq116.K0)))) := by kernel_rfl
def zq116.g (N : Nat) (a0 : Int) (a1 : Int) : Option zq116.R := zq116.o0 N a0 a1 ((fun w0 w1 w2 => zq116.l1 N N w0 w1 w2))
theorem zq116.c1_0 : zq116.c1 = (.seq zq116.c2 (.seq zq116.c6 (.seq (.seq zq116.c28 (.block 0 (.loop zq116.c116))) zq116.c15))) := by kernel_rfl
theorem zq116.g.run (N : Nat) (a0 : Int) (a1 : Int) : runC zq116.C (zq116.O N) N zq116.c1 1 (st0 [.one (.int .i64 a0), .one (.int .i64 a1)] [] : St D0) zq116.K0 = zq116.g N a0 a1 := by
  rw [zq116.c1_0]; unfold zq116.g; exact (zq116.o0.run N zq116.c116 a0 a1).trans (congr rfl (funext fun w0 => funext fun w1 => funext fun w2 => (zq116.loop58 N N).1 w0 w1 w2))
theorem zq116.good (N : Nat) (a0 : Int) (a1 : Int) (r : zq116.R) (h : zq116.g N a0 a1 = some r) : Go.PM.Good Tryz.prog T0 102 [.one (.int .i64 a0), .one (.int .i64 a1)] [] (zq116.sig.ret r) (zq116.sig.bs r) :=
  good_fn tabOk0 mixed0 zq116.sig (zq116.E N) Tryz.func102 (by kernel_rfl) (by kernel_rfl) 16627 0 0 [(58, [0, 1, 5, 6], [])] 826368 false [] [(false, [.own 25])] (by kernel_rfl) rfl rfl ((zq116.g.run N a0 a1).trans h)
def zq116.ent (N : Nat) : Ent Tryz.prog T0 := mkEnt 102 [(false, [.any]), (false, [.any])] zq116.sig (fun t => zq116.g N t.1 t.2) (fun t r h => zq116.good N t.1 t.2 r h)
/-! ### zq73 -/
abbrev zq73.R : Type := List S25 × Bool
abbrev zq73.sig : Sig := ⟨[(false, 1), (false, 1)], [], [.int .i64, .int .i64], [(false, 1), (false, 1)], [], [.sl true 25, .bool]⟩
def zq73.C : Cfg D0 := ⟨Tryz.prog, T0, 262195, 0, 24, 0, [(12, [0, 1, 18], [])], 1672256, false, []⟩
def zq73.E (N : Nat) : List (Ent Tryz.prog T0) := [zq91.ent N, zq99.ent N, zq116.ent N]
def zq73.O (N : Nat) : Orc D0 zq73.R := orcOf (zq73.E N)
def zq73.K0 : Ex → St D0 → Option zq73.R := exitK zq73.C Tryz.f52.results.toList [(false, [.own 25]), (false, [.any])] (decOut zq73.sig)
def zq73.c1 : Code := codeAt (Tryz.f52.body.getD .skip) []
def zq73.c2 : Code := codeAt (Tryz.f52.body.getD .skip) [false]
def zq73.c7 : Code := codeAt (Tryz.f52.body.getD .skip) [true, true]
def zq73.c12 : Code := codeAt (Tryz.f52.body.getD .skip) [true, false, false]
def zq73.c13 : Code := codeAt (Tryz.f52.body.getD .skip) [true, false, true]
def zq73.K13 (N : Nat) : Ex → St D0 → Option zq73.R := (onN (fun s => zq73.C.tidy 6 s (fun s' => runC zq73.C (zq73.O N) N zq73.c7 7 s' zq73.K0)) zq73.K0)
def zq73.o1 (N : Nat) (v0 : Int) (v1 : Int) (v2 : Bool) : Option zq73.R :=
 bif v2 then
  some (([] : List S25), false)
 else
 (zq99.g N (w64 (v0 - v1))).bind fun r1 =>
 (zq116.g N 0 r1).bind fun r2 =>
 some (r2, true)
theorem zq73.o1.run (N : Nat) (v0 : Int) (v1 : Int) (v2 : Bool) : runC zq73.C (zq73.O N) N zq73.c13 13 (mkSt [(0, .one (.int .i64 v0)), (1, .one (.int .i64 v1)), (18, .one (.bool v2))] [] : St D0) (onN (fun s => zq73.C.tidy 6 s (fun s' => runC zq73.C (zq73.O N) N zq73.c7 7 s' zq73.K0)) zq73.K0) = zq73.o1 N v0 v1 v2 := by kernel_rfl
def zq73.d1 (N : Nat) (v0 : Int) (v1 : Int) (v2 : Bool) : Option zq73.R := zq73.o1 N v0 v1 v2
theorem zq73.d1.run (N : Nat) (v0 : Int) (v1 : Int) (v2 : Bool) : runC zq73.C (zq73.O N) N zq73.c13 13 (mkSt [(0, .one (.int .i64 v0)), (1, .one (.int .i64 v1)), (18, .one (.bool v2))] [] : St D0) (zq73.K13 N) = zq73.d1 N v0 v1 v2 := by
  exact (zq73.o1.run N v0 v1 v2).trans rfl
def zq73.o0 (N : Nat) (a0 : Int) (a1 : Int) (c1 : Int → Int → Bool → Option zq73.R) : Option zq73.R :=
 (zq91.g N a0).bind fun r1 =>
 bif (!r1) then
  c1 a0 a1 true
 else
 (zq91.g N a1).bind fun r2 =>
 bif (!r2) then
  c1 a0 a1 true
 else
 c1 a0 a1 (a0 == a1)
theorem zq73.o0.run (N : Nat) (H13 : Code) (a0 : Int) (a1 : Int) : runC zq73.C (zq73.O N) N (.seq zq73.c2 (.seq (.seq zq73.c12 H13) zq73.c7)) 1 (st0 [.one (.int .i64 a0), .one (.int .i64 a1)] [] : St D0) zq73.K0 = zq73.o0 N a0 a1 ((fun w0 w1 w2 => runC zq73.C (zq73.O N) N H13 13 (mkSt [(0, .one (.int .i64 w0)), (1, .one (.int .i64 w1)), (18, .one (.bool w2))] [] : St D0) (onN (fun s => zq73.C.tidy 6 s (fun s' => runC zq73.C (zq73.O N) N zq73.c7 7 s' zq73.K0)) zq73.K0))) := by kernel_rfl
def zq73.g (N : Nat) (a0 : Int) (a1 : Int) : Option zq73.R := zq73.o0 N a0 a1 ((fun w0 w1 w2 => zq73.d1 N w0 w1 w2))
theorem zq73.c1_0 : zq73.c1 = (.seq zq73.c2 (.seq (.seq zq73.c12 zq73.c13) zq73.c7)) := by kernel_rfl
theorem zq73.g.run (N : Nat) (a0 : Int) (a1 : Int) : runC zq73.C (zq73.O N) N zq73.c1 1 (st0 [.one (.int .i64 a0), .one (.int .i64 a1)] [] : St D0) zq73.K0 = zq73.g N a0 a1 := by
  rw [zq73.c1_0]; unfold zq73.g; exact (zq73.o0.run N zq73.c13 a0 a1).trans (congr rfl (funext fun w0 => funext fun w1 => funext fun w2 => zq73.d1.run N w0 w1 w2))
theorem zq73.good (N : Nat) (a0 : Int) (a1 : Int) (r : zq73.R) (h : zq73.g N a0 a1 = some r) : Go.PM.Good Tryz.prog T0 52 [.one (.int .i64 a0), .one (.int .i64 a1)] [] (zq73.sig.ret r) (zq73.sig.bs r) :=
  good_fn tabOk0 mixed0 zq73.sig (zq73.E N) Tryz.func52 (by kernel_rfl) (by kernel_rfl) 262195 0 0 [(12, [0, 1, 18], [])] 1672256 false [] [(false, [.own 25]), (false, [.any])] (by kernel_rfl) rfl rfl ((zq73.g.run N a0 a1).trans h)
def zq73.ent (N : Nat) : Ent Tryz.prog T0 := mkEnt 52 [(false, [.any]), (false, [.any])] zq73.sig (fun t => zq73.g N t.1 t.2) (fun t r h => zq73.good N t.1 t.2 r h)
/-! ### zq21 -/
abbrev zq21.R : Type := ByteArray × Bool
abbrev zq21.sig : Sig := ⟨[(false, 1), (false, 1), (true, 2)], [], [.int .i64, .int .i64, .int .i64, .int .i64], [(false, 1), (false, 1)], [], [.str, .bool]⟩
def zq21.C : Cfg D0 := ⟨Tryz.prog, T0, 1255, 0, 16, 0, [], 2304, false, []⟩
def zq21.E (N : Nat) : List (Ent Tryz.prog T0) := [zq36.ent N, zq23.ent N]
def zq21.O (N : Nat) : Orc D0 zq21.R := orcOf (zq21.E N)
def zq21.K0 : Ex → St D0 → Option zq21.R := exitK zq21.C Tryz.f48.results.toList [(false, [.any]), (false, [.any])] (decOut zq21.sig)
def zq21.c1 : Code := codeAt (Tryz.f48.body.getD .skip) []
def zq21.o0 (N : Nat) (a0 : Int) (a1 : Int) (a2_0 : Int) (a2_1 : Int) : Option zq21.R :=
 (zq36.g N a0).bind fun r1 =>
 bif (!r1) then
  some ((⟨#[]⟩ : ByteArray), false)
 else
 (zq23.g N a1 a2_0 a2_1).bind fun r2 =>
 some (r2.1, r2.2)
theorem zq21.o0.run (N : Nat) (a0 : Int) (a1 : Int) (a2_0 : Int) (a2_1 : Int) : runC zq21.C (zq21.O N) N zq21.c1 1 (st0 [.one (.int .i64 a0), .one (.int .i64 a1), .agg [.int .i64 a2_0, .int .i64 a2_1]] [] : St D0) zq21.K0 = zq21.o0 N a0 a1 a2_0 a2_1 := by kernel_rfl
def zq21.g (N : Nat) (a0 : Int) (a1 : Int) (a2_0 : Int) (a2_1 : Int) : Option zq21.R := zq21.o0 N a0 a1 a2_0 a2_1
theorem zq21.g.run (N : Nat) (a0 : Int) (a1 : Int) (a2_0 : Int) (a2_1 : Int) : runC zq21.C (zq21.O N) N zq21.c1 1 (st0 [.one (.int .i64 a0), .one (.int .i64 a1), .agg [.int .i64 a2_0, .int .i64 a2_1]] [] : St D0) zq21.K0 = zq21.g N a0 a1 a2_0 a2_1 := by
  exact (zq21.o0.run N a0 a1 a2_0 a2_1).trans rfl
theorem zq21.good (N : Nat) (a0 : Int) (a1 : Int) (a2_0 : Int) (a2_1 : Int) (r : zq21.R) (h : zq21.g N a0 a1 a2_0 a2_1 = some r) : Go.PM.Good Tryz.prog T0 48 [.one (.int .i64 a0), .one (.int .i64 a1), .agg [.int .i64 a2_0, .int .i64 a2_1]] [] (zq21.sig.ret r) (zq21.sig.bs r) :=
  good_fn tabOk0 mixed0 zq21.sig (zq21.E N) Tryz.func48 (by kernel_rfl) (by kernel_rfl) 1255 0 0 [] 2304 false [] [(false, [.any]), (false, [.any])] (by kernel_rfl) rfl rfl ((zq21.g.run N a0 a1 a2_0 a2_1).trans h)
def zq21.ent (N : Nat) : Ent Tryz.prog T0 := mkEnt 48 [(false, [.any]), (false, [.any]), (true, [.any, .any])] zq21.sig (fun t => zq21.g N t.1 t.2.1 t.2.2.1 t.2.2.2) (fun t r h => zq21.good N t.1 t.2.1 t.2.2.1 t.2.2.2 r h)
/-! ### zq77 -/
abbrev zq77.R : Type := ByteArray × Bool
abbrev zq77.sig : Sig := ⟨[(false, 1), (false, 1), (true, 2)], [], [.int .i64, .int .i64, .int .i64, .int .i64], [(false, 1), (false, 1)], [], [.str, .bool]⟩
def zq77.C : Cfg D0 := ⟨Tryz.prog, T0, 2279, 0, 17, 0, [], 4352, false, []⟩
def zq77.E (N : Nat) : List (Ent Tryz.prog T0) := [zq87.ent N, zq79.ent N]
def zq77.O (N : Nat) : Orc D0 zq77.R := orcOf (zq77.E N)
def zq77.K0 : Ex → St D0 → Option zq77.R := exitK zq77.C Tryz.f49.results.toList [(false, [.any]), (false, [.any])] (decOut zq77.sig)
def zq77.c1 : Code := codeAt (Tryz.f49.body.getD .skip) []
def zq77.o0 (N : Nat) (a0 : Int) (a1 : Int) (a2_0 : Int) (a2_1 : Int) : Option zq77.R :=
 (zq87.g N a0 a2_0 a2_1).bind fun r1 =>
 bif (!r1) then
  some ((⟨#[]⟩ : ByteArray), false)
 else
 (zq79.g N a1 a2_0 a2_1).bind fun r2 =>
 some (r2.1, r2.2)
theorem zq77.o0.run (N : Nat) (a0 : Int) (a1 : Int) (a2_0 : Int) (a2_1 : Int) : runC zq77.C (zq77.O N) N zq77.c1 1 (st0 [.one (.int .i64 a0), .one (.int .i64 a1), .agg [.int .i64 a2_0, .int .i64 a2_1]] [] : St D0) zq77.K0 = zq77.o0 N a0 a1 a2_0 a2_1 := by kernel_rfl
def zq77.g (N : Nat) (a0 : Int) (a1 : Int) (a2_0 : Int) (a2_1 : Int) : Option zq77.R := zq77.o0 N a0 a1 a2_0 a2_1
theorem zq77.g.run (N : Nat) (a0 : Int) (a1 : Int) (a2_0 : Int) (a2_1 : Int) : runC zq77.C (zq77.O N) N zq77.c1 1 (st0 [.one (.int .i64 a0), .one (.int .i64 a1), .agg [.int .i64 a2_0, .int .i64 a2_1]] [] : St D0) zq77.K0 = zq77.g N a0 a1 a2_0 a2_1 := by
  exact (zq77.o0.run N a0 a1 a2_0 a2_1).trans rfl
theorem zq77.good (N : Nat) (a0 : Int) (a1 : Int) (a2_0 : Int) (a2_1 : Int) (r : zq77.R) (h : zq77.g N a0 a1 a2_0 a2_1 = some r) : Go.PM.Good Tryz.prog T0 49 [.one (.int .i64 a0), .one (.int .i64 a1), .agg [.int .i64 a2_0, .int .i64 a2_1]] [] (zq77.sig.ret r) (zq77.sig.bs r) :=
  good_fn tabOk0 mixed0 zq77.sig (zq77.E N) Tryz.func49 (by kernel_rfl) (by kernel_rfl) 2279 0 0 [] 4352 false [] [(false, [.any]), (false, [.any])] (by kernel_rfl) rfl rfl ((zq77.g.run N a0 a1 a2_0 a2_1).trans h)
def zq77.ent (N : Nat) : Ent Tryz.prog T0 := mkEnt 49 [(false, [.any]), (false, [.any]), (true, [.any, .any])] zq77.sig (fun t => zq77.g N t.1 t.2.1 t.2.2.1 t.2.2.2) (fun t r h => zq77.good N t.1 t.2.1 t.2.2.1 t.2.2.2 r h)
/-! ### zq58 -/
abbrev zq58.R : Type := Int × Int × Int
abbrev zq58.sig : Sig := ⟨[(false, 1)], [], [.sl false 5], [(false, 1), (false, 1), (false, 1)], [], [.int .i64, .int .i64, .int .i64]⟩
def zq58.C : Cfg D0 := ⟨Tryz.prog, T0, 253, 0, 21, 0, [], 266240, false, []⟩
def zq58.E (N : Nat) : List (Ent Tryz.prog T0) := [zq101.ent N, zq100.ent N]
def zq58.O (N : Nat) : Orc D0 zq58.R := orcOf (zq58.E N)
def zq58.K0 : Ex → St D0 → Option zq58.R := exitK zq58.C Tryz.f38.results.toList [(false, [.any]), (false, [.any]), (false, [.any])] (decOut zq58.sig)
def zq58.c1 : Code := codeAt (Tryz.f38.body.getD .skip) []
def zq58.o0 (N : Nat) (a0 : List Int) : Option zq58.R :=
 (zq101.g N a0 0 0).bind fun r1 =>
 (zq100.g N ([1, 10, 100, 200, 1000, 100000, 100001, 0] : List Int) r1.2.2.1 r1.2.2.2.1 r1.2.2.2.2).bind fun r2 =>
 some (r1.1, r1.2.1, r2.1)
theorem zq58.o0.run (N : Nat) (a0 : List Int) : runC zq58.C (zq58.O N) N zq58.c1 1 (st0 [.one (.sl false 5 a0)] [] : St D0) zq58.K0 = zq58.o0 N a0 := by kernel_rfl
def zq58.g (N : Nat) (a0 : List Int) : Option zq58.R := zq58.o0 N a0
theorem zq58.g.run (N : Nat) (a0 : List Int) : runC zq58.C (zq58.O N) N zq58.c1 1 (st0 [.one (.sl false 5 a0)] [] : St D0) zq58.K0 = zq58.g N a0 := by
  exact (zq58.o0.run N a0).trans rfl
theorem zq58.good (N : Nat) (a0 : List Int) (r : zq58.R) (h : zq58.g N a0 = some r) : Go.PM.Good Tryz.prog T0 38 [.one (.sl false 5 a0)] [] (zq58.sig.ret r) (zq58.sig.bs r) :=
  good_fn tabOk0 mixed0 zq58.sig (zq58.E N) Tryz.func38 (by kernel_rfl) (by kernel_rfl) 253 0 0 [] 266240 false [] [(false, [.any]), (false, [.any]), (false, [.any])] (by kernel_rfl) rfl rfl ((zq58.g.run N a0).trans h)
def zq58.ent (N : Nat) : Ent Tryz.prog T0 := mkEnt 38 [(false, [.ro 5])] zq58.sig (fun t => zq58.g N t) (fun t r h => zq58.good N t r h)
/-! ### zq60 -/
abbrev zq60.R : Type := Int × Int × Int
abbrev zq60.sig : Sig := ⟨[(false, 1)], [], [.sl false 5], [(false, 1), (false, 1), (false, 1)], [], [.int .i64, .int .i64, .int .i64]⟩
def zq60.C : Cfg D0 := ⟨Tryz.prog, T0, 61, 0, 24, 0, [], 2196992, false, []⟩
def zq60.E (N : Nat) : List (Ent Tryz.prog T0) := [zq105.ent N, zq100.ent N]
def zq60.O (N : Nat) : Orc D0 zq60.R := orcOf (zq60.E N)
def zq60.K0 : Ex → St D0 → Option zq60.R := exitK zq60.C Tryz.f41.results.toList [(false, [.any]), (false, [.any]), (false, [.any])] (decOut zq60.sig)
def zq60.c1 : Code := codeAt (Tryz.f41.body.getD .skip) []
def zq60.o0 (N : Nat) (a0 : List Int) : Option zq60.R :=
 (zq105.g N 900 a0 0 0).bind fun r1 =>
 (zq100.g N ([59, 1447, 30, 1000000, 1000001, 7, 0, (w64 (1 + r1.1))] : List Int) r1.2.1 r1.2.2.1 r1.2.2.2).bind fun r2 =>
 (zq105.g N 30 r2.2.1 r2.2.2.1 r2.2.2.2).bind fun r3 =>
 (zq100.g N ([2, 49, 1, 3, 1000000, 0, (w64 (1 + r3.1))] : List Int) r3.2.1 r3.2.2.1 r3.2.2.2).bind fun r4 =>
 (zq100.g N ([1, 2, 4, 12, 49, 400, 401, 0] : List Int) r4.2.1 r4.2.2.1 r4.2.2.2).bind fun r5 =>
 some (r2.1, r4.1, r5.1)
theorem zq60.o0.run (N : Nat) (a0 : List Int) : runC zq60.C (zq60.O N) N zq60.c1 1 (st0 [.one (.sl false 5 a0)] [] : St D0) zq60.K0 = zq60.o0 N a0 := by kernel_rfl
def zq60.g (N : Nat) (a0 : List Int) : Option zq60.R := zq60.o0 N a0
theorem zq60.g.run (N : Nat) (a0 : List Int) : runC zq60.C (zq60.O N) N zq60.c1 1 (st0 [.one (.sl false 5 a0)] [] : St D0) zq60.K0 = zq60.g N a0 := by
  exact (zq60.o0.run N a0).trans rfl
theorem zq60.good (N : Nat) (a0 : List Int) (r : zq60.R) (h : zq60.g N a0 = some r) : Go.PM.Good Tryz.prog T0 41 [.one (.sl false 5 a0)] [] (zq60.sig.ret r) (zq60.sig.bs r) :=
  good_fn tabOk0 mixed0 zq60.sig (zq60.E N) Tryz.func41 (by kernel_rfl) (by kernel_rfl) 61 0 0 [] 2196992 false [] [(false, [.any]), (false, [.any]), (false, [.any])] (by kernel_rfl) rfl rfl ((zq60.g.run N a0).trans h)
def zq60.ent (N : Nat) : Ent Tryz.prog T0 := mkEnt 41 [(false, [.ro 5])] zq60.sig (fun t => zq60.g N t) (fun t r h => zq60.good N t r h)
/-! ### zq64 -/
abbrev zq64.R : Type := Int × Int
abbrev zq64.sig : Sig := ⟨[(false, 1)], [], [.sl false 5], [(false, 1), (false, 1)], [], [.int .i64, .int .i64]⟩
def zq64.C : Cfg D0 := ⟨Tryz.prog, T0, 61, 0, 22, 0, [], 165376, false, []⟩
def zq64.E (N : Nat) : List (Ent Tryz.prog T0) := [zq105.ent N, zq100.ent N]
def zq64.O (N : Nat) : Orc D0 zq64.R := orcOf (zq64.E N)
def zq64.K0 : Ex → St D0 → Option zq64.R := exitK zq64.C Tryz.f44.results.toList [(false, [.any]), (false, [.any])] (decOut zq64.sig)
def zq64.c1 : Code := codeAt (Tryz.f44.body.getD .skip) []
def zq64.o0 (N : Nat) (a0 : List Int) : Option zq64.R :=
 (zq105.g N 60 a0 0 0).bind fun r1 =>
 (zq100.g N ([1, 4, 29, 33, 128, 1000, 1001, 0, (w64 (1 + r1.1))] : List Int) r1.2.1 r1.2.2.1 r1.2.2.2).bind fun r2 =>
 (zq100.g N ([0, 1, 7, 8, 31, r2.1, (w64 (r2.1 + 1)), (-1)] : List Int) r2.2.1 r2.2.2.1 r2.2.2.2).bind fun r3 =>
 some (r3.1, r2.1)
theorem zq64.o0.run (N : Nat) (a0 : List Int) : runC zq64.C (zq64.O N) N zq64.c1 1 (st0 [.one (.sl false 5 a0)] [] : St D0) zq64.K0 = zq64.o0 N a0 := by kernel_rfl
def zq64.g (N : Nat) (a0 : List Int) : Option zq64.R := zq64.o0 N a0
theorem zq64.g.run (N : Nat) (a0 : List Int) : runC zq64.C (zq64.O N) N zq64.c1 1 (st0 [.one (.sl false 5 a0)] [] : St D0) zq64.K0 = zq64.g N a0 := by
  exact (zq64.o0.run N a0).trans rfl
theorem zq64.good (N : Nat) (a0 : List Int) (r : zq64.R) (h : zq64.g N a0 = some r) : Go.PM.Good Tryz.prog T0 44 [.one (.sl false 5 a0)] [] (zq64.sig.ret r) (zq64.sig.bs r) :=
  good_fn tabOk0 mixed0 zq64.sig (zq64.E N) Tryz.func44 (by kernel_rfl) (by kernel_rfl) 61 0 0 [] 165376 false [] [(false, [.any]), (false, [.any])] (by kernel_rfl) rfl rfl ((zq64.g.run N a0).trans h)
def zq64.ent (N : Nat) : Ent Tryz.prog T0 := mkEnt 44 [(false, [.ro 5])] zq64.sig (fun t => zq64.g N t) (fun t r h => zq64.good N t r h)
/-! ### zq65 -/
abbrev zq65.R : Type := Int × Int × Int × Int
abbrev zq65.sig : Sig := ⟨[(false, 1)], [], [.sl false 5], [(false, 1), (false, 1), (true, 2)], [], [.int .i64, .int .i64, .int .i64, .int .i64]⟩
def zq65.C : Cfg D0 := ⟨Tryz.prog, T0, 61, 0, 15, 0, [], 10752, false, []⟩
def zq65.E (N : Nat) : List (Ent Tryz.prog T0) := [zq102.ent N, zq109.ent N]
def zq65.O (N : Nat) : Orc D0 zq65.R := orcOf (zq65.E N)
def zq65.K0 : Ex → St D0 → Option zq65.R := exitK zq65.C Tryz.f47.results.toList [(false, [.any]), (false, [.any]), (true, [.any, .any])] (decOut zq65.sig)
def zq65.c1 : Code := codeAt (Tryz.f47.body.getD .skip) []
def zq65.o0 (N : Nat) (a0 : List Int) : Option zq65.R :=
 (zq102.g N a0 0 0).bind fun r1 =>
 (zq102.g N r1.2.1 r1.2.2.1 r1.2.2.2).bind fun r2 =>
 (zq109.g N r2.2.1 r2.2.2.1 r2.2.2.2).bind fun r3 =>
 some (r1.1, r2.1, r3.1, r3.2.1)
theorem zq65.o0.run (N : Nat) (a0 : List Int) : runC zq65.C (zq65.O N) N zq65.c1 1 (st0 [.one (.sl false 5 a0)] [] : St D0) zq65.K0 = zq65.o0 N a0 := by kernel_rfl
def zq65.g (N : Nat) (a0 : List Int) : Option zq65.R := zq65.o0 N a0
theorem zq65.g.run (N : Nat) (a0 : List Int) : runC zq65.C (zq65.O N) N zq65.c1 1 (st0 [.one (.sl false 5 a0)] [] : St D0) zq65.K0 = zq65.g N a0 := by
  exact (zq65.o0.run N a0).trans rfl
theorem zq65.good (N : Nat) (a0 : List Int) (r : zq65.R) (h : zq65.g N a0 = some r) : Go.PM.Good Tryz.prog T0 47 [.one (.sl false 5 a0)] [] (zq65.sig.ret r) (zq65.sig.bs r) :=
  good_fn tabOk0 mixed0 zq65.sig (zq65.E N) Tryz.func47 (by kernel_rfl) (by kernel_rfl) 61 0 0 [] 10752 false [] [(false, [.any]), (false, [.any]), (true, [.any, .any])] (by kernel_rfl) rfl rfl ((zq65.g.run N a0).trans h)
def zq65.ent (N : Nat) : Ent Tryz.prog T0 := mkEnt 47 [(false, [.ro 5])] zq65.sig (fun t => zq65.g N t) (fun t r h => zq65.good N t r h)
/-! ### zq63 -/
abbrev zq63.R : Type := Int × Int
abbrev zq63.sig : Sig := ⟨[(false, 1)], [], [.sl false 5], [(false, 1), (false, 1)], [], [.int .i64, .int .i64]⟩
def zq63.C : Cfg D0 := ⟨Tryz.prog, T0, 29, 0, 12, 0, [], 1280, false, []⟩
def zq63.E (N : Nat) : List (Ent Tryz.prog T0) := [zq102.ent N]
def zq63.O (N : Nat) : Orc D0 zq63.R := orcOf (zq63.E N)
def zq63.K0 : Ex → St D0 → Option zq63.R := exitK zq63.C Tryz.f50.results.toList [(false, [.any]), (false, [.any])] (decOut zq63.sig)
def zq63.c1 : Code := codeAt (Tryz.f50.body.getD .skip) []
def zq63.o0 (N : Nat) (a0 : List Int) : Option zq63.R :=
 (zq102.g N a0 0 0).bind fun r1 =>
 (zq102.g N r1.2.1 r1.2.2.1 r1.2.2.2).bind fun r2 =>
 some (r1.1, r2.1)
theorem zq63.o0.run (N : Nat) (a0 : List Int) : runC zq63.C (zq63.O N) N zq63.c1 1 (st0 [.one (.sl false 5 a0)] [] : St D0) zq63.K0 = zq63.o0 N a0 := by kernel_rfl
def zq63.g (N : Nat) (a0 : List Int) : Option zq63.R := zq63.o0 N a0
theorem zq63.g.run (N : Nat) (a0 : List Int) : runC zq63.C (zq63.O N) N zq63.c1 1 (st0 [.one (.sl false 5 a0)] [] : St D0) zq63.K0 = zq63.g N a0 := by
  exact (zq63.o0.run N a0).trans rfl
theorem zq63.good (N : Nat) (a0 : List Int) (r : zq63.R) (h : zq63.g N a0 = some r) : Go.PM.Good Tryz.prog T0 50 [.one (.sl false 5 a0)] [] (zq63.sig.ret r) (zq63.sig.bs r) :=
  good_fn tabOk0 mixed0 zq63.sig (zq63.E N) Tryz.func50 (by kernel_rfl) (by kernel_rfl) 29 0 0 [] 1280 false [] [(false, [.any]), (false, [.any])] (by kernel_rfl) rfl rfl ((zq63.g.run N a0).trans h)
def zq63.ent (N : Nat) : Ent Tryz.prog T0 := mkEnt 50 [(false, [.ro 5])] zq63.sig (fun t => zq63.g N t) (fun t r h => zq63.good N t r h)
/-! ### zq48 -/
abbrev zq48.R : Type := Bool
abbrev zq48.sig : Sig := ⟨[(false, 1), (false, 1)], [], [.sl false 5, .sl false 5], [(false, 1)], [], [.bool]⟩
def zq48.C : Cfg D0 := ⟨Tryz.prog, T0, 19, 0, 16, 0, [], 2592, false, []⟩
def zq48.E (N : Nat) : List (Ent Tryz.prog T0) := []
def zq48.O (N : Nat) : Orc D0 zq48.R := orcOf (zq48.E N)
def zq48.K0 : Ex → St D0 → Option zq48.R := exitK zq48.C Tryz.f5.results.toList [(false, [.any])] (decOut zq48.sig)
def zq48.c1 : Code := codeAt (Tryz.f5.body.getD .skip) []
def zq48.o0 (N : Nat) (a0 : List Int) (a1 : List Int) : Option zq48.R :=
 bif (decide ((a0.length : Int) > 1048576)) then
  some (true)
 else
 some ((decide ((a1.length : Int) > (w64 (1048576 - (a0.length : Int))))))
theorem zq48.o0.run (N : Nat) (a0 : List Int) (a1 : List Int) : runC zq48.C (zq48.O N) N zq48.c1 1 (st0 [.one (.sl false 5 a0), .one (.sl false 5 a1)] [] : St D0) zq48.K0 = zq48.o0 N a0 a1 := by kernel_rfl
def zq48.g (N : Nat) (a0 : List Int) (a1 : List Int) : Option zq48.R := zq48.o0 N a0 a1
theorem zq48.g.run (N : Nat) (a0 : List Int) (a1 : List Int) : runC zq48.C (zq48.O N) N zq48.c1 1 (st0 [.one (.sl false 5 a0), .one (.sl false 5 a1)] [] : St D0) zq48.K0 = zq48.g N a0 a1 := by
  exact (zq48.o0.run N a0 a1).trans rfl
theorem zq48.good (N : Nat) (a0 : List Int) (a1 : List Int) (r : zq48.R) (h : zq48.g N a0 a1 = some r) : Go.PM.Good Tryz.prog T0 5 [.one (.sl false 5 a0), .one (.sl false 5 a1)] [] (zq48.sig.ret r) (zq48.sig.bs r) :=
  good_fn tabOk0 mixed0 zq48.sig (zq48.E N) Tryz.func5 (by kernel_rfl) (by kernel_rfl) 19 0 0 [] 2592 false [] [(false, [.any])] (by kernel_rfl) rfl rfl ((zq48.g.run N a0 a1).trans h)
def zq48.ent (N : Nat) : Ent Tryz.prog T0 := mkEnt 5 [(false, [.ro 5]), (false, [.ro 5])] zq48.sig (fun t => zq48.g N t.1 t.2) (fun t r h => zq48.good N t.1 t.2 r h)
end Go.Proofs.YtccjoegnkiaibaaGreatDoor.M
end
