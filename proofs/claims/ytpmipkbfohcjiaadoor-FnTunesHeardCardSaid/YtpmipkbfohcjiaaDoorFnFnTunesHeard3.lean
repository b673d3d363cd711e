/- What the program's functions compute, walked by the machine (part 3). No conditions but those stated. -/
import Derived.Test.YtpmipkbfohcjiaaDoorFnFnTunesHeard2
namespace Go.Proofs.YtpmipkbfohcjiaaDoor.M
open Go Go.PM Go.Proofs.YtpmipkbfohcjiaaDoor.P
set_option linter.unusedVariables false
set_option maxRecDepth 100000
/-! ### spec_l1Cur_pick -/
abbrev spec_l1Cur_pick.R : Type := Int × List Int × Int × Int
abbrev spec_l1Cur_pick.sig : Sig := ⟨[(false, 1), (false, 1)], [(67, 3)], [.ptr 0 0, .int .i64, .sl false 5, .int .i64, .int .u64], [(false, 1)], [(67, 3)], [.int .i64, .sl false 5, .int .i64, .int .u64]⟩
noncomputable def spec_l1Cur_pick.C : Cfg D0 := ⟨Go.Proofs.Tryd.prog, T0, 2227, 0, 20, 1, [(30, [1, 5], [0])], 415040, false, []⟩
noncomputable def spec_l1Cur_pick.E (N : Nat) : List (Ent Go.Proofs.Tryd.prog T0) := [spec_l1Cur_next.ent N]
noncomputable def spec_l1Cur_pick.O (N : Nat) : Orc D0 spec_l1Cur_pick.R := orcOf (spec_l1Cur_pick.E N)
noncomputable def spec_l1Cur_pick.K0 : Ex → St D0 → Option spec_l1Cur_pick.R := exitK spec_l1Cur_pick.C Go.Proofs.Tryd.f53.results.toList [(false, [.any])] (decOut spec_l1Cur_pick.sig)
noncomputable def spec_l1Cur_pick.c1 : Code := codeAt (Go.Proofs.Tryd.f53.body.getD .skip) []
noncomputable def spec_l1Cur_pick.c2 : Code := codeAt (Go.Proofs.Tryd.f53.body.getD .skip) [false]
noncomputable def spec_l1Cur_pick.c6 : Code := codeAt (Go.Proofs.Tryd.f53.body.getD .skip) [true, false]
noncomputable def spec_l1Cur_pick.c14 : Code := codeAt (Go.Proofs.Tryd.f53.body.getD .skip) [true, true, false]
noncomputable def spec_l1Cur_pick.c30 : Code := codeAt (Go.Proofs.Tryd.f53.body.getD .skip) [true, true, true, false]
noncomputable def spec_l1Cur_pick.c31 : Code := codeAt (Go.Proofs.Tryd.f53.body.getD .skip) [true, true, true, true]
noncomputable def spec_l1Cur_pick.K31 (N : Nat) : Ex → St D0 → Option spec_l1Cur_pick.R := spec_l1Cur_pick.K0
noncomputable def spec_l1Cur_pick.o1 (N : Nat) (v0 : Int) (v1 : Int) (v2 : List Int) (v3 : Int) (v4 : Int) : Option spec_l1Cur_pick.R :=
 bif (v0 == 0) then
  none
 else
 some ((Int.tmod v1 v0), v2, v3, v4)
theorem spec_l1Cur_pick.o1.run (N : Nat) (v0 : Int) (v1 : Int) (v2 : List Int) (v3 : Int) (v4 : Int) : runC spec_l1Cur_pick.C (spec_l1Cur_pick.O N) N spec_l1Cur_pick.c31 31 (mkSt [(1, .one (.int .i64 v0)), (5, .one (.int .i64 v1))] [(0, some (67, [.sl false 5 v2, .int .i64 v3, .int .u64 v4]))] : St D0) spec_l1Cur_pick.K0 = spec_l1Cur_pick.o1 N v0 v1 v2 v3 v4 := by kernel_rfl
noncomputable def spec_l1Cur_pick.d1 (N : Nat) (v0 : Int) (v1 : Int) (v2 : List Int) (v3 : Int) (v4 : Int) : Option spec_l1Cur_pick.R := spec_l1Cur_pick.o1 N v0 v1 v2 v3 v4
theorem spec_l1Cur_pick.d1.run (N : Nat) (v0 : Int) (v1 : Int) (v2 : List Int) (v3 : Int) (v4 : Int) : runC spec_l1Cur_pick.C (spec_l1Cur_pick.O N) N spec_l1Cur_pick.c31 31 (mkSt [(1, .one (.int .i64 v0)), (5, .one (.int .i64 v1))] [(0, some (67, [.sl false 5 v2, .int .i64 v3, .int .u64 v4]))] : St D0) (spec_l1Cur_pick.K31 N) = spec_l1Cur_pick.d1 N v0 v1 v2 v3 v4 := by
  exact (spec_l1Cur_pick.o1.run N v0 v1 v2 v3 v4).trans rfl
noncomputable def spec_l1Cur_pick.o0 (N : Nat) (a1 : Int) (b0_0 : List Int) (b0_1 : Int) (b0_2 : Int) (c1 : Int → Int → (List Int) → Int → Int → Option spec_l1Cur_pick.R) : Option spec_l1Cur_pick.R :=
 bif (decide (a1 ≤ 1)) then
  some (0, b0_0, b0_1, b0_2)
 else
 (spec_l1Cur_next.g N b0_0 b0_1 b0_2).bind fun r1 =>
 bif (decide (a1 > 200)) then
  (spec_l1Cur_next.g N r1.2.1 r1.2.2.1 r1.2.2.2).bind fun r2 =>
  c1 a1 (w64 ((w64 (r1.1 * 256)) + r2.1)) r2.2.1 r2.2.2.1 r2.2.2.2
 else
 c1 a1 r1.1 r1.2.1 r1.2.2.1 r1.2.2.2
theorem spec_l1Cur_pick.o0.run (N : Nat) (H31 : Code) (a1 : Int) (b0_0 : List Int) (b0_1 : Int) (b0_2 : Int) : runC spec_l1Cur_pick.C (spec_l1Cur_pick.O N) N (.seq spec_l1Cur_pick.c2 (.seq spec_l1Cur_pick.c6 (.seq spec_l1Cur_pick.c14 (.seq spec_l1Cur_pick.c30 H31)))) 1 (st0 [.one (.ptr 0 0), .one (.int .i64 a1)] [(67, [.sl false 5 b0_0, .int .i64 b0_1, .int .u64 b0_2])] : St D0) spec_l1Cur_pick.K0 = spec_l1Cur_pick.o0 N a1 b0_0 b0_1 b0_2 ((fun w0 w1 w2 w3 w4 => runC spec_l1Cur_pick.C (spec_l1Cur_pick.O N) N H31 31 (mkSt [(1, .one (.int .i64 w0)), (5, .one (.int .i64 w1))] [(0, some (67, [.sl false 5 w2, .int .i64 w3, .int .u64 w4]))] : St D0) spec_l1Cur_pick.K0)) := by kernel_rfl
noncomputable def spec_l1Cur_pick.B15 (N : Nat) : St D0 → Option spec_l1Cur_pick.R := fun s' => runC spec_l1Cur_pick.C (spec_l1Cur_pick.O N) N spec_l1Cur_pick.c31 31 s' (spec_l1Cur_pick.K31 N)
noncomputable def spec_l1Cur_pick.g (N : Nat) (a1 : Int) (b0_0 : List Int) (b0_1 : Int) (b0_2 : Int) : Option spec_l1Cur_pick.R := spec_l1Cur_pick.o0 N a1 b0_0 b0_1 b0_2 ((fun w0 w1 w2 w3 w4 => spec_l1Cur_pick.d1 N w0 w1 w2 w3 w4))
theorem spec_l1Cur_pick.c1_0 : spec_l1Cur_pick.c1 = (.seq spec_l1Cur_pick.c2 (.seq spec_l1Cur_pick.c6 (.seq spec_l1Cur_pick.c14 (.seq spec_l1Cur_pick.c30 spec_l1Cur_pick.c31)))) := by kernel_rfl
theorem spec_l1Cur_pick.g.run (N : Nat) (a1 : Int) (b0_0 : List Int) (b0_1 : Int) (b0_2 : Int) : runC spec_l1Cur_pick.C (spec_l1Cur_pick.O N) N spec_l1Cur_pick.c1 1 (st0 [.one (.ptr 0 0), .one (.int .i64 a1)] [(67, [.sl false 5 b0_0, .int .i64 b0_1, .int .u64 b0_2])] : St D0) spec_l1Cur_pick.K0 = spec_l1Cur_pick.g N a1 b0_0 b0_1 b0_2 := by
  rw [spec_l1Cur_pick.c1_0]; unfold spec_l1Cur_pick.g; exact (spec_l1Cur_pick.o0.run N spec_l1Cur_pick.c31 a1 b0_0 b0_1 b0_2).trans (congr rfl (funext fun w0 => funext fun w1 => funext fun w2 => funext fun w3 => funext fun w4 => spec_l1Cur_pick.d1.run N w0 w1 w2 w3 w4))
theorem spec_l1Cur_pick.good (N : Nat) (a1 : Int) (b0_0 : List Int) (b0_1 : Int) (b0_2 : Int) (r : spec_l1Cur_pick.R) (h : spec_l1Cur_pick.g N a1 b0_0 b0_1 b0_2 = some r) : Go.PM.Good Go.Proofs.Tryd.prog T0 53 [.one (.ptr 0 0), .one (.int .i64 a1)] [(67, [.sl false 5 b0_0, .int .i64 b0_1, .int .u64 b0_2])] (spec_l1Cur_pick.sig.ret r) (spec_l1Cur_pick.sig.bs r) :=
  good_fn tabOk0 mixed0 spec_l1Cur_pick.sig (spec_l1Cur_pick.E N) Go.Proofs.Tryd.func53 (by kernel_rfl) (by kernel_rfl) 2227 0 1 [(30, [1, 5], [0])] 415040 false [] [(false, [.any])] (by kernel_rfl) rfl rfl ((spec_l1Cur_pick.g.run N a1 b0_0 b0_1 b0_2).trans h)
noncomputable def spec_l1Cur_pick.ent (N : Nat) : Ent Go.Proofs.Tryd.prog T0 := mkEnt 53 [(false, [.any]), (false, [.any])] spec_l1Cur_pick.sig (fun t => spec_l1Cur_pick.g N t.2.1 t.2.2.1 t.2.2.2.1 t.2.2.2.2) (fun t r h => spec_l1Cur_pick.good N t.2.1 t.2.2.1 t.2.2.2.1 t.2.2.2.2 r h)
end Go.Proofs.YtpmipkbfohcjiaaDoor.M

namespace Go.Proofs.YtpmipkbfohcjiaaDoor.M
open Go Go.PM Go.Proofs.YtpmipkbfohcjiaaDoor.P
set_option linter.unusedVariables false
set_option maxRecDepth 100000
/-! ### spec_l1Cur_one -/
abbrev spec_l1Cur_one.R : Type := Bool × List Int × Int × Int
abbrev spec_l1Cur_one.sig : Sig := ⟨[(false, 1), (false, 1)], [(67, 3)], [.ptr 0 0, .int .i64, .sl false 5, .int .i64, .int .u64], [(false, 1)], [(67, 3)], [.bool, .sl false 5, .int .i64, .int .u64]⟩
noncomputable def spec_l1Cur_one.C : Cfg D0 := ⟨Go.Proofs.Tryd.prog, T0, 19, 0, 9, 1, [], 96, false, []⟩
noncomputable def spec_l1Cur_one.E (N : Nat) : List (Ent Go.Proofs.Tryd.prog T0) := [spec_l1Cur_pick.ent N]
noncomputable def spec_l1Cur_one.O (N : Nat) : Orc D0 spec_l1Cur_one.R := orcOf (spec_l1Cur_one.E N)
noncomputable def spec_l1Cur_one.K0 : Ex → St D0 → Option spec_l1Cur_one.R := exitK spec_l1Cur_one.C Go.Proofs.Tryd.f52.results.toList [(false, [.any])] (decOut spec_l1Cur_one.sig)
noncomputable def spec_l1Cur_one.c1 : Code := codeAt (Go.Proofs.Tryd.f52.body.getD .skip) []
noncomputable def spec_l1Cur_one.o0 (N : Nat) (a1 : Int) (b0_0 : List Int) (b0_1 : Int) (b0_2 : Int) : Option spec_l1Cur_one.R :=
 (spec_l1Cur_pick.g N a1 b0_0 b0_1 b0_2).bind fun r1 =>
 some ((r1.1 == 0), r1.2.1, r1.2.2.1, r1.2.2.2)
theorem spec_l1Cur_one.o0.run (N : Nat) (a1 : Int) (b0_0 : List Int) (b0_1 : Int) (b0_2 : Int) : runC spec_l1Cur_one.C (spec_l1Cur_one.O N) N spec_l1Cur_one.c1 1 (st0 [.one (.ptr 0 0), .one (.int .i64 a1)] [(67, [.sl false 5 b0_0, .int .i64 b0_1, .int .u64 b0_2])] : St D0) spec_l1Cur_one.K0 = spec_l1Cur_one.o0 N a1 b0_0 b0_1 b0_2 := by kernel_rfl
noncomputable def spec_l1Cur_one.g (N : Nat) (a1 : Int) (b0_0 : List Int) (b0_1 : Int) (b0_2 : Int) : Option spec_l1Cur_one.R := spec_l1Cur_one.o0 N a1 b0_0 b0_1 b0_2
theorem spec_l1Cur_one.g.run (N : Nat) (a1 : Int) (b0_0 : List Int) (b0_1 : Int) (b0_2 : Int) : runC spec_l1Cur_one.C (spec_l1Cur_one.O N) N spec_l1Cur_one.c1 1 (st0 [.one (.ptr 0 0), .one (.int .i64 a1)] [(67, [.sl false 5 b0_0, .int .i64 b0_1, .int .u64 b0_2])] : St D0) spec_l1Cur_one.K0 = spec_l1Cur_one.g N a1 b0_0 b0_1 b0_2 := by
  exact (spec_l1Cur_one.o0.run N a1 b0_0 b0_1 b0_2).trans rfl
theorem spec_l1Cur_one.good (N : Nat) (a1 : Int) (b0_0 : List Int) (b0_1 : Int) (b0_2 : Int) (r : spec_l1Cur_one.R) (h : spec_l1Cur_one.g N a1 b0_0 b0_1 b0_2 = some r) : Go.PM.Good Go.Proofs.Tryd.prog T0 52 [.one (.ptr 0 0), .one (.int .i64 a1)] [(67, [.sl false 5 b0_0, .int .i64 b0_1, .int .u64 b0_2])] (spec_l1Cur_one.sig.ret r) (spec_l1Cur_one.sig.bs r) :=
  good_fn tabOk0 mixed0 spec_l1Cur_one.sig (spec_l1Cur_one.E N) Go.Proofs.Tryd.func52 (by kernel_rfl) (by kernel_rfl) 19 0 1 [] 96 false [] [(false, [.any])] (by kernel_rfl) rfl rfl ((spec_l1Cur_one.g.run N a1 b0_0 b0_1 b0_2).trans h)
noncomputable def spec_l1Cur_one.ent (N : Nat) : Ent Go.Proofs.Tryd.prog T0 := mkEnt 52 [(false, [.any]), (false, [.any])] spec_l1Cur_one.sig (fun t => spec_l1Cur_one.g N t.2.1 t.2.2.1 t.2.2.2.1 t.2.2.2.2) (fun t r h => spec_l1Cur_one.good N t.2.1 t.2.2.1 t.2.2.2.1 t.2.2.2.2 r h)
end Go.Proofs.YtpmipkbfohcjiaaDoor.M

namespace Go.Proofs.YtpmipkbfohcjiaaDoor.M
open Go Go.PM Go.Proofs.YtpmipkbfohcjiaaDoor.P
set_option linter.unusedVariables false
set_option maxRecDepth 100000
/-! ### spec_l1Cur_of -/
abbrev spec_l1Cur_of.R : Type := ByteArray × List Int × Int × Int
abbrev spec_l1Cur_of.sig : Sig := ⟨[(false, 1), (false, 1)], [(67, 3)], [.ptr 0 0, .sl false 9, .sl false 5, .int .i64, .int .u64], [(false, 1)], [(67, 3)], [.str, .sl false 5, .int .i64, .int .u64]⟩
noncomputable def spec_l1Cur_of.C : Cfg D0 := ⟨Go.Proofs.Tryd.prog, T0, 19, 0, 12, 1, [], 224, false, []⟩
noncomputable def spec_l1Cur_of.E (N : Nat) : List (Ent Go.Proofs.Tryd.prog T0) := [spec_l1Cur_pick.ent N]
noncomputable def spec_l1Cur_of.O (N : Nat) : Orc D0 spec_l1Cur_of.R := orcOf (spec_l1Cur_of.E N)
noncomputable def spec_l1Cur_of.K0 : Ex → St D0 → Option spec_l1Cur_of.R := exitK spec_l1Cur_of.C Go.Proofs.Tryd.f54.results.toList [(false, [.any])] (decOut spec_l1Cur_of.sig)
noncomputable def spec_l1Cur_of.c1 : Code := codeAt (Go.Proofs.Tryd.f54.body.getD .skip) []
noncomputable def spec_l1Cur_of.o0 (N : Nat) (a1 : List ByteArray) (b0_0 : List Int) (b0_1 : Int) (b0_2 : Int) : Option spec_l1Cur_of.R :=
 (spec_l1Cur_pick.g N (a1.length : Int) b0_0 b0_1 b0_2).bind fun r1 =>
 bif (decide (0 ≤ r1.1)) then
  bif (decide (r1.1 < (a1.length : Int))) then
   (a1[(r1.1 : Int).toNat]?).bind fun x2 =>
   some (x2, r1.2.1, r1.2.2.1, r1.2.2.2)
  else
  none
 else
 none
theorem spec_l1Cur_of.o0.run (N : Nat) (a1 : List ByteArray) (b0_0 : List Int) (b0_1 : Int) (b0_2 : Int) : runC spec_l1Cur_of.C (spec_l1Cur_of.O N) N spec_l1Cur_of.c1 1 (st0 [.one (.ptr 0 0), .one (.sl false 9 a1)] [(67, [.sl false 5 b0_0, .int .i64 b0_1, .int .u64 b0_2])] : St D0) spec_l1Cur_of.K0 = spec_l1Cur_of.o0 N a1 b0_0 b0_1 b0_2 := by kernel_rfl
noncomputable def spec_l1Cur_of.g (N : Nat) (a1 : List ByteArray) (b0_0 : List Int) (b0_1 : Int) (b0_2 : Int) : Option spec_l1Cur_of.R := spec_l1Cur_of.o0 N a1 b0_0 b0_1 b0_2
theorem spec_l1Cur_of.g.run (N : Nat) (a1 : List ByteArray) (b0_0 : List Int) (b0_1 : Int) (b0_2 : Int) : runC spec_l1Cur_of.C (spec_l1Cur_of.O N) N spec_l1Cur_of.c1 1 (st0 [.one (.ptr 0 0), .one (.sl false 9 a1)] [(67, [.sl false 5 b0_0, .int .i64 b0_1, .int .u64 b0_2])] : St D0) spec_l1Cur_of.K0 = spec_l1Cur_of.g N a1 b0_0 b0_1 b0_2 := by
  exact (spec_l1Cur_of.o0.run N a1 b0_0 b0_1 b0_2).trans rfl
theorem spec_l1Cur_of.good (N : Nat) (a1 : List ByteArray) (b0_0 : List Int) (b0_1 : Int) (b0_2 : Int) (r : spec_l1Cur_of.R) (h : spec_l1Cur_of.g N a1 b0_0 b0_1 b0_2 = some r) : Go.PM.Good Go.Proofs.Tryd.prog T0 54 [.one (.ptr 0 0), .one (.sl false 9 a1)] [(67, [.sl false 5 b0_0, .int .i64 b0_1, .int .u64 b0_2])] (spec_l1Cur_of.sig.ret r) (spec_l1Cur_of.sig.bs r) :=
  good_fn tabOk0 mixed0 spec_l1Cur_of.sig (spec_l1Cur_of.E N) Go.Proofs.Tryd.func54 (by kernel_rfl) (by kernel_rfl) 19 0 1 [] 224 false [] [(false, [.any])] (by kernel_rfl) rfl rfl ((spec_l1Cur_of.g.run N a1 b0_0 b0_1 b0_2).trans h)
noncomputable def spec_l1Cur_of.ent (N : Nat) : Ent Go.Proofs.Tryd.prog T0 := mkEnt 54 [(false, [.any]), (false, [.ro 9])] spec_l1Cur_of.sig (fun t => spec_l1Cur_of.g N t.2.1 t.2.2.1 t.2.2.2.1 t.2.2.2.2) (fun t r h => spec_l1Cur_of.good N t.2.1 t.2.2.1 t.2.2.2.1 t.2.2.2.2 r h)
end Go.Proofs.YtpmipkbfohcjiaaDoor.M

namespace Go.Proofs.YtpmipkbfohcjiaaDoor.M
open Go Go.PM Go.Proofs.YtpmipkbfohcjiaaDoor.P
set_option linter.unusedVariables false
set_option maxRecDepth 100000
/-! ### laws_big -/
abbrev laws_big.R : Type := Bool
abbrev laws_big.sig : Sig := ⟨[(false, 1), (false, 1)], [], [.sl false 5, .sl false 5], [(false, 1)], [], [.bool]⟩
noncomputable def laws_big.C : Cfg D0 := ⟨Go.Proofs.Tryd.prog, T0, 19, 0, 16, 0, [], 2592, false, []⟩
noncomputable def laws_big.E (N : Nat) : List (Ent Go.Proofs.Tryd.prog T0) := []
noncomputable def laws_big.O (N : Nat) : Orc D0 laws_big.R := orcOf (laws_big.E N)
noncomputable def laws_big.K0 : Ex → St D0 → Option laws_big.R := exitK laws_big.C Go.Proofs.Tryd.f25.results.toList [(false, [.any])] (decOut laws_big.sig)
noncomputable def laws_big.c1 : Code := codeAt (Go.Proofs.Tryd.f25.body.getD .skip) []
noncomputable def laws_big.o0 (N : Nat) (a0 : List Int) (a1 : List Int) : Option laws_big.R :=
 bif (decide ((a0.length : Int) > 1048576)) then
  some (true)
 else
 some ((decide ((a1.length : Int) > (w64 (1048576 - (a0.length : Int))))))
theorem laws_big.o0.run (N : Nat) (a0 : List Int) (a1 : List Int) : runC laws_big.C (laws_big.O N) N laws_big.c1 1 (st0 [.one (.sl false 5 a0), .one (.sl false 5 a1)] [] : St D0) laws_big.K0 = laws_big.o0 N a0 a1 := by kernel_rfl
noncomputable def laws_big.g (N : Nat) (a0 : List Int) (a1 : List Int) : Option laws_big.R := laws_big.o0 N a0 a1
theorem laws_big.g.run (N : Nat) (a0 : List Int) (a1 : List Int) : runC laws_big.C (laws_big.O N) N laws_big.c1 1 (st0 [.one (.sl false 5 a0), .one (.sl false 5 a1)] [] : St D0) laws_big.K0 = laws_big.g N a0 a1 := by
  exact (laws_big.o0.run N a0 a1).trans rfl
theorem laws_big.good (N : Nat) (a0 : List Int) (a1 : List Int) (r : laws_big.R) (h : laws_big.g N a0 a1 = some r) : Go.PM.Good Go.Proofs.Tryd.prog T0 25 [.one (.sl false 5 a0), .one (.sl false 5 a1)] [] (laws_big.sig.ret r) (laws_big.sig.bs r) :=
  good_fn tabOk0 mixed0 laws_big.sig (laws_big.E N) Go.Proofs.Tryd.func25 (by kernel_rfl) (by kernel_rfl) 19 0 0 [] 2592 false [] [(false, [.any])] (by kernel_rfl) rfl rfl ((laws_big.g.run N a0 a1).trans h)
noncomputable def laws_big.ent (N : Nat) : Ent Go.Proofs.Tryd.prog T0 := mkEnt 25 [(false, [.ro 5]), (false, [.ro 5])] laws_big.sig (fun t => laws_big.g N t.1 t.2) (fun t r h => laws_big.good N t.1 t.2 r h)
end Go.Proofs.YtpmipkbfohcjiaaDoor.M

namespace Go.Proofs.YtpmipkbfohcjiaaDoor.M
open Go Go.PM Go.Proofs.YtpmipkbfohcjiaaDoor.P
set_option linter.unusedVariables false
set_option maxRecDepth 100000
/-! ### spec_l1Cur_sureTune -/
abbrev spec_l1Cur_sureTune.R : Type := List ByteArray × List Int × Int × Int
abbrev spec_l1Cur_sureTune.sig : Sig := ⟨[(false, 1)], [(67, 3)], [.ptr 0 0, .sl false 5, .int .i64, .int .u64], [(false, 1)], [(67, 3)], [.sl true 9, .sl false 5, .int .i64, .int .u64]⟩
noncomputable def spec_l1Cur_sureTune.C : Cfg D0 := ⟨Go.Proofs.Tryd.prog, T0, 4398050738429, 0, 48, 1, [(122, [0, 3, 4, 5], [0]), (978, [0, 3, 4, 5], [0]), (31306, [0, 3, 4, 5, 6, 7], [0]), (31310, [0, 3, 4, 5, 6, 42], [0])], 618721003776, false, []⟩
noncomputable def spec_l1Cur_sureTune.E (N : Nat) : List (Ent Go.Proofs.Tryd.prog T0) := [spec_l1Cur_pick.ent N, spec_l1Num.ent N, spec_l1Cur_one.ent N]
noncomputable def spec_l1Cur_sureTune.O (N : Nat) : Orc D0 spec_l1Cur_sureTune.R := orcOf (spec_l1Cur_sureTune.E N)
noncomputable def spec_l1Cur_sureTune.K0 : Ex → St D0 → Option spec_l1Cur_sureTune.R := exitK spec_l1Cur_sureTune.C Go.Proofs.Tryd.f55.results.toList [(false, [.own 9])] (decOut spec_l1Cur_sureTune.sig)
noncomputable def spec_l1Cur_sureTune.c1 : Code := codeAt (Go.Proofs.Tryd.f55.body.getD .skip) []
noncomputable def spec_l1Cur_sureTune.c2 : Code := codeAt (Go.Proofs.Tryd.f55.body.getD .skip) [false]
noncomputable def spec_l1Cur_sureTune.c6 : Code := codeAt (Go.Proofs.Tryd.f55.body.getD .skip) [true, false]
noncomputable def spec_l1Cur_sureTune.c14 : Code := codeAt (Go.Proofs.Tryd.f55.body.getD .skip) [true, true, false]
noncomputable def spec_l1Cur_sureTune.c31 : Code := codeAt (Go.Proofs.Tryd.f55.body.getD .skip) [true, true, true, true]
noncomputable def spec_l1Cur_sureTune.c60 : Code := codeAt (Go.Proofs.Tryd.f55.body.getD .skip) [true, true, true, false, false]
noncomputable def spec_l1Cur_sureTune.c244 : Code := codeAt (Go.Proofs.Tryd.f55.body.getD .skip) [true, true, true, false, true, false, false]
noncomputable def spec_l1Cur_sureTune.c488 : Code := codeAt (Go.Proofs.Tryd.f55.body.getD .skip) [true, true, true, false, true, false, false, false]
noncomputable def spec_l1Cur_sureTune.c979 : Code := codeAt (Go.Proofs.Tryd.f55.body.getD .skip) [true, true, true, false, true, false, false, true, true]
noncomputable def spec_l1Cur_sureTune.c3912 : Code := codeAt (Go.Proofs.Tryd.f55.body.getD .skip) [true, true, true, false, true, false, false, true, false, false, false]
noncomputable def spec_l1Cur_sureTune.c7827 : Code := codeAt (Go.Proofs.Tryd.f55.body.getD .skip) [true, true, true, false, true, false, false, true, false, false, true, true]
noncomputable def spec_l1Cur_sureTune.c15652 : Code := codeAt (Go.Proofs.Tryd.f55.body.getD .skip) [true, true, true, false, true, false, false, true, false, false, true, false, false]
noncomputable def spec_l1Cur_sureTune.c15654 : Code := codeAt (Go.Proofs.Tryd.f55.body.getD .skip) [true, true, true, false, true, false, false, true, false, false, true, true, false]
noncomputable def spec_l1Cur_sureTune.c31310 : Code := codeAt (Go.Proofs.Tryd.f55.body.getD .skip) [true, true, true, false, true, false, false, true, false, false, true, true, true, false]
noncomputable def spec_l1Cur_sureTune.c31311 : Code := codeAt (Go.Proofs.Tryd.f55.body.getD .skip) [true, true, true, false, true, false, false, true, false, false, true, true, true, true]
noncomputable def spec_l1Cur_sureTune.c62612 : Code := codeAt (Go.Proofs.Tryd.f55.body.getD .skip) [true, true, true, false, true, false, false, true, false, false, true, false, true, false, false]
noncomputable def spec_l1Cur_sureTune.K979 (N : Nat) (Kn122 : St D0 → Option spec_l1Cur_sureTune.R) : Ex → St D0 → Option spec_l1Cur_sureTune.R := ((fun up => (onN (fun s => spec_l1Cur_sureTune.C.tidy 122 s ((onN Kn122 up) .normal)) (onN Kn122 up))) (blockK 0 (onN (fun s => spec_l1Cur_sureTune.C.tidy 30 s (fun s' => runC spec_l1Cur_sureTune.C (spec_l1Cur_sureTune.O N) N spec_l1Cur_sureTune.c31 31 s' spec_l1Cur_sureTune.K0)) spec_l1Cur_sureTune.K0)))
noncomputable def spec_l1Cur_sureTune.o4 (N : Nat) (v0 : List ByteArray) (v1 : Int) (v2 : Int) (v3 : List Int) (v4 : Int) (v5 : Int) (c5 : (List ByteArray) → Int → Int → (List Int) → Int → Int → Option spec_l1Cur_sureTune.R) : Option spec_l1Cur_sureTune.R :=
 c5 v0 v1 (w64 (v2 - 1)) v3 v4 v5
theorem spec_l1Cur_sureTune.o4.run (N : Nat) (Kn122 : St D0 → Option spec_l1Cur_sureTune.R) (v0 : List ByteArray) (v1 : Int) (v2 : Int) (v3 : List Int) (v4 : Int) (v5 : Int) : runC spec_l1Cur_sureTune.C (spec_l1Cur_sureTune.O N) N spec_l1Cur_sureTune.c979 979 (mkSt [(0, .one (.ptr 0 0)), (3, .one (.sl true 9 v0)), (4, .one (.int .i64 v1)), (5, .one (.int .i64 v2))] [(0, some (67, [.sl false 5 v3, .int .i64 v4, .int .u64 v5]))] : St D0) ((fun up => (onN (fun s => spec_l1Cur_sureTune.C.tidy 122 s ((onN Kn122 up) .normal)) (onN Kn122 up))) (blockK 0 (onN (fun s => spec_l1Cur_sureTune.C.tidy 30 s (fun s' => runC spec_l1Cur_sureTune.C (spec_l1Cur_sureTune.O N) N spec_l1Cur_sureTune.c31 31 s' spec_l1Cur_sureTune.K0)) spec_l1Cur_sureTune.K0))) = spec_l1Cur_sureTune.o4 N v0 v1 v2 v3 v4 v5 ((fun w0 w1 w2 w3 w4 w5 => Kn122 (mkSt [(0, .one (.ptr 0 0)), (3, .one (.sl true 9 w0)), (4, .one (.int .i64 w1)), (5, .one (.int .i64 w2))] [(0, some (67, [.sl false 5 w3, .int .i64 w4, .int .u64 w5]))] : St D0))) := by kernel_rfl
noncomputable def spec_l1Cur_sureTune.d4 (N : Nat) (v0 : List ByteArray) (v1 : Int) (v2 : Int) (v3 : List Int) (v4 : Int) (v5 : Int) (c5 : (List ByteArray) → Int → Int → (List Int) → Int → Int → Option spec_l1Cur_sureTune.R) : Option spec_l1Cur_sureTune.R := spec_l1Cur_sureTune.o4 N v0 v1 v2 v3 v4 v5 c5
theorem spec_l1Cur_sureTune.d4.run (N : Nat) (Kn122 : St D0 → Option spec_l1Cur_sureTune.R) (v0 : List ByteArray) (v1 : Int) (v2 : Int) (v3 : List Int) (v4 : Int) (v5 : Int) : runC spec_l1Cur_sureTune.C (spec_l1Cur_sureTune.O N) N spec_l1Cur_sureTune.c979 979 (mkSt [(0, .one (.ptr 0 0)), (3, .one (.sl true 9 v0)), (4, .one (.int .i64 v1)), (5, .one (.int .i64 v2))] [(0, some (67, [.sl false 5 v3, .int .i64 v4, .int .u64 v5]))] : St D0) (spec_l1Cur_sureTune.K979 N Kn122) = spec_l1Cur_sureTune.d4 N v0 v1 v2 v3 v4 v5 ((fun w0 w1 w2 w3 w4 w5 => Kn122 (mkSt [(0, .one (.ptr 0 0)), (3, .one (.sl true 9 w0)), (4, .one (.int .i64 w1)), (5, .one (.int .i64 w2))] [(0, some (67, [.sl false 5 w3, .int .i64 w4, .int .u64 w5]))] : St D0))) := by
  exact (spec_l1Cur_sureTune.o4.run N Kn122 v0 v1 v2 v3 v4 v5).trans rfl
noncomputable def spec_l1Cur_sureTune.B489 (N : Nat) (Kn122 : St D0 → Option spec_l1Cur_sureTune.R) : St D0 → Option spec_l1Cur_sureTune.R := fun s' => runC spec_l1Cur_sureTune.C (spec_l1Cur_sureTune.O N) N spec_l1Cur_sureTune.c979 979 s' (spec_l1Cur_sureTune.K979 N Kn122)
noncomputable def spec_l1Cur_sureTune.K31311 (N : Nat) (Kn122 : St D0 → Option spec_l1Cur_sureTune.R) : Ex → St D0 → Option spec_l1Cur_sureTune.R := (blockK 1 ((fun up => (onN (fun s => spec_l1Cur_sureTune.C.tidy 978 s (spec_l1Cur_sureTune.B489 N Kn122)) up)) ((fun up => (onN (fun s => spec_l1Cur_sureTune.C.tidy 122 s ((onN Kn122 up) .normal)) (onN Kn122 up))) (blockK 0 (onN (fun s => spec_l1Cur_sureTune.C.tidy 30 s (fun s' => runC spec_l1Cur_sureTune.C (spec_l1Cur_sureTune.O N) N spec_l1Cur_sureTune.c31 31 s' spec_l1Cur_sureTune.K0)) spec_l1Cur_sureTune.K0)))))
noncomputable def spec_l1Cur_sureTune.o3 (N : Nat) (v0 : List ByteArray) (v1 : Int) (v2 : Int) (v3 : ByteArray) (v4 : Bool) (v5 : List Int) (v6 : Int) (v7 : Int) (c4 : (List ByteArray) → Int → Int → (List Int) → Int → Int → Option spec_l1Cur_sureTune.R) : Option spec_l1Cur_sureTune.R :=
 bif v4 then
  bif (Nat.blt (v0.length + ([v3] : List ByteArray).length) 8796093022208) then
   c4 (v0 ++ ([v3] : List ByteArray)) v1 v2 v5 v6 v7
  else
  none
 else
 c4 v0 v1 v2 v5 v6 v7
theorem spec_l1Cur_sureTune.o3.run (N : Nat) (Kb489 : St D0 → Option spec_l1Cur_sureTune.R) (Kn122 : St D0 → Option spec_l1Cur_sureTune.R) (v0 : List ByteArray) (v1 : Int) (v2 : Int) (v3 : ByteArray) (v4 : Bool) (v5 : List Int) (v6 : Int) (v7 : Int) : runC spec_l1Cur_sureTune.C (spec_l1Cur_sureTune.O N) N spec_l1Cur_sureTune.c31311 31311 (mkSt [(0, .one (.ptr 0 0)), (3, .one (.sl true 9 v0)), (4, .one (.int .i64 v1)), (5, .one (.int .i64 v2)), (6, .one (.str v3)), (42, .one (.bool v4))] [(0, some (67, [.sl false 5 v5, .int .i64 v6, .int .u64 v7]))] : St D0) (blockK 1 ((fun up => (onN (fun s => spec_l1Cur_sureTune.C.tidy 978 s Kb489) up)) ((fun up => (onN (fun s => spec_l1Cur_sureTune.C.tidy 122 s ((onN Kn122 up) .normal)) (onN Kn122 up))) (blockK 0 (onN (fun s => spec_l1Cur_sureTune.C.tidy 30 s (fun s' => runC spec_l1Cur_sureTune.C (spec_l1Cur_sureTune.O N) N spec_l1Cur_sureTune.c31 31 s' spec_l1Cur_sureTune.K0)) spec_l1Cur_sureTune.K0))))) = spec_l1Cur_sureTune.o3 N v0 v1 v2 v3 v4 v5 v6 v7 ((fun w0 w1 w2 w3 w4 w5 => Kb489 (mkSt [(0, .one (.ptr 0 0)), (3, .one (.sl true 9 w0)), (4, .one (.int .i64 w1)), (5, .one (.int .i64 w2))] [(0, some (67, [.sl false 5 w3, .int .i64 w4, .int .u64 w5]))] : St D0))) := by kernel_rfl
noncomputable def spec_l1Cur_sureTune.d3 (N : Nat) (v0 : List ByteArray) (v1 : Int) (v2 : Int) (v3 : ByteArray) (v4 : Bool) (v5 : List Int) (v6 : Int) (v7 : Int) (c5 : (List ByteArray) → Int → Int → (List Int) → Int → Int → Option spec_l1Cur_sureTune.R) : Option spec_l1Cur_sureTune.R := spec_l1Cur_sureTune.o3 N v0 v1 v2 v3 v4 v5 v6 v7 ((fun w0 w1 w2 w3 w4 w5 => spec_l1Cur_sureTune.d4 N w0 w1 w2 w3 w4 w5 c5))
theorem spec_l1Cur_sureTune.d3.run (N : Nat) (Kn122 : St D0 → Option spec_l1Cur_sureTune.R) (v0 : List ByteArray) (v1 : Int) (v2 : Int) (v3 : ByteArray) (v4 : Bool) (v5 : List Int) (v6 : Int) (v7 : Int) : runC spec_l1Cur_sureTune.C (spec_l1Cur_sureTune.O N) N spec_l1Cur_sureTune.c31311 31311 (mkSt [(0, .one (.ptr 0 0)), (3, .one (.sl true 9 v0)), (4, .one (.int .i64 v1)), (5, .one (.int .i64 v2)), (6, .one (.str v3)), (42, .one (.bool v4))] [(0, some (67, [.sl false 5 v5, .int .i64 v6, .int .u64 v7]))] : St D0) (spec_l1Cur_sureTune.K31311 N Kn122) = spec_l1Cur_sureTune.d3 N v0 v1 v2 v3 v4 v5 v6 v7 ((fun w0 w1 w2 w3 w4 w5 => Kn122 (mkSt [(0, .one (.ptr 0 0)), (3, .one (.sl true 9 w0)), (4, .one (.int .i64 w1)), (5, .one (.int .i64 w2))] [(0, some (67, [.sl false 5 w3, .int .i64 w4, .int .u64 w5]))] : St D0))) := by
  unfold spec_l1Cur_sureTune.d3; exact (spec_l1Cur_sureTune.o3.run N (spec_l1Cur_sureTune.B489 N Kn122) Kn122 v0 v1 v2 v3 v4 v5 v6 v7).trans (congr rfl (funext fun w0 => funext fun w1 => funext fun w2 => funext fun w3 => funext fun w4 => funext fun w5 => spec_l1Cur_sureTune.d4.run N Kn122 w0 w1 w2 w3 w4 w5))
noncomputable def spec_l1Cur_sureTune.K62612 (N : Nat) (Kn122 : St D0 → Option spec_l1Cur_sureTune.R) (Kn31306 : St D0 → Option spec_l1Cur_sureTune.R) : Ex → St D0 → Option spec_l1Cur_sureTune.R := ((fun up => (onN (fun s => spec_l1Cur_sureTune.C.tidy 31306 s ((onN Kn31306 up) .normal)) (onN Kn31306 up))) (blockK 2 ((fun up => (onN (fun s => spec_l1Cur_sureTune.C.tidy 7826 s (fun s' => runC spec_l1Cur_sureTune.C (spec_l1Cur_sureTune.O N) N spec_l1Cur_sureTune.c7827 7827 s' up)) up)) (blockK 1 ((fun up => (onN (fun s => spec_l1Cur_sureTune.C.tidy 978 s (spec_l1Cur_sureTune.B489 N Kn122)) up)) ((fun up => (onN (fun s => spec_l1Cur_sureTune.C.tidy 122 s ((onN Kn122 up) .normal)) (onN Kn122 up))) (blockK 0 (onN (fun s => spec_l1Cur_sureTune.C.tidy 30 s (fun s' => runC spec_l1Cur_sureTune.C (spec_l1Cur_sureTune.O N) N spec_l1Cur_sureTune.c31 31 s' spec_l1Cur_sureTune.K0)) spec_l1Cur_sureTune.K0))))))))
noncomputable def spec_l1Cur_sureTune.o2 (N : Nat) (v0 : Int) (v1 : Int) (v2 : ByteArray) (v3 : Int) (v4 : List Int) (v5 : Int) (v6 : Int) (c2 : Int → Int → ByteArray → Int → (List Int) → Int → Int → Option spec_l1Cur_sureTune.R) (c3 : (List ByteArray) → Int → Int → ByteArray → Bool → (List Int) → Int → Int → Option spec_l1Cur_sureTune.R) : Option spec_l1Cur_sureTune.R :=
 bif (decide (v3 > 0)) then
  (spec_l1Cur_pick.g N v0 v4 v5 v6).bind fun r1 =>
  (spec_l1Num.g N (w64 (1 + r1.1))).bind fun r2 =>
  bif (Nat.ble (v2.size + r2.size) 9223372036854775807) then
   c2 v0 v1 (v2 ++ r2) (w64 (v3 - 1)) r1.2.1 r1.2.2.1 r1.2.2.2
  else
  none
 else
 bif (Nat.blt (([] : List ByteArray).length + ([v2] : List ByteArray).length) 8796093022208) then
  (spec_l1Cur_one.g N 4 v4 v5 v6).bind fun r3 =>
  bif r3.1 then
   c3 (([] : List ByteArray) ++ ([v2] : List ByteArray)) v0 v1 v2 (decide (((([] : List ByteArray) ++ ([v2] : List ByteArray)).length : Int) < 12)) r3.2.1 r3.2.2.1 r3.2.2.2
  else
  c3 (([] : List ByteArray) ++ ([v2] : List ByteArray)) v0 v1 v2 false r3.2.1 r3.2.2.1 r3.2.2.2
 else
 none
theorem spec_l1Cur_sureTune.o2.run (N : Nat) (Kb489 : St D0 → Option spec_l1Cur_sureTune.R) (Kn122 : St D0 → Option spec_l1Cur_sureTune.R) (Kn31306 : St D0 → Option spec_l1Cur_sureTune.R) (H31311 : Code) (v0 : Int) (v1 : Int) (v2 : ByteArray) (v3 : Int) (v4 : List Int) (v5 : Int) (v6 : Int) : runC spec_l1Cur_sureTune.C (spec_l1Cur_sureTune.O N) N spec_l1Cur_sureTune.c62612 62612 (mkSt [(0, .one (.ptr 0 0)), (3, .one (.nl)), (4, .one (.int .i64 v0)), (5, .one (.int .i64 v1)), (6, .one (.str v2)), (7, .one (.int .i64 v3))] [(0, some (67, [.sl false 5 v4, .int .i64 v5, .int .u64 v6]))] : St D0) ((fun up => (onN (fun s => spec_l1Cur_sureTune.C.tidy 31306 s ((onN Kn31306 up) .normal)) (onN Kn31306 up))) (blockK 2 ((fun up => (onN (fun s => spec_l1Cur_sureTune.C.tidy 7826 s (fun s' => runC spec_l1Cur_sureTune.C (spec_l1Cur_sureTune.O N) N (.seq spec_l1Cur_sureTune.c15654 (.seq spec_l1Cur_sureTune.c31310 H31311)) 7827 s' up)) up)) (blockK 1 ((fun up => (onN (fun s => spec_l1Cur_sureTune.C.tidy 978 s Kb489) up)) ((fun up => (onN (fun s => spec_l1Cur_sureTune.C.tidy 122 s ((onN Kn122 up) .normal)) (onN Kn122 up))) (blockK 0 (onN (fun s => spec_l1Cur_sureTune.C.tidy 30 s (fun s' => runC spec_l1Cur_sureTune.C (spec_l1Cur_sureTune.O N) N spec_l1Cur_sureTune.c31 31 s' spec_l1Cur_sureTune.K0)) spec_l1Cur_sureTune.K0)))))))) = spec_l1Cur_sureTune.o2 N v0 v1 v2 v3 v4 v5 v6 ((fun w0 w1 w2 w3 w4 w5 w6 => Kn31306 (mkSt [(0, .one (.ptr 0 0)), (3, .one (.nl)), (4, .one (.int .i64 w0)), (5, .one (.int .i64 w1)), (6, .one (.str w2)), (7, .one (.int .i64 w3))] [(0, some (67, [.sl false 5 w4, .int .i64 w5, .int .u64 w6]))] : St D0))) ((fun w0 w1 w2 w3 w4 w5 w6 w7 => runC spec_l1Cur_sureTune.C (spec_l1Cur_sureTune.O N) N H31311 31311 (mkSt [(0, .one (.ptr 0 0)), (3, .one (.sl true 9 w0)), (4, .one (.int .i64 w1)), (5, .one (.int .i64 w2)), (6, .one (.str w3)), (42, .one (.bool w4))] [(0, some (67, [.sl false 5 w5, .int .i64 w6, .int .u64 w7]))] : St D0) (blockK 1 ((fun up => (onN (fun s => spec_l1Cur_sureTune.C.tidy 978 s Kb489) up)) ((fun up => (onN (fun s => spec_l1Cur_sureTune.C.tidy 122 s ((onN Kn122 up) .normal)) (onN Kn122 up))) (blockK 0 (onN (fun s => spec_l1Cur_sureTune.C.tidy 30 s (fun s' => runC spec_l1Cur_sureTune.C (spec_l1Cur_sureTune.O N) N spec_l1Cur_sureTune.c31 31 s' spec_l1Cur_sureTune.K0)) spec_l1Cur_sureTune.K0))))))) := by kernel_rfl
noncomputable def spec_l1Cur_sureTune.B15655 (N : Nat) (Kn122 : St D0 → Option spec_l1Cur_sureTune.R) : St D0 → Option spec_l1Cur_sureTune.R := fun s' => runC spec_l1Cur_sureTune.C (spec_l1Cur_sureTune.O N) N spec_l1Cur_sureTune.c31311 31311 s' (spec_l1Cur_sureTune.K31311 N Kn122)
noncomputable def spec_l1Cur_sureTune.d2 (N : Nat) (v0 : Int) (v1 : Int) (v2 : ByteArray) (v3 : Int) (v4 : List Int) (v5 : Int) (v6 : Int) (c2 : Int → Int → ByteArray → Int → (List Int) → Int → Int → Option spec_l1Cur_sureTune.R) (c5 : (List ByteArray) → Int → Int → (List Int) → Int → Int → Option spec_l1Cur_sureTune.R) : Option spec_l1Cur_sureTune.R := spec_l1Cur_sureTune.o2 N v0 v1 v2 v3 v4 v5 v6 c2 ((fun w0 w1 w2 w3 w4 w5 w6 w7 => spec_l1Cur_sureTune.d3 N w0 w1 w2 w3 w4 w5 w6 w7 c5))
theorem spec_l1Cur_sureTune.d2.run (N : Nat) (Kn122 : St D0 → Option spec_l1Cur_sureTune.R) (Kn31306 : St D0 → Option spec_l1Cur_sureTune.R) (v0 : Int) (v1 : Int) (v2 : ByteArray) (v3 : Int) (v4 : List Int) (v5 : Int) (v6 : Int) : runC spec_l1Cur_sureTune.C (spec_l1Cur_sureTune.O N) N spec_l1Cur_sureTune.c62612 62612 (mkSt [(0, .one (.ptr 0 0)), (3, .one (.nl)), (4, .one (.int .i64 v0)), (5, .one (.int .i64 v1)), (6, .one (.str v2)), (7, .one (.int .i64 v3))] [(0, some (67, [.sl false 5 v4, .int .i64 v5, .int .u64 v6]))] : St D0) (spec_l1Cur_sureTune.K62612 N Kn122 Kn31306) = spec_l1Cur_sureTune.d2 N v0 v1 v2 v3 v4 v5 v6 ((fun w0 w1 w2 w3 w4 w5 w6 => Kn31306 (mkSt [(0, .one (.ptr 0 0)), (3, .one (.nl)), (4, .one (.int .i64 w0)), (5, .one (.int .i64 w1)), (6, .one (.str w2)), (7, .one (.int .i64 w3))] [(0, some (67, [.sl false 5 w4, .int .i64 w5, .int .u64 w6]))] : St D0))) ((fun w0 w1 w2 w3 w4 w5 => Kn122 (mkSt [(0, .one (.ptr 0 0)), (3, .one (.sl true 9 w0)), (4, .one (.int .i64 w1)), (5, .one (.int .i64 w2))] [(0, some (67, [.sl false 5 w3, .int .i64 w4, .int .u64 w5]))] : St D0))) := by
  unfold spec_l1Cur_sureTune.d2; exact (spec_l1Cur_sureTune.o2.run N (spec_l1Cur_sureTune.B489 N Kn122) Kn122 Kn31306 spec_l1Cur_sureTune.c31311 v0 v1 v2 v3 v4 v5 v6).trans (congr (congr rfl rfl) (funext fun w0 => funext fun w1 => funext fun w2 => funext fun w3 => funext fun w4 => funext fun w5 => funext fun w6 => funext fun w7 => spec_l1Cur_sureTune.d3.run N Kn122 w0 w1 w2 w3 w4 w5 w6 w7))
noncomputable def spec_l1Cur_sureTune.o6 (N : Nat) (v0 : List ByteArray) (v1 : Int) (v2 : Int) (v3 : ByteArray) (v4 : Int) (v5 : List Int) (v6 : Int) (v7 : Int) (c6 : (List ByteArray) → Int → Int → ByteArray → Int → (List Int) → Int → Int → Option spec_l1Cur_sureTune.R) (c3 : (List ByteArray) → Int → Int → ByteArray → Bool → (List Int) → Int → Int → Option spec_l1Cur_sureTune.R) : Option spec_l1Cur_sureTune.R :=
 bif (decide (v4 > 0)) then
  (spec_l1Cur_pick.g N v1 v5 v6 v7).bind fun r1 =>
  (spec_l1Num.g N (w64 (1 + r1.1))).bind fun r2 =>
  bif (Nat.ble (v3.size + r2.size) 9223372036854775807) then
   c6 v0 v1 v2 (v3 ++ r2) (w64 (v4 - 1)) r1.2.1 r1.2.2.1 r1.2.2.2
  else
  none
 else
 bif (Nat.blt (v0.length + ([v3] : List ByteArray).length) 8796093022208) then
  (spec_l1Cur_one.g N 4 v5 v6 v7).bind fun r3 =>
  bif r3.1 then
   c3 (v0 ++ ([v3] : List ByteArray)) v1 v2 v3 (decide (((v0 ++ ([v3] : List ByteArray)).length : Int) < 12)) r3.2.1 r3.2.2.1 r3.2.2.2
  else
  c3 (v0 ++ ([v3] : List ByteArray)) v1 v2 v3 false r3.2.1 r3.2.2.1 r3.2.2.2
 else
 none
theorem spec_l1Cur_sureTune.o6.run (N : Nat) (Kb489 : St D0 → Option spec_l1Cur_sureTune.R) (Kn122 : St D0 → Option spec_l1Cur_sureTune.R) (Kn31306 : St D0 → Option spec_l1Cur_sureTune.R) (H31311 : Code) (v0 : List ByteArray) (v1 : Int) (v2 : Int) (v3 : ByteArray) (v4 : Int) (v5 : List Int) (v6 : Int) (v7 : Int) : runC spec_l1Cur_sureTune.C (spec_l1Cur_sureTune.O N) N spec_l1Cur_sureTune.c62612 62612 (mkSt [(0, .one (.ptr 0 0)), (3, .one (.sl true 9 v0)), (4, .one (.int .i64 v1)), (5, .one (.int .i64 v2)), (6, .one (.str v3)), (7, .one (.int .i64 v4))] [(0, some (67, [.sl false 5 v5, .int .i64 v6, .int .u64 v7]))] : St D0) ((fun up => (onN (fun s => spec_l1Cur_sureTune.C.tidy 31306 s ((onN Kn31306 up) .normal)) (onN Kn31306 up))) (blockK 2 ((fun up => (onN (fun s => spec_l1Cur_sureTune.C.tidy 7826 s (fun s' => runC spec_l1Cur_sureTune.C (spec_l1Cur_sureTune.O N) N (.seq spec_l1Cur_sureTune.c15654 (.seq spec_l1Cur_sureTune.c31310 H31311)) 7827 s' up)) up)) (blockK 1 ((fun up => (onN (fun s => spec_l1Cur_sureTune.C.tidy 978 s Kb489) up)) ((fun up => (onN (fun s => spec_l1Cur_sureTune.C.tidy 122 s ((onN Kn122 up) .normal)) (onN Kn122 up))) (blockK 0 (onN (fun s => spec_l1Cur_sureTune.C.tidy 30 s (fun s' => runC spec_l1Cur_sureTune.C (spec_l1Cur_sureTune.O N) N spec_l1Cur_sureTune.c31 31 s' spec_l1Cur_sureTune.K0)) spec_l1Cur_sureTune.K0)))))))) = spec_l1Cur_sureTune.o6 N v0 v1 v2 v3 v4 v5 v6 v7 ((fun w0 w1 w2 w3 w4 w5 w6 w7 => Kn31306 (mkSt [(0, .one (.ptr 0 0)), (3, .one (.sl true 9 w0)), (4, .one (.int .i64 w1)), (5, .one (.int .i64 w2)), (6, .one (.str w3)), (7, .one (.int .i64 w4))] [(0, some (67, [.sl false 5 w5, .int .i64 w6, .int .u64 w7]))] : St D0))) ((fun w0 w1 w2 w3 w4 w5 w6 w7 => runC spec_l1Cur_sureTune.C (spec_l1Cur_sureTune.O N) N H31311 31311 (mkSt [(0, .one (.ptr 0 0)), (3, .one (.sl true 9 w0)), (4, .one (.int .i64 w1)), (5, .one (.int .i64 w2)), (6, .one (.str w3)), (42, .one (.bool w4))] [(0, some (67, [.sl false 5 w5, .int .i64 w6, .int .u64 w7]))] : St D0) (blockK 1 ((fun up => (onN (fun s => spec_l1Cur_sureTune.C.tidy 978 s Kb489) up)) ((fun up => (onN (fun s => spec_l1Cur_sureTune.C.tidy 122 s ((onN Kn122 up) .normal)) (onN Kn122 up))) (blockK 0 (onN (fun s => spec_l1Cur_sureTune.C.tidy 30 s (fun s' => runC spec_l1Cur_sureTune.C (spec_l1Cur_sureTune.O N) N spec_l1Cur_sureTune.c31 31 s' spec_l1Cur_sureTune.K0)) spec_l1Cur_sureTune.K0))))))) := by kernel_rfl
noncomputable def spec_l1Cur_sureTune.d6 (N : Nat) (v0 : List ByteArray) (v1 : Int) (v2 : Int) (v3 : ByteArray) (v4 : Int) (v5 : List Int) (v6 : Int) (v7 : Int) (c5 : (List ByteArray) → Int → Int → (List Int) → Int → Int → Option spec_l1Cur_sureTune.R) (c6 : (List ByteArray) → Int → Int → ByteArray → Int → (List Int) → Int → Int → Option spec_l1Cur_sureTune.R) : Option spec_l1Cur_sureTune.R := spec_l1Cur_sureTune.o6 N v0 v1 v2 v3 v4 v5 v6 v7 c6 ((fun w0 w1 w2 w3 w4 w5 w6 w7 => spec_l1Cur_sureTune.d3 N w0 w1 w2 w3 w4 w5 w6 w7 c5))
theorem spec_l1Cur_sureTune.d6.run (N : Nat) (Kn122 : St D0 → Option spec_l1Cur_sureTune.R) (Kn31306 : St D0 → Option spec_l1Cur_sureTune.R) (v0 : List ByteArray) (v1 : Int) (v2 : Int) (v3 : ByteArray) (v4 : Int) (v5 : List Int) (v6 : Int) (v7 : Int) : runC spec_l1Cur_sureTune.C (spec_l1Cur_sureTune.O N) N spec_l1Cur_sureTune.c62612 62612 (mkSt [(0, .one (.ptr 0 0)), (3, .one (.sl true 9 v0)), (4, .one (.int .i64 v1)), (5, .one (.int .i64 v2)), (6, .one (.str v3)), (7, .one (.int .i64 v4))] [(0, some (67, [.sl false 5 v5, .int .i64 v6, .int .u64 v7]))] : St D0) (spec_l1Cur_sureTune.K62612 N Kn122 Kn31306) = spec_l1Cur_sureTune.d6 N v0 v1 v2 v3 v4 v5 v6 v7 ((fun w0 w1 w2 w3 w4 w5 => Kn122 (mkSt [(0, .one (.ptr 0 0)), (3, .one (.sl true 9 w0)), (4, .one (.int .i64 w1)), (5, .one (.int .i64 w2))] [(0, some (67, [.sl false 5 w3, .int .i64 w4, .int .u64 w5]))] : St D0))) ((fun w0 w1 w2 w3 w4 w5 w6 w7 => Kn31306 (mkSt [(0, .one (.ptr 0 0)), (3, .one (.sl true 9 w0)), (4, .one (.int .i64 w1)), (5, .one (.int .i64 w2)), (6, .one (.str w3)), (7, .one (.int .i64 w4))] [(0, some (67, [.sl false 5 w5, .int .i64 w6, .int .u64 w7]))] : St D0))) := by
  unfold spec_l1Cur_sureTune.d6; exact (spec_l1Cur_sureTune.o6.run N (spec_l1Cur_sureTune.B489 N Kn122) Kn122 Kn31306 spec_l1Cur_sureTune.c31311 v0 v1 v2 v3 v4 v5 v6 v7).trans (congr (congr rfl rfl) (funext fun w0 => funext fun w1 => funext fun w2 => funext fun w3 => funext fun w4 => funext fun w5 => funext fun w6 => funext fun w7 => spec_l1Cur_sureTune.d3.run N Kn122 w0 w1 w2 w3 w4 w5 w6 w7))
noncomputable def spec_l1Cur_sureTune.K31306 (N : Nat) (Kn122 : St D0 → Option spec_l1Cur_sureTune.R) : Ex → St D0 → Option spec_l1Cur_sureTune.R := (blockK 2 ((fun up => (onN (fun s => spec_l1Cur_sureTune.C.tidy 7826 s (fun s' => runC spec_l1Cur_sureTune.C (spec_l1Cur_sureTune.O N) N spec_l1Cur_sureTune.c7827 7827 s' up)) up)) (blockK 1 ((fun up => (onN (fun s => spec_l1Cur_sureTune.C.tidy 978 s (spec_l1Cur_sureTune.B489 N Kn122)) up)) ((fun up => (onN (fun s => spec_l1Cur_sureTune.C.tidy 122 s ((onN Kn122 up) .normal)) (onN Kn122 up))) (blockK 0 (onN (fun s => spec_l1Cur_sureTune.C.tidy 30 s (fun s' => runC spec_l1Cur_sureTune.C (spec_l1Cur_sureTune.O N) N spec_l1Cur_sureTune.c31 31 s' spec_l1Cur_sureTune.K0)) spec_l1Cur_sureTune.K0)))))))
mutual
noncomputable def spec_l1Cur_sureTune.l2 (N : Nat) : Nat → Int → Int → ByteArray → Int → (List Int) → Int → Int → ((List ByteArray) → Int → Int → (List Int) → Int → Int → Option spec_l1Cur_sureTune.R) → Option spec_l1Cur_sureTune.R
  | 0, _, _, _, _, _, _, _, _ => none
  | n + 1, v0, v1, v2, v3, v4, v5, v6, c5 => spec_l1Cur_sureTune.d2 N v0 v1 v2 v3 v4 v5 v6 ((fun w0 w1 w2 w3 w4 w5 w6 => spec_l1Cur_sureTune.l2 N n w0 w1 w2 w3 w4 w5 w6 c5)) c5
noncomputable def spec_l1Cur_sureTune.l6 (N : Nat) : Nat → (List ByteArray) → Int → Int → ByteArray → Int → (List Int) → Int → Int → ((List ByteArray) → Int → Int → (List Int) → Int → Int → Option spec_l1Cur_sureTune.R) → Option spec_l1Cur_sureTune.R
  | 0, _, _, _, _, _, _, _, _, _ => none
  | n + 1, v0, v1, v2, v3, v4, v5, v6, v7, c5 => spec_l1Cur_sureTune.d6 N v0 v1 v2 v3 v4 v5 v6 v7 c5 ((fun w0 w1 w2 w3 w4 w5 w6 w7 => spec_l1Cur_sureTune.l6 N n w0 w1 w2 w3 w4 w5 w6 w7 c5))
end
theorem spec_l1Cur_sureTune.loop31306 (N : Nat) (Kn122 : St D0 → Option spec_l1Cur_sureTune.R) : ∀ n, (∀ (v0 : Int) (v1 : Int) (v2 : ByteArray) (v3 : Int) (v4 : List Int) (v5 : Int) (v6 : Int), iter (loopF spec_l1Cur_sureTune.C (spec_l1Cur_sureTune.O N) N spec_l1Cur_sureTune.c62612 31306) n (mkSt [(0, .one (.ptr 0 0)), (3, .one (.nl)), (4, .one (.int .i64 v0)), (5, .one (.int .i64 v1)), (6, .one (.str v2)), (7, .one (.int .i64 v3))] [(0, some (67, [.sl false 5 v4, .int .i64 v5, .int .u64 v6]))] : St D0) (spec_l1Cur_sureTune.K31306 N Kn122) = spec_l1Cur_sureTune.l2 N n v0 v1 v2 v3 v4 v5 v6 ((fun w0 w1 w2 w3 w4 w5 => Kn122 (mkSt [(0, .one (.ptr 0 0)), (3, .one (.sl true 9 w0)), (4, .one (.int .i64 w1)), (5, .one (.int .i64 w2))] [(0, some (67, [.sl false 5 w3, .int .i64 w4, .int .u64 w5]))] : St D0)))) ∧ (∀ (v0 : List ByteArray) (v1 : Int) (v2 : Int) (v3 : ByteArray) (v4 : Int) (v5 : List Int) (v6 : Int) (v7 : Int), iter (loopF spec_l1Cur_sureTune.C (spec_l1Cur_sureTune.O N) N spec_l1Cur_sureTune.c62612 31306) n (mkSt [(0, .one (.ptr 0 0)), (3, .one (.sl true 9 v0)), (4, .one (.int .i64 v1)), (5, .one (.int .i64 v2)), (6, .one (.str v3)), (7, .one (.int .i64 v4))] [(0, some (67, [.sl false 5 v5, .int .i64 v6, .int .u64 v7]))] : St D0) (spec_l1Cur_sureTune.K31306 N Kn122) = spec_l1Cur_sureTune.l6 N n v0 v1 v2 v3 v4 v5 v6 v7 ((fun w0 w1 w2 w3 w4 w5 => Kn122 (mkSt [(0, .one (.ptr 0 0)), (3, .one (.sl true 9 w0)), (4, .one (.int .i64 w1)), (5, .one (.int .i64 w2))] [(0, some (67, [.sl false 5 w3, .int .i64 w4, .int .u64 w5]))] : St D0))))
  | 0 => ⟨(fun v0 v1 v2 v3 v4 v5 v6 => rfl), (fun v0 v1 v2 v3 v4 v5 v6 v7 => rfl)⟩
  | n + 1 => ⟨(fun v0 v1 v2 v3 v4 v5 v6 => (spec_l1Cur_sureTune.d2.run N Kn122 (fun s => iter (loopF spec_l1Cur_sureTune.C (spec_l1Cur_sureTune.O N) N spec_l1Cur_sureTune.c62612 31306) n s (spec_l1Cur_sureTune.K31306 N Kn122)) v0 v1 v2 v3 v4 v5 v6).trans (show _ = spec_l1Cur_sureTune.d2 N v0 v1 v2 v3 v4 v5 v6 ((fun w0 w1 w2 w3 w4 w5 w6 => spec_l1Cur_sureTune.l2 N n w0 w1 w2 w3 w4 w5 w6 ((fun w0 w1 w2 w3 w4 w5 => Kn122 (mkSt [(0, .one (.ptr 0 0)), (3, .one (.sl true 9 w0)), (4, .one (.int .i64 w1)), (5, .one (.int .i64 w2))] [(0, some (67, [.sl false 5 w3, .int .i64 w4, .int .u64 w5]))] : St D0))))) ((fun w0 w1 w2 w3 w4 w5 => Kn122 (mkSt [(0, .one (.ptr 0 0)), (3, .one (.sl true 9 w0)), (4, .one (.int .i64 w1)), (5, .one (.int .i64 w2))] [(0, some (67, [.sl false 5 w3, .int .i64 w4, .int .u64 w5]))] : St D0))) from (congr (congr rfl (funext fun w0 => funext fun w1 => funext fun w2 => funext fun w3 => funext fun w4 => funext fun w5 => funext fun w6 => (spec_l1Cur_sureTune.loop31306 N Kn122 n).1 w0 w1 w2 w3 w4 w5 w6)) rfl))), (fun v0 v1 v2 v3 v4 v5 v6 v7 => (spec_l1Cur_sureTune.d6.run N Kn122 (fun s => iter (loopF spec_l1Cur_sureTune.C (spec_l1Cur_sureTune.O N) N spec_l1Cur_sureTune.c62612 31306) n s (spec_l1Cur_sureTune.K31306 N Kn122)) v0 v1 v2 v3 v4 v5 v6 v7).trans (show _ = spec_l1Cur_sureTune.d6 N v0 v1 v2 v3 v4 v5 v6 v7 ((fun w0 w1 w2 w3 w4 w5 => Kn122 (mkSt [(0, .one (.ptr 0 0)), (3, .one (.sl true 9 w0)), (4, .one (.int .i64 w1)), (5, .one (.int .i64 w2))] [(0, some (67, [.sl false 5 w3, .int .i64 w4, .int .u64 w5]))] : St D0))) ((fun w0 w1 w2 w3 w4 w5 w6 w7 => spec_l1Cur_sureTune.l6 N n w0 w1 w2 w3 w4 w5 w6 w7 ((fun w0 w1 w2 w3 w4 w5 => Kn122 (mkSt [(0, .one (.ptr 0 0)), (3, .one (.sl true 9 w0)), (4, .one (.int .i64 w1)), (5, .one (.int .i64 w2))] [(0, some (67, [.sl false 5 w3, .int .i64 w4, .int .u64 w5]))] : St D0))))) from (congr (congr rfl rfl) (funext fun w0 => funext fun w1 => funext fun w2 => funext fun w3 => funext fun w4 => funext fun w5 => funext fun w6 => funext fun w7 => (spec_l1Cur_sureTune.loop31306 N Kn122 n).2 w0 w1 w2 w3 w4 w5 w6 w7))))⟩
noncomputable def spec_l1Cur_sureTune.K244 (N : Nat) (Kn122 : St D0 → Option spec_l1Cur_sureTune.R) : Ex → St D0 → Option spec_l1Cur_sureTune.R := ((fun up => (onN (fun s => spec_l1Cur_sureTune.C.tidy 122 s ((onN Kn122 up) .normal)) (onN Kn122 up))) (blockK 0 (onN (fun s => spec_l1Cur_sureTune.C.tidy 30 s (fun s' => runC spec_l1Cur_sureTune.C (spec_l1Cur_sureTune.O N) N spec_l1Cur_sureTune.c31 31 s' spec_l1Cur_sureTune.K0)) spec_l1Cur_sureTune.K0)))
noncomputable def spec_l1Cur_sureTune.o1 (N : Nat) (v0 : Int) (v1 : Int) (v2 : List Int) (v3 : Int) (v4 : Int) (c2 : Int → Int → ByteArray → Int → (List Int) → Int → Int → Option spec_l1Cur_sureTune.R) : Option spec_l1Cur_sureTune.R :=
 bif (decide (v1 > 0)) then
  (spec_l1Cur_pick.g N 4 v2 v3 v4).bind fun r1 =>
  c2 v0 v1 (⟨#[]⟩ : ByteArray) (w64 (1 + r1.1)) r1.2.1 r1.2.2.1 r1.2.2.2
 else
 some (([] : List ByteArray), v2, v3, v4)
theorem spec_l1Cur_sureTune.o1.run (N : Nat) (Kn122 : St D0 → Option spec_l1Cur_sureTune.R) (H62612 : Code) (v0 : Int) (v1 : Int) (v2 : List Int) (v3 : Int) (v4 : Int) : runC spec_l1Cur_sureTune.C (spec_l1Cur_sureTune.O N) N (.seq spec_l1Cur_sureTune.c488 (.seq (.block 1 (.seq spec_l1Cur_sureTune.c3912 (.seq (.seq spec_l1Cur_sureTune.c15652 (.block 2 (.loop H62612))) spec_l1Cur_sureTune.c7827))) spec_l1Cur_sureTune.c979)) 244 (mkSt [(0, .one (.ptr 0 0)), (3, .one (.nl)), (4, .one (.int .i64 v0)), (5, .one (.int .i64 v1))] [(0, some (67, [.sl false 5 v2, .int .i64 v3, .int .u64 v4]))] : St D0) ((fun up => (onN (fun s => spec_l1Cur_sureTune.C.tidy 122 s ((onN Kn122 up) .normal)) (onN Kn122 up))) (blockK 0 (onN (fun s => spec_l1Cur_sureTune.C.tidy 30 s (fun s' => runC spec_l1Cur_sureTune.C (spec_l1Cur_sureTune.O N) N spec_l1Cur_sureTune.c31 31 s' spec_l1Cur_sureTune.K0)) spec_l1Cur_sureTune.K0))) = spec_l1Cur_sureTune.o1 N v0 v1 v2 v3 v4 ((fun w0 w1 w2 w3 w4 w5 w6 => iter (loopF spec_l1Cur_sureTune.C (spec_l1Cur_sureTune.O N) N H62612 31306) N (mkSt [(0, .one (.ptr 0 0)), (3, .one (.nl)), (4, .one (.int .i64 w0)), (5, .one (.int .i64 w1)), (6, .one (.str w2)), (7, .one (.int .i64 w3))] [(0, some (67, [.sl false 5 w4, .int .i64 w5, .int .u64 w6]))] : St D0) (blockK 2 ((fun up => (onN (fun s => spec_l1Cur_sureTune.C.tidy 7826 s (fun s' => runC spec_l1Cur_sureTune.C (spec_l1Cur_sureTune.O N) N spec_l1Cur_sureTune.c7827 7827 s' up)) up)) (blockK 1 ((fun up => (onN (fun s => spec_l1Cur_sureTune.C.tidy 978 s (fun s' => runC spec_l1Cur_sureTune.C (spec_l1Cur_sureTune.O N) N spec_l1Cur_sureTune.c979 979 s' up)) up)) ((fun up => (onN (fun s => spec_l1Cur_sureTune.C.tidy 122 s ((onN Kn122 up) .normal)) (onN Kn122 up))) (blockK 0 (onN (fun s => spec_l1Cur_sureTune.C.tidy 30 s (fun s' => runC spec_l1Cur_sureTune.C (spec_l1Cur_sureTune.O N) N spec_l1Cur_sureTune.c31 31 s' spec_l1Cur_sureTune.K0)) spec_l1Cur_sureTune.K0))))))))) := by kernel_rfl
noncomputable def spec_l1Cur_sureTune.d1 (N : Nat) (v0 : Int) (v1 : Int) (v2 : List Int) (v3 : Int) (v4 : Int) (c5 : (List ByteArray) → Int → Int → (List Int) → Int → Int → Option spec_l1Cur_sureTune.R) : Option spec_l1Cur_sureTune.R := spec_l1Cur_sureTune.o1 N v0 v1 v2 v3 v4 ((fun w0 w1 w2 w3 w4 w5 w6 => spec_l1Cur_sureTune.l2 N N w0 w1 w2 w3 w4 w5 w6 c5))
theorem spec_l1Cur_sureTune.c244_1 : spec_l1Cur_sureTune.c244 = (.seq spec_l1Cur_sureTune.c488 (.seq (.block 1 (.seq spec_l1Cur_sureTune.c3912 (.seq (.seq spec_l1Cur_sureTune.c15652 (.block 2 (.loop spec_l1Cur_sureTune.c62612))) spec_l1Cur_sureTune.c7827))) spec_l1Cur_sureTune.c979)) := by kernel_rfl
theorem spec_l1Cur_sureTune.d1.run (N : Nat) (Kn122 : St D0 → Option spec_l1Cur_sureTune.R) (v0 : Int) (v1 : Int) (v2 : List Int) (v3 : Int) (v4 : Int) : runC spec_l1Cur_sureTune.C (spec_l1Cur_sureTune.O N) N spec_l1Cur_sureTune.c244 244 (mkSt [(0, .one (.ptr 0 0)), (3, .one (.nl)), (4, .one (.int .i64 v0)), (5, .one (.int .i64 v1))] [(0, some (67, [.sl false 5 v2, .int .i64 v3, .int .u64 v4]))] : St D0) (spec_l1Cur_sureTune.K244 N Kn122) = spec_l1Cur_sureTune.d1 N v0 v1 v2 v3 v4 ((fun w0 w1 w2 w3 w4 w5 => Kn122 (mkSt [(0, .one (.ptr 0 0)), (3, .one (.sl true 9 w0)), (4, .one (.int .i64 w1)), (5, .one (.int .i64 w2))] [(0, some (67, [.sl false 5 w3, .int .i64 w4, .int .u64 w5]))] : St D0))) := by
  rw [spec_l1Cur_sureTune.c244_1]; unfold spec_l1Cur_sureTune.d1; exact (spec_l1Cur_sureTune.o1.run N Kn122 spec_l1Cur_sureTune.c62612 v0 v1 v2 v3 v4).trans (congr rfl (funext fun w0 => funext fun w1 => funext fun w2 => funext fun w3 => funext fun w4 => funext fun w5 => funext fun w6 => (spec_l1Cur_sureTune.loop31306 N Kn122 N).1 w0 w1 w2 w3 w4 w5 w6))
noncomputable def spec_l1Cur_sureTune.o5 (N : Nat) (v0 : List ByteArray) (v1 : Int) (v2 : Int) (v3 : List Int) (v4 : Int) (v5 : Int) (c6 : (List ByteArray) → Int → Int → ByteArray → Int → (List Int) → Int → Int → Option spec_l1Cur_sureTune.R) : Option spec_l1Cur_sureTune.R :=
 bif (decide (v2 > 0)) then
  (spec_l1Cur_pick.g N 4 v3 v4 v5).bind fun r1 =>
  c6 v0 v1 v2 (⟨#[]⟩ : ByteArray) (w64 (1 + r1.1)) r1.2.1 r1.2.2.1 r1.2.2.2
 else
 some (v0, v3, v4, v5)
theorem spec_l1Cur_sureTune.o5.run (N : Nat) (Kn122 : St D0 → Option spec_l1Cur_sureTune.R) (H62612 : Code) (v0 : List ByteArray) (v1 : Int) (v2 : Int) (v3 : List Int) (v4 : Int) (v5 : Int) : runC spec_l1Cur_sureTune.C (spec_l1Cur_sureTune.O N) N (.seq spec_l1Cur_sureTune.c488 (.seq (.block 1 (.seq spec_l1Cur_sureTune.c3912 (.seq (.seq spec_l1Cur_sureTune.c15652 (.block 2 (.loop H62612))) spec_l1Cur_sureTune.c7827))) spec_l1Cur_sureTune.c979)) 244 (mkSt [(0, .one (.ptr 0 0)), (3, .one (.sl true 9 v0)), (4, .one (.int .i64 v1)), (5, .one (.int .i64 v2))] [(0, some (67, [.sl false 5 v3, .int .i64 v4, .int .u64 v5]))] : St D0) ((fun up => (onN (fun s => spec_l1Cur_sureTune.C.tidy 122 s ((onN Kn122 up) .normal)) (onN Kn122 up))) (blockK 0 (onN (fun s => spec_l1Cur_sureTune.C.tidy 30 s (fun s' => runC spec_l1Cur_sureTune.C (spec_l1Cur_sureTune.O N) N spec_l1Cur_sureTune.c31 31 s' spec_l1Cur_sureTune.K0)) spec_l1Cur_sureTune.K0))) = spec_l1Cur_sureTune.o5 N v0 v1 v2 v3 v4 v5 ((fun w0 w1 w2 w3 w4 w5 w6 w7 => iter (loopF spec_l1Cur_sureTune.C (spec_l1Cur_sureTune.O N) N H62612 31306) N (mkSt [(0, .one (.ptr 0 0)), (3, .one (.sl true 9 w0)), (4, .one (.int .i64 w1)), (5, .one (.int .i64 w2)), (6, .one (.str w3)), (7, .one (.int .i64 w4))] [(0, some (67, [.sl false 5 w5, .int .i64 w6, .int .u64 w7]))] : St D0) (blockK 2 ((fun up => (onN (fun s => spec_l1Cur_sureTune.C.tidy 7826 s (fun s' => runC spec_l1Cur_sureTune.C (spec_l1Cur_sureTune.O N) N spec_l1Cur_sureTune.c7827 7827 s' up)) up)) (blockK 1 ((fun up => (onN (fun s => spec_l1Cur_sureTune.C.tidy 978 s (fun s' => runC spec_l1Cur_sureTune.C (spec_l1Cur_sureTune.O N) N spec_l1Cur_sureTune.c979 979 s' up)) up)) ((fun up => (onN (fun s => spec_l1Cur_sureTune.C.tidy 122 s ((onN Kn122 up) .normal)) (onN Kn122 up))) (blockK 0 (onN (fun s => spec_l1Cur_sureTune.C.tidy 30 s (fun s' => runC spec_l1Cur_sureTune.C (spec_l1Cur_sureTune.O N) N spec_l1Cur_sureTune.c31 31 s' spec_l1Cur_sureTune.K0)) spec_l1Cur_sureTune.K0))))))))) := by kernel_rfl
noncomputable def spec_l1Cur_sureTune.d5 (N : Nat) (v0 : List ByteArray) (v1 : Int) (v2 : Int) (v3 : List Int) (v4 : Int) (v5 : Int) (c5 : (List ByteArray) → Int → Int → (List Int) → Int → Int → Option spec_l1Cur_sureTune.R) : Option spec_l1Cur_sureTune.R := spec_l1Cur_sureTune.o5 N v0 v1 v2 v3 v4 v5 ((fun w0 w1 w2 w3 w4 w5 w6 w7 => spec_l1Cur_sureTune.l6 N N w0 w1 w2 w3 w4 w5 w6 w7 c5))
theorem spec_l1Cur_sureTune.c244_5 : spec_l1Cur_sureTune.c244 = (.seq spec_l1Cur_sureTune.c488 (.seq (.block 1 (.seq spec_l1Cur_sureTune.c3912 (.seq (.seq spec_l1Cur_sureTune.c15652 (.block 2 (.loop spec_l1Cur_sureTune.c62612))) spec_l1Cur_sureTune.c7827))) spec_l1Cur_sureTune.c979)) := by kernel_rfl
theorem spec_l1Cur_sureTune.d5.run (N : Nat) (Kn122 : St D0 → Option spec_l1Cur_sureTune.R) (v0 : List ByteArray) (v1 : Int) (v2 : Int) (v3 : List Int) (v4 : Int) (v5 : Int) : runC spec_l1Cur_sureTune.C (spec_l1Cur_sureTune.O N) N spec_l1Cur_sureTune.c244 244 (mkSt [(0, .one (.ptr 0 0)), (3, .one (.sl true 9 v0)), (4, .one (.int .i64 v1)), (5, .one (.int .i64 v2))] [(0, some (67, [.sl false 5 v3, .int .i64 v4, .int .u64 v5]))] : St D0) (spec_l1Cur_sureTune.K244 N Kn122) = spec_l1Cur_sureTune.d5 N v0 v1 v2 v3 v4 v5 ((fun w0 w1 w2 w3 w4 w5 => Kn122 (mkSt [(0, .one (.ptr 0 0)), (3, .one (.sl true 9 w0)), (4, .one (.int .i64 w1)), (5, .one (.int .i64 w2))] [(0, some (67, [.sl false 5 w3, .int .i64 w4, .int .u64 w5]))] : St D0))) := by
  rw [spec_l1Cur_sureTune.c244_5]; unfold spec_l1Cur_sureTune.d5; exact (spec_l1Cur_sureTune.o5.run N Kn122 spec_l1Cur_sureTune.c62612 v0 v1 v2 v3 v4 v5).trans (congr rfl (funext fun w0 => funext fun w1 => funext fun w2 => funext fun w3 => funext fun w4 => funext fun w5 => funext fun w6 => funext fun w7 => (spec_l1Cur_sureTune.loop31306 N Kn122 N).2 w0 w1 w2 w3 w4 w5 w6 w7))
noncomputable def spec_l1Cur_sureTune.K122 (N : Nat) : Ex → St D0 → Option spec_l1Cur_sureTune.R := (blockK 0 (onN (fun s => spec_l1Cur_sureTune.C.tidy 30 s (fun s' => runC spec_l1Cur_sureTune.C (spec_l1Cur_sureTune.O N) N spec_l1Cur_sureTune.c31 31 s' spec_l1Cur_sureTune.K0)) spec_l1Cur_sureTune.K0))
mutual
noncomputable def spec_l1Cur_sureTune.l1 (N : Nat) : Nat → Int → Int → (List Int) → Int → Int → Option spec_l1Cur_sureTune.R
  | 0, _, _, _, _, _ => none
  | n + 1, v0, v1, v2, v3, v4 => spec_l1Cur_sureTune.d1 N v0 v1 v2 v3 v4 ((fun w0 w1 w2 w3 w4 w5 => spec_l1Cur_sureTune.l5 N n w0 w1 w2 w3 w4 w5))
noncomputable def spec_l1Cur_sureTune.l5 (N : Nat) : Nat → (List ByteArray) → Int → Int → (List Int) → Int → Int → Option spec_l1Cur_sureTune.R
  | 0, _, _, _, _, _, _ => none
  | n + 1, v0, v1, v2, v3, v4, v5 => spec_l1Cur_sureTune.d5 N v0 v1 v2 v3 v4 v5 ((fun w0 w1 w2 w3 w4 w5 => spec_l1Cur_sureTune.l5 N n w0 w1 w2 w3 w4 w5))
end
theorem spec_l1Cur_sureTune.loop122 (N : Nat) : ∀ n, (∀ (v0 : Int) (v1 : Int) (v2 : List Int) (v3 : Int) (v4 : Int), iter (loopF spec_l1Cur_sureTune.C (spec_l1Cur_sureTune.O N) N spec_l1Cur_sureTune.c244 122) n (mkSt [(0, .one (.ptr 0 0)), (3, .one (.nl)), (4, .one (.int .i64 v0)), (5, .one (.int .i64 v1))] [(0, some (67, [.sl false 5 v2, .int .i64 v3, .int .u64 v4]))] : St D0) (spec_l1Cur_sureTune.K122 N) = spec_l1Cur_sureTune.l1 N n v0 v1 v2 v3 v4) ∧ (∀ (v0 : List ByteArray) (v1 : Int) (v2 : Int) (v3 : List Int) (v4 : Int) (v5 : Int), iter (loopF spec_l1Cur_sureTune.C (spec_l1Cur_sureTune.O N) N spec_l1Cur_sureTune.c244 122) n (mkSt [(0, .one (.ptr 0 0)), (3, .one (.sl true 9 v0)), (4, .one (.int .i64 v1)), (5, .one (.int .i64 v2))] [(0, some (67, [.sl false 5 v3, .int .i64 v4, .int .u64 v5]))] : St D0) (spec_l1Cur_sureTune.K122 N) = spec_l1Cur_sureTune.l5 N n v0 v1 v2 v3 v4 v5)
  | 0 => ⟨(fun v0 v1 v2 v3 v4 => rfl), (fun v0 v1 v2 v3 v4 v5 => rfl)⟩
  | n + 1 => ⟨(fun v0 v1 v2 v3 v4 => (spec_l1Cur_sureTune.d1.run N (fun s => iter (loopF spec_l1Cur_sureTune.C (spec_l1Cur_sureTune.O N) N spec_l1Cur_sureTune.c244 122) n s (spec_l1Cur_sureTune.K122 N)) v0 v1 v2 v3 v4).trans (show _ = spec_l1Cur_sureTune.d1 N v0 v1 v2 v3 v4 ((fun w0 w1 w2 w3 w4 w5 => spec_l1Cur_sureTune.l5 N n w0 w1 w2 w3 w4 w5)) from (congr rfl (funext fun w0 => funext fun w1 => funext fun w2 => funext fun w3 => funext fun w4 => funext fun w5 => (spec_l1Cur_sureTune.loop122 N n).2 w0 w1 w2 w3 w4 w5)))), (fun v0 v1 v2 v3 v4 v5 => (spec_l1Cur_sureTune.d5.run N (fun s => iter (loopF spec_l1Cur_sureTune.C (spec_l1Cur_sureTune.O N) N spec_l1Cur_sureTune.c244 122) n s (spec_l1Cur_sureTune.K122 N)) v0 v1 v2 v3 v4 v5).trans (show _ = spec_l1Cur_sureTune.d5 N v0 v1 v2 v3 v4 v5 ((fun w0 w1 w2 w3 w4 w5 => spec_l1Cur_sureTune.l5 N n w0 w1 w2 w3 w4 w5)) from (congr rfl (funext fun w0 => funext fun w1 => funext fun w2 => funext fun w3 => funext fun w4 => funext fun w5 => (spec_l1Cur_sureTune.loop122 N n).2 w0 w1 w2 w3 w4 w5))))⟩
noncomputable def spec_l1Cur_sureTune.o0 (N : Nat) (b0_0 : List Int) (b0_1 : Int) (b0_2 : Int) (c1 : Int → Int → (List Int) → Int → Int → Option spec_l1Cur_sureTune.R) : Option spec_l1Cur_sureTune.R :=
 (spec_l1Cur_pick.g N 4 b0_0 b0_1 b0_2).bind fun r1 =>
 (spec_l1Cur_pick.g N 6 r1.2.1 r1.2.2.1 r1.2.2.2).bind fun r2 =>
 c1 (w64 (1 + r1.1)) (w64 (1 + r2.1)) r2.2.1 r2.2.2.1 r2.2.2.2
theorem spec_l1Cur_sureTune.o0.run (N : Nat) (H244 : Code) (b0_0 : List Int) (b0_1 : Int) (b0_2 : Int) : runC spec_l1Cur_sureTune.C (spec_l1Cur_sureTune.O N) N (.seq spec_l1Cur_sureTune.c2 (.seq spec_l1Cur_sureTune.c6 (.seq spec_l1Cur_sureTune.c14 (.seq (.seq spec_l1Cur_sureTune.c60 (.block 0 (.loop H244))) spec_l1Cur_sureTune.c31)))) 1 (st0 [.one (.ptr 0 0)] [(67, [.sl false 5 b0_0, .int .i64 b0_1, .int .u64 b0_2])] : St D0) spec_l1Cur_sureTune.K0 = spec_l1Cur_sureTune.o0 N b0_0 b0_1 b0_2 ((fun w0 w1 w2 w3 w4 => iter (loopF spec_l1Cur_sureTune.C (spec_l1Cur_sureTune.O N) N H244 122) N (mkSt [(0, .one (.ptr 0 0)), (3, .one (.nl)), (4, .one (.int .i64 w0)), (5, .one (.int .i64 w1))] [(0, some (67, [.sl false 5 w2, .int .i64 w3, .int .u64 w4]))] : St D0) (blockK 0 (onN (fun s => spec_l1Cur_sureTune.C.tidy 30 s (fun s' => runC spec_l1Cur_sureTune.C (spec_l1Cur_sureTune.O N) N spec_l1Cur_sureTune.c31 31 s' spec_l1Cur_sureTune.K0)) spec_l1Cur_sureTune.K0)))) := by kernel_rfl
noncomputable def spec_l1Cur_sureTune.g (N : Nat) (b0_0 : List Int) (b0_1 : Int) (b0_2 : Int) : Option spec_l1Cur_sureTune.R := spec_l1Cur_sureTune.o0 N b0_0 b0_1 b0_2 ((fun w0 w1 w2 w3 w4 => spec_l1Cur_sureTune.l1 N N w0 w1 w2 w3 w4))
theorem spec_l1Cur_sureTune.c1_0 : spec_l1Cur_sureTune.c1 = (.seq spec_l1Cur_sureTune.c2 (.seq spec_l1Cur_sureTune.c6 (.seq spec_l1Cur_sureTune.c14 (.seq (.seq spec_l1Cur_sureTune.c60 (.block 0 (.loop spec_l1Cur_sureTune.c244))) spec_l1Cur_sureTune.c31)))) := by kernel_rfl
theorem spec_l1Cur_sureTune.g.run (N : Nat) (b0_0 : List Int) (b0_1 : Int) (b0_2 : Int) : runC spec_l1Cur_sureTune.C (spec_l1Cur_sureTune.O N) N spec_l1Cur_sureTune.c1 1 (st0 [.one (.ptr 0 0)] [(67, [.sl false 5 b0_0, .int .i64 b0_1, .int .u64 b0_2])] : St D0) spec_l1Cur_sureTune.K0 = spec_l1Cur_sureTune.g N b0_0 b0_1 b0_2 := by
  rw [spec_l1Cur_sureTune.c1_0]; unfold spec_l1Cur_sureTune.g; exact (spec_l1Cur_sureTune.o0.run N spec_l1Cur_sureTune.c244 b0_0 b0_1 b0_2).trans (congr rfl (funext fun w0 => funext fun w1 => funext fun w2 => funext fun w3 => funext fun w4 => (spec_l1Cur_sureTune.loop122 N N).1 w0 w1 w2 w3 w4))
theorem spec_l1Cur_sureTune.good (N : Nat) (b0_0 : List Int) (b0_1 : Int) (b0_2 : Int) (r : spec_l1Cur_sureTune.R) (h : spec_l1Cur_sureTune.g N b0_0 b0_1 b0_2 = some r) : Go.PM.Good Go.Proofs.Tryd.prog T0 55 [.one (.ptr 0 0)] [(67, [.sl false 5 b0_0, .int .i64 b0_1, .int .u64 b0_2])] (spec_l1Cur_sureTune.sig.ret r) (spec_l1Cur_sureTune.sig.bs r) :=
  good_fn tabOk0 mixed0 spec_l1Cur_sureTune.sig (spec_l1Cur_sureTune.E N) Go.Proofs.Tryd.func55 (by kernel_rfl) (by kernel_rfl) 4398050738429 0 1 [(122, [0, 3, 4, 5], [0]), (978, [0, 3, 4, 5], [0]), (31306, [0, 3, 4, 5, 6, 7], [0]), (31310, [0, 3, 4, 5, 6, 42], [0])] 618721003776 false [] [(false, [.own 9])] (by kernel_rfl) rfl rfl ((spec_l1Cur_sureTune.g.run N b0_0 b0_1 b0_2).trans h)
noncomputable def spec_l1Cur_sureTune.ent (N : Nat) : Ent Go.Proofs.Tryd.prog T0 := mkEnt 55 [(false, [.any])] spec_l1Cur_sureTune.sig (fun t => spec_l1Cur_sureTune.g N t.2.1 t.2.2.1 t.2.2.2) (fun t r h => spec_l1Cur_sureTune.good N t.2.1 t.2.2.1 t.2.2.2 r h)
end Go.Proofs.YtpmipkbfohcjiaaDoor.M

namespace Go.Proofs.YtpmipkbfohcjiaaDoor.M
open Go Go.PM Go.Proofs.YtpmipkbfohcjiaaDoor.P
set_option linter.unusedVariables false
set_option maxRecDepth 100000
/-! ### spec_l1Cur_tune -/
abbrev spec_l1Cur_tune.R : Type := List ByteArray × List Int × Int × Int
abbrev spec_l1Cur_tune.sig : Sig := ⟨[(false, 1)], [(67, 3)], [.ptr 0 0, .sl false 5, .int .i64, .int .u64], [(false, 1)], [(67, 3)], [.sl true 9, .sl false 5, .int .i64, .int .u64]⟩
noncomputable def spec_l1Cur_tune.C : Cfg D0 := ⟨Go.Proofs.Tryd.prog, T0, 16941453, 0, 32, 1, [(14, [3], [0]), (7548, [0, 3], [0])], 69733456, true, [(234, false, 3, [], [0]), (234, true, 3, [0], [0])]⟩
noncomputable def spec_l1Cur_tune.E (N : Nat) : List (Ent Go.Proofs.Tryd.prog T0) := [spec_l1Cur_sureTune.ent N, spec_l1Cur_pick.ent N, spec_l1Cur_of.ent N]
noncomputable def spec_l1Cur_tune.O (N : Nat) : Orc D0 spec_l1Cur_tune.R := orcOf (spec_l1Cur_tune.E N)
noncomputable def spec_l1Cur_tune.K0 : Ex → St D0 → Option spec_l1Cur_tune.R := exitK spec_l1Cur_tune.C Go.Proofs.Tryd.f51.results.toList [(false, [.own 9])] (decOut spec_l1Cur_tune.sig)
noncomputable def spec_l1Cur_tune.c1 : Code := codeAt (Go.Proofs.Tryd.f51.body.getD .skip) []
noncomputable def spec_l1Cur_tune.c2 : Code := codeAt (Go.Proofs.Tryd.f51.body.getD .skip) [false]
noncomputable def spec_l1Cur_tune.c6 : Code := codeAt (Go.Proofs.Tryd.f51.body.getD .skip) [true, false]
noncomputable def spec_l1Cur_tune.c15 : Code := codeAt (Go.Proofs.Tryd.f51.body.getD .skip) [true, true, true]
noncomputable def spec_l1Cur_tune.c28 : Code := codeAt (Go.Proofs.Tryd.f51.body.getD .skip) [true, true, false, false]
noncomputable def spec_l1Cur_tune.c116 : Code := codeAt (Go.Proofs.Tryd.f51.body.getD .skip) [true, true, false, true, false, false]
noncomputable def spec_l1Cur_tune.c234 : Code := codeAt (Go.Proofs.Tryd.f51.body.getD .skip) [true, true, false, true, false, true, false]
noncomputable def spec_l1Cur_tune.c470 : Code := codeAt (Go.Proofs.Tryd.f51.body.getD .skip) [true, true, false, true, false, true, true, false]
noncomputable def spec_l1Cur_tune.c942 : Code := codeAt (Go.Proofs.Tryd.f51.body.getD .skip) [true, true, false, true, false, true, true, true, false]
noncomputable def spec_l1Cur_tune.c1886 : Code := codeAt (Go.Proofs.Tryd.f51.body.getD .skip) [true, true, false, true, false, true, true, true, true, false]
noncomputable def spec_l1Cur_tune.c3775 : Code := codeAt (Go.Proofs.Tryd.f51.body.getD .skip) [true, true, false, true, false, true, true, true, true, true, true]
noncomputable def spec_l1Cur_tune.c15096 : Code := codeAt (Go.Proofs.Tryd.f51.body.getD .skip) [true, true, false, true, false, true, true, true, true, true, false, false, false]
noncomputable def spec_l1Cur_tune.K15 (N : Nat) : Ex → St D0 → Option spec_l1Cur_tune.R := spec_l1Cur_tune.K0
noncomputable def spec_l1Cur_tune.o1 (N : Nat) (v0 : List ByteArray) (v1 : List Int) (v2 : Int) (v3 : Int) : Option spec_l1Cur_tune.R :=
 some (v0, v1, v2, v3)
theorem spec_l1Cur_tune.o1.run (N : Nat) (v0 : List ByteArray) (v1 : List Int) (v2 : Int) (v3 : Int) : runC spec_l1Cur_tune.C (spec_l1Cur_tune.O N) N spec_l1Cur_tune.c15 15 (mkSt [(3, .one (.sl true 9 v0))] [(0, some (67, [.sl false 5 v1, .int .i64 v2, .int .u64 v3]))] : St D0) spec_l1Cur_tune.K0 = spec_l1Cur_tune.o1 N v0 v1 v2 v3 := by kernel_rfl
noncomputable def spec_l1Cur_tune.d1 (N : Nat) (v0 : List ByteArray) (v1 : List Int) (v2 : Int) (v3 : Int) : Option spec_l1Cur_tune.R := spec_l1Cur_tune.o1 N v0 v1 v2 v3
theorem spec_l1Cur_tune.d1.run (N : Nat) (v0 : List ByteArray) (v1 : List Int) (v2 : Int) (v3 : Int) : runC spec_l1Cur_tune.C (spec_l1Cur_tune.O N) N spec_l1Cur_tune.c15 15 (mkSt [(3, .one (.sl true 9 v0))] [(0, some (67, [.sl false 5 v1, .int .i64 v2, .int .u64 v3]))] : St D0) (spec_l1Cur_tune.K15 N) = spec_l1Cur_tune.d1 N v0 v1 v2 v3 := by
  exact (spec_l1Cur_tune.o1.run N v0 v1 v2 v3).trans rfl
noncomputable def spec_l1Cur_tune.B7 (N : Nat) : St D0 → Option spec_l1Cur_tune.R := fun s' => runC spec_l1Cur_tune.C (spec_l1Cur_tune.O N) N spec_l1Cur_tune.c15 15 s' (spec_l1Cur_tune.K15 N)
noncomputable def spec_l1Cur_tune.K15096 (N : Nat) (Kn7548 : St D0 → Option spec_l1Cur_tune.R) : Ex → St D0 → Option spec_l1Cur_tune.R := ((fun up => (onN (fun s => spec_l1Cur_tune.C.tidy 7548 s ((onN Kn7548 up) .normal)) (onN Kn7548 up))) (blockK 1 (blockK 0 (onN (fun s => spec_l1Cur_tune.C.tidy 14 s (spec_l1Cur_tune.B7 N)) spec_l1Cur_tune.K0))))
noncomputable def spec_l1Cur_tune.o2 (N : Nat) (v0 : List ByteArray) (v1 : List Int) (v2 : Int) (v3 : Int) (c2 : (List ByteArray) → (List Int) → Int → Int → Option spec_l1Cur_tune.R) (c1 : (List ByteArray) → (List Int) → Int → Int → Option spec_l1Cur_tune.R) : Option spec_l1Cur_tune.R :=
 (spec_l1Cur_pick.g N 2 v1 v2 v3).bind fun r1 =>
 bif (decide ((v0.length : Int) < (w64 (12 + r1.1)))) then
  bif (decide (0 < (v0.length : Int))) then
   (v0[(0 : Int).toNat]?).bind fun x2 =>
   bif (Nat.blt (v0.length + ([x2] : List ByteArray).length) 8796093022208) then
    c2 (v0 ++ ([x2] : List ByteArray)) r1.2.1 r1.2.2.1 r1.2.2.2
   else
   none
  else
  none
 else
 c1 v0 r1.2.1 r1.2.2.1 r1.2.2.2
theorem spec_l1Cur_tune.o2.run (N : Nat) (Kb7 : St D0 → Option spec_l1Cur_tune.R) (Kn7548 : St D0 → Option spec_l1Cur_tune.R) (v0 : List ByteArray) (v1 : List Int) (v2 : Int) (v3 : Int) : runC spec_l1Cur_tune.C (spec_l1Cur_tune.O N) N spec_l1Cur_tune.c15096 15096 (mkSt [(0, .one (.ptr 0 0)), (3, .one (.sl true 9 v0))] [(0, some (67, [.sl false 5 v1, .int .i64 v2, .int .u64 v3]))] : St D0) ((fun up => (onN (fun s => spec_l1Cur_tune.C.tidy 7548 s ((onN Kn7548 up) .normal)) (onN Kn7548 up))) (blockK 1 (blockK 0 (onN (fun s => spec_l1Cur_tune.C.tidy 14 s Kb7) spec_l1Cur_tune.K0)))) = spec_l1Cur_tune.o2 N v0 v1 v2 v3 ((fun w0 w1 w2 w3 => Kn7548 (mkSt [(0, .one (.ptr 0 0)), (3, .one (.sl true 9 w0))] [(0, some (67, [.sl false 5 w1, .int .i64 w2, .int .u64 w3]))] : St D0))) ((fun w0 w1 w2 w3 => Kb7 (mkSt [(3, .one (.sl true 9 w0))] [(0, some (67, [.sl false 5 w1, .int .i64 w2, .int .u64 w3]))] : St D0))) := by kernel_rfl
noncomputable def spec_l1Cur_tune.d2 (N : Nat) (v0 : List ByteArray) (v1 : List Int) (v2 : Int) (v3 : Int) (c2 : (List ByteArray) → (List Int) → Int → Int → Option spec_l1Cur_tune.R) : Option spec_l1Cur_tune.R := spec_l1Cur_tune.o2 N v0 v1 v2 v3 c2 ((fun w0 w1 w2 w3 => spec_l1Cur_tune.d1 N w0 w1 w2 w3))
theorem spec_l1Cur_tune.d2.run (N : Nat) (Kn7548 : St D0 → Option spec_l1Cur_tune.R) (v0 : List ByteArray) (v1 : List Int) (v2 : Int) (v3 : Int) : runC spec_l1Cur_tune.C (spec_l1Cur_tune.O N) N spec_l1Cur_tune.c15096 15096 (mkSt [(0, .one (.ptr 0 0)), (3, .one (.sl true 9 v0))] [(0, some (67, [.sl false 5 v1, .int .i64 v2, .int .u64 v3]))] : St D0) (spec_l1Cur_tune.K15096 N Kn7548) = spec_l1Cur_tune.d2 N v0 v1 v2 v3 ((fun w0 w1 w2 w3 => Kn7548 (mkSt [(0, .one (.ptr 0 0)), (3, .one (.sl true 9 w0))] [(0, some (67, [.sl false 5 w1, .int .i64 w2, .int .u64 w3]))] : St D0))) := by
  unfold spec_l1Cur_tune.d2; exact (spec_l1Cur_tune.o2.run N (spec_l1Cur_tune.B7 N) Kn7548 v0 v1 v2 v3).trans (congr (congr rfl rfl) (funext fun w0 => funext fun w1 => funext fun w2 => funext fun w3 => spec_l1Cur_tune.d1.run N w0 w1 w2 w3))
noncomputable def spec_l1Cur_tune.K7548 (N : Nat) : Ex → St D0 → Option spec_l1Cur_tune.R := (blockK 1 (blockK 0 (onN (fun s => spec_l1Cur_tune.C.tidy 14 s (spec_l1Cur_tune.B7 N)) spec_l1Cur_tune.K0)))
noncomputable def spec_l1Cur_tune.l2 (N : Nat) : Nat → (List ByteArray) → (List Int) → Int → Int → Option spec_l1Cur_tune.R
  | 0, _, _, _, _ => none
  | n + 1, v0, v1, v2, v3 => spec_l1Cur_tune.d2 N v0 v1 v2 v3 ((fun w0 w1 w2 w3 => spec_l1Cur_tune.l2 N n w0 w1 w2 w3))
theorem spec_l1Cur_tune.loop7548 (N : Nat) : ∀ n, (∀ (v0 : List ByteArray) (v1 : List Int) (v2 : Int) (v3 : Int), iter (loopF spec_l1Cur_tune.C (spec_l1Cur_tune.O N) N spec_l1Cur_tune.c15096 7548) n (mkSt [(0, .one (.ptr 0 0)), (3, .one (.sl true 9 v0))] [(0, some (67, [.sl false 5 v1, .int .i64 v2, .int .u64 v3]))] : St D0) (spec_l1Cur_tune.K7548 N) = spec_l1Cur_tune.l2 N n v0 v1 v2 v3)
  | 0 => (fun v0 v1 v2 v3 => rfl)
  | n + 1 => (fun v0 v1 v2 v3 => (spec_l1Cur_tune.d2.run N (fun s => iter (loopF spec_l1Cur_tune.C (spec_l1Cur_tune.O N) N spec_l1Cur_tune.c15096 7548) n s (spec_l1Cur_tune.K7548 N)) v0 v1 v2 v3).trans (show _ = spec_l1Cur_tune.d2 N v0 v1 v2 v3 ((fun w0 w1 w2 w3 => spec_l1Cur_tune.l2 N n w0 w1 w2 w3)) from (congr rfl (funext fun w0 => funext fun w1 => funext fun w2 => funext fun w3 => (spec_l1Cur_tune.loop7548 N n) w0 w1 w2 w3))))
noncomputable def spec_l1Cur_tune.o0 (N : Nat) (b0_0 : List Int) (b0_1 : Int) (b0_2 : Int) (c1 : (List ByteArray) → (List Int) → Int → Int → Option spec_l1Cur_tune.R) (c2 : (List ByteArray) → (List Int) → Int → Int → Option spec_l1Cur_tune.R) : Option spec_l1Cur_tune.R :=
 (spec_l1Cur_sureTune.g N b0_0 b0_1 b0_2).bind fun r1 =>
 (spec_l1Cur_pick.g N 14 r1.2.1 r1.2.2.1 r1.2.2.2).bind fun r2 =>
 bif (r2.1 == 0) then
  bif (Nat.blt 0 r1.1.length) then
   (spec_l1Cur_of.g N ([(⟨#[]⟩ : ByteArray), (⟨#[57]⟩ : ByteArray), (⟨#[48]⟩ : ByteArray), (⟨#[49, 50, 51, 52, 53, 54, 55, 56]⟩ : ByteArray), (⟨#[49, 50, 51, 52, 53, 54, 55, 56, 49]⟩ : ByteArray)] : List ByteArray) r2.2.1 r2.2.2.1 r2.2.2.2).bind fun r3 =>
   bif (decide (0 < ((r1.1.length : Nat) : Int))) then
    (r1.1[(0 : Int).toNat]?).bind fun x4 =>
    bif (Nat.ble r1.1.length (r1.1.set (0 : Int).toNat r3.1).length) then
     c1 ((r1.1.set (0 : Int).toNat r3.1).take r1.1.length) r3.2.1 r3.2.2.1 r3.2.2.2
    else
    none
   else
   none
  else
  (spec_l1Cur_of.g N ([(⟨#[]⟩ : ByteArray), (⟨#[57]⟩ : ByteArray), (⟨#[48]⟩ : ByteArray), (⟨#[49, 50, 51, 52, 53, 54, 55, 56]⟩ : ByteArray), (⟨#[49, 50, 51, 52, 53, 54, 55, 56, 49]⟩ : ByteArray)] : List ByteArray) r2.2.1 r2.2.2.1 r2.2.2.2).bind fun r5 =>
  bif (decide (0 < (r1.1.length : Int))) then
   none
  else
  none
 else
 bif (r2.1 == 1) then
  some (([] : List ByteArray), r2.2.1, r2.2.2.1, r2.2.2.2)
 else
 bif (r2.1 == 2) then
  c2 r1.1 r2.2.1 r2.2.2.1 r2.2.2.2
 else
 c1 r1.1 r2.2.1 r2.2.2.1 r2.2.2.2
theorem spec_l1Cur_tune.o0.run (N : Nat) (H15 : Code) (H15096 : Code) (b0_0 : List Int) (b0_1 : Int) (b0_2 : Int) : runC spec_l1Cur_tune.C (spec_l1Cur_tune.O N) N (.seq spec_l1Cur_tune.c2 (.seq spec_l1Cur_tune.c6 (.seq (.seq spec_l1Cur_tune.c28 (.block 0 (.seq spec_l1Cur_tune.c116 (.cond (.tmp 8) spec_l1Cur_tune.c234 (.seq spec_l1Cur_tune.c470 (.cond (.tmp 15) spec_l1Cur_tune.c942 (.seq spec_l1Cur_tune.c1886 (.cond (.tmp 17) (.block 1 (.loop H15096)) spec_l1Cur_tune.c3775)))))))) H15))) 1 (st0 [.one (.ptr 0 0)] [(67, [.sl false 5 b0_0, .int .i64 b0_1, .int .u64 b0_2])] : St D0) spec_l1Cur_tune.K0 = spec_l1Cur_tune.o0 N b0_0 b0_1 b0_2 ((fun w0 w1 w2 w3 => runC spec_l1Cur_tune.C (spec_l1Cur_tune.O N) N H15 15 (mkSt [(3, .one (.sl true 9 w0))] [(0, some (67, [.sl false 5 w1, .int .i64 w2, .int .u64 w3]))] : St D0) spec_l1Cur_tune.K0)) ((fun w0 w1 w2 w3 => iter (loopF spec_l1Cur_tune.C (spec_l1Cur_tune.O N) N H15096 7548) N (mkSt [(0, .one (.ptr 0 0)), (3, .one (.sl true 9 w0))] [(0, some (67, [.sl false 5 w1, .int .i64 w2, .int .u64 w3]))] : St D0) (blockK 1 (blockK 0 (onN (fun s => spec_l1Cur_tune.C.tidy 14 s (fun s' => runC spec_l1Cur_tune.C (spec_l1Cur_tune.O N) N H15 15 s' spec_l1Cur_tune.K0)) spec_l1Cur_tune.K0))))) := by kernel_rfl
noncomputable def spec_l1Cur_tune.g (N : Nat) (b0_0 : List Int) (b0_1 : Int) (b0_2 : Int) : Option spec_l1Cur_tune.R := spec_l1Cur_tune.o0 N b0_0 b0_1 b0_2 ((fun w0 w1 w2 w3 => spec_l1Cur_tune.d1 N w0 w1 w2 w3)) ((fun w0 w1 w2 w3 => spec_l1Cur_tune.l2 N N w0 w1 w2 w3))
theorem spec_l1Cur_tune.c1_0 : spec_l1Cur_tune.c1 = (.seq spec_l1Cur_tune.c2 (.seq spec_l1Cur_tune.c6 (.seq (.seq spec_l1Cur_tune.c28 (.block 0 (.seq spec_l1Cur_tune.c116 (.cond (.tmp 8) spec_l1Cur_tune.c234 (.seq spec_l1Cur_tune.c470 (.cond (.tmp 15) spec_l1Cur_tune.c942 (.seq spec_l1Cur_tune.c1886 (.cond (.tmp 17) (.block 1 (.loop spec_l1Cur_tune.c15096)) spec_l1Cur_tune.c3775)))))))) spec_l1Cur_tune.c15))) := by kernel_rfl
theorem spec_l1Cur_tune.g.run (N : Nat) (b0_0 : List Int) (b0_1 : Int) (b0_2 : Int) : runC spec_l1Cur_tune.C (spec_l1Cur_tune.O N) N spec_l1Cur_tune.c1 1 (st0 [.one (.ptr 0 0)] [(67, [.sl false 5 b0_0, .int .i64 b0_1, .int .u64 b0_2])] : St D0) spec_l1Cur_tune.K0 = spec_l1Cur_tune.g N b0_0 b0_1 b0_2 := by
  rw [spec_l1Cur_tune.c1_0]; unfold spec_l1Cur_tune.g; exact (spec_l1Cur_tune.o0.run N spec_l1Cur_tune.c15 spec_l1Cur_tune.c15096 b0_0 b0_1 b0_2).trans (congr (congr rfl (funext fun w0 => funext fun w1 => funext fun w2 => funext fun w3 => spec_l1Cur_tune.d1.run N w0 w1 w2 w3)) (funext fun w0 => funext fun w1 => funext fun w2 => funext fun w3 => (spec_l1Cur_tune.loop7548 N N) w0 w1 w2 w3))
theorem spec_l1Cur_tune.good (N : Nat) (b0_0 : List Int) (b0_1 : Int) (b0_2 : Int) (r : spec_l1Cur_tune.R) (h : spec_l1Cur_tune.g N b0_0 b0_1 b0_2 = some r) : Go.PM.Good Go.Proofs.Tryd.prog T0 51 [.one (.ptr 0 0)] [(67, [.sl false 5 b0_0, .int .i64 b0_1, .int .u64 b0_2])] (spec_l1Cur_tune.sig.ret r) (spec_l1Cur_tune.sig.bs r) :=
  good_fn tabOk0 mixed0 spec_l1Cur_tune.sig (spec_l1Cur_tune.E N) Go.Proofs.Tryd.func51 (by kernel_rfl) (by kernel_rfl) 16941453 0 1 [(14, [3], [0]), (7548, [0, 3], [0])] 69733456 true [(234, false, 3, [], [0]), (234, true, 3, [0], [0])] [(false, [.own 9])] (by kernel_rfl) rfl rfl ((spec_l1Cur_tune.g.run N b0_0 b0_1 b0_2).trans h)
noncomputable def spec_l1Cur_tune.ent (N : Nat) : Ent Go.Proofs.Tryd.prog T0 := mkEnt 51 [(false, [.any])] spec_l1Cur_tune.sig (fun t => spec_l1Cur_tune.g N t.2.1 t.2.2.1 t.2.2.2) (fun t r h => spec_l1Cur_tune.good N t.2.1 t.2.2.1 t.2.2.2 r h)
end Go.Proofs.YtpmipkbfohcjiaaDoor.M

namespace Go.Proofs.YtpmipkbfohcjiaaDoor.M
open Go Go.PM Go.Proofs.YtpmipkbfohcjiaaDoor.P
set_option linter.unusedVariables false
set_option maxRecDepth 100000
/-! ### spec_DrawQuartersOfHeard -/
abbrev spec_DrawQuartersOfHeard.R : Type := List ByteArray × List ByteArray
abbrev spec_DrawQuartersOfHeard.sig : Sig := ⟨[(false, 1)], [], [.sl false 5], [(false, 1), (false, 1)], [], [.sl true 9, .sl true 9]⟩
noncomputable def spec_DrawQuartersOfHeard.C : Cfg D0 := ⟨Go.Proofs.Tryd.prog, T0, 1163061201376117245, 0, 71, 0, [(60, [4, 5, 20], [11]), (510, [5, 6], []), (1018, [4, 5, 6, 7, 8], [11]), (261500, [4, 5, 6, 7], [11])], 161589191215969226752, false, []⟩
noncomputable def spec_DrawQuartersOfHeard.E (N : Nat) : List (Ent Go.Proofs.Tryd.prog T0) := [spec_l1Cur_tune.ent N, spec_beTune.ent N, spec_l1Cur_one.ent N, spec_l1Cur_pick.ent N, spec_beNotes.ent N, spec_l1Cur_of.ent N]
noncomputable def spec_DrawQuartersOfHeard.O (N : Nat) : Orc D0 spec_DrawQuartersOfHeard.R := orcOf (spec_DrawQuartersOfHeard.E N)
noncomputable def spec_DrawQuartersOfHeard.K0 : Ex → St D0 → Option spec_DrawQuartersOfHeard.R := exitK spec_DrawQuartersOfHeard.C Go.Proofs.Tryd.f26.results.toList [(false, [.own 9]), (false, [.own 9])] (decOut spec_DrawQuartersOfHeard.sig)
noncomputable def spec_DrawQuartersOfHeard.c1 : Code := codeAt (Go.Proofs.Tryd.f26.body.getD .skip) []
noncomputable def spec_DrawQuartersOfHeard.c2 : Code := codeAt (Go.Proofs.Tryd.f26.body.getD .skip) [false]
noncomputable def spec_DrawQuartersOfHeard.c6 : Code := codeAt (Go.Proofs.Tryd.f26.body.getD .skip) [true, false]
noncomputable def spec_DrawQuartersOfHeard.c14 : Code := codeAt (Go.Proofs.Tryd.f26.body.getD .skip) [true, true, false]
noncomputable def spec_DrawQuartersOfHeard.c31 : Code := codeAt (Go.Proofs.Tryd.f26.body.getD .skip) [true, true, true, true]
noncomputable def spec_DrawQuartersOfHeard.c60 : Code := codeAt (Go.Proofs.Tryd.f26.body.getD .skip) [true, true, true, false, false]
noncomputable def spec_DrawQuartersOfHeard.c61 : Code := codeAt (Go.Proofs.Tryd.f26.body.getD .skip) [true, true, true, false, true]
noncomputable def spec_DrawQuartersOfHeard.c62 : Code := codeAt (Go.Proofs.Tryd.f26.body.getD .skip) [true, true, true, true, false]
noncomputable def spec_DrawQuartersOfHeard.c126 : Code := codeAt (Go.Proofs.Tryd.f26.body.getD .skip) [true, true, true, true, true, false]
noncomputable def spec_DrawQuartersOfHeard.c255 : Code := codeAt (Go.Proofs.Tryd.f26.body.getD .skip) [true, true, true, true, true, true, true]
noncomputable def spec_DrawQuartersOfHeard.c508 : Code := codeAt (Go.Proofs.Tryd.f26.body.getD .skip) [true, true, true, true, true, true, false, false]
noncomputable def spec_DrawQuartersOfHeard.c511 : Code := codeAt (Go.Proofs.Tryd.f26.body.getD .skip) [true, true, true, true, true, true, true, true]
noncomputable def spec_DrawQuartersOfHeard.c1020 : Code := codeAt (Go.Proofs.Tryd.f26.body.getD .skip) [true, true, true, true, true, true, true, false, false]
noncomputable def spec_DrawQuartersOfHeard.c2036 : Code := codeAt (Go.Proofs.Tryd.f26.body.getD .skip) [true, true, true, true, true, true, false, true, false, false]
noncomputable def spec_DrawQuartersOfHeard.c4084 : Code := codeAt (Go.Proofs.Tryd.f26.body.getD .skip) [true, true, true, true, true, true, true, false, true, false, false]
noncomputable def spec_DrawQuartersOfHeard.c8170 : Code := codeAt (Go.Proofs.Tryd.f26.body.getD .skip) [true, true, true, true, true, true, true, false, true, false, true, false]
noncomputable def spec_DrawQuartersOfHeard.c16342 : Code := codeAt (Go.Proofs.Tryd.f26.body.getD .skip) [true, true, true, true, true, true, true, false, true, false, true, true, false]
noncomputable def spec_DrawQuartersOfHeard.c32686 : Code := codeAt (Go.Proofs.Tryd.f26.body.getD .skip) [true, true, true, true, true, true, true, false, true, false, true, true, true, false]
noncomputable def spec_DrawQuartersOfHeard.c65374 : Code := codeAt (Go.Proofs.Tryd.f26.body.getD .skip) [true, true, true, true, true, true, true, false, true, false, true, true, true, true, false]
noncomputable def spec_DrawQuartersOfHeard.c130751 : Code := codeAt (Go.Proofs.Tryd.f26.body.getD .skip) [true, true, true, true, true, true, true, false, true, false, true, true, true, true, true, true]
noncomputable def spec_DrawQuartersOfHeard.c523000 : Code := codeAt (Go.Proofs.Tryd.f26.body.getD .skip) [true, true, true, true, true, true, true, false, true, false, true, true, true, true, true, false, false, false]
noncomputable def spec_DrawQuartersOfHeard.K511 (N : Nat) : Ex → St D0 → Option spec_DrawQuartersOfHeard.R := spec_DrawQuartersOfHeard.K0
noncomputable def spec_DrawQuartersOfHeard.o4 (N : Nat) (v0 : List ByteArray) (v1 : List ByteArray) : Option spec_DrawQuartersOfHeard.R :=
 some (v0, v1)
theorem spec_DrawQuartersOfHeard.o4.run (N : Nat) (v0 : List ByteArray) (v1 : List ByteArray) : runC spec_DrawQuartersOfHeard.C (spec_DrawQuartersOfHeard.O N) N spec_DrawQuartersOfHeard.c511 511 (mkSt [(5, .one (.sl true 9 v0)), (6, .one (.sl true 9 v1))] [] : St D0) spec_DrawQuartersOfHeard.K0 = spec_DrawQuartersOfHeard.o4 N v0 v1 := by kernel_rfl
noncomputable def spec_DrawQuartersOfHeard.d4 (N : Nat) (v0 : List ByteArray) (v1 : List ByteArray) : Option spec_DrawQuartersOfHeard.R := spec_DrawQuartersOfHeard.o4 N v0 v1
theorem spec_DrawQuartersOfHeard.d4.run (N : Nat) (v0 : List ByteArray) (v1 : List ByteArray) : runC spec_DrawQuartersOfHeard.C (spec_DrawQuartersOfHeard.O N) N spec_DrawQuartersOfHeard.c511 511 (mkSt [(5, .one (.sl true 9 v0)), (6, .one (.sl true 9 v1))] [] : St D0) (spec_DrawQuartersOfHeard.K511 N) = spec_DrawQuartersOfHeard.d4 N v0 v1 := by
  exact (spec_DrawQuartersOfHeard.o4.run N v0 v1).trans rfl
noncomputable def spec_DrawQuartersOfHeard.o6 (N : Nat) (v0 : List ByteArray) : Option spec_DrawQuartersOfHeard.R :=
 some (v0, ([] : List ByteArray))
theorem spec_DrawQuartersOfHeard.o6.run (N : Nat) (v0 : List ByteArray) : runC spec_DrawQuartersOfHeard.C (spec_DrawQuartersOfHeard.O N) N spec_DrawQuartersOfHeard.c511 511 (mkSt [(5, .one (.sl true 9 v0)), (6, .one (.nl))] [] : St D0) spec_DrawQuartersOfHeard.K0 = spec_DrawQuartersOfHeard.o6 N v0 := by kernel_rfl
noncomputable def spec_DrawQuartersOfHeard.d6 (N : Nat) (v0 : List ByteArray) : Option spec_DrawQuartersOfHeard.R := spec_DrawQuartersOfHeard.o6 N v0
theorem spec_DrawQuartersOfHeard.d6.run (N : Nat) (v0 : List ByteArray) : runC spec_DrawQuartersOfHeard.C (spec_DrawQuartersOfHeard.O N) N spec_DrawQuartersOfHeard.c511 511 (mkSt [(5, .one (.sl true 9 v0)), (6, .one (.nl))] [] : St D0) (spec_DrawQuartersOfHeard.K511 N) = spec_DrawQuartersOfHeard.d6 N v0 := by
  exact (spec_DrawQuartersOfHeard.o6.run N v0).trans rfl
noncomputable def spec_DrawQuartersOfHeard.B255 (N : Nat) : St D0 → Option spec_DrawQuartersOfHeard.R := fun s' => runC spec_DrawQuartersOfHeard.C (spec_DrawQuartersOfHeard.O N) N spec_DrawQuartersOfHeard.c511 511 s' (spec_DrawQuartersOfHeard.K511 N)
noncomputable def spec_DrawQuartersOfHeard.K523000 (N : Nat) (Kn261500 : St D0 → Option spec_DrawQuartersOfHeard.R) : Ex → St D0 → Option spec_DrawQuartersOfHeard.R := ((fun up => (onN (fun s => spec_DrawQuartersOfHeard.C.tidy 261500 s ((onN Kn261500 up) .normal)) (onN Kn261500 up))) (blockK 3 (blockK 2 (onN (fun s => spec_DrawQuartersOfHeard.C.tidy 510 s (spec_DrawQuartersOfHeard.B255 N)) spec_DrawQuartersOfHeard.K0))))
noncomputable def spec_DrawQuartersOfHeard.o5 (N : Nat) (v0 : List ByteArray) (v1 : Int) (v2 : List Int) (v3 : Int) (v4 : Int) (c7 : (List ByteArray) → (List ByteArray) → Int → (List Int) → Int → Int → Option spec_DrawQuartersOfHeard.R) (c6 : (List ByteArray) → Option spec_DrawQuartersOfHeard.R) : Option spec_DrawQuartersOfHeard.R :=
 (spec_l1Cur_pick.g N 2 v2 v3 v4).bind fun r1 =>
 bif (decide (0 < (w64 (8 + r1.1)))) then
  (spec_beNotes.g N v0 v1).bind fun r2 =>
  bif (Nat.blt (([] : List ByteArray).length + ([r2] : List ByteArray).length) 8796093022208) then
   c7 v0 (([] : List ByteArray) ++ ([r2] : List ByteArray)) (w64 (v1 + 1)) r1.2.1 r1.2.2.1 r1.2.2.2
  else
  none
 else
 c6 v0
theorem spec_DrawQuartersOfHeard.o5.run (N : Nat) (Kb255 : St D0 → Option spec_DrawQuartersOfHeard.R) (Kn261500 : St D0 → Option spec_DrawQuartersOfHeard.R) (v0 : List ByteArray) (v1 : Int) (v2 : List Int) (v3 : Int) (v4 : Int) : runC spec_DrawQuartersOfHeard.C (spec_DrawQuartersOfHeard.O N) N spec_DrawQuartersOfHeard.c523000 523000 (mkSt [(4, .one (.ptr 11 0)), (5, .one (.sl true 9 v0)), (6, .one (.nl)), (7, .one (.int .i64 v1))] [(11, some (67, [.sl false 5 v2, .int .i64 v3, .int .u64 v4]))] : St D0) ((fun up => (onN (fun s => spec_DrawQuartersOfHeard.C.tidy 261500 s ((onN Kn261500 up) .normal)) (onN Kn261500 up))) (blockK 3 (blockK 2 (onN (fun s => spec_DrawQuartersOfHeard.C.tidy 510 s Kb255) spec_DrawQuartersOfHeard.K0)))) = spec_DrawQuartersOfHeard.o5 N v0 v1 v2 v3 v4 ((fun w0 w1 w2 w3 w4 w5 => Kn261500 (mkSt [(4, .one (.ptr 11 0)), (5, .one (.sl true 9 w0)), (6, .one (.sl true 9 w1)), (7, .one (.int .i64 w2))] [(11, some (67, [.sl false 5 w3, .int .i64 w4, .int .u64 w5]))] : St D0))) ((fun w0 => Kb255 (mkSt [(5, .one (.sl true 9 w0)), (6, .one (.nl))] [] : St D0))) := by kernel_rfl
noncomputable def spec_DrawQuartersOfHeard.d5 (N : Nat) (v0 : List ByteArray) (v1 : Int) (v2 : List Int) (v3 : Int) (v4 : Int) (c7 : (List ByteArray) → (List ByteArray) → Int → (List Int) → Int → Int → Option spec_DrawQuartersOfHeard.R) : Option spec_DrawQuartersOfHeard.R := spec_DrawQuartersOfHeard.o5 N v0 v1 v2 v3 v4 c7 ((fun w0 => spec_DrawQuartersOfHeard.d6 N w0))
theorem spec_DrawQuartersOfHeard.d5.run (N : Nat) (Kn261500 : St D0 → Option spec_DrawQuartersOfHeard.R) (v0 : List ByteArray) (v1 : Int) (v2 : List Int) (v3 : Int) (v4 : Int) : runC spec_DrawQuartersOfHeard.C (spec_DrawQuartersOfHeard.O N) N spec_DrawQuartersOfHeard.c523000 523000 (mkSt [(4, .one (.ptr 11 0)), (5, .one (.sl true 9 v0)), (6, .one (.nl)), (7, .one (.int .i64 v1))] [(11, some (67, [.sl false 5 v2, .int .i64 v3, .int .u64 v4]))] : St D0) (spec_DrawQuartersOfHeard.K523000 N Kn261500) = spec_DrawQuartersOfHeard.d5 N v0 v1 v2 v3 v4 ((fun w0 w1 w2 w3 w4 w5 => Kn261500 (mkSt [(4, .one (.ptr 11 0)), (5, .one (.sl true 9 w0)), (6, .one (.sl true 9 w1)), (7, .one (.int .i64 w2))] [(11, some (67, [.sl false 5 w3, .int .i64 w4, .int .u64 w5]))] : St D0))) := by
  unfold spec_DrawQuartersOfHeard.d5; exact (spec_DrawQuartersOfHeard.o5.run N (spec_DrawQuartersOfHeard.B255 N) Kn261500 v0 v1 v2 v3 v4).trans (congr (congr rfl rfl) (funext fun w0 => spec_DrawQuartersOfHeard.d6.run N w0))
noncomputable def spec_DrawQuartersOfHeard.o7 (N : Nat) (v0 : List ByteArray) (v1 : List ByteArray) (v2 : Int) (v3 : List Int) (v4 : Int) (v5 : Int) (c7 : (List ByteArray) → (List ByteArray) → Int → (List Int) → Int → Int → Option spec_DrawQuartersOfHeard.R) (c4 : (List ByteArray) → (List ByteArray) → Option spec_DrawQuartersOfHeard.R) : Option spec_DrawQuartersOfHeard.R :=
 (spec_l1Cur_pick.g N 2 v3 v4 v5).bind fun r1 =>
 bif (decide ((v1.length : Int) < (w64 (8 + r1.1)))) then
  (spec_beNotes.g N v0 v2).bind fun r2 =>
  bif (Nat.blt (v1.length + ([r2] : List ByteArray).length) 8796093022208) then
   c7 v0 (v1 ++ ([r2] : List ByteArray)) (w64 (v2 + 1)) r1.2.1 r1.2.2.1 r1.2.2.2
  else
  none
 else
 c4 v0 v1
theorem spec_DrawQuartersOfHeard.o7.run (N : Nat) (Kb255 : St D0 → Option spec_DrawQuartersOfHeard.R) (Kn261500 : St D0 → Option spec_DrawQuartersOfHeard.R) (v0 : List ByteArray) (v1 : List ByteArray) (v2 : Int) (v3 : List Int) (v4 : Int) (v5 : Int) : runC spec_DrawQuartersOfHeard.C (spec_DrawQuartersOfHeard.O N) N spec_DrawQuartersOfHeard.c523000 523000 (mkSt [(4, .one (.ptr 11 0)), (5, .one (.sl true 9 v0)), (6, .one (.sl true 9 v1)), (7, .one (.int .i64 v2))] [(11, some (67, [.sl false 5 v3, .int .i64 v4, .int .u64 v5]))] : St D0) ((fun up => (onN (fun s => spec_DrawQuartersOfHeard.C.tidy 261500 s ((onN Kn261500 up) .normal)) (onN Kn261500 up))) (blockK 3 (blockK 2 (onN (fun s => spec_DrawQuartersOfHeard.C.tidy 510 s Kb255) spec_DrawQuartersOfHeard.K0)))) = spec_DrawQuartersOfHeard.o7 N v0 v1 v2 v3 v4 v5 ((fun w0 w1 w2 w3 w4 w5 => Kn261500 (mkSt [(4, .one (.ptr 11 0)), (5, .one (.sl true 9 w0)), (6, .one (.sl true 9 w1)), (7, .one (.int .i64 w2))] [(11, some (67, [.sl false 5 w3, .int .i64 w4, .int .u64 w5]))] : St D0))) ((fun w0 w1 => Kb255 (mkSt [(5, .one (.sl true 9 w0)), (6, .one (.sl true 9 w1))] [] : St D0))) := by kernel_rfl
noncomputable def spec_DrawQuartersOfHeard.d7 (N : Nat) (v0 : List ByteArray) (v1 : List ByteArray) (v2 : Int) (v3 : List Int) (v4 : Int) (v5 : Int) (c7 : (List ByteArray) → (List ByteArray) → Int → (List Int) → Int → Int → Option spec_DrawQuartersOfHeard.R) : Option spec_DrawQuartersOfHeard.R := spec_DrawQuartersOfHeard.o7 N v0 v1 v2 v3 v4 v5 c7 ((fun w0 w1 => spec_DrawQuartersOfHeard.d4 N w0 w1))
theorem spec_DrawQuartersOfHeard.d7.run (N : Nat) (Kn261500 : St D0 → Option spec_DrawQuartersOfHeard.R) (v0 : List ByteArray) (v1 : List ByteArray) (v2 : Int) (v3 : List Int) (v4 : Int) (v5 : Int) : runC spec_DrawQuartersOfHeard.C (spec_DrawQuartersOfHeard.O N) N spec_DrawQuartersOfHeard.c523000 523000 (mkSt [(4, .one (.ptr 11 0)), (5, .one (.sl true 9 v0)), (6, .one (.sl true 9 v1)), (7, .one (.int .i64 v2))] [(11, some (67, [.sl false 5 v3, .int .i64 v4, .int .u64 v5]))] : St D0) (spec_DrawQuartersOfHeard.K523000 N Kn261500) = spec_DrawQuartersOfHeard.d7 N v0 v1 v2 v3 v4 v5 ((fun w0 w1 w2 w3 w4 w5 => Kn261500 (mkSt [(4, .one (.ptr 11 0)), (5, .one (.sl true 9 w0)), (6, .one (.sl true 9 w1)), (7, .one (.int .i64 w2))] [(11, some (67, [.sl false 5 w3, .int .i64 w4, .int .u64 w5]))] : St D0))) := by
  unfold spec_DrawQuartersOfHeard.d7; exact (spec_DrawQuartersOfHeard.o7.run N (spec_DrawQuartersOfHeard.B255 N) Kn261500 v0 v1 v2 v3 v4 v5).trans (congr (congr rfl rfl) (funext fun w0 => funext fun w1 => spec_DrawQuartersOfHeard.d4.run N w0 w1))
noncomputable def spec_DrawQuartersOfHeard.K261500 (N : Nat) : Ex → St D0 → Option spec_DrawQuartersOfHeard.R := (blockK 3 (blockK 2 (onN (fun s => spec_DrawQuartersOfHeard.C.tidy 510 s (spec_DrawQuartersOfHeard.B255 N)) spec_DrawQuartersOfHeard.K0)))
mutual
noncomputable def spec_DrawQuartersOfHeard.l5 (N : Nat) : Nat → (List ByteArray) → Int → (List Int) → Int → Int → Option spec_DrawQuartersOfHeard.R
  | 0, _, _, _, _, _ => none
  | n + 1, v0, v1, v2, v3, v4 => spec_DrawQuartersOfHeard.d5 N v0 v1 v2 v3 v4 ((fun w0 w1 w2 w3 w4 w5 => spec_DrawQuartersOfHeard.l7 N n w0 w1 w2 w3 w4 w5))
noncomputable def spec_DrawQuartersOfHeard.l7 (N : Nat) : Nat → (List ByteArray) → (List ByteArray) → Int → (List Int) → Int → Int → Option spec_DrawQuartersOfHeard.R
  | 0, _, _, _, _, _, _ => none
  | n + 1, v0, v1, v2, v3, v4, v5 => spec_DrawQuartersOfHeard.d7 N v0 v1 v2 v3 v4 v5 ((fun w0 w1 w2 w3 w4 w5 => spec_DrawQuartersOfHeard.l7 N n w0 w1 w2 w3 w4 w5))
end
theorem spec_DrawQuartersOfHeard.loop261500 (N : Nat) : ∀ n, (∀ (v0 : List ByteArray) (v1 : Int) (v2 : List Int) (v3 : Int) (v4 : Int), iter (loopF spec_DrawQuartersOfHeard.C (spec_DrawQuartersOfHeard.O N) N spec_DrawQuartersOfHeard.c523000 261500) n (mkSt [(4, .one (.ptr 11 0)), (5, .one (.sl true 9 v0)), (6, .one (.nl)), (7, .one (.int .i64 v1))] [(11, some (67, [.sl false 5 v2, .int .i64 v3, .int .u64 v4]))] : St D0) (spec_DrawQuartersOfHeard.K261500 N) = spec_DrawQuartersOfHeard.l5 N n v0 v1 v2 v3 v4) ∧ (∀ (v0 : List ByteArray) (v1 : List ByteArray) (v2 : Int) (v3 : List Int) (v4 : Int) (v5 : Int), iter (loopF spec_DrawQuartersOfHeard.C (spec_DrawQuartersOfHeard.O N) N spec_DrawQuartersOfHeard.c523000 261500) n (mkSt [(4, .one (.ptr 11 0)), (5, .one (.sl true 9 v0)), (6, .one (.sl true 9 v1)), (7, .one (.int .i64 v2))] [(11, some (67, [.sl false 5 v3, .int .i64 v4, .int .u64 v5]))] : St D0) (spec_DrawQuartersOfHeard.K261500 N) = spec_DrawQuartersOfHeard.l7 N n v0 v1 v2 v3 v4 v5)
  | 0 => ⟨(fun v0 v1 v2 v3 v4 => rfl), (fun v0 v1 v2 v3 v4 v5 => rfl)⟩
  | n + 1 => ⟨(fun v0 v1 v2 v3 v4 => (spec_DrawQuartersOfHeard.d5.run N (fun s => iter (loopF spec_DrawQuartersOfHeard.C (spec_DrawQuartersOfHeard.O N) N spec_DrawQuartersOfHeard.c523000 261500) n s (spec_DrawQuartersOfHeard.K261500 N)) v0 v1 v2 v3 v4).trans (show _ = spec_DrawQuartersOfHeard.d5 N v0 v1 v2 v3 v4 ((fun w0 w1 w2 w3 w4 w5 => spec_DrawQuartersOfHeard.l7 N n w0 w1 w2 w3 w4 w5)) from (congr rfl (funext fun w0 => funext fun w1 => funext fun w2 => funext fun w3 => funext fun w4 => funext fun w5 => (spec_DrawQuartersOfHeard.loop261500 N n).2 w0 w1 w2 w3 w4 w5)))), (fun v0 v1 v2 v3 v4 v5 => (spec_DrawQuartersOfHeard.d7.run N (fun s => iter (loopF spec_DrawQuartersOfHeard.C (spec_DrawQuartersOfHeard.O N) N spec_DrawQuartersOfHeard.c523000 261500) n s (spec_DrawQuartersOfHeard.K261500 N)) v0 v1 v2 v3 v4 v5).trans (show _ = spec_DrawQuartersOfHeard.d7 N v0 v1 v2 v3 v4 v5 ((fun w0 w1 w2 w3 w4 w5 => spec_DrawQuartersOfHeard.l7 N n w0 w1 w2 w3 w4 w5)) from (congr rfl (funext fun w0 => funext fun w1 => funext fun w2 => funext fun w3 => funext fun w4 => funext fun w5 => (spec_DrawQuartersOfHeard.loop261500 N n).2 w0 w1 w2 w3 w4 w5))))⟩
noncomputable def spec_DrawQuartersOfHeard.K2036 (N : Nat) (Kn1018 : St D0 → Option spec_DrawQuartersOfHeard.R) : Ex → St D0 → Option spec_DrawQuartersOfHeard.R := ((fun up => (onN (fun s => spec_DrawQuartersOfHeard.C.tidy 1018 s ((onN Kn1018 up) .normal)) (onN Kn1018 up))) (blockK 0 (onN (fun s => spec_DrawQuartersOfHeard.C.tidy 254 s (fun s' => runC spec_DrawQuartersOfHeard.C (spec_DrawQuartersOfHeard.O N) N spec_DrawQuartersOfHeard.c255 255 s' spec_DrawQuartersOfHeard.K0)) spec_DrawQuartersOfHeard.K0)))
noncomputable def spec_DrawQuartersOfHeard.o2 (N : Nat) (v0 : List ByteArray) (v1 : Int) (v2 : Int) (v3 : List Int) (v4 : Int) (v5 : Int) (c3 : (List ByteArray) → (List ByteArray) → Int → Int → (List Int) → Int → Int → Option spec_DrawQuartersOfHeard.R) (c4 : (List ByteArray) → (List ByteArray) → Option spec_DrawQuartersOfHeard.R) (c5 : (List ByteArray) → Int → (List Int) → Int → Int → Option spec_DrawQuartersOfHeard.R) (c6 : (List ByteArray) → Option spec_DrawQuartersOfHeard.R) : Option spec_DrawQuartersOfHeard.R :=
 bif (decide (v2 > 0)) then
  (spec_beNotes.g N v0 v1).bind fun r1 =>
  bif (Nat.blt (([] : List ByteArray).length + ([r1] : List ByteArray).length) 8796093022208) then
   c3 v0 (([] : List ByteArray) ++ ([r1] : List ByteArray)) (w64 (v1 + 1)) (w64 (v2 - 1)) v3 v4 v5
  else
  none
 else
 (spec_l1Cur_pick.g N 10 v3 v4 v5).bind fun r2 =>
 bif (r2.1 == 0) then
  (spec_l1Cur_of.g N ([(⟨#[]⟩ : ByteArray), (⟨#[49]⟩ : ByteArray), (⟨#[49, 50]⟩ : ByteArray)] : List ByteArray) r2.2.1 r2.2.2.1 r2.2.2.2).bind fun r3 =>
  bif (Nat.blt (([] : List ByteArray).length + ([r3.1] : List ByteArray).length) 8796093022208) then
   c4 v0 (([] : List ByteArray) ++ ([r3.1] : List ByteArray))
  else
  none
 else
 bif (r2.1 == 1) then
  some (v0, ([] : List ByteArray))
 else
 bif (r2.1 == 2) then
  c5 v0 v1 r2.2.1 r2.2.2.1 r2.2.2.2
 else
 c6 v0
theorem spec_DrawQuartersOfHeard.o2.run (N : Nat) (Kn1018 : St D0 → Option spec_DrawQuartersOfHeard.R) (H511 : Code) (H523000 : Code) (v0 : List ByteArray) (v1 : Int) (v2 : Int) (v3 : List Int) (v4 : Int) (v5 : Int) : runC spec_DrawQuartersOfHeard.C (spec_DrawQuartersOfHeard.O N) N spec_DrawQuartersOfHeard.c2036 2036 (mkSt [(4, .one (.ptr 11 0)), (5, .one (.sl true 9 v0)), (6, .one (.nl)), (7, .one (.int .i64 v1)), (8, .one (.int .i64 v2))] [(11, some (67, [.sl false 5 v3, .int .i64 v4, .int .u64 v5]))] : St D0) ((fun up => (onN (fun s => spec_DrawQuartersOfHeard.C.tidy 1018 s ((onN Kn1018 up) .normal)) (onN Kn1018 up))) (blockK 0 (onN (fun s => spec_DrawQuartersOfHeard.C.tidy 254 s (fun s' => runC spec_DrawQuartersOfHeard.C (spec_DrawQuartersOfHeard.O N) N (.seq (.seq spec_DrawQuartersOfHeard.c1020 (.block 2 (.seq spec_DrawQuartersOfHeard.c4084 (.cond (.tmp 42) spec_DrawQuartersOfHeard.c8170 (.seq spec_DrawQuartersOfHeard.c16342 (.cond (.tmp 50) spec_DrawQuartersOfHeard.c32686 (.seq spec_DrawQuartersOfHeard.c65374 (.cond (.tmp 53) (.block 3 (.loop H523000)) spec_DrawQuartersOfHeard.c130751)))))))) H511) 255 s' spec_DrawQuartersOfHeard.K0)) spec_DrawQuartersOfHeard.K0))) = spec_DrawQuartersOfHeard.o2 N v0 v1 v2 v3 v4 v5 ((fun w0 w1 w2 w3 w4 w5 w6 => Kn1018 (mkSt [(4, .one (.ptr 11 0)), (5, .one (.sl true 9 w0)), (6, .one (.sl true 9 w1)), (7, .one (.int .i64 w2)), (8, .one (.int .i64 w3))] [(11, some (67, [.sl false 5 w4, .int .i64 w5, .int .u64 w6]))] : St D0))) ((fun w0 w1 => runC spec_DrawQuartersOfHeard.C (spec_DrawQuartersOfHeard.O N) N H511 511 (mkSt [(5, .one (.sl true 9 w0)), (6, .one (.sl true 9 w1))] [] : St D0) spec_DrawQuartersOfHeard.K0)) ((fun w0 w1 w2 w3 w4 => iter (loopF spec_DrawQuartersOfHeard.C (spec_DrawQuartersOfHeard.O N) N H523000 261500) N (mkSt [(4, .one (.ptr 11 0)), (5, .one (.sl true 9 w0)), (6, .one (.nl)), (7, .one (.int .i64 w1))] [(11, some (67, [.sl false 5 w2, .int .i64 w3, .int .u64 w4]))] : St D0) (blockK 3 (blockK 2 (onN (fun s => spec_DrawQuartersOfHeard.C.tidy 510 s (fun s' => runC spec_DrawQuartersOfHeard.C (spec_DrawQuartersOfHeard.O N) N H511 511 s' spec_DrawQuartersOfHeard.K0)) spec_DrawQuartersOfHeard.K0))))) ((fun w0 => runC spec_DrawQuartersOfHeard.C (spec_DrawQuartersOfHeard.O N) N H511 511 (mkSt [(5, .one (.sl true 9 w0)), (6, .one (.nl))] [] : St D0) spec_DrawQuartersOfHeard.K0)) := by kernel_rfl
noncomputable def spec_DrawQuartersOfHeard.d2 (N : Nat) (v0 : List ByteArray) (v1 : Int) (v2 : Int) (v3 : List Int) (v4 : Int) (v5 : Int) (c3 : (List ByteArray) → (List ByteArray) → Int → Int → (List Int) → Int → Int → Option spec_DrawQuartersOfHeard.R) : Option spec_DrawQuartersOfHeard.R := spec_DrawQuartersOfHeard.o2 N v0 v1 v2 v3 v4 v5 c3 ((fun w0 w1 => spec_DrawQuartersOfHeard.d4 N w0 w1)) ((fun w0 w1 w2 w3 w4 => spec_DrawQuartersOfHeard.l5 N N w0 w1 w2 w3 w4)) ((fun w0 => spec_DrawQuartersOfHeard.d6 N w0))
theorem spec_DrawQuartersOfHeard.d2.run (N : Nat) (Kn1018 : St D0 → Option spec_DrawQuartersOfHeard.R) (v0 : List ByteArray) (v1 : Int) (v2 : Int) (v3 : List Int) (v4 : Int) (v5 : Int) : runC spec_DrawQuartersOfHeard.C (spec_DrawQuartersOfHeard.O N) N spec_DrawQuartersOfHeard.c2036 2036 (mkSt [(4, .one (.ptr 11 0)), (5, .one (.sl true 9 v0)), (6, .one (.nl)), (7, .one (.int .i64 v1)), (8, .one (.int .i64 v2))] [(11, some (67, [.sl false 5 v3, .int .i64 v4, .int .u64 v5]))] : St D0) (spec_DrawQuartersOfHeard.K2036 N Kn1018) = spec_DrawQuartersOfHeard.d2 N v0 v1 v2 v3 v4 v5 ((fun w0 w1 w2 w3 w4 w5 w6 => Kn1018 (mkSt [(4, .one (.ptr 11 0)), (5, .one (.sl true 9 w0)), (6, .one (.sl true 9 w1)), (7, .one (.int .i64 w2)), (8, .one (.int .i64 w3))] [(11, some (67, [.sl false 5 w4, .int .i64 w5, .int .u64 w6]))] : St D0))) := by
  unfold spec_DrawQuartersOfHeard.d2; exact (spec_DrawQuartersOfHeard.o2.run N Kn1018 spec_DrawQuartersOfHeard.c511 spec_DrawQuartersOfHeard.c523000 v0 v1 v2 v3 v4 v5).trans (congr (congr (congr (congr rfl rfl) (funext fun w0 => funext fun w1 => spec_DrawQuartersOfHeard.d4.run N w0 w1)) (funext fun w0 => funext fun w1 => funext fun w2 => funext fun w3 => funext fun w4 => (spec_DrawQuartersOfHeard.loop261500 N N).1 w0 w1 w2 w3 w4)) (funext fun w0 => spec_DrawQuartersOfHeard.d6.run N w0))
noncomputable def spec_DrawQuartersOfHeard.o3 (N : Nat) (v0 : List ByteArray) (v1 : List ByteArray) (v2 : Int) (v3 : Int) (v4 : List Int) (v5 : Int) (v6 : Int) (c3 : (List ByteArray) → (List ByteArray) → Int → Int → (List Int) → Int → Int → Option spec_DrawQuartersOfHeard.R) (c4 : (List ByteArray) → (List ByteArray) → Option spec_DrawQuartersOfHeard.R) (c7 : (List ByteArray) → (List ByteArray) → Int → (List Int) → Int → Int → Option spec_DrawQuartersOfHeard.R) : Option spec_DrawQuartersOfHeard.R :=
 bif (decide (v3 > 0)) then
  (spec_beNotes.g N v0 v2).bind fun r1 =>
  bif (Nat.blt (v1.length + ([r1] : List ByteArray).length) 8796093022208) then
   c3 v0 (v1 ++ ([r1] : List ByteArray)) (w64 (v2 + 1)) (w64 (v3 - 1)) v4 v5 v6
  else
  none
 else
 (spec_l1Cur_pick.g N 10 v4 v5 v6).bind fun r2 =>
 bif (r2.1 == 0) then
  (spec_l1Cur_of.g N ([(⟨#[]⟩ : ByteArray), (⟨#[49]⟩ : ByteArray), (⟨#[49, 50]⟩ : ByteArray)] : List ByteArray) r2.2.1 r2.2.2.1 r2.2.2.2).bind fun r3 =>
  bif (Nat.blt (v1.length + ([r3.1] : List ByteArray).length) 8796093022208) then
   c4 v0 (v1 ++ ([r3.1] : List ByteArray))
  else
  none
 else
 bif (r2.1 == 1) then
  some (v0, ([] : List ByteArray))
 else
 bif (r2.1 == 2) then
  c7 v0 v1 v2 r2.2.1 r2.2.2.1 r2.2.2.2
 else
 c4 v0 v1
theorem spec_DrawQuartersOfHeard.o3.run (N : Nat) (Kn1018 : St D0 → Option spec_DrawQuartersOfHeard.R) (H511 : Code) (H523000 : Code) (v0 : List ByteArray) (v1 : List ByteArray) (v2 : Int) (v3 : Int) (v4 : List Int) (v5 : Int) (v6 : Int) : runC spec_DrawQuartersOfHeard.C (spec_DrawQuartersOfHeard.O N) N spec_DrawQuartersOfHeard.c2036 2036 (mkSt [(4, .one (.ptr 11 0)), (5, .one (.sl true 9 v0)), (6, .one (.sl true 9 v1)), (7, .one (.int .i64 v2)), (8, .one (.int .i64 v3))] [(11, some (67, [.sl false 5 v4, .int .i64 v5, .int .u64 v6]))] : St D0) ((fun up => (onN (fun s => spec_DrawQuartersOfHeard.C.tidy 1018 s ((onN Kn1018 up) .normal)) (onN Kn1018 up))) (blockK 0 (onN (fun s => spec_DrawQuartersOfHeard.C.tidy 254 s (fun s' => runC spec_DrawQuartersOfHeard.C (spec_DrawQuartersOfHeard.O N) N (.seq (.seq spec_DrawQuartersOfHeard.c1020 (.block 2 (.seq spec_DrawQuartersOfHeard.c4084 (.cond (.tmp 42) spec_DrawQuartersOfHeard.c8170 (.seq spec_DrawQuartersOfHeard.c16342 (.cond (.tmp 50) spec_DrawQuartersOfHeard.c32686 (.seq spec_DrawQuartersOfHeard.c65374 (.cond (.tmp 53) (.block 3 (.loop H523000)) spec_DrawQuartersOfHeard.c130751)))))))) H511) 255 s' spec_DrawQuartersOfHeard.K0)) spec_DrawQuartersOfHeard.K0))) = spec_DrawQuartersOfHeard.o3 N v0 v1 v2 v3 v4 v5 v6 ((fun w0 w1 w2 w3 w4 w5 w6 => Kn1018 (mkSt [(4, .one (.ptr 11 0)), (5, .one (.sl true 9 w0)), (6, .one (.sl true 9 w1)), (7, .one (.int .i64 w2)), (8, .one (.int .i64 w3))] [(11, some (67, [.sl false 5 w4, .int .i64 w5, .int .u64 w6]))] : St D0))) ((fun w0 w1 => runC spec_DrawQuartersOfHeard.C (spec_DrawQuartersOfHeard.O N) N H511 511 (mkSt [(5, .one (.sl true 9 w0)), (6, .one (.sl true 9 w1))] [] : St D0) spec_DrawQuartersOfHeard.K0)) ((fun w0 w1 w2 w3 w4 w5 => iter (loopF spec_DrawQuartersOfHeard.C (spec_DrawQuartersOfHeard.O N) N H523000 261500) N (mkSt [(4, .one (.ptr 11 0)), (5, .one (.sl true 9 w0)), (6, .one (.sl true 9 w1)), (7, .one (.int .i64 w2))] [(11, some (67, [.sl false 5 w3, .int .i64 w4, .int .u64 w5]))] : St D0) (blockK 3 (blockK 2 (onN (fun s => spec_DrawQuartersOfHeard.C.tidy 510 s (fun s' => runC spec_DrawQuartersOfHeard.C (spec_DrawQuartersOfHeard.O N) N H511 511 s' spec_DrawQuartersOfHeard.K0)) spec_DrawQuartersOfHeard.K0))))) := by kernel_rfl
noncomputable def spec_DrawQuartersOfHeard.d3 (N : Nat) (v0 : List ByteArray) (v1 : List ByteArray) (v2 : Int) (v3 : Int) (v4 : List Int) (v5 : Int) (v6 : Int) (c3 : (List ByteArray) → (List ByteArray) → Int → Int → (List Int) → Int → Int → Option spec_DrawQuartersOfHeard.R) : Option spec_DrawQuartersOfHeard.R := spec_DrawQuartersOfHeard.o3 N v0 v1 v2 v3 v4 v5 v6 c3 ((fun w0 w1 => spec_DrawQuartersOfHeard.d4 N w0 w1)) ((fun w0 w1 w2 w3 w4 w5 => spec_DrawQuartersOfHeard.l7 N N w0 w1 w2 w3 w4 w5))
theorem spec_DrawQuartersOfHeard.d3.run (N : Nat) (Kn1018 : St D0 → Option spec_DrawQuartersOfHeard.R) (v0 : List ByteArray) (v1 : List ByteArray) (v2 : Int) (v3 : Int) (v4 : List Int) (v5 : Int) (v6 : Int) : runC spec_DrawQuartersOfHeard.C (spec_DrawQuartersOfHeard.O N) N spec_DrawQuartersOfHeard.c2036 2036 (mkSt [(4, .one (.ptr 11 0)), (5, .one (.sl true 9 v0)), (6, .one (.sl true 9 v1)), (7, .one (.int .i64 v2)), (8, .one (.int .i64 v3))] [(11, some (67, [.sl false 5 v4, .int .i64 v5, .int .u64 v6]))] : St D0) (spec_DrawQuartersOfHeard.K2036 N Kn1018) = spec_DrawQuartersOfHeard.d3 N v0 v1 v2 v3 v4 v5 v6 ((fun w0 w1 w2 w3 w4 w5 w6 => Kn1018 (mkSt [(4, .one (.ptr 11 0)), (5, .one (.sl true 9 w0)), (6, .one (.sl true 9 w1)), (7, .one (.int .i64 w2)), (8, .one (.int .i64 w3))] [(11, some (67, [.sl false 5 w4, .int .i64 w5, .int .u64 w6]))] : St D0))) := by
  unfold spec_DrawQuartersOfHeard.d3; exact (spec_DrawQuartersOfHeard.o3.run N Kn1018 spec_DrawQuartersOfHeard.c511 spec_DrawQuartersOfHeard.c523000 v0 v1 v2 v3 v4 v5 v6).trans (congr (congr (congr rfl rfl) (funext fun w0 => funext fun w1 => spec_DrawQuartersOfHeard.d4.run N w0 w1)) (funext fun w0 => funext fun w1 => funext fun w2 => funext fun w3 => funext fun w4 => funext fun w5 => (spec_DrawQuartersOfHeard.loop261500 N N).2 w0 w1 w2 w3 w4 w5))
noncomputable def spec_DrawQuartersOfHeard.K1018 (N : Nat) : Ex → St D0 → Option spec_DrawQuartersOfHeard.R := (blockK 0 (onN (fun s => spec_DrawQuartersOfHeard.C.tidy 254 s (fun s' => runC spec_DrawQuartersOfHeard.C (spec_DrawQuartersOfHeard.O N) N spec_DrawQuartersOfHeard.c255 255 s' spec_DrawQuartersOfHeard.K0)) spec_DrawQuartersOfHeard.K0))
mutual
noncomputable def spec_DrawQuartersOfHeard.l2 (N : Nat) : Nat → (List ByteArray) → Int → Int → (List Int) → Int → Int → Option spec_DrawQuartersOfHeard.R
  | 0, _, _, _, _, _, _ => none
  | n + 1, v0, v1, v2, v3, v4, v5 => spec_DrawQuartersOfHeard.d2 N v0 v1 v2 v3 v4 v5 ((fun w0 w1 w2 w3 w4 w5 w6 => spec_DrawQuartersOfHeard.l3 N n w0 w1 w2 w3 w4 w5 w6))
noncomputable def spec_DrawQuartersOfHeard.l3 (N : Nat) : Nat → (List ByteArray) → (List ByteArray) → Int → Int → (List Int) → Int → Int → Option spec_DrawQuartersOfHeard.R
  | 0, _, _, _, _, _, _, _ => none
  | n + 1, v0, v1, v2, v3, v4, v5, v6 => spec_DrawQuartersOfHeard.d3 N v0 v1 v2 v3 v4 v5 v6 ((fun w0 w1 w2 w3 w4 w5 w6 => spec_DrawQuartersOfHeard.l3 N n w0 w1 w2 w3 w4 w5 w6))
end
theorem spec_DrawQuartersOfHeard.loop1018 (N : Nat) : ∀ n, (∀ (v0 : List ByteArray) (v1 : Int) (v2 : Int) (v3 : List Int) (v4 : Int) (v5 : Int), iter (loopF spec_DrawQuartersOfHeard.C (spec_DrawQuartersOfHeard.O N) N spec_DrawQuartersOfHeard.c2036 1018) n (mkSt [(4, .one (.ptr 11 0)), (5, .one (.sl true 9 v0)), (6, .one (.nl)), (7, .one (.int .i64 v1)), (8, .one (.int .i64 v2))] [(11, some (67, [.sl false 5 v3, .int .i64 v4, .int .u64 v5]))] : St D0) (spec_DrawQuartersOfHeard.K1018 N) = spec_DrawQuartersOfHeard.l2 N n v0 v1 v2 v3 v4 v5) ∧ (∀ (v0 : List ByteArray) (v1 : List ByteArray) (v2 : Int) (v3 : Int) (v4 : List Int) (v5 : Int) (v6 : Int), iter (loopF spec_DrawQuartersOfHeard.C (spec_DrawQuartersOfHeard.O N) N spec_DrawQuartersOfHeard.c2036 1018) n (mkSt [(4, .one (.ptr 11 0)), (5, .one (.sl true 9 v0)), (6, .one (.sl true 9 v1)), (7, .one (.int .i64 v2)), (8, .one (.int .i64 v3))] [(11, some (67, [.sl false 5 v4, .int .i64 v5, .int .u64 v6]))] : St D0) (spec_DrawQuartersOfHeard.K1018 N) = spec_DrawQuartersOfHeard.l3 N n v0 v1 v2 v3 v4 v5 v6)
  | 0 => ⟨(fun v0 v1 v2 v3 v4 v5 => rfl), (fun v0 v1 v2 v3 v4 v5 v6 => rfl)⟩
  | n + 1 => ⟨(fun v0 v1 v2 v3 v4 v5 => (spec_DrawQuartersOfHeard.d2.run N (fun s => iter (loopF spec_DrawQuartersOfHeard.C (spec_DrawQuartersOfHeard.O N) N spec_DrawQuartersOfHeard.c2036 1018) n s (spec_DrawQuartersOfHeard.K1018 N)) v0 v1 v2 v3 v4 v5).trans (show _ = spec_DrawQuartersOfHeard.d2 N v0 v1 v2 v3 v4 v5 ((fun w0 w1 w2 w3 w4 w5 w6 => spec_DrawQuartersOfHeard.l3 N n w0 w1 w2 w3 w4 w5 w6)) from (congr rfl (funext fun w0 => funext fun w1 => funext fun w2 => funext fun w3 => funext fun w4 => funext fun w5 => funext fun w6 => (spec_DrawQuartersOfHeard.loop1018 N n).2 w0 w1 w2 w3 w4 w5 w6)))), (fun v0 v1 v2 v3 v4 v5 v6 => (spec_DrawQuartersOfHeard.d3.run N (fun s => iter (loopF spec_DrawQuartersOfHeard.C (spec_DrawQuartersOfHeard.O N) N spec_DrawQuartersOfHeard.c2036 1018) n s (spec_DrawQuartersOfHeard.K1018 N)) v0 v1 v2 v3 v4 v5 v6).trans (show _ = spec_DrawQuartersOfHeard.d3 N v0 v1 v2 v3 v4 v5 v6 ((fun w0 w1 w2 w3 w4 w5 w6 => spec_DrawQuartersOfHeard.l3 N n w0 w1 w2 w3 w4 w5 w6)) from (congr rfl (funext fun w0 => funext fun w1 => funext fun w2 => funext fun w3 => funext fun w4 => funext fun w5 => funext fun w6 => (spec_DrawQuartersOfHeard.loop1018 N n).2 w0 w1 w2 w3 w4 w5 w6))))⟩
noncomputable def spec_DrawQuartersOfHeard.K61 (N : Nat) : Ex → St D0 → Option spec_DrawQuartersOfHeard.R := (onN (fun s => spec_DrawQuartersOfHeard.C.tidy 30 s (fun s' => runC spec_DrawQuartersOfHeard.C (spec_DrawQuartersOfHeard.O N) N spec_DrawQuartersOfHeard.c31 31 s' spec_DrawQuartersOfHeard.K0)) spec_DrawQuartersOfHeard.K0)
noncomputable def spec_DrawQuartersOfHeard.o1 (N : Nat) (v0 : List ByteArray) (v1 : Bool) (v2 : List Int) (v3 : Int) (v4 : Int) (c2 : (List ByteArray) → Int → Int → (List Int) → Int → Int → Option spec_DrawQuartersOfHeard.R) : Option spec_DrawQuartersOfHeard.R :=
 bif v1 then
  some (v0, ([(⟨#[49]⟩ : ByteArray)] : List ByteArray))
 else
 (spec_l1Cur_pick.g N 24 v2 v3 v4).bind fun r1 =>
 (spec_l1Cur_pick.g N 3 r1.2.1 r1.2.2.1 r1.2.2.2).bind fun r2 =>
 c2 v0 r1.1 (w64 (1 + r2.1)) r2.2.1 r2.2.2.1 r2.2.2.2
theorem spec_DrawQuartersOfHeard.o1.run (N : Nat) (H2036 : Code) (v0 : List ByteArray) (v1 : Bool) (v2 : List Int) (v3 : Int) (v4 : Int) : runC spec_DrawQuartersOfHeard.C (spec_DrawQuartersOfHeard.O N) N spec_DrawQuartersOfHeard.c61 61 (mkSt [(4, .one (.ptr 11 0)), (5, .one (.sl true 9 v0)), (20, .one (.bool v1))] [(11, some (67, [.sl false 5 v2, .int .i64 v3, .int .u64 v4]))] : St D0) (onN (fun s => spec_DrawQuartersOfHeard.C.tidy 30 s (fun s' => runC spec_DrawQuartersOfHeard.C (spec_DrawQuartersOfHeard.O N) N (.seq spec_DrawQuartersOfHeard.c62 (.seq spec_DrawQuartersOfHeard.c126 (.seq (.seq spec_DrawQuartersOfHeard.c508 (.block 0 (.loop H2036))) spec_DrawQuartersOfHeard.c255))) 31 s' spec_DrawQuartersOfHeard.K0)) spec_DrawQuartersOfHeard.K0) = spec_DrawQuartersOfHeard.o1 N v0 v1 v2 v3 v4 ((fun w0 w1 w2 w3 w4 w5 => iter (loopF spec_DrawQuartersOfHeard.C (spec_DrawQuartersOfHeard.O N) N H2036 1018) N (mkSt [(4, .one (.ptr 11 0)), (5, .one (.sl true 9 w0)), (6, .one (.nl)), (7, .one (.int .i64 w1)), (8, .one (.int .i64 w2))] [(11, some (67, [.sl false 5 w3, .int .i64 w4, .int .u64 w5]))] : St D0) (blockK 0 (onN (fun s => spec_DrawQuartersOfHeard.C.tidy 254 s (fun s' => runC spec_DrawQuartersOfHeard.C (spec_DrawQuartersOfHeard.O N) N spec_DrawQuartersOfHeard.c255 255 s' spec_DrawQuartersOfHeard.K0)) spec_DrawQuartersOfHeard.K0)))) := by kernel_rfl
noncomputable def spec_DrawQuartersOfHeard.d1 (N : Nat) (v0 : List ByteArray) (v1 : Bool) (v2 : List Int) (v3 : Int) (v4 : Int) : Option spec_DrawQuartersOfHeard.R := spec_DrawQuartersOfHeard.o1 N v0 v1 v2 v3 v4 ((fun w0 w1 w2 w3 w4 w5 => spec_DrawQuartersOfHeard.l2 N N w0 w1 w2 w3 w4 w5))
theorem spec_DrawQuartersOfHeard.d1.run (N : Nat) (v0 : List ByteArray) (v1 : Bool) (v2 : List Int) (v3 : Int) (v4 : Int) : runC spec_DrawQuartersOfHeard.C (spec_DrawQuartersOfHeard.O N) N spec_DrawQuartersOfHeard.c61 61 (mkSt [(4, .one (.ptr 11 0)), (5, .one (.sl true 9 v0)), (20, .one (.bool v1))] [(11, some (67, [.sl false 5 v2, .int .i64 v3, .int .u64 v4]))] : St D0) (spec_DrawQuartersOfHeard.K61 N) = spec_DrawQuartersOfHeard.d1 N v0 v1 v2 v3 v4 := by
  unfold spec_DrawQuartersOfHeard.d1; exact (spec_DrawQuartersOfHeard.o1.run N spec_DrawQuartersOfHeard.c2036 v0 v1 v2 v3 v4).trans (congr rfl (funext fun w0 => funext fun w1 => funext fun w2 => funext fun w3 => funext fun w4 => funext fun w5 => (spec_DrawQuartersOfHeard.loop1018 N N).1 w0 w1 w2 w3 w4 w5))
noncomputable def spec_DrawQuartersOfHeard.o0 (N : Nat) (a0 : List Int) (c1 : (List ByteArray) → Bool → (List Int) → Int → Int → Option spec_DrawQuartersOfHeard.R) : Option spec_DrawQuartersOfHeard.R :=
 (spec_l1Cur_tune.g N a0 0 0).bind fun r1 =>
 (spec_beTune.g N r1.1).bind fun r2 =>
 bif (!r2) then
  c1 r1.1 true r1.2.1 r1.2.2.1 r1.2.2.2
 else
 (spec_l1Cur_one.g N 8 r1.2.1 r1.2.2.1 r1.2.2.2).bind fun r3 =>
 c1 r1.1 r3.1 r3.2.1 r3.2.2.1 r3.2.2.2
theorem spec_DrawQuartersOfHeard.o0.run (N : Nat) (H61 : Code) (a0 : List Int) : runC spec_DrawQuartersOfHeard.C (spec_DrawQuartersOfHeard.O N) N (.seq spec_DrawQuartersOfHeard.c2 (.seq spec_DrawQuartersOfHeard.c6 (.seq spec_DrawQuartersOfHeard.c14 (.seq (.seq spec_DrawQuartersOfHeard.c60 H61) spec_DrawQuartersOfHeard.c31)))) 1 (st0 [.one (.sl false 5 a0)] [] : St D0) spec_DrawQuartersOfHeard.K0 = spec_DrawQuartersOfHeard.o0 N a0 ((fun w0 w1 w2 w3 w4 => runC spec_DrawQuartersOfHeard.C (spec_DrawQuartersOfHeard.O N) N H61 61 (mkSt [(4, .one (.ptr 11 0)), (5, .one (.sl true 9 w0)), (20, .one (.bool w1))] [(11, some (67, [.sl false 5 w2, .int .i64 w3, .int .u64 w4]))] : St D0) (onN (fun s => spec_DrawQuartersOfHeard.C.tidy 30 s (fun s' => runC spec_DrawQuartersOfHeard.C (spec_DrawQuartersOfHeard.O N) N spec_DrawQuartersOfHeard.c31 31 s' spec_DrawQuartersOfHeard.K0)) spec_DrawQuartersOfHeard.K0))) := by kernel_rfl
noncomputable def spec_DrawQuartersOfHeard.B30 (N : Nat) : St D0 → Option spec_DrawQuartersOfHeard.R := fun s' => runC spec_DrawQuartersOfHeard.C (spec_DrawQuartersOfHeard.O N) N spec_DrawQuartersOfHeard.c61 61 s' (spec_DrawQuartersOfHeard.K61 N)
noncomputable def spec_DrawQuartersOfHeard.g (N : Nat) (a0 : List Int) : Option spec_DrawQuartersOfHeard.R := spec_DrawQuartersOfHeard.o0 N a0 ((fun w0 w1 w2 w3 w4 => spec_DrawQuartersOfHeard.d1 N w0 w1 w2 w3 w4))
theorem spec_DrawQuartersOfHeard.c1_0 : spec_DrawQuartersOfHeard.c1 = (.seq spec_DrawQuartersOfHeard.c2 (.seq spec_DrawQuartersOfHeard.c6 (.seq spec_DrawQuartersOfHeard.c14 (.seq (.seq spec_DrawQuartersOfHeard.c60 spec_DrawQuartersOfHeard.c61) spec_DrawQuartersOfHeard.c31)))) := by kernel_rfl
theorem spec_DrawQuartersOfHeard.g.run (N : Nat) (a0 : List Int) : runC spec_DrawQuartersOfHeard.C (spec_DrawQuartersOfHeard.O N) N spec_DrawQuartersOfHeard.c1 1 (st0 [.one (.sl false 5 a0)] [] : St D0) spec_DrawQuartersOfHeard.K0 = spec_DrawQuartersOfHeard.g N a0 := by
  rw [spec_DrawQuartersOfHeard.c1_0]; unfold spec_DrawQuartersOfHeard.g; exact (spec_DrawQuartersOfHeard.o0.run N spec_DrawQuartersOfHeard.c61 a0).trans (congr rfl (funext fun w0 => funext fun w1 => funext fun w2 => funext fun w3 => funext fun w4 => spec_DrawQuartersOfHeard.d1.run N w0 w1 w2 w3 w4))
theorem spec_DrawQuartersOfHeard.good (N : Nat) (a0 : List Int) (r : spec_DrawQuartersOfHeard.R) (h : spec_DrawQuartersOfHeard.g N a0 = some r) : Go.PM.Good Go.Proofs.Tryd.prog T0 26 [.one (.sl false 5 a0)] [] (spec_DrawQuartersOfHeard.sig.ret r) (spec_DrawQuartersOfHeard.sig.bs r) :=
  good_fn tabOk0 mixed0 spec_DrawQuartersOfHeard.sig (spec_DrawQuartersOfHeard.E N) Go.Proofs.Tryd.func26 (by kernel_rfl) (by kernel_rfl) 1163061201376117245 0 0 [(60, [4, 5, 20], [11]), (510, [5, 6], []), (1018, [4, 5, 6, 7, 8], [11]), (261500, [4, 5, 6, 7], [11])] 161589191215969226752 false [] [(false, [.own 9]), (false, [.own 9])] (by kernel_rfl) rfl rfl ((spec_DrawQuartersOfHeard.g.run N a0).trans h)
noncomputable def spec_DrawQuartersOfHeard.ent (N : Nat) : Ent Go.Proofs.Tryd.prog T0 := mkEnt 26 [(false, [.ro 5])] spec_DrawQuartersOfHeard.sig (fun t => spec_DrawQuartersOfHeard.g N t) (fun t r h => spec_DrawQuartersOfHeard.good N t r h)
end Go.Proofs.YtpmipkbfohcjiaaDoor.M

namespace Go.Proofs.YtpmipkbfohcjiaaDoor.M
open Go Go.PM Go.Proofs.YtpmipkbfohcjiaaDoor.P
set_option linter.unusedVariables false
set_option maxRecDepth 100000
/-! ### spec_DrawIsSameTune -/
abbrev spec_DrawIsSameTune.R : Type := List ByteArray × List ByteArray
abbrev spec_DrawIsSameTune.sig : Sig := ⟨[(false, 1)], [], [.sl false 5], [(false, 1), (false, 1)], [], [.sl true 9, .sl true 9]⟩
noncomputable def spec_DrawIsSameTune.C : Cfg D0 := ⟨Go.Proofs.Tryd.prog, T0, 8532029, 0, 31, 0, [(30, [4, 5], [8])], 606636544, false, []⟩
noncomputable def spec_DrawIsSameTune.E (N : Nat) : List (Ent Go.Proofs.Tryd.prog T0) := [spec_l1Cur_tune.ent N, spec_l1Cur_pick.ent N, spec_l1OwnS.ent N]
noncomputable def spec_DrawIsSameTune.O (N : Nat) : Orc D0 spec_DrawIsSameTune.R := orcOf (spec_DrawIsSameTune.E N)
noncomputable def spec_DrawIsSameTune.K0 : Ex → St D0 → Option spec_DrawIsSameTune.R := exitK spec_DrawIsSameTune.C Go.Proofs.Tryd.f27.results.toList [(false, [.own 9]), (false, [.own 9])] (decOut spec_DrawIsSameTune.sig)
noncomputable def spec_DrawIsSameTune.c1 : Code := codeAt (Go.Proofs.Tryd.f27.body.getD .skip) []
noncomputable def spec_DrawIsSameTune.c2 : Code := codeAt (Go.Proofs.Tryd.f27.body.getD .skip) [false]
noncomputable def spec_DrawIsSameTune.c6 : Code := codeAt (Go.Proofs.Tryd.f27.body.getD .skip) [true, false]
noncomputable def spec_DrawIsSameTune.c14 : Code := codeAt (Go.Proofs.Tryd.f27.body.getD .skip) [true, true, false]
noncomputable def spec_DrawIsSameTune.c30 : Code := codeAt (Go.Proofs.Tryd.f27.body.getD .skip) [true, true, true, false]
noncomputable def spec_DrawIsSameTune.c31 : Code := codeAt (Go.Proofs.Tryd.f27.body.getD .skip) [true, true, true, true]
noncomputable def spec_DrawIsSameTune.K31 (N : Nat) : Ex → St D0 → Option spec_DrawIsSameTune.R := spec_DrawIsSameTune.K0
noncomputable def spec_DrawIsSameTune.o1 (N : Nat) (v0 : List ByteArray) (v1 : List Int) (v2 : Int) (v3 : Int) : Option spec_DrawIsSameTune.R :=
 (spec_l1Cur_tune.g N v1 v2 v3).bind fun r1 =>
 some (v0, r1.1)
theorem spec_DrawIsSameTune.o1.run (N : Nat) (v0 : List ByteArray) (v1 : List Int) (v2 : Int) (v3 : Int) : runC spec_DrawIsSameTune.C (spec_DrawIsSameTune.O N) N spec_DrawIsSameTune.c31 31 (mkSt [(4, .one (.ptr 8 0)), (5, .one (.sl true 9 v0))] [(8, some (67, [.sl false 5 v1, .int .i64 v2, .int .u64 v3]))] : St D0) spec_DrawIsSameTune.K0 = spec_DrawIsSameTune.o1 N v0 v1 v2 v3 := by kernel_rfl
noncomputable def spec_DrawIsSameTune.d1 (N : Nat) (v0 : List ByteArray) (v1 : List Int) (v2 : Int) (v3 : Int) : Option spec_DrawIsSameTune.R := spec_DrawIsSameTune.o1 N v0 v1 v2 v3
theorem spec_DrawIsSameTune.d1.run (N : Nat) (v0 : List ByteArray) (v1 : List Int) (v2 : Int) (v3 : Int) : runC spec_DrawIsSameTune.C (spec_DrawIsSameTune.O N) N spec_DrawIsSameTune.c31 31 (mkSt [(4, .one (.ptr 8 0)), (5, .one (.sl true 9 v0))] [(8, some (67, [.sl false 5 v1, .int .i64 v2, .int .u64 v3]))] : St D0) (spec_DrawIsSameTune.K31 N) = spec_DrawIsSameTune.d1 N v0 v1 v2 v3 := by
  exact (spec_DrawIsSameTune.o1.run N v0 v1 v2 v3).trans rfl
noncomputable def spec_DrawIsSameTune.o0 (N : Nat) (a0 : List Int) (c1 : (List ByteArray) → (List Int) → Int → Int → Option spec_DrawIsSameTune.R) : Option spec_DrawIsSameTune.R :=
 (spec_l1Cur_tune.g N a0 0 0).bind fun r1 =>
 (spec_l1Cur_pick.g N 4 r1.2.1 r1.2.2.1 r1.2.2.2).bind fun r2 =>
 bif (r2.1 == 0) then
  bif (decide ((r1.1.length : Int) ≤ 6)) then
   (spec_l1OwnS.g N r1.1).bind fun r3 =>
   bif (Nat.blt (r3.length + r1.1.length) 8796093022208) then
    some (r1.1, (r3 ++ r1.1))
   else
   none
  else
  c1 r1.1 r2.2.1 r2.2.2.1 r2.2.2.2
 else
 bif (r2.1 == 1) then
  (spec_l1OwnS.g N r1.1).bind fun r4 =>
  some (r1.1, r4)
 else
 c1 r1.1 r2.2.1 r2.2.2.1 r2.2.2.2
theorem spec_DrawIsSameTune.o0.run (N : Nat) (H31 : Code) (a0 : List Int) : runC spec_DrawIsSameTune.C (spec_DrawIsSameTune.O N) N (.seq spec_DrawIsSameTune.c2 (.seq spec_DrawIsSameTune.c6 (.seq spec_DrawIsSameTune.c14 (.seq spec_DrawIsSameTune.c30 H31)))) 1 (st0 [.one (.sl false 5 a0)] [] : St D0) spec_DrawIsSameTune.K0 = spec_DrawIsSameTune.o0 N a0 ((fun w0 w1 w2 w3 => runC spec_DrawIsSameTune.C (spec_DrawIsSameTune.O N) N H31 31 (mkSt [(4, .one (.ptr 8 0)), (5, .one (.sl true 9 w0))] [(8, some (67, [.sl false 5 w1, .int .i64 w2, .int .u64 w3]))] : St D0) spec_DrawIsSameTune.K0)) := by kernel_rfl
noncomputable def spec_DrawIsSameTune.B15 (N : Nat) : St D0 → Option spec_DrawIsSameTune.R := fun s' => runC spec_DrawIsSameTune.C (spec_DrawIsSameTune.O N) N spec_DrawIsSameTune.c31 31 s' (spec_DrawIsSameTune.K31 N)
noncomputable def spec_DrawIsSameTune.g (N : Nat) (a0 : List Int) : Option spec_DrawIsSameTune.R := spec_DrawIsSameTune.o0 N a0 ((fun w0 w1 w2 w3 => spec_DrawIsSameTune.d1 N w0 w1 w2 w3))
theorem spec_DrawIsSameTune.c1_0 : spec_DrawIsSameTune.c1 = (.seq spec_DrawIsSameTune.c2 (.seq spec_DrawIsSameTune.c6 (.seq spec_DrawIsSameTune.c14 (.seq spec_DrawIsSameTune.c30 spec_DrawIsSameTune.c31)))) := by kernel_rfl
theorem spec_DrawIsSameTune.g.run (N : Nat) (a0 : List Int) : runC spec_DrawIsSameTune.C (spec_DrawIsSameTune.O N) N spec_DrawIsSameTune.c1 1 (st0 [.one (.sl false 5 a0)] [] : St D0) spec_DrawIsSameTune.K0 = spec_DrawIsSameTune.g N a0 := by
  rw [spec_DrawIsSameTune.c1_0]; unfold spec_DrawIsSameTune.g; exact (spec_DrawIsSameTune.o0.run N spec_DrawIsSameTune.c31 a0).trans (congr rfl (funext fun w0 => funext fun w1 => funext fun w2 => funext fun w3 => spec_DrawIsSameTune.d1.run N w0 w1 w2 w3))
theorem spec_DrawIsSameTune.good (N : Nat) (a0 : List Int) (r : spec_DrawIsSameTune.R) (h : spec_DrawIsSameTune.g N a0 = some r) : Go.PM.Good Go.Proofs.Tryd.prog T0 27 [.one (.sl false 5 a0)] [] (spec_DrawIsSameTune.sig.ret r) (spec_DrawIsSameTune.sig.bs r) :=
  good_fn tabOk0 mixed0 spec_DrawIsSameTune.sig (spec_DrawIsSameTune.E N) Go.Proofs.Tryd.func27 (by kernel_rfl) (by kernel_rfl) 8532029 0 0 [(30, [4, 5], [8])] 606636544 false [] [(false, [.own 9]), (false, [.own 9])] (by kernel_rfl) rfl rfl ((spec_DrawIsSameTune.g.run N a0).trans h)
noncomputable def spec_DrawIsSameTune.ent (N : Nat) : Ent Go.Proofs.Tryd.prog T0 := mkEnt 27 [(false, [.ro 5])] spec_DrawIsSameTune.sig (fun t => spec_DrawIsSameTune.g N t) (fun t r h => spec_DrawIsSameTune.good N t r h)
end Go.Proofs.YtpmipkbfohcjiaaDoor.M

namespace Go.Proofs.YtpmipkbfohcjiaaDoor.M
open Go Go.PM Go.Proofs.YtpmipkbfohcjiaaDoor.P
set_option linter.unusedVariables false
set_option maxRecDepth 100000
/-! ### spec_DrawTurnTune -/
abbrev spec_DrawTurnTune.R : Type := List ByteArray × Int
abbrev spec_DrawTurnTune.sig : Sig := ⟨[(false, 1)], [], [.sl false 5], [(false, 1), (false, 1)], [], [.sl true 9, .int .i64]⟩
noncomputable def spec_DrawTurnTune.C : Cfg D0 := ⟨Go.Proofs.Tryd.prog, T0, 29, 0, 16, 0, [], 5376, false, []⟩
noncomputable def spec_DrawTurnTune.E (N : Nat) : List (Ent Go.Proofs.Tryd.prog T0) := [spec_l1Cur_tune.ent N, spec_l1Cur_pick.ent N]
noncomputable def spec_DrawTurnTune.O (N : Nat) : Orc D0 spec_DrawTurnTune.R := orcOf (spec_DrawTurnTune.E N)
noncomputable def spec_DrawTurnTune.K0 : Ex → St D0 → Option spec_DrawTurnTune.R := exitK spec_DrawTurnTune.C Go.Proofs.Tryd.f28.results.toList [(false, [.own 9]), (false, [.any])] (decOut spec_DrawTurnTune.sig)
noncomputable def spec_DrawTurnTune.c1 : Code := codeAt (Go.Proofs.Tryd.f28.body.getD .skip) []
noncomputable def spec_DrawTurnTune.o0 (N : Nat) (a0 : List Int) : Option spec_DrawTurnTune.R :=
 (spec_l1Cur_tune.g N a0 0 0).bind fun r1 =>
 (spec_l1Cur_pick.g N 7 r1.2.1 r1.2.2.1 r1.2.2.2).bind fun r2 =>
 (spec_l1Cur_pick.g N 9 r2.2.1 r2.2.2.1 r2.2.2.2).bind fun r3 =>
 some (r1.1, (w64 (r2.1 - (w64 (Int.tdiv r3.1 8)))))
theorem spec_DrawTurnTune.o0.run (N : Nat) (a0 : List Int) : runC spec_DrawTurnTune.C (spec_DrawTurnTune.O N) N spec_DrawTurnTune.c1 1 (st0 [.one (.sl false 5 a0)] [] : St D0) spec_DrawTurnTune.K0 = spec_DrawTurnTune.o0 N a0 := by kernel_rfl
noncomputable def spec_DrawTurnTune.g (N : Nat) (a0 : List Int) : Option spec_DrawTurnTune.R := spec_DrawTurnTune.o0 N a0
theorem spec_DrawTurnTune.g.run (N : Nat) (a0 : List Int) : runC spec_DrawTurnTune.C (spec_DrawTurnTune.O N) N spec_DrawTurnTune.c1 1 (st0 [.one (.sl false 5 a0)] [] : St D0) spec_DrawTurnTune.K0 = spec_DrawTurnTune.g N a0 := by
  exact (spec_DrawTurnTune.o0.run N a0).trans rfl
theorem spec_DrawTurnTune.good (N : Nat) (a0 : List Int) (r : spec_DrawTurnTune.R) (h : spec_DrawTurnTune.g N a0 = some r) : Go.PM.Good Go.Proofs.Tryd.prog T0 28 [.one (.sl false 5 a0)] [] (spec_DrawTurnTune.sig.ret r) (spec_DrawTurnTune.sig.bs r) :=
  good_fn tabOk0 mixed0 spec_DrawTurnTune.sig (spec_DrawTurnTune.E N) Go.Proofs.Tryd.func28 (by kernel_rfl) (by kernel_rfl) 29 0 0 [] 5376 false [] [(false, [.own 9]), (false, [.any])] (by kernel_rfl) rfl rfl ((spec_DrawTurnTune.g.run N a0).trans h)
noncomputable def spec_DrawTurnTune.ent (N : Nat) : Ent Go.Proofs.Tryd.prog T0 := mkEnt 28 [(false, [.ro 5])] spec_DrawTurnTune.sig (fun t => spec_DrawTurnTune.g N t) (fun t r h => spec_DrawTurnTune.good N t r h)
end Go.Proofs.YtpmipkbfohcjiaaDoor.M

namespace Go.Proofs.YtpmipkbfohcjiaaDoor.M
open Go Go.PM Go.Proofs.YtpmipkbfohcjiaaDoor.P
set_option linter.unusedVariables false
set_option maxRecDepth 100000
/-! ### spec_l1Cur_spoilt -/
abbrev spec_l1Cur_spoilt.R : Type := ByteArray × List Int × Int × Int
abbrev spec_l1Cur_spoilt.sig : Sig := ⟨[(false, 1), (false, 1), (false, 1)], [(67, 3)], [.ptr 0 0, .str, .str, .sl false 5, .int .i64, .int .u64], [(false, 1)], [(67, 3)], [.str, .sl false 5, .int .i64, .int .u64]⟩
noncomputable def spec_l1Cur_spoilt.C : Cfg D0 := ⟨Go.Proofs.Tryd.prog, T0, 36046423565272007, 0, 68, 1, [(26, [0, 1, 2, 7], [0]), (104, [0, 1, 2, 7], [0]), (210, [0, 1, 2, 7], [0])], 15427856452832797696, false, []⟩
noncomputable def spec_l1Cur_spoilt.E (N : Nat) : List (Ent Go.Proofs.Tryd.prog T0) := [spec_l1Cur_pick.ent N]
noncomputable def spec_l1Cur_spoilt.O (N : Nat) : Orc D0 spec_l1Cur_spoilt.R := orcOf (spec_l1Cur_spoilt.E N)
noncomputable def spec_l1Cur_spoilt.K0 : Ex → St D0 → Option spec_l1Cur_spoilt.R := exitK spec_l1Cur_spoilt.C Go.Proofs.Tryd.f56.results.toList [(false, [.any])] (decOut spec_l1Cur_spoilt.sig)
noncomputable def spec_l1Cur_spoilt.c1 : Code := codeAt (Go.Proofs.Tryd.f56.body.getD .skip) []
noncomputable def spec_l1Cur_spoilt.c2 : Code := codeAt (Go.Proofs.Tryd.f56.body.getD .skip) [false]
noncomputable def spec_l1Cur_spoilt.c7 : Code := codeAt (Go.Proofs.Tryd.f56.body.getD .skip) [true, true]
noncomputable def spec_l1Cur_spoilt.c12 : Code := codeAt (Go.Proofs.Tryd.f56.body.getD .skip) [true, false, false]
noncomputable def spec_l1Cur_spoilt.c52 : Code := codeAt (Go.Proofs.Tryd.f56.body.getD .skip) [true, false, true, false, false]
noncomputable def spec_l1Cur_spoilt.c104 : Code := codeAt (Go.Proofs.Tryd.f56.body.getD .skip) [true, false, true, false, false, false]
noncomputable def spec_l1Cur_spoilt.c105 : Code := codeAt (Go.Proofs.Tryd.f56.body.getD .skip) [true, false, true, false, false, true]
noncomputable def spec_l1Cur_spoilt.c210 : Code := codeAt (Go.Proofs.Tryd.f56.body.getD .skip) [true, false, true, false, false, true, false]
noncomputable def spec_l1Cur_spoilt.c211 : Code := codeAt (Go.Proofs.Tryd.f56.body.getD .skip) [true, false, true, false, false, true, true]
noncomputable def spec_l1Cur_spoilt.K211 (N : Nat) (Kn26 : St D0 → Option spec_l1Cur_spoilt.R) : Ex → St D0 → Option spec_l1Cur_spoilt.R := ((fun up => (onN (fun s => spec_l1Cur_spoilt.C.tidy 26 s ((onN Kn26 up) .normal)) (onN Kn26 up))) (blockK 0 (onN (fun s => spec_l1Cur_spoilt.C.tidy 6 s (fun s' => runC spec_l1Cur_spoilt.C (spec_l1Cur_spoilt.O N) N spec_l1Cur_spoilt.c7 7 s' spec_l1Cur_spoilt.K0)) spec_l1Cur_spoilt.K0)))
noncomputable def spec_l1Cur_spoilt.o3 (N : Nat) (v0 : ByteArray) (v1 : ByteArray) (v2 : Int) (v3 : List Int) (v4 : Int) (v5 : Int) (c1 : ByteArray → ByteArray → Int → (List Int) → Int → Int → Option spec_l1Cur_spoilt.R) : Option spec_l1Cur_spoilt.R :=
 c1 v0 v1 (w64 (v2 - 1)) v3 v4 v5
theorem spec_l1Cur_spoilt.o3.run (N : Nat) (Kn26 : St D0 → Option spec_l1Cur_spoilt.R) (v0 : ByteArray) (v1 : ByteArray) (v2 : Int) (v3 : List Int) (v4 : Int) (v5 : Int) : runC spec_l1Cur_spoilt.C (spec_l1Cur_spoilt.O N) N spec_l1Cur_spoilt.c211 211 (mkSt [(0, .one (.ptr 0 0)), (1, .one (.str v0)), (2, .one (.str v1)), (7, .one (.int .i64 v2))] [(0, some (67, [.sl false 5 v3, .int .i64 v4, .int .u64 v5]))] : St D0) ((fun up => (onN (fun s => spec_l1Cur_spoilt.C.tidy 26 s ((onN Kn26 up) .normal)) (onN Kn26 up))) (blockK 0 (onN (fun s => spec_l1Cur_spoilt.C.tidy 6 s (fun s' => runC spec_l1Cur_spoilt.C (spec_l1Cur_spoilt.O N) N spec_l1Cur_spoilt.c7 7 s' spec_l1Cur_spoilt.K0)) spec_l1Cur_spoilt.K0))) = spec_l1Cur_spoilt.o3 N v0 v1 v2 v3 v4 v5 ((fun w0 w1 w2 w3 w4 w5 => Kn26 (mkSt [(0, .one (.ptr 0 0)), (1, .one (.str w0)), (2, .one (.str w1)), (7, .one (.int .i64 w2))] [(0, some (67, [.sl false 5 w3, .int .i64 w4, .int .u64 w5]))] : St D0))) := by kernel_rfl
noncomputable def spec_l1Cur_spoilt.d3 (N : Nat) (v0 : ByteArray) (v1 : ByteArray) (v2 : Int) (v3 : List Int) (v4 : Int) (v5 : Int) (c1 : ByteArray → ByteArray → Int → (List Int) → Int → Int → Option spec_l1Cur_spoilt.R) : Option spec_l1Cur_spoilt.R := spec_l1Cur_spoilt.o3 N v0 v1 v2 v3 v4 v5 c1
theorem spec_l1Cur_spoilt.d3.run (N : Nat) (Kn26 : St D0 → Option spec_l1Cur_spoilt.R) (v0 : ByteArray) (v1 : ByteArray) (v2 : Int) (v3 : List Int) (v4 : Int) (v5 : Int) : runC spec_l1Cur_spoilt.C (spec_l1Cur_spoilt.O N) N spec_l1Cur_spoilt.c211 211 (mkSt [(0, .one (.ptr 0 0)), (1, .one (.str v0)), (2, .one (.str v1)), (7, .one (.int .i64 v2))] [(0, some (67, [.sl false 5 v3, .int .i64 v4, .int .u64 v5]))] : St D0) (spec_l1Cur_spoilt.K211 N Kn26) = spec_l1Cur_spoilt.d3 N v0 v1 v2 v3 v4 v5 ((fun w0 w1 w2 w3 w4 w5 => Kn26 (mkSt [(0, .one (.ptr 0 0)), (1, .one (.str w0)), (2, .one (.str w1)), (7, .one (.int .i64 w2))] [(0, some (67, [.sl false 5 w3, .int .i64 w4, .int .u64 w5]))] : St D0))) := by
  exact (spec_l1Cur_spoilt.o3.run N Kn26 v0 v1 v2 v3 v4 v5).trans rfl
noncomputable def spec_l1Cur_spoilt.K105 (N : Nat) (Kn26 : St D0 → Option spec_l1Cur_spoilt.R) : Ex → St D0 → Option spec_l1Cur_spoilt.R := ((fun up => (onN (fun s => spec_l1Cur_spoilt.C.tidy 26 s ((onN Kn26 up) .normal)) (onN Kn26 up))) (blockK 0 (onN (fun s => spec_l1Cur_spoilt.C.tidy 6 s (fun s' => runC spec_l1Cur_spoilt.C (spec_l1Cur_spoilt.O N) N spec_l1Cur_spoilt.c7 7 s' spec_l1Cur_spoilt.K0)) spec_l1Cur_spoilt.K0)))
noncomputable def spec_l1Cur_spoilt.o2 (N : Nat) (v0 : ByteArray) (v1 : ByteArray) (v2 : Int) (v3 : List Int) (v4 : Int) (v5 : Int) (c3 : ByteArray → ByteArray → Int → (List Int) → Int → Int → Option spec_l1Cur_spoilt.R) : Option spec_l1Cur_spoilt.R :=
 (spec_l1Cur_pick.g N (v0.size : Int) v3 v4 v5).bind fun r1 =>
 (spec_l1Cur_pick.g N (v1.size : Int) r1.2.1 r1.2.2.1 r1.2.2.2).bind fun r2 =>
 bif (decide (0 ≤ r2.1)) then
  bif (decide (r2.1 < (v1.size : Int))) then
   (numsO T0 5 ([(bt v1 r2.1)] : List Int)).bind fun r3 =>
   (spec_l1Cur_pick.g N 3 r2.2.1 r2.2.2.1 r2.2.2.2).bind fun r4 =>
   bif (r4.1 == 0) then
    bif (decide (0 ≤ r1.1)) then
     bif (decide (r1.1 ≤ (v0.size : Int))) then
      bif (decide (0 ≤ r1.1)) then
       bif (Nat.ble ((v0.extract (0 : Int).toNat (r1.1 : Int).toNat).size + (strOfNums r3).size) 9223372036854775807) then
        bif (decide (0 ≤ (v0.size : Int))) then
         bif (decide ((v0.size : Int) ≤ (v0.size : Int))) then
          bif (decide (0 ≤ r1.1)) then
           bif (decide (r1.1 ≤ (v0.size : Int))) then
            bif (Nat.ble (((v0.extract (0 : Int).toNat (r1.1 : Int).toNat) ++ (strOfNums r3)).size + (v0.extract (r1.1 : Int).toNat ((v0.size : Int) : Int).toNat).size) 9223372036854775807) then
             c3 (((v0.extract (0 : Int).toNat (r1.1 : Int).toNat) ++ (strOfNums r3)) ++ (v0.extract (r1.1 : Int).toNat ((v0.size : Int) : Int).toNat)) v1 v2 r4.2.1 r4.2.2.1 r4.2.2.2
            else
            none
           else
           none
          else
          none
         else
         none
        else
        none
       else
       none
      else
      none
     else
     none
    else
    none
   else
   bif (r4.1 == 1) then
    bif (decide (0 ≤ r1.1)) then
     bif (decide (r1.1 ≤ (v0.size : Int))) then
      bif (decide (0 ≤ r1.1)) then
       bif (Nat.ble ((v0.extract (0 : Int).toNat (r1.1 : Int).toNat).size + (strOfNums r3).size) 9223372036854775807) then
        bif (decide (0 ≤ (v0.size : Int))) then
         bif (decide ((v0.size : Int) ≤ (v0.size : Int))) then
          bif (decide (0 ≤ (w64 (r1.1 + 1)))) then
           bif (decide ((w64 (r1.1 + 1)) ≤ (v0.size : Int))) then
            bif (Nat.ble (((v0.extract (0 : Int).toNat (r1.1 : Int).toNat) ++ (strOfNums r3)).size + (v0.extract ((w64 (r1.1 + 1)) : Int).toNat ((v0.size : Int) : Int).toNat).size) 9223372036854775807) then
             c3 (((v0.extract (0 : Int).toNat (r1.1 : Int).toNat) ++ (strOfNums r3)) ++ (v0.extract ((w64 (r1.1 + 1)) : Int).toNat ((v0.size : Int) : Int).toNat)) v1 v2 r4.2.1 r4.2.2.1 r4.2.2.2
            else
            none
           else
           none
          else
          none
         else
         none
        else
        none
       else
       none
      else
      none
     else
     none
    else
    none
   else
   bif (decide (0 ≤ r1.1)) then
    bif (decide (r1.1 ≤ (v0.size : Int))) then
     bif (decide (0 ≤ r1.1)) then
      bif (decide (0 ≤ (v0.size : Int))) then
       bif (decide ((v0.size : Int) ≤ (v0.size : Int))) then
        bif (decide (0 ≤ (w64 (r1.1 + 1)))) then
         bif (decide ((w64 (r1.1 + 1)) ≤ (v0.size : Int))) then
          bif (Nat.ble ((v0.extract (0 : Int).toNat (r1.1 : Int).toNat).size + (v0.extract ((w64 (r1.1 + 1)) : Int).toNat ((v0.size : Int) : Int).toNat).size) 9223372036854775807) then
           c3 ((v0.extract (0 : Int).toNat (r1.1 : Int).toNat) ++ (v0.extract ((w64 (r1.1 + 1)) : Int).toNat ((v0.size : Int) : Int).toNat)) v1 v2 r4.2.1 r4.2.2.1 r4.2.2.2
          else
          none
         else
         none
        else
        none
       else
       none
      else
      none
     else
     none
    else
    none
   else
   none
  else
  none
 else
 none
theorem spec_l1Cur_spoilt.o2.run (N : Nat) (Kn26 : St D0 → Option spec_l1Cur_spoilt.R) (H211 : Code) (v0 : ByteArray) (v1 : ByteArray) (v2 : Int) (v3 : List Int) (v4 : Int) (v5 : Int) : runC spec_l1Cur_spoilt.C (spec_l1Cur_spoilt.O N) N (.seq spec_l1Cur_spoilt.c210 H211) 105 (mkSt [(0, .one (.ptr 0 0)), (1, .one (.str v0)), (2, .one (.str v1)), (7, .one (.int .i64 v2))] [(0, some (67, [.sl false 5 v3, .int .i64 v4, .int .u64 v5]))] : St D0) ((fun up => (onN (fun s => spec_l1Cur_spoilt.C.tidy 26 s ((onN Kn26 up) .normal)) (onN Kn26 up))) (blockK 0 (onN (fun s => spec_l1Cur_spoilt.C.tidy 6 s (fun s' => runC spec_l1Cur_spoilt.C (spec_l1Cur_spoilt.O N) N spec_l1Cur_spoilt.c7 7 s' spec_l1Cur_spoilt.K0)) spec_l1Cur_spoilt.K0))) = spec_l1Cur_spoilt.o2 N v0 v1 v2 v3 v4 v5 ((fun w0 w1 w2 w3 w4 w5 => runC spec_l1Cur_spoilt.C (spec_l1Cur_spoilt.O N) N H211 211 (mkSt [(0, .one (.ptr 0 0)), (1, .one (.str w0)), (2, .one (.str w1)), (7, .one (.int .i64 w2))] [(0, some (67, [.sl false 5 w3, .int .i64 w4, .int .u64 w5]))] : St D0) ((fun up => (onN (fun s => spec_l1Cur_spoilt.C.tidy 26 s ((onN Kn26 up) .normal)) (onN Kn26 up))) (blockK 0 (onN (fun s => spec_l1Cur_spoilt.C.tidy 6 s (fun s' => runC spec_l1Cur_spoilt.C (spec_l1Cur_spoilt.O N) N spec_l1Cur_spoilt.c7 7 s' spec_l1Cur_spoilt.K0)) spec_l1Cur_spoilt.K0))))) := by kernel_rfl
noncomputable def spec_l1Cur_spoilt.B105 (N : Nat) (Kn26 : St D0 → Option spec_l1Cur_spoilt.R) : St D0 → Option spec_l1Cur_spoilt.R := fun s' => runC spec_l1Cur_spoilt.C (spec_l1Cur_spoilt.O N) N spec_l1Cur_spoilt.c211 211 s' (spec_l1Cur_spoilt.K211 N Kn26)
noncomputable def spec_l1Cur_spoilt.d2 (N : Nat) (v0 : ByteArray) (v1 : ByteArray) (v2 : Int) (v3 : List Int) (v4 : Int) (v5 : Int) (c1 : ByteArray → ByteArray → Int → (List Int) → Int → Int → Option spec_l1Cur_spoilt.R) : Option spec_l1Cur_spoilt.R := spec_l1Cur_spoilt.o2 N v0 v1 v2 v3 v4 v5 ((fun w0 w1 w2 w3 w4 w5 => spec_l1Cur_spoilt.d3 N w0 w1 w2 w3 w4 w5 c1))
theorem spec_l1Cur_spoilt.c105_2 : spec_l1Cur_spoilt.c105 = (.seq spec_l1Cur_spoilt.c210 spec_l1Cur_spoilt.c211) := by kernel_rfl
theorem spec_l1Cur_spoilt.d2.run (N : Nat) (Kn26 : St D0 → Option spec_l1Cur_spoilt.R) (v0 : ByteArray) (v1 : ByteArray) (v2 : Int) (v3 : List Int) (v4 : Int) (v5 : Int) : runC spec_l1Cur_spoilt.C (spec_l1Cur_spoilt.O N) N spec_l1Cur_spoilt.c105 105 (mkSt [(0, .one (.ptr 0 0)), (1, .one (.str v0)), (2, .one (.str v1)), (7, .one (.int .i64 v2))] [(0, some (67, [.sl false 5 v3, .int .i64 v4, .int .u64 v5]))] : St D0) (spec_l1Cur_spoilt.K105 N Kn26) = spec_l1Cur_spoilt.d2 N v0 v1 v2 v3 v4 v5 ((fun w0 w1 w2 w3 w4 w5 => Kn26 (mkSt [(0, .one (.ptr 0 0)), (1, .one (.str w0)), (2, .one (.str w1)), (7, .one (.int .i64 w2))] [(0, some (67, [.sl false 5 w3, .int .i64 w4, .int .u64 w5]))] : St D0))) := by
  rw [spec_l1Cur_spoilt.c105_2]; unfold spec_l1Cur_spoilt.d2; exact (spec_l1Cur_spoilt.o2.run N Kn26 spec_l1Cur_spoilt.c211 v0 v1 v2 v3 v4 v5).trans (congr rfl (funext fun w0 => funext fun w1 => funext fun w2 => funext fun w3 => funext fun w4 => funext fun w5 => spec_l1Cur_spoilt.d3.run N Kn26 w0 w1 w2 w3 w4 w5))
noncomputable def spec_l1Cur_spoilt.K52 (N : Nat) (Kn26 : St D0 → Option spec_l1Cur_spoilt.R) : Ex → St D0 → Option spec_l1Cur_spoilt.R := ((fun up => (onN (fun s => spec_l1Cur_spoilt.C.tidy 26 s ((onN Kn26 up) .normal)) (onN Kn26 up))) (blockK 0 (onN (fun s => spec_l1Cur_spoilt.C.tidy 6 s (fun s' => runC spec_l1Cur_spoilt.C (spec_l1Cur_spoilt.O N) N spec_l1Cur_spoilt.c7 7 s' spec_l1Cur_spoilt.K0)) spec_l1Cur_spoilt.K0)))
noncomputable def spec_l1Cur_spoilt.o1 (N : Nat) (v0 : ByteArray) (v1 : ByteArray) (v2 : Int) (v3 : List Int) (v4 : Int) (v5 : Int) (c2 : ByteArray → ByteArray → Int → (List Int) → Int → Int → Option spec_l1Cur_spoilt.R) : Option spec_l1Cur_spoilt.R :=
 bif (decide (v2 > 0)) then
  bif (decide ((v0.size : Int) > 0)) then
   c2 v0 v1 v2 v3 v4 v5
  else
  some (v0, v3, v4, v5)
 else
 some (v0, v3, v4, v5)
theorem spec_l1Cur_spoilt.o1.run (N : Nat) (Kn26 : St D0 → Option spec_l1Cur_spoilt.R) (H105 : Code) (v0 : ByteArray) (v1 : ByteArray) (v2 : Int) (v3 : List Int) (v4 : Int) (v5 : Int) : runC spec_l1Cur_spoilt.C (spec_l1Cur_spoilt.O N) N (.seq spec_l1Cur_spoilt.c104 H105) 52 (mkSt [(0, .one (.ptr 0 0)), (1, .one (.str v0)), (2, .one (.str v1)), (7, .one (.int .i64 v2))] [(0, some (67, [.sl false 5 v3, .int .i64 v4, .int .u64 v5]))] : St D0) ((fun up => (onN (fun s => spec_l1Cur_spoilt.C.tidy 26 s ((onN Kn26 up) .normal)) (onN Kn26 up))) (blockK 0 (onN (fun s => spec_l1Cur_spoilt.C.tidy 6 s (fun s' => runC spec_l1Cur_spoilt.C (spec_l1Cur_spoilt.O N) N spec_l1Cur_spoilt.c7 7 s' spec_l1Cur_spoilt.K0)) spec_l1Cur_spoilt.K0))) = spec_l1Cur_spoilt.o1 N v0 v1 v2 v3 v4 v5 ((fun w0 w1 w2 w3 w4 w5 => runC spec_l1Cur_spoilt.C (spec_l1Cur_spoilt.O N) N H105 105 (mkSt [(0, .one (.ptr 0 0)), (1, .one (.str w0)), (2, .one (.str w1)), (7, .one (.int .i64 w2))] [(0, some (67, [.sl false 5 w3, .int .i64 w4, .int .u64 w5]))] : St D0) ((fun up => (onN (fun s => spec_l1Cur_spoilt.C.tidy 26 s ((onN Kn26 up) .normal)) (onN Kn26 up))) (blockK 0 (onN (fun s => spec_l1Cur_spoilt.C.tidy 6 s (fun s' => runC spec_l1Cur_spoilt.C (spec_l1Cur_spoilt.O N) N spec_l1Cur_spoilt.c7 7 s' spec_l1Cur_spoilt.K0)) spec_l1Cur_spoilt.K0))))) := by kernel_rfl
noncomputable def spec_l1Cur_spoilt.B52 (N : Nat) (Kn26 : St D0 → Option spec_l1Cur_spoilt.R) : St D0 → Option spec_l1Cur_spoilt.R := fun s' => runC spec_l1Cur_spoilt.C (spec_l1Cur_spoilt.O N) N spec_l1Cur_spoilt.c105 105 s' (spec_l1Cur_spoilt.K105 N Kn26)
noncomputable def spec_l1Cur_spoilt.d1 (N : Nat) (v0 : ByteArray) (v1 : ByteArray) (v2 : Int) (v3 : List Int) (v4 : Int) (v5 : Int) (c1 : ByteArray → ByteArray → Int → (List Int) → Int → Int → Option spec_l1Cur_spoilt.R) : Option spec_l1Cur_spoilt.R := spec_l1Cur_spoilt.o1 N v0 v1 v2 v3 v4 v5 ((fun w0 w1 w2 w3 w4 w5 => spec_l1Cur_spoilt.d2 N w0 w1 w2 w3 w4 w5 c1))
theorem spec_l1Cur_spoilt.c52_1 : spec_l1Cur_spoilt.c52 = (.seq spec_l1Cur_spoilt.c104 spec_l1Cur_spoilt.c105) := by kernel_rfl
theorem spec_l1Cur_spoilt.d1.run (N : Nat) (Kn26 : St D0 → Option spec_l1Cur_spoilt.R) (v0 : ByteArray) (v1 : ByteArray) (v2 : Int) (v3 : List Int) (v4 : Int) (v5 : Int) : runC spec_l1Cur_spoilt.C (spec_l1Cur_spoilt.O N) N spec_l1Cur_spoilt.c52 52 (mkSt [(0, .one (.ptr 0 0)), (1, .one (.str v0)), (2, .one (.str v1)), (7, .one (.int .i64 v2))] [(0, some (67, [.sl false 5 v3, .int .i64 v4, .int .u64 v5]))] : St D0) (spec_l1Cur_spoilt.K52 N Kn26) = spec_l1Cur_spoilt.d1 N v0 v1 v2 v3 v4 v5 ((fun w0 w1 w2 w3 w4 w5 => Kn26 (mkSt [(0, .one (.ptr 0 0)), (1, .one (.str w0)), (2, .one (.str w1)), (7, .one (.int .i64 w2))] [(0, some (67, [.sl false 5 w3, .int .i64 w4, .int .u64 w5]))] : St D0))) := by
  rw [spec_l1Cur_spoilt.c52_1]; unfold spec_l1Cur_spoilt.d1; exact (spec_l1Cur_spoilt.o1.run N Kn26 spec_l1Cur_spoilt.c105 v0 v1 v2 v3 v4 v5).trans (congr rfl (funext fun w0 => funext fun w1 => funext fun w2 => funext fun w3 => funext fun w4 => funext fun w5 => spec_l1Cur_spoilt.d2.run N Kn26 w0 w1 w2 w3 w4 w5))
noncomputable def spec_l1Cur_spoilt.K26 (N : Nat) : Ex → St D0 → Option spec_l1Cur_spoilt.R := (blockK 0 (onN (fun s => spec_l1Cur_spoilt.C.tidy 6 s (fun s' => runC spec_l1Cur_spoilt.C (spec_l1Cur_spoilt.O N) N spec_l1Cur_spoilt.c7 7 s' spec_l1Cur_spoilt.K0)) spec_l1Cur_spoilt.K0))
noncomputable def spec_l1Cur_spoilt.l1 (N : Nat) : Nat → ByteArray → ByteArray → Int → (List Int) → Int → Int → Option spec_l1Cur_spoilt.R
  | 0, _, _, _, _, _, _ => none
  | n + 1, v0, v1, v2, v3, v4, v5 => spec_l1Cur_spoilt.d1 N v0 v1 v2 v3 v4 v5 ((fun w0 w1 w2 w3 w4 w5 => spec_l1Cur_spoilt.l1 N n w0 w1 w2 w3 w4 w5))
theorem spec_l1Cur_spoilt.loop26 (N : Nat) : ∀ n, (∀ (v0 : ByteArray) (v1 : ByteArray) (v2 : Int) (v3 : List Int) (v4 : Int) (v5 : Int), iter (loopF spec_l1Cur_spoilt.C (spec_l1Cur_spoilt.O N) N spec_l1Cur_spoilt.c52 26) n (mkSt [(0, .one (.ptr 0 0)), (1, .one (.str v0)), (2, .one (.str v1)), (7, .one (.int .i64 v2))] [(0, some (67, [.sl false 5 v3, .int .i64 v4, .int .u64 v5]))] : St D0) (spec_l1Cur_spoilt.K26 N) = spec_l1Cur_spoilt.l1 N n v0 v1 v2 v3 v4 v5)
  | 0 => (fun v0 v1 v2 v3 v4 v5 => rfl)
  | n + 1 => (fun v0 v1 v2 v3 v4 v5 => (spec_l1Cur_spoilt.d1.run N (fun s => iter (loopF spec_l1Cur_spoilt.C (spec_l1Cur_spoilt.O N) N spec_l1Cur_spoilt.c52 26) n s (spec_l1Cur_spoilt.K26 N)) v0 v1 v2 v3 v4 v5).trans (show _ = spec_l1Cur_spoilt.d1 N v0 v1 v2 v3 v4 v5 ((fun w0 w1 w2 w3 w4 w5 => spec_l1Cur_spoilt.l1 N n w0 w1 w2 w3 w4 w5)) from (congr rfl (funext fun w0 => funext fun w1 => funext fun w2 => funext fun w3 => funext fun w4 => funext fun w5 => (spec_l1Cur_spoilt.loop26 N n) w0 w1 w2 w3 w4 w5))))
noncomputable def spec_l1Cur_spoilt.o0 (N : Nat) (a1 : ByteArray) (a2 : ByteArray) (b0_0 : List Int) (b0_1 : Int) (b0_2 : Int) (c1 : ByteArray → ByteArray → Int → (List Int) → Int → Int → Option spec_l1Cur_spoilt.R) : Option spec_l1Cur_spoilt.R :=
 (spec_l1Cur_pick.g N 2 b0_0 b0_1 b0_2).bind fun r1 =>
 c1 a1 a2 (w64 (1 + r1.1)) r1.2.1 r1.2.2.1 r1.2.2.2
theorem spec_l1Cur_spoilt.o0.run (N : Nat) (H52 : Code) (a1 : ByteArray) (a2 : ByteArray) (b0_0 : List Int) (b0_1 : Int) (b0_2 : Int) : runC spec_l1Cur_spoilt.C (spec_l1Cur_spoilt.O N) N (.seq spec_l1Cur_spoilt.c2 (.seq (.seq spec_l1Cur_spoilt.c12 (.block 0 (.loop H52))) spec_l1Cur_spoilt.c7)) 1 (st0 [.one (.ptr 0 0), .one (.str a1), .one (.str a2)] [(67, [.sl false 5 b0_0, .int .i64 b0_1, .int .u64 b0_2])] : St D0) spec_l1Cur_spoilt.K0 = spec_l1Cur_spoilt.o0 N a1 a2 b0_0 b0_1 b0_2 ((fun w0 w1 w2 w3 w4 w5 => iter (loopF spec_l1Cur_spoilt.C (spec_l1Cur_spoilt.O N) N H52 26) N (mkSt [(0, .one (.ptr 0 0)), (1, .one (.str w0)), (2, .one (.str w1)), (7, .one (.int .i64 w2))] [(0, some (67, [.sl false 5 w3, .int .i64 w4, .int .u64 w5]))] : St D0) (blockK 0 (onN (fun s => spec_l1Cur_spoilt.C.tidy 6 s (fun s' => runC spec_l1Cur_spoilt.C (spec_l1Cur_spoilt.O N) N spec_l1Cur_spoilt.c7 7 s' spec_l1Cur_spoilt.K0)) spec_l1Cur_spoilt.K0)))) := by kernel_rfl
noncomputable def spec_l1Cur_spoilt.g (N : Nat) (a1 : ByteArray) (a2 : ByteArray) (b0_0 : List Int) (b0_1 : Int) (b0_2 : Int) : Option spec_l1Cur_spoilt.R := spec_l1Cur_spoilt.o0 N a1 a2 b0_0 b0_1 b0_2 ((fun w0 w1 w2 w3 w4 w5 => spec_l1Cur_spoilt.l1 N N w0 w1 w2 w3 w4 w5))
theorem spec_l1Cur_spoilt.c1_0 : spec_l1Cur_spoilt.c1 = (.seq spec_l1Cur_spoilt.c2 (.seq (.seq spec_l1Cur_spoilt.c12 (.block 0 (.loop spec_l1Cur_spoilt.c52))) spec_l1Cur_spoilt.c7)) := by kernel_rfl
theorem spec_l1Cur_spoilt.g.run (N : Nat) (a1 : ByteArray) (a2 : ByteArray) (b0_0 : List Int) (b0_1 : Int) (b0_2 : Int) : runC spec_l1Cur_spoilt.C (spec_l1Cur_spoilt.O N) N spec_l1Cur_spoilt.c1 1 (st0 [.one (.ptr 0 0), .one (.str a1), .one (.str a2)] [(67, [.sl false 5 b0_0, .int .i64 b0_1, .int .u64 b0_2])] : St D0) spec_l1Cur_spoilt.K0 = spec_l1Cur_spoilt.g N a1 a2 b0_0 b0_1 b0_2 := by
  rw [spec_l1Cur_spoilt.c1_0]; unfold spec_l1Cur_spoilt.g; exact (spec_l1Cur_spoilt.o0.run N spec_l1Cur_spoilt.c52 a1 a2 b0_0 b0_1 b0_2).trans (congr rfl (funext fun w0 => funext fun w1 => funext fun w2 => funext fun w3 => funext fun w4 => funext fun w5 => (spec_l1Cur_spoilt.loop26 N N) w0 w1 w2 w3 w4 w5))
theorem spec_l1Cur_spoilt.good (N : Nat) (a1 : ByteArray) (a2 : ByteArray) (b0_0 : List Int) (b0_1 : Int) (b0_2 : Int) (r : spec_l1Cur_spoilt.R) (h : spec_l1Cur_spoilt.g N a1 a2 b0_0 b0_1 b0_2 = some r) : Go.PM.Good Go.Proofs.Tryd.prog T0 56 [.one (.ptr 0 0), .one (.str a1), .one (.str a2)] [(67, [.sl false 5 b0_0, .int .i64 b0_1, .int .u64 b0_2])] (spec_l1Cur_spoilt.sig.ret r) (spec_l1Cur_spoilt.sig.bs r) :=
  good_fn tabOk0 mixed0 spec_l1Cur_spoilt.sig (spec_l1Cur_spoilt.E N) Go.Proofs.Tryd.func56 (by kernel_rfl) (by kernel_rfl) 36046423565272007 0 1 [(26, [0, 1, 2, 7], [0]), (104, [0, 1, 2, 7], [0]), (210, [0, 1, 2, 7], [0])] 15427856452832797696 false [] [(false, [.any])] (by kernel_rfl) rfl rfl ((spec_l1Cur_spoilt.g.run N a1 a2 b0_0 b0_1 b0_2).trans h)
noncomputable def spec_l1Cur_spoilt.ent (N : Nat) : Ent Go.Proofs.Tryd.prog T0 := mkEnt 56 [(false, [.any]), (false, [.any]), (false, [.any])] spec_l1Cur_spoilt.sig (fun t => spec_l1Cur_spoilt.g N t.2.1 t.2.2.1 t.2.2.2.1 t.2.2.2.2.1 t.2.2.2.2.2) (fun t r h => spec_l1Cur_spoilt.good N t.2.1 t.2.2.1 t.2.2.2.1 t.2.2.2.2.1 t.2.2.2.2.2 r h)
end Go.Proofs.YtpmipkbfohcjiaaDoor.M

namespace Go.Proofs.YtpmipkbfohcjiaaDoor.M
open Go Go.PM Go.Proofs.YtpmipkbfohcjiaaDoor.P
set_option linter.unusedVariables false
set_option maxRecDepth 100000
/-! ### spec_DrawParseTune -/
abbrev spec_DrawParseTune.R : Type := ByteArray
abbrev spec_DrawParseTune.sig : Sig := ⟨[(false, 1)], [], [.sl false 5], [(false, 1)], [], [.str]⟩
noncomputable def spec_DrawParseTune.C : Cfg D0 := ⟨Go.Proofs.Tryd.prog, T0, 4125, 0, 17, 0, [(30, [4], [])], 26880, false, []⟩
noncomputable def spec_DrawParseTune.E (N : Nat) : List (Ent Go.Proofs.Tryd.prog T0) := [spec_l1Cur_sureTune.ent N, spec_beText.ent N, spec_l1Cur_one.ent N, spec_l1Cur_spoilt.ent N]
noncomputable def spec_DrawParseTune.O (N : Nat) : Orc D0 spec_DrawParseTune.R := orcOf (spec_DrawParseTune.E N)
noncomputable def spec_DrawParseTune.K0 : Ex → St D0 → Option spec_DrawParseTune.R := exitK spec_DrawParseTune.C Go.Proofs.Tryd.f29.results.toList [(false, [.any])] (decOut spec_DrawParseTune.sig)
noncomputable def spec_DrawParseTune.c1 : Code := codeAt (Go.Proofs.Tryd.f29.body.getD .skip) []
noncomputable def spec_DrawParseTune.c2 : Code := codeAt (Go.Proofs.Tryd.f29.body.getD .skip) [false]
noncomputable def spec_DrawParseTune.c6 : Code := codeAt (Go.Proofs.Tryd.f29.body.getD .skip) [true, false]
noncomputable def spec_DrawParseTune.c14 : Code := codeAt (Go.Proofs.Tryd.f29.body.getD .skip) [true, true, false]
noncomputable def spec_DrawParseTune.c30 : Code := codeAt (Go.Proofs.Tryd.f29.body.getD .skip) [true, true, true, false]
noncomputable def spec_DrawParseTune.c31 : Code := codeAt (Go.Proofs.Tryd.f29.body.getD .skip) [true, true, true, true]
noncomputable def spec_DrawParseTune.K31 (N : Nat) : Ex → St D0 → Option spec_DrawParseTune.R := spec_DrawParseTune.K0
noncomputable def spec_DrawParseTune.o1 (N : Nat) (v0 : ByteArray) : Option spec_DrawParseTune.R :=
 some (v0)
theorem spec_DrawParseTune.o1.run (N : Nat) (v0 : ByteArray) : runC spec_DrawParseTune.C (spec_DrawParseTune.O N) N spec_DrawParseTune.c31 31 (mkSt [(4, .one (.str v0))] [] : St D0) spec_DrawParseTune.K0 = spec_DrawParseTune.o1 N v0 := by kernel_rfl
noncomputable def spec_DrawParseTune.d1 (N : Nat) (v0 : ByteArray) : Option spec_DrawParseTune.R := spec_DrawParseTune.o1 N v0
theorem spec_DrawParseTune.d1.run (N : Nat) (v0 : ByteArray) : runC spec_DrawParseTune.C (spec_DrawParseTune.O N) N spec_DrawParseTune.c31 31 (mkSt [(4, .one (.str v0))] [] : St D0) (spec_DrawParseTune.K31 N) = spec_DrawParseTune.d1 N v0 := by
  exact (spec_DrawParseTune.o1.run N v0).trans rfl
noncomputable def spec_DrawParseTune.o0 (N : Nat) (a0 : List Int) (c1 : ByteArray → Option spec_DrawParseTune.R) : Option spec_DrawParseTune.R :=
 (spec_l1Cur_sureTune.g N a0 0 0).bind fun r1 =>
 (spec_beText.g N r1.1).bind fun r2 =>
 (spec_l1Cur_one.g N 3 r1.2.1 r1.2.2.1 r1.2.2.2).bind fun r3 =>
 bif r3.1 then
  (spec_l1Cur_spoilt.g N r2 (⟨#[49, 50, 51, 56, 57, 47, 48]⟩ : ByteArray) r3.2.1 r3.2.2.1 r3.2.2.2).bind fun r4 =>
  c1 r4.1
 else
 c1 r2
theorem spec_DrawParseTune.o0.run (N : Nat) (H31 : Code) (a0 : List Int) : runC spec_DrawParseTune.C (spec_DrawParseTune.O N) N (.seq spec_DrawParseTune.c2 (.seq spec_DrawParseTune.c6 (.seq spec_DrawParseTune.c14 (.seq spec_DrawParseTune.c30 H31)))) 1 (st0 [.one (.sl false 5 a0)] [] : St D0) spec_DrawParseTune.K0 = spec_DrawParseTune.o0 N a0 ((fun w0 => runC spec_DrawParseTune.C (spec_DrawParseTune.O N) N H31 31 (mkSt [(4, .one (.str w0))] [] : St D0) spec_DrawParseTune.K0)) := by kernel_rfl
noncomputable def spec_DrawParseTune.B15 (N : Nat) : St D0 → Option spec_DrawParseTune.R := fun s' => runC spec_DrawParseTune.C (spec_DrawParseTune.O N) N spec_DrawParseTune.c31 31 s' (spec_DrawParseTune.K31 N)
noncomputable def spec_DrawParseTune.g (N : Nat) (a0 : List Int) : Option spec_DrawParseTune.R := spec_DrawParseTune.o0 N a0 ((fun w0 => spec_DrawParseTune.d1 N w0))
theorem spec_DrawParseTune.c1_0 : spec_DrawParseTune.c1 = (.seq spec_DrawParseTune.c2 (.seq spec_DrawParseTune.c6 (.seq spec_DrawParseTune.c14 (.seq spec_DrawParseTune.c30 spec_DrawParseTune.c31)))) := by kernel_rfl
theorem spec_DrawParseTune.g.run (N : Nat) (a0 : List Int) : runC spec_DrawParseTune.C (spec_DrawParseTune.O N) N spec_DrawParseTune.c1 1 (st0 [.one (.sl false 5 a0)] [] : St D0) spec_DrawParseTune.K0 = spec_DrawParseTune.g N a0 := by
  rw [spec_DrawParseTune.c1_0]; unfold spec_DrawParseTune.g; exact (spec_DrawParseTune.o0.run N spec_DrawParseTune.c31 a0).trans (congr rfl (funext fun w0 => spec_DrawParseTune.d1.run N w0))
theorem spec_DrawParseTune.good (N : Nat) (a0 : List Int) (r : spec_DrawParseTune.R) (h : spec_DrawParseTune.g N a0 = some r) : Go.PM.Good Go.Proofs.Tryd.prog T0 29 [.one (.sl false 5 a0)] [] (spec_DrawParseTune.sig.ret r) (spec_DrawParseTune.sig.bs r) :=
  good_fn tabOk0 mixed0 spec_DrawParseTune.sig (spec_DrawParseTune.E N) Go.Proofs.Tryd.func29 (by kernel_rfl) (by kernel_rfl) 4125 0 0 [(30, [4], [])] 26880 false [] [(false, [.any])] (by kernel_rfl) rfl rfl ((spec_DrawParseTune.g.run N a0).trans h)
noncomputable def spec_DrawParseTune.ent (N : Nat) : Ent Go.Proofs.Tryd.prog T0 := mkEnt 29 [(false, [.ro 5])] spec_DrawParseTune.sig (fun t => spec_DrawParseTune.g N t) (fun t r h => spec_DrawParseTune.good N t r h)
end Go.Proofs.YtpmipkbfohcjiaaDoor.M
