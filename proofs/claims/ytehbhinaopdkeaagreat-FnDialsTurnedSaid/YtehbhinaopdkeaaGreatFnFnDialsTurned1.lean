/- What the program's functions compute, walked by the machine (part 1). No conditions but those stated. -/
import Derived.Test.YtehbhinaopdkeaaGreatPm3
import Derived.Test.YtehbhinaopdkeaaGreatProg
import Derived.Test.YtehbhinaopdkeaaGreatShelf
import Derived.WalkKit
import Derived.Lib.Walk
import Derived.OwnWalk
import Derived.Laws.StructEq
import Derived.Shelf.SlicesQ.Load
namespace Go.Proofs.YtehbhinaopdkeaaGreat.M
open Go Go.PM
set_option linter.unusedVariables false
set_option maxRecDepth 100000
end Go.Proofs.YtehbhinaopdkeaaGreat.M
namespace Go.Proofs.YtehbhinaopdkeaaGreat.P
structure S25 where
  f0 : Int
  f1 : Int
def z25 : S25 := ⟨0, 0⟩
def rd_T25 (xs : List S25) (i : Int) : S25 := xs.getD i.toNat z25
structure S27 where
  f0 : Int
  f1 : Int
  f2 : Int
  f3 : Int
def z27 : S27 := ⟨0, 0, 0, 0⟩
def rd_T27 (xs : List S27) (i : Int) : S27 := xs.getD i.toNat z27
end Go.Proofs.YtehbhinaopdkeaaGreat.P
namespace Go.Proofs.YtehbhinaopdkeaaGreat.M
open Go Go.PM Go.Proofs.YtehbhinaopdkeaaGreat.P
abbrev D0 : TypeId → Type
  | 3 => Int
  | 5 => Int
  | 25 => S25
  | 27 => S27
  | _ => Unit
def T0 : Tab D0 where
  size := fun e => match e with
    | 3 => 1
    | 5 => 1
    | 25 => 2
    | 27 => 4
    | _ => 0
  out := fun e x => match e, x with
    | 3, x => [.int .i64 x]
    | 5, x => [.int .u8 x]
    | 25, x => [.int .i64 x.f0, .int .i64 x.f1]
    | 27, x => [.int .i64 x.f0, .int .i64 x.f1, .int .i64 x.f2, .int .i64 x.f3]
    | _, _ => []
  inn := fun e ls => match e, ls with
    | 3, [.int .i64 x0] => some x0
    | 5, [.int .u8 x0] => some x0
    | 25, [.int .i64 x0, .int .i64 x1] => some ⟨x0, x1⟩
    | 27, [.int .i64 x0, .int .i64 x1, .int .i64 x2, .int .i64 x3] => some ⟨x0, x1, x2, x3⟩
    | _, _ => none
  kd := fun e => match e with
    | 3 => [13]
    | 5 => [14]
    | 25 => [13, 13]
    | 27 => [13, 13, 13, 13]
    | _ => []
theorem tabOk0 : TabOk T0 where
  out_len := by
    intro e x
    simp only [T0]
    split <;> first | rfl | (split <;> first | rfl | (rename_i h _ _ _ _; exact absurd HEq.rfl (fun h' => h _ rfl h')) | simp_all)
  kd_ok := by
    intro e x
    simp only [T0]
    split <;> first | rfl | (split <;> first | rfl | (rename_i h _ _ _ _; exact absurd HEq.rfl (fun h' => h _ rfl h')) | simp_all)
  inn_ok := by
    intro e ls x h C blk vs hF
    simp only [T0] at h
    split at h <;> first | (cases h; done) | (simp only [Option.some.injEq] at h; subst h; exact tab_inn hF rfl) | (split at h <;> first | (cases h; done) | (rename_i he; simp only [Option.some.injEq] at h; subst h; subst he; exact tab_inn_sl rfl hF))
theorem mixed0 : Go.Proofs.Tryz.prog.follows .mixedOrders = true := by kernel_rfl
end Go.Proofs.YtehbhinaopdkeaaGreat.M

namespace Go.Proofs.YtehbhinaopdkeaaGreat.M
open Go Go.PM Go.Proofs.YtehbhinaopdkeaaGreat.P
set_option linter.unusedVariables false
set_option maxRecDepth 100000
/-! ### impl_within -/
abbrev impl_within.R : Type := Bool
abbrev impl_within.sig : Sig := ⟨[(false, 1), (false, 1), (false, 1)], [], [.int .i64, .int .i64, .int .i64], [(false, 1)], [], [.bool]⟩
noncomputable def impl_within.C : Cfg D0 := ⟨Go.Proofs.Tryz.prog, T0, 71, 0, 15, 0, [], 6528, false, []⟩
noncomputable def impl_within.E (N : Nat) : List (Ent Go.Proofs.Tryz.prog T0) := []
noncomputable def impl_within.O (N : Nat) : Orc D0 impl_within.R := orcOf (impl_within.E N)
noncomputable def impl_within.K0 : Ex → St D0 → Option impl_within.R := exitK impl_within.C Go.Proofs.Tryz.f63.results.toList [(false, [.any])] (decOut impl_within.sig)
noncomputable def impl_within.c1 : Code := codeAt (Go.Proofs.Tryz.f63.body.getD .skip) []
noncomputable def impl_within.o0 (N : Nat) (a0 : Int) (a1 : Int) (a2 : Int) : Option impl_within.R :=
 bif (decide (a0 ≥ a1)) then
  some ((decide (a0 ≤ a2)))
 else
 some (false)
theorem impl_within.o0.run (N : Nat) (a0 : Int) (a1 : Int) (a2 : Int) : runC impl_within.C (impl_within.O N) N impl_within.c1 1 (st0 [.one (.int .i64 a0), .one (.int .i64 a1), .one (.int .i64 a2)] [] : St D0) impl_within.K0 = impl_within.o0 N a0 a1 a2 := by kernel_rfl
noncomputable def impl_within.g (N : Nat) (a0 : Int) (a1 : Int) (a2 : Int) : Option impl_within.R := impl_within.o0 N a0 a1 a2
theorem impl_within.g.run (N : Nat) (a0 : Int) (a1 : Int) (a2 : Int) : runC impl_within.C (impl_within.O N) N impl_within.c1 1 (st0 [.one (.int .i64 a0), .one (.int .i64 a1), .one (.int .i64 a2)] [] : St D0) impl_within.K0 = impl_within.g N a0 a1 a2 := by
  exact (impl_within.o0.run N a0 a1 a2).trans rfl
theorem impl_within.good (N : Nat) (a0 : Int) (a1 : Int) (a2 : Int) (r : impl_within.R) (h : impl_within.g N a0 a1 a2 = some r) : Go.PM.Good Go.Proofs.Tryz.prog T0 63 [.one (.int .i64 a0), .one (.int .i64 a1), .one (.int .i64 a2)] [] (impl_within.sig.ret r) (impl_within.sig.bs r) :=
  good_fn tabOk0 mixed0 impl_within.sig (impl_within.E N) Go.Proofs.Tryz.func63 (by kernel_rfl) (by kernel_rfl) 71 0 0 [] 6528 false [] [(false, [.any])] (by kernel_rfl) rfl rfl ((impl_within.g.run N a0 a1 a2).trans h)
noncomputable def impl_within.ent (N : Nat) : Ent Go.Proofs.Tryz.prog T0 := mkEnt 63 [(false, [.any]), (false, [.any]), (false, [.any])] impl_within.sig (fun t => impl_within.g N t.1 t.2.1 t.2.2) (fun t r h => impl_within.good N t.1 t.2.1 t.2.2 r h)
end Go.Proofs.YtehbhinaopdkeaaGreat.M

namespace Go.Proofs.YtehbhinaopdkeaaGreat.M
open Go Go.PM Go.Proofs.YtehbhinaopdkeaaGreat.P
set_option linter.unusedVariables false
set_option maxRecDepth 100000
/-! ### impl_isDial -/
abbrev impl_isDial.R : Type := Bool
abbrev impl_isDial.sig : Sig := ⟨[(false, 1)], [], [.int .i64], [(false, 1)], [], [.bool]⟩
noncomputable def impl_isDial.C : Cfg D0 := ⟨Go.Proofs.Tryz.prog, T0, 5, 0, 5, 0, [], 8, false, []⟩
noncomputable def impl_isDial.E (N : Nat) : List (Ent Go.Proofs.Tryz.prog T0) := [impl_within.ent N]
noncomputable def impl_isDial.O (N : Nat) : Orc D0 impl_isDial.R := orcOf (impl_isDial.E N)
noncomputable def impl_isDial.K0 : Ex → St D0 → Option impl_isDial.R := exitK impl_isDial.C Go.Proofs.Tryz.f58.results.toList [(false, [.any])] (decOut impl_isDial.sig)
noncomputable def impl_isDial.c1 : Code := codeAt (Go.Proofs.Tryz.f58.body.getD .skip) []
noncomputable def impl_isDial.o0 (N : Nat) (a0 : Int) : Option impl_isDial.R :=
 (impl_within.g N a0 2 24).bind fun r1 =>
 some (r1)
theorem impl_isDial.o0.run (N : Nat) (a0 : Int) : runC impl_isDial.C (impl_isDial.O N) N impl_isDial.c1 1 (st0 [.one (.int .i64 a0)] [] : St D0) impl_isDial.K0 = impl_isDial.o0 N a0 := by kernel_rfl
noncomputable def impl_isDial.g (N : Nat) (a0 : Int) : Option impl_isDial.R := impl_isDial.o0 N a0
theorem impl_isDial.g.run (N : Nat) (a0 : Int) : runC impl_isDial.C (impl_isDial.O N) N impl_isDial.c1 1 (st0 [.one (.int .i64 a0)] [] : St D0) impl_isDial.K0 = impl_isDial.g N a0 := by
  exact (impl_isDial.o0.run N a0).trans rfl
theorem impl_isDial.good (N : Nat) (a0 : Int) (r : impl_isDial.R) (h : impl_isDial.g N a0 = some r) : Go.PM.Good Go.Proofs.Tryz.prog T0 58 [.one (.int .i64 a0)] [] (impl_isDial.sig.ret r) (impl_isDial.sig.bs r) :=
  good_fn tabOk0 mixed0 impl_isDial.sig (impl_isDial.E N) Go.Proofs.Tryz.func58 (by kernel_rfl) (by kernel_rfl) 5 0 0 [] 8 false [] [(false, [.any])] (by kernel_rfl) rfl rfl ((impl_isDial.g.run N a0).trans h)
noncomputable def impl_isDial.ent (N : Nat) : Ent Go.Proofs.Tryz.prog T0 := mkEnt 58 [(false, [.any])] impl_isDial.sig (fun t => impl_isDial.g N t) (fun t r h => impl_isDial.good N t r h)
end Go.Proofs.YtehbhinaopdkeaaGreat.M

namespace Go.Proofs.YtehbhinaopdkeaaGreat.M
open Go Go.PM Go.Proofs.YtehbhinaopdkeaaGreat.P
set_option linter.unusedVariables false
set_option maxRecDepth 100000
/-! ### spec_l1In -/
abbrev spec_l1In.R : Type := Bool
abbrev spec_l1In.sig : Sig := ⟨[(false, 1), (false, 1), (false, 1)], [], [.int .i64, .int .i64, .int .i64], [(false, 1)], [], [.bool]⟩
noncomputable def spec_l1In.C : Cfg D0 := ⟨Go.Proofs.Tryz.prog, T0, 71, 0, 15, 0, [], 6528, false, []⟩
noncomputable def spec_l1In.E (N : Nat) : List (Ent Go.Proofs.Tryz.prog T0) := []
noncomputable def spec_l1In.O (N : Nat) : Orc D0 spec_l1In.R := orcOf (spec_l1In.E N)
noncomputable def spec_l1In.K0 : Ex → St D0 → Option spec_l1In.R := exitK spec_l1In.C Go.Proofs.Tryz.f78.results.toList [(false, [.any])] (decOut spec_l1In.sig)
noncomputable def spec_l1In.c1 : Code := codeAt (Go.Proofs.Tryz.f78.body.getD .skip) []
noncomputable def spec_l1In.o0 (N : Nat) (a0 : Int) (a1 : Int) (a2 : Int) : Option spec_l1In.R :=
 bif (decide (a0 ≥ a1)) then
  some ((decide (a0 ≤ a2)))
 else
 some (false)
theorem spec_l1In.o0.run (N : Nat) (a0 : Int) (a1 : Int) (a2 : Int) : runC spec_l1In.C (spec_l1In.O N) N spec_l1In.c1 1 (st0 [.one (.int .i64 a0), .one (.int .i64 a1), .one (.int .i64 a2)] [] : St D0) spec_l1In.K0 = spec_l1In.o0 N a0 a1 a2 := by kernel_rfl
noncomputable def spec_l1In.g (N : Nat) (a0 : Int) (a1 : Int) (a2 : Int) : Option spec_l1In.R := spec_l1In.o0 N a0 a1 a2
theorem spec_l1In.g.run (N : Nat) (a0 : Int) (a1 : Int) (a2 : Int) : runC spec_l1In.C (spec_l1In.O N) N spec_l1In.c1 1 (st0 [.one (.int .i64 a0), .one (.int .i64 a1), .one (.int .i64 a2)] [] : St D0) spec_l1In.K0 = spec_l1In.g N a0 a1 a2 := by
  exact (spec_l1In.o0.run N a0 a1 a2).trans rfl
theorem spec_l1In.good (N : Nat) (a0 : Int) (a1 : Int) (a2 : Int) (r : spec_l1In.R) (h : spec_l1In.g N a0 a1 a2 = some r) : Go.PM.Good Go.Proofs.Tryz.prog T0 78 [.one (.int .i64 a0), .one (.int .i64 a1), .one (.int .i64 a2)] [] (spec_l1In.sig.ret r) (spec_l1In.sig.bs r) :=
  good_fn tabOk0 mixed0 spec_l1In.sig (spec_l1In.E N) Go.Proofs.Tryz.func78 (by kernel_rfl) (by kernel_rfl) 71 0 0 [] 6528 false [] [(false, [.any])] (by kernel_rfl) rfl rfl ((spec_l1In.g.run N a0 a1 a2).trans h)
noncomputable def spec_l1In.ent (N : Nat) : Ent Go.Proofs.Tryz.prog T0 := mkEnt 78 [(false, [.any]), (false, [.any]), (false, [.any])] spec_l1In.sig (fun t => spec_l1In.g N t.1 t.2.1 t.2.2) (fun t r h => spec_l1In.good N t.1 t.2.1 t.2.2 r h)
end Go.Proofs.YtehbhinaopdkeaaGreat.M

namespace Go.Proofs.YtehbhinaopdkeaaGreat.M
open Go Go.PM Go.Proofs.YtehbhinaopdkeaaGreat.P
set_option linter.unusedVariables false
set_option maxRecDepth 100000
/-! ### spec_diHours -/
abbrev spec_diHours.R : Type := Bool
abbrev spec_diHours.sig : Sig := ⟨[(false, 1)], [], [.int .i64], [(false, 1)], [], [.bool]⟩
noncomputable def spec_diHours.C : Cfg D0 := ⟨Go.Proofs.Tryz.prog, T0, 5, 0, 5, 0, [], 8, false, []⟩
noncomputable def spec_diHours.E (N : Nat) : List (Ent Go.Proofs.Tryz.prog T0) := [spec_l1In.ent N]
noncomputable def spec_diHours.O (N : Nat) : Orc D0 spec_diHours.R := orcOf (spec_diHours.E N)
noncomputable def spec_diHours.K0 : Ex → St D0 → Option spec_diHours.R := exitK spec_diHours.C Go.Proofs.Tryz.f60.results.toList [(false, [.any])] (decOut spec_diHours.sig)
noncomputable def spec_diHours.c1 : Code := codeAt (Go.Proofs.Tryz.f60.body.getD .skip) []
noncomputable def spec_diHours.o0 (N : Nat) (a0 : Int) : Option spec_diHours.R :=
 (spec_l1In.g N a0 2 24).bind fun r1 =>
 some (r1)
theorem spec_diHours.o0.run (N : Nat) (a0 : Int) : runC spec_diHours.C (spec_diHours.O N) N spec_diHours.c1 1 (st0 [.one (.int .i64 a0)] [] : St D0) spec_diHours.K0 = spec_diHours.o0 N a0 := by kernel_rfl
noncomputable def spec_diHours.g (N : Nat) (a0 : Int) : Option spec_diHours.R := spec_diHours.o0 N a0
theorem spec_diHours.g.run (N : Nat) (a0 : Int) : runC spec_diHours.C (spec_diHours.O N) N spec_diHours.c1 1 (st0 [.one (.int .i64 a0)] [] : St D0) spec_diHours.K0 = spec_diHours.g N a0 := by
  exact (spec_diHours.o0.run N a0).trans rfl
theorem spec_diHours.good (N : Nat) (a0 : Int) (r : spec_diHours.R) (h : spec_diHours.g N a0 = some r) : Go.PM.Good Go.Proofs.Tryz.prog T0 60 [.one (.int .i64 a0)] [] (spec_diHours.sig.ret r) (spec_diHours.sig.bs r) :=
  good_fn tabOk0 mixed0 spec_diHours.sig (spec_diHours.E N) Go.Proofs.Tryz.func60 (by kernel_rfl) (by kernel_rfl) 5 0 0 [] 8 false [] [(false, [.any])] (by kernel_rfl) rfl rfl ((spec_diHours.g.run N a0).trans h)
noncomputable def spec_diHours.ent (N : Nat) : Ent Go.Proofs.Tryz.prog T0 := mkEnt 60 [(false, [.any])] spec_diHours.sig (fun t => spec_diHours.g N t) (fun t r h => spec_diHours.good N t r h)
end Go.Proofs.YtehbhinaopdkeaaGreat.M

namespace Go.Proofs.YtehbhinaopdkeaaGreat.M
open Go Go.PM Go.Proofs.YtehbhinaopdkeaaGreat.P
set_option linter.unusedVariables false
set_option maxRecDepth 100000
/-! ### impl_floorDiv -/
abbrev impl_floorDiv.R : Type := Int × Int
abbrev impl_floorDiv.sig : Sig := ⟨[(false, 1), (false, 1)], [], [.int .i64, .int .i64], [(false, 1), (false, 1)], [], [.int .i64, .int .i64]⟩
noncomputable def impl_floorDiv.C : Cfg D0 := ⟨Go.Proofs.Tryz.prog, T0, 33011, 0, 23, 0, [(14, [6, 7], [])], 875264, false, []⟩
noncomputable def impl_floorDiv.E (N : Nat) : List (Ent Go.Proofs.Tryz.prog T0) := []
noncomputable def impl_floorDiv.O (N : Nat) : Orc D0 impl_floorDiv.R := orcOf (impl_floorDiv.E N)
noncomputable def impl_floorDiv.K0 : Ex → St D0 → Option impl_floorDiv.R := exitK impl_floorDiv.C Go.Proofs.Tryz.f81.results.toList [(false, [.any]), (false, [.any])] (decOut impl_floorDiv.sig)
noncomputable def impl_floorDiv.c1 : Code := codeAt (Go.Proofs.Tryz.f81.body.getD .skip) []
noncomputable def impl_floorDiv.c2 : Code := codeAt (Go.Proofs.Tryz.f81.body.getD .skip) [false]
noncomputable def impl_floorDiv.c6 : Code := codeAt (Go.Proofs.Tryz.f81.body.getD .skip) [true, false]
noncomputable def impl_floorDiv.c14 : Code := codeAt (Go.Proofs.Tryz.f81.body.getD .skip) [true, true, false]
noncomputable def impl_floorDiv.c15 : Code := codeAt (Go.Proofs.Tryz.f81.body.getD .skip) [true, true, true]
noncomputable def impl_floorDiv.K15 (N : Nat) : Ex → St D0 → Option impl_floorDiv.R := impl_floorDiv.K0
noncomputable def impl_floorDiv.o1 (N : Nat) (v0 : Int) (v1 : Int) : Option impl_floorDiv.R :=
 some (v0, v1)
theorem impl_floorDiv.o1.run (N : Nat) (v0 : Int) (v1 : Int) : runC impl_floorDiv.C (impl_floorDiv.O N) N impl_floorDiv.c15 15 (mkSt [(6, .one (.int .i64 v0)), (7, .one (.int .i64 v1))] [] : St D0) impl_floorDiv.K0 = impl_floorDiv.o1 N v0 v1 := by kernel_rfl
noncomputable def impl_floorDiv.d1 (N : Nat) (v0 : Int) (v1 : Int) : Option impl_floorDiv.R := impl_floorDiv.o1 N v0 v1
theorem impl_floorDiv.d1.run (N : Nat) (v0 : Int) (v1 : Int) : runC impl_floorDiv.C (impl_floorDiv.O N) N impl_floorDiv.c15 15 (mkSt [(6, .one (.int .i64 v0)), (7, .one (.int .i64 v1))] [] : St D0) (impl_floorDiv.K15 N) = impl_floorDiv.d1 N v0 v1 := by
  exact (impl_floorDiv.o1.run N v0 v1).trans rfl
noncomputable def impl_floorDiv.o0 (N : Nat) (a0 : Int) (a1 : Int) (c1 : Int → Int → Option impl_floorDiv.R) : Option impl_floorDiv.R :=
 bif (a1 == 0) then
  none
 else
 bif (a1 == 0) then
  none
 else
 bif (decide ((Int.tmod a0 a1) < 0)) then
  c1 (w64 ((w64 (Int.tdiv a0 a1)) - 1)) (w64 ((Int.tmod a0 a1) + a1))
 else
 c1 (w64 (Int.tdiv a0 a1)) (Int.tmod a0 a1)
theorem impl_floorDiv.o0.run (N : Nat) (H15 : Code) (a0 : Int) (a1 : Int) : runC impl_floorDiv.C (impl_floorDiv.O N) N (.seq impl_floorDiv.c2 (.seq impl_floorDiv.c6 (.seq impl_floorDiv.c14 H15))) 1 (st0 [.one (.int .i64 a0), .one (.int .i64 a1)] [] : St D0) impl_floorDiv.K0 = impl_floorDiv.o0 N a0 a1 ((fun w0 w1 => runC impl_floorDiv.C (impl_floorDiv.O N) N H15 15 (mkSt [(6, .one (.int .i64 w0)), (7, .one (.int .i64 w1))] [] : St D0) impl_floorDiv.K0)) := by kernel_rfl
noncomputable def impl_floorDiv.B7 (N : Nat) : St D0 → Option impl_floorDiv.R := fun s' => runC impl_floorDiv.C (impl_floorDiv.O N) N impl_floorDiv.c15 15 s' (impl_floorDiv.K15 N)
noncomputable def impl_floorDiv.g (N : Nat) (a0 : Int) (a1 : Int) : Option impl_floorDiv.R := impl_floorDiv.o0 N a0 a1 ((fun w0 w1 => impl_floorDiv.d1 N w0 w1))
theorem impl_floorDiv.c1_0 : impl_floorDiv.c1 = (.seq impl_floorDiv.c2 (.seq impl_floorDiv.c6 (.seq impl_floorDiv.c14 impl_floorDiv.c15))) := by kernel_rfl
theorem impl_floorDiv.g.run (N : Nat) (a0 : Int) (a1 : Int) : runC impl_floorDiv.C (impl_floorDiv.O N) N impl_floorDiv.c1 1 (st0 [.one (.int .i64 a0), .one (.int .i64 a1)] [] : St D0) impl_floorDiv.K0 = impl_floorDiv.g N a0 a1 := by
  rw [impl_floorDiv.c1_0]; unfold impl_floorDiv.g; exact (impl_floorDiv.o0.run N impl_floorDiv.c15 a0 a1).trans (congr rfl (funext fun w0 => funext fun w1 => impl_floorDiv.d1.run N w0 w1))
theorem impl_floorDiv.good (N : Nat) (a0 : Int) (a1 : Int) (r : impl_floorDiv.R) (h : impl_floorDiv.g N a0 a1 = some r) : Go.PM.Good Go.Proofs.Tryz.prog T0 81 [.one (.int .i64 a0), .one (.int .i64 a1)] [] (impl_floorDiv.sig.ret r) (impl_floorDiv.sig.bs r) :=
  good_fn tabOk0 mixed0 impl_floorDiv.sig (impl_floorDiv.E N) Go.Proofs.Tryz.func81 (by kernel_rfl) (by kernel_rfl) 33011 0 0 [(14, [6, 7], [])] 875264 false [] [(false, [.any]), (false, [.any])] (by kernel_rfl) rfl rfl ((impl_floorDiv.g.run N a0 a1).trans h)
noncomputable def impl_floorDiv.ent (N : Nat) : Ent Go.Proofs.Tryz.prog T0 := mkEnt 81 [(false, [.any]), (false, [.any])] impl_floorDiv.sig (fun t => impl_floorDiv.g N t.1 t.2) (fun t r h => impl_floorDiv.good N t.1 t.2 r h)
end Go.Proofs.YtehbhinaopdkeaaGreat.M

namespace Go.Proofs.YtehbhinaopdkeaaGreat.M
open Go Go.PM Go.Proofs.YtehbhinaopdkeaaGreat.P
set_option linter.unusedVariables false
set_option maxRecDepth 100000
/-! ### impl_gcd -/
abbrev impl_gcd.R : Type := Int
abbrev impl_gcd.sig : Sig := ⟨[(false, 1), (false, 1)], [], [.int .i64, .int .i64], [(false, 1)], [], [.int .i64]⟩
noncomputable def impl_gcd.C : Cfg D0 := ⟨Go.Proofs.Tryz.prog, T0, 83, 0, 15, 0, [(12, [0, 1], [])], 6944, false, []⟩
noncomputable def impl_gcd.E (N : Nat) : List (Ent Go.Proofs.Tryz.prog T0) := []
noncomputable def impl_gcd.O (N : Nat) : Orc D0 impl_gcd.R := orcOf (impl_gcd.E N)
noncomputable def impl_gcd.K0 : Ex → St D0 → Option impl_gcd.R := exitK impl_gcd.C Go.Proofs.Tryz.f64.results.toList [(false, [.any])] (decOut impl_gcd.sig)
noncomputable def impl_gcd.c1 : Code := codeAt (Go.Proofs.Tryz.f64.body.getD .skip) []
noncomputable def impl_gcd.c2 : Code := codeAt (Go.Proofs.Tryz.f64.body.getD .skip) [false]
noncomputable def impl_gcd.c7 : Code := codeAt (Go.Proofs.Tryz.f64.body.getD .skip) [true, true]
noncomputable def impl_gcd.c24 : Code := codeAt (Go.Proofs.Tryz.f64.body.getD .skip) [true, false, false, false]
noncomputable def impl_gcd.K24 (N : Nat) (Kn12 : St D0 → Option impl_gcd.R) : Ex → St D0 → Option impl_gcd.R := ((fun up => (onN (fun s => impl_gcd.C.tidy 12 s ((onN Kn12 up) .normal)) (onN Kn12 up))) (blockK 0 (onN (fun s => impl_gcd.C.tidy 6 s (fun s' => runC impl_gcd.C (impl_gcd.O N) N impl_gcd.c7 7 s' impl_gcd.K0)) impl_gcd.K0)))
noncomputable def impl_gcd.o1 (N : Nat) (v0 : Int) (v1 : Int) (c1 : Int → Int → Option impl_gcd.R) : Option impl_gcd.R :=
 bif (v1 != 0) then
  bif (v1 == 0) then
   none
  else
  c1 v1 (Int.tmod v0 v1)
 else
 some ((if (w64 (0 - v0)) > v0 then (w64 (0 - v0)) else v0))
theorem impl_gcd.o1.run (N : Nat) (Kn12 : St D0 → Option impl_gcd.R) (v0 : Int) (v1 : Int) : runC impl_gcd.C (impl_gcd.O N) N impl_gcd.c24 24 (mkSt [(0, .one (.int .i64 v0)), (1, .one (.int .i64 v1))] [] : St D0) ((fun up => (onN (fun s => impl_gcd.C.tidy 12 s ((onN Kn12 up) .normal)) (onN Kn12 up))) (blockK 0 (onN (fun s => impl_gcd.C.tidy 6 s (fun s' => runC impl_gcd.C (impl_gcd.O N) N impl_gcd.c7 7 s' impl_gcd.K0)) impl_gcd.K0))) = impl_gcd.o1 N v0 v1 ((fun w0 w1 => Kn12 (mkSt [(0, .one (.int .i64 w0)), (1, .one (.int .i64 w1))] [] : St D0))) := by kernel_rfl
noncomputable def impl_gcd.d1 (N : Nat) (v0 : Int) (v1 : Int) (c1 : Int → Int → Option impl_gcd.R) : Option impl_gcd.R := impl_gcd.o1 N v0 v1 c1
theorem impl_gcd.d1.run (N : Nat) (Kn12 : St D0 → Option impl_gcd.R) (v0 : Int) (v1 : Int) : runC impl_gcd.C (impl_gcd.O N) N impl_gcd.c24 24 (mkSt [(0, .one (.int .i64 v0)), (1, .one (.int .i64 v1))] [] : St D0) (impl_gcd.K24 N Kn12) = impl_gcd.d1 N v0 v1 ((fun w0 w1 => Kn12 (mkSt [(0, .one (.int .i64 w0)), (1, .one (.int .i64 w1))] [] : St D0))) := by
  exact (impl_gcd.o1.run N Kn12 v0 v1).trans rfl
noncomputable def impl_gcd.K12 (N : Nat) : Ex → St D0 → Option impl_gcd.R := (blockK 0 (onN (fun s => impl_gcd.C.tidy 6 s (fun s' => runC impl_gcd.C (impl_gcd.O N) N impl_gcd.c7 7 s' impl_gcd.K0)) impl_gcd.K0))
noncomputable def impl_gcd.l1 (N : Nat) : Nat → Int → Int → Option impl_gcd.R
  | 0, _, _ => none
  | n + 1, v0, v1 => impl_gcd.d1 N v0 v1 ((fun w0 w1 => impl_gcd.l1 N n w0 w1))
theorem impl_gcd.loop12 (N : Nat) : ∀ n, (∀ (v0 : Int) (v1 : Int), iter (loopF impl_gcd.C (impl_gcd.O N) N impl_gcd.c24 12) n (mkSt [(0, .one (.int .i64 v0)), (1, .one (.int .i64 v1))] [] : St D0) (impl_gcd.K12 N) = impl_gcd.l1 N n v0 v1)
  | 0 => (fun v0 v1 => rfl)
  | n + 1 => (fun v0 v1 => (impl_gcd.d1.run N (fun s => iter (loopF impl_gcd.C (impl_gcd.O N) N impl_gcd.c24 12) n s (impl_gcd.K12 N)) v0 v1).trans (show _ = impl_gcd.d1 N v0 v1 ((fun w0 w1 => impl_gcd.l1 N n w0 w1)) from (congr rfl (funext fun w0 => funext fun w1 => (impl_gcd.loop12 N n) w0 w1))))
noncomputable def impl_gcd.o0 (N : Nat) (a0 : Int) (a1 : Int) (c1 : Int → Int → Option impl_gcd.R) : Option impl_gcd.R :=
 c1 a0 a1
theorem impl_gcd.o0.run (N : Nat) (H24 : Code) (a0 : Int) (a1 : Int) : runC impl_gcd.C (impl_gcd.O N) N (.seq impl_gcd.c2 (.seq (.block 0 (.loop H24)) impl_gcd.c7)) 1 (st0 [.one (.int .i64 a0), .one (.int .i64 a1)] [] : St D0) impl_gcd.K0 = impl_gcd.o0 N a0 a1 ((fun w0 w1 => iter (loopF impl_gcd.C (impl_gcd.O N) N H24 12) N (mkSt [(0, .one (.int .i64 w0)), (1, .one (.int .i64 w1))] [] : St D0) (blockK 0 (onN (fun s => impl_gcd.C.tidy 6 s (fun s' => runC impl_gcd.C (impl_gcd.O N) N impl_gcd.c7 7 s' impl_gcd.K0)) impl_gcd.K0)))) := by kernel_rfl
noncomputable def impl_gcd.g (N : Nat) (a0 : Int) (a1 : Int) : Option impl_gcd.R := impl_gcd.o0 N a0 a1 ((fun w0 w1 => impl_gcd.l1 N N w0 w1))
theorem impl_gcd.c1_0 : impl_gcd.c1 = (.seq impl_gcd.c2 (.seq (.block 0 (.loop impl_gcd.c24)) impl_gcd.c7)) := by kernel_rfl
theorem impl_gcd.g.run (N : Nat) (a0 : Int) (a1 : Int) : runC impl_gcd.C (impl_gcd.O N) N impl_gcd.c1 1 (st0 [.one (.int .i64 a0), .one (.int .i64 a1)] [] : St D0) impl_gcd.K0 = impl_gcd.g N a0 a1 := by
  rw [impl_gcd.c1_0]; unfold impl_gcd.g; exact (impl_gcd.o0.run N impl_gcd.c24 a0 a1).trans (congr rfl (funext fun w0 => funext fun w1 => (impl_gcd.loop12 N N) w0 w1))
theorem impl_gcd.good (N : Nat) (a0 : Int) (a1 : Int) (r : impl_gcd.R) (h : impl_gcd.g N a0 a1 = some r) : Go.PM.Good Go.Proofs.Tryz.prog T0 64 [.one (.int .i64 a0), .one (.int .i64 a1)] [] (impl_gcd.sig.ret r) (impl_gcd.sig.bs r) :=
  good_fn tabOk0 mixed0 impl_gcd.sig (impl_gcd.E N) Go.Proofs.Tryz.func64 (by kernel_rfl) (by kernel_rfl) 83 0 0 [(12, [0, 1], [])] 6944 false [] [(false, [.any])] (by kernel_rfl) rfl rfl ((impl_gcd.g.run N a0 a1).trans h)
noncomputable def impl_gcd.ent (N : Nat) : Ent Go.Proofs.Tryz.prog T0 := mkEnt 64 [(false, [.any]), (false, [.any])] impl_gcd.sig (fun t => impl_gcd.g N t.1 t.2) (fun t r h => impl_gcd.good N t.1 t.2 r h)
end Go.Proofs.YtehbhinaopdkeaaGreat.M

namespace Go.Proofs.YtehbhinaopdkeaaGreat.M
open Go Go.PM Go.Proofs.YtehbhinaopdkeaaGreat.P
set_option linter.unusedVariables false
set_option maxRecDepth 100000
/-! ### impl_part -/
abbrev impl_part.R : Type := Int × Int
abbrev impl_part.sig : Sig := ⟨[(false, 1), (false, 1)], [], [.int .i64, .int .i64], [(true, 2)], [], [.int .i64, .int .i64]⟩
noncomputable def impl_part.C : Cfg D0 := ⟨Go.Proofs.Tryz.prog, T0, 211, 0, 24, 0, [], 3589632, false, []⟩
noncomputable def impl_part.E (N : Nat) : List (Ent Go.Proofs.Tryz.prog T0) := [impl_floorDiv.ent N, impl_gcd.ent N]
noncomputable def impl_part.O (N : Nat) : Orc D0 impl_part.R := orcOf (impl_part.E N)
noncomputable def impl_part.K0 : Ex → St D0 → Option impl_part.R := exitK impl_part.C Go.Proofs.Tryz.f59.results.toList [(true, [.any, .any])] (decOut impl_part.sig)
noncomputable def impl_part.c1 : Code := codeAt (Go.Proofs.Tryz.f59.body.getD .skip) []
noncomputable def impl_part.o0 (N : Nat) (a0 : Int) (a1 : Int) : Option impl_part.R :=
 (impl_floorDiv.g N a0 a1).bind fun r1 =>
 (impl_gcd.g N r1.2 a1).bind fun r2 =>
 bif (r2 == 0) then
  none
 else
 bif (r2 == 0) then
  none
 else
 some ((w64 (Int.tdiv r1.2 r2)), (w64 (Int.tdiv a1 r2)))
theorem impl_part.o0.run (N : Nat) (a0 : Int) (a1 : Int) : runC impl_part.C (impl_part.O N) N impl_part.c1 1 (st0 [.one (.int .i64 a0), .one (.int .i64 a1)] [] : St D0) impl_part.K0 = impl_part.o0 N a0 a1 := by kernel_rfl
noncomputable def impl_part.g (N : Nat) (a0 : Int) (a1 : Int) : Option impl_part.R := impl_part.o0 N a0 a1
theorem impl_part.g.run (N : Nat) (a0 : Int) (a1 : Int) : runC impl_part.C (impl_part.O N) N impl_part.c1 1 (st0 [.one (.int .i64 a0), .one (.int .i64 a1)] [] : St D0) impl_part.K0 = impl_part.g N a0 a1 := by
  exact (impl_part.o0.run N a0 a1).trans rfl
theorem impl_part.good (N : Nat) (a0 : Int) (a1 : Int) (r : impl_part.R) (h : impl_part.g N a0 a1 = some r) : Go.PM.Good Go.Proofs.Tryz.prog T0 59 [.one (.int .i64 a0), .one (.int .i64 a1)] [] (impl_part.sig.ret r) (impl_part.sig.bs r) :=
  good_fn tabOk0 mixed0 impl_part.sig (impl_part.E N) Go.Proofs.Tryz.func59 (by kernel_rfl) (by kernel_rfl) 211 0 0 [] 3589632 false [] [(true, [.any, .any])] (by kernel_rfl) rfl rfl ((impl_part.g.run N a0 a1).trans h)
noncomputable def impl_part.ent (N : Nat) : Ent Go.Proofs.Tryz.prog T0 := mkEnt 59 [(false, [.any]), (false, [.any])] impl_part.sig (fun t => impl_part.g N t.1 t.2) (fun t r h => impl_part.good N t.1 t.2 r h)
end Go.Proofs.YtehbhinaopdkeaaGreat.M

namespace Go.Proofs.YtehbhinaopdkeaaGreat.M
open Go Go.PM Go.Proofs.YtehbhinaopdkeaaGreat.P
set_option linter.unusedVariables false
set_option maxRecDepth 100000
/-! ### impl_Turn_times -/
abbrev impl_Turn_times.R : Type := Int × Int
abbrev impl_Turn_times.sig : Sig := ⟨[(true, 2), (false, 1)], [], [.int .i64, .int .i64, .int .i64], [(true, 2)], [], [.int .i64, .int .i64]⟩
noncomputable def impl_Turn_times.C : Cfg D0 := ⟨Go.Proofs.Tryz.prog, T0, 23, 0, 12, 0, [], 128, false, []⟩
noncomputable def impl_Turn_times.E (N : Nat) : List (Ent Go.Proofs.Tryz.prog T0) := [impl_part.ent N]
noncomputable def impl_Turn_times.O (N : Nat) : Orc D0 impl_Turn_times.R := orcOf (impl_Turn_times.E N)
noncomputable def impl_Turn_times.K0 : Ex → St D0 → Option impl_Turn_times.R := exitK impl_Turn_times.C Go.Proofs.Tryz.f40.results.toList [(true, [.any, .any])] (decOut impl_Turn_times.sig)
noncomputable def impl_Turn_times.c1 : Code := codeAt (Go.Proofs.Tryz.f40.body.getD .skip) []
noncomputable def impl_Turn_times.o0 (N : Nat) (a0_0 : Int) (a0_1 : Int) (a1 : Int) : Option impl_Turn_times.R :=
 (impl_part.g N (w64 (a0_0 * a1)) a0_1).bind fun r1 =>
 some (r1.1, r1.2)
theorem impl_Turn_times.o0.run (N : Nat) (a0_0 : Int) (a0_1 : Int) (a1 : Int) : runC impl_Turn_times.C (impl_Turn_times.O N) N impl_Turn_times.c1 1 (st0 [.agg [.int .i64 a0_0, .int .i64 a0_1], .one (.int .i64 a1)] [] : St D0) impl_Turn_times.K0 = impl_Turn_times.o0 N a0_0 a0_1 a1 := by kernel_rfl
noncomputable def impl_Turn_times.g (N : Nat) (a0_0 : Int) (a0_1 : Int) (a1 : Int) : Option impl_Turn_times.R := impl_Turn_times.o0 N a0_0 a0_1 a1
theorem impl_Turn_times.g.run (N : Nat) (a0_0 : Int) (a0_1 : Int) (a1 : Int) : runC impl_Turn_times.C (impl_Turn_times.O N) N impl_Turn_times.c1 1 (st0 [.agg [.int .i64 a0_0, .int .i64 a0_1], .one (.int .i64 a1)] [] : St D0) impl_Turn_times.K0 = impl_Turn_times.g N a0_0 a0_1 a1 := by
  exact (impl_Turn_times.o0.run N a0_0 a0_1 a1).trans rfl
theorem impl_Turn_times.good (N : Nat) (a0_0 : Int) (a0_1 : Int) (a1 : Int) (r : impl_Turn_times.R) (h : impl_Turn_times.g N a0_0 a0_1 a1 = some r) : Go.PM.Good Go.Proofs.Tryz.prog T0 40 [.agg [.int .i64 a0_0, .int .i64 a0_1], .one (.int .i64 a1)] [] (impl_Turn_times.sig.ret r) (impl_Turn_times.sig.bs r) :=
  good_fn tabOk0 mixed0 impl_Turn_times.sig (impl_Turn_times.E N) Go.Proofs.Tryz.func40 (by kernel_rfl) (by kernel_rfl) 23 0 0 [] 128 false [] [(true, [.any, .any])] (by kernel_rfl) rfl rfl ((impl_Turn_times.g.run N a0_0 a0_1 a1).trans h)
noncomputable def impl_Turn_times.ent (N : Nat) : Ent Go.Proofs.Tryz.prog T0 := mkEnt 40 [(true, [.any, .any]), (false, [.any])] impl_Turn_times.sig (fun t => impl_Turn_times.g N t.1 t.2.1 t.2.2) (fun t r h => impl_Turn_times.good N t.1 t.2.1 t.2.2 r h)
end Go.Proofs.YtehbhinaopdkeaaGreat.M

namespace Go.Proofs.YtehbhinaopdkeaaGreat.M
open Go Go.PM Go.Proofs.YtehbhinaopdkeaaGreat.P
set_option linter.unusedVariables false
set_option maxRecDepth 100000
/-! ### impl_IsTurn -/
abbrev impl_IsTurn.R : Type := Bool
abbrev impl_IsTurn.sig : Sig := ⟨[(true, 2)], [], [.int .i64, .int .i64], [(false, 1)], [], [.bool]⟩
noncomputable def impl_IsTurn.C : Cfg D0 := ⟨Go.Proofs.Tryz.prog, T0, 7, 0, 22, 0, [], 0, false, []⟩
noncomputable def impl_IsTurn.E (N : Nat) : List (Ent Go.Proofs.Tryz.prog T0) := [impl_within.ent N, impl_gcd.ent N]
noncomputable def impl_IsTurn.O (N : Nat) : Orc D0 impl_IsTurn.R := orcOf (impl_IsTurn.E N)
noncomputable def impl_IsTurn.K0 : Ex → St D0 → Option impl_IsTurn.R := exitK impl_IsTurn.C Go.Proofs.Tryz.f41.results.toList [(false, [.any])] (decOut impl_IsTurn.sig)
noncomputable def impl_IsTurn.c1 : Code := codeAt (Go.Proofs.Tryz.f41.body.getD .skip) []
noncomputable def impl_IsTurn.o0 (N : Nat) (a0_0 : Int) (a0_1 : Int) : Option impl_IsTurn.R :=
 (impl_within.g N a0_1 1 1000000).bind fun r1 =>
 bif r1 then
  (impl_within.g N a0_0 0 (w64 (a0_1 - 1))).bind fun r2 =>
  bif r2 then
   (impl_gcd.g N a0_0 a0_1).bind fun r3 =>
   some ((r3 == 1))
  else
  some (false)
 else
 some (false)
theorem impl_IsTurn.o0.run (N : Nat) (a0_0 : Int) (a0_1 : Int) : runC impl_IsTurn.C (impl_IsTurn.O N) N impl_IsTurn.c1 1 (st0 [.agg [.int .i64 a0_0, .int .i64 a0_1]] [] : St D0) impl_IsTurn.K0 = impl_IsTurn.o0 N a0_0 a0_1 := by kernel_rfl
noncomputable def impl_IsTurn.g (N : Nat) (a0_0 : Int) (a0_1 : Int) : Option impl_IsTurn.R := impl_IsTurn.o0 N a0_0 a0_1
theorem impl_IsTurn.g.run (N : Nat) (a0_0 : Int) (a0_1 : Int) : runC impl_IsTurn.C (impl_IsTurn.O N) N impl_IsTurn.c1 1 (st0 [.agg [.int .i64 a0_0, .int .i64 a0_1]] [] : St D0) impl_IsTurn.K0 = impl_IsTurn.g N a0_0 a0_1 := by
  exact (impl_IsTurn.o0.run N a0_0 a0_1).trans rfl
theorem impl_IsTurn.good (N : Nat) (a0_0 : Int) (a0_1 : Int) (r : impl_IsTurn.R) (h : impl_IsTurn.g N a0_0 a0_1 = some r) : Go.PM.Good Go.Proofs.Tryz.prog T0 41 [.agg [.int .i64 a0_0, .int .i64 a0_1]] [] (impl_IsTurn.sig.ret r) (impl_IsTurn.sig.bs r) :=
  good_fn tabOk0 mixed0 impl_IsTurn.sig (impl_IsTurn.E N) Go.Proofs.Tryz.func41 (by kernel_rfl) (by kernel_rfl) 7 0 0 [] 0 false [] [(false, [.any])] (by kernel_rfl) rfl rfl ((impl_IsTurn.g.run N a0_0 a0_1).trans h)
noncomputable def impl_IsTurn.ent (N : Nat) : Ent Go.Proofs.Tryz.prog T0 := mkEnt 41 [(true, [.any, .any])] impl_IsTurn.sig (fun t => impl_IsTurn.g N t.1 t.2) (fun t r h => impl_IsTurn.good N t.1 t.2 r h)
end Go.Proofs.YtehbhinaopdkeaaGreat.M

namespace Go.Proofs.YtehbhinaopdkeaaGreat.M
open Go Go.PM Go.Proofs.YtehbhinaopdkeaaGreat.P
set_option linter.unusedVariables false
set_option maxRecDepth 100000
/-! ### impl_isTime -/
abbrev impl_isTime.R : Type := Bool
abbrev impl_isTime.sig : Sig := ⟨[(false, 1), (true, 2)], [], [.int .i64, .int .i64, .int .i64], [(false, 1)], [], [.bool]⟩
noncomputable def impl_isTime.C : Cfg D0 := ⟨Go.Proofs.Tryz.prog, T0, 27, 0, 11, 0, [], 32, false, []⟩
noncomputable def impl_isTime.E (N : Nat) : List (Ent Go.Proofs.Tryz.prog T0) := [impl_isDial.ent N, impl_IsTurn.ent N]
noncomputable def impl_isTime.O (N : Nat) : Orc D0 impl_isTime.R := orcOf (impl_isTime.E N)
noncomputable def impl_isTime.K0 : Ex → St D0 → Option impl_isTime.R := exitK impl_isTime.C Go.Proofs.Tryz.f39.results.toList [(false, [.any])] (decOut impl_isTime.sig)
noncomputable def impl_isTime.c1 : Code := codeAt (Go.Proofs.Tryz.f39.body.getD .skip) []
noncomputable def impl_isTime.o0 (N : Nat) (a0 : Int) (a1_0 : Int) (a1_1 : Int) : Option impl_isTime.R :=
 (impl_isDial.g N a0).bind fun r1 =>
 bif r1 then
  (impl_IsTurn.g N a1_0 a1_1).bind fun r2 =>
  some (r2)
 else
 some (false)
theorem impl_isTime.o0.run (N : Nat) (a0 : Int) (a1_0 : Int) (a1_1 : Int) : runC impl_isTime.C (impl_isTime.O N) N impl_isTime.c1 1 (st0 [.one (.int .i64 a0), .agg [.int .i64 a1_0, .int .i64 a1_1]] [] : St D0) impl_isTime.K0 = impl_isTime.o0 N a0 a1_0 a1_1 := by kernel_rfl
noncomputable def impl_isTime.g (N : Nat) (a0 : Int) (a1_0 : Int) (a1_1 : Int) : Option impl_isTime.R := impl_isTime.o0 N a0 a1_0 a1_1
theorem impl_isTime.g.run (N : Nat) (a0 : Int) (a1_0 : Int) (a1_1 : Int) : runC impl_isTime.C (impl_isTime.O N) N impl_isTime.c1 1 (st0 [.one (.int .i64 a0), .agg [.int .i64 a1_0, .int .i64 a1_1]] [] : St D0) impl_isTime.K0 = impl_isTime.g N a0 a1_0 a1_1 := by
  exact (impl_isTime.o0.run N a0 a1_0 a1_1).trans rfl
theorem impl_isTime.good (N : Nat) (a0 : Int) (a1_0 : Int) (a1_1 : Int) (r : impl_isTime.R) (h : impl_isTime.g N a0 a1_0 a1_1 = some r) : Go.PM.Good Go.Proofs.Tryz.prog T0 39 [.one (.int .i64 a0), .agg [.int .i64 a1_0, .int .i64 a1_1]] [] (impl_isTime.sig.ret r) (impl_isTime.sig.bs r) :=
  good_fn tabOk0 mixed0 impl_isTime.sig (impl_isTime.E N) Go.Proofs.Tryz.func39 (by kernel_rfl) (by kernel_rfl) 27 0 0 [] 32 false [] [(false, [.any])] (by kernel_rfl) rfl rfl ((impl_isTime.g.run N a0 a1_0 a1_1).trans h)
noncomputable def impl_isTime.ent (N : Nat) : Ent Go.Proofs.Tryz.prog T0 := mkEnt 39 [(false, [.any]), (true, [.any, .any])] impl_isTime.sig (fun t => impl_isTime.g N t.1 t.2.1 t.2.2) (fun t r h => impl_isTime.good N t.1 t.2.1 t.2.2 r h)
end Go.Proofs.YtehbhinaopdkeaaGreat.M

namespace Go.Proofs.YtehbhinaopdkeaaGreat.M
open Go Go.PM Go.Proofs.YtehbhinaopdkeaaGreat.P
set_option linter.unusedVariables false
set_option maxRecDepth 100000
/-! ### spec_diCommon -/
abbrev spec_diCommon.R : Type := Int
abbrev spec_diCommon.sig : Sig := ⟨[(false, 1), (false, 1)], [], [.int .i64, .int .i64], [(false, 1)], [], [.int .i64]⟩
noncomputable def spec_diCommon.C : Cfg D0 := ⟨Go.Proofs.Tryz.prog, T0, 83, 0, 12, 0, [(12, [0, 1], [])], 800, false, []⟩
noncomputable def spec_diCommon.E (N : Nat) : List (Ent Go.Proofs.Tryz.prog T0) := []
noncomputable def spec_diCommon.O (N : Nat) : Orc D0 spec_diCommon.R := orcOf (spec_diCommon.E N)
noncomputable def spec_diCommon.K0 : Ex → St D0 → Option spec_diCommon.R := exitK spec_diCommon.C Go.Proofs.Tryz.f61.results.toList [(false, [.any])] (decOut spec_diCommon.sig)
noncomputable def spec_diCommon.c1 : Code := codeAt (Go.Proofs.Tryz.f61.body.getD .skip) []
noncomputable def spec_diCommon.c2 : Code := codeAt (Go.Proofs.Tryz.f61.body.getD .skip) [false]
noncomputable def spec_diCommon.c7 : Code := codeAt (Go.Proofs.Tryz.f61.body.getD .skip) [true, true]
noncomputable def spec_diCommon.c24 : Code := codeAt (Go.Proofs.Tryz.f61.body.getD .skip) [true, false, false, false]
noncomputable def spec_diCommon.K24 (N : Nat) (Kn12 : St D0 → Option spec_diCommon.R) : Ex → St D0 → Option spec_diCommon.R := ((fun up => (onN (fun s => spec_diCommon.C.tidy 12 s ((onN Kn12 up) .normal)) (onN Kn12 up))) (blockK 0 (onN (fun s => spec_diCommon.C.tidy 6 s (fun s' => runC spec_diCommon.C (spec_diCommon.O N) N spec_diCommon.c7 7 s' spec_diCommon.K0)) spec_diCommon.K0)))
noncomputable def spec_diCommon.o1 (N : Nat) (v0 : Int) (v1 : Int) (c1 : Int → Int → Option spec_diCommon.R) : Option spec_diCommon.R :=
 bif (decide (v1 > 0)) then
  bif (v1 == 0) then
   none
  else
  c1 v1 (Int.tmod v0 v1)
 else
 some (v0)
theorem spec_diCommon.o1.run (N : Nat) (Kn12 : St D0 → Option spec_diCommon.R) (v0 : Int) (v1 : Int) : runC spec_diCommon.C (spec_diCommon.O N) N spec_diCommon.c24 24 (mkSt [(0, .one (.int .i64 v0)), (1, .one (.int .i64 v1))] [] : St D0) ((fun up => (onN (fun s => spec_diCommon.C.tidy 12 s ((onN Kn12 up) .normal)) (onN Kn12 up))) (blockK 0 (onN (fun s => spec_diCommon.C.tidy 6 s (fun s' => runC spec_diCommon.C (spec_diCommon.O N) N spec_diCommon.c7 7 s' spec_diCommon.K0)) spec_diCommon.K0))) = spec_diCommon.o1 N v0 v1 ((fun w0 w1 => Kn12 (mkSt [(0, .one (.int .i64 w0)), (1, .one (.int .i64 w1))] [] : St D0))) := by kernel_rfl
noncomputable def spec_diCommon.d1 (N : Nat) (v0 : Int) (v1 : Int) (c1 : Int → Int → Option spec_diCommon.R) : Option spec_diCommon.R := spec_diCommon.o1 N v0 v1 c1
theorem spec_diCommon.d1.run (N : Nat) (Kn12 : St D0 → Option spec_diCommon.R) (v0 : Int) (v1 : Int) : runC spec_diCommon.C (spec_diCommon.O N) N spec_diCommon.c24 24 (mkSt [(0, .one (.int .i64 v0)), (1, .one (.int .i64 v1))] [] : St D0) (spec_diCommon.K24 N Kn12) = spec_diCommon.d1 N v0 v1 ((fun w0 w1 => Kn12 (mkSt [(0, .one (.int .i64 w0)), (1, .one (.int .i64 w1))] [] : St D0))) := by
  exact (spec_diCommon.o1.run N Kn12 v0 v1).trans rfl
noncomputable def spec_diCommon.K12 (N : Nat) : Ex → St D0 → Option spec_diCommon.R := (blockK 0 (onN (fun s => spec_diCommon.C.tidy 6 s (fun s' => runC spec_diCommon.C (spec_diCommon.O N) N spec_diCommon.c7 7 s' spec_diCommon.K0)) spec_diCommon.K0))
noncomputable def spec_diCommon.l1 (N : Nat) : Nat → Int → Int → Option spec_diCommon.R
  | 0, _, _ => none
  | n + 1, v0, v1 => spec_diCommon.d1 N v0 v1 ((fun w0 w1 => spec_diCommon.l1 N n w0 w1))
theorem spec_diCommon.loop12 (N : Nat) : ∀ n, (∀ (v0 : Int) (v1 : Int), iter (loopF spec_diCommon.C (spec_diCommon.O N) N spec_diCommon.c24 12) n (mkSt [(0, .one (.int .i64 v0)), (1, .one (.int .i64 v1))] [] : St D0) (spec_diCommon.K12 N) = spec_diCommon.l1 N n v0 v1)
  | 0 => (fun v0 v1 => rfl)
  | n + 1 => (fun v0 v1 => (spec_diCommon.d1.run N (fun s => iter (loopF spec_diCommon.C (spec_diCommon.O N) N spec_diCommon.c24 12) n s (spec_diCommon.K12 N)) v0 v1).trans (show _ = spec_diCommon.d1 N v0 v1 ((fun w0 w1 => spec_diCommon.l1 N n w0 w1)) from (congr rfl (funext fun w0 => funext fun w1 => (spec_diCommon.loop12 N n) w0 w1))))
noncomputable def spec_diCommon.o0 (N : Nat) (a0 : Int) (a1 : Int) (c1 : Int → Int → Option spec_diCommon.R) : Option spec_diCommon.R :=
 c1 a0 a1
theorem spec_diCommon.o0.run (N : Nat) (H24 : Code) (a0 : Int) (a1 : Int) : runC spec_diCommon.C (spec_diCommon.O N) N (.seq spec_diCommon.c2 (.seq (.block 0 (.loop H24)) spec_diCommon.c7)) 1 (st0 [.one (.int .i64 a0), .one (.int .i64 a1)] [] : St D0) spec_diCommon.K0 = spec_diCommon.o0 N a0 a1 ((fun w0 w1 => iter (loopF spec_diCommon.C (spec_diCommon.O N) N H24 12) N (mkSt [(0, .one (.int .i64 w0)), (1, .one (.int .i64 w1))] [] : St D0) (blockK 0 (onN (fun s => spec_diCommon.C.tidy 6 s (fun s' => runC spec_diCommon.C (spec_diCommon.O N) N spec_diCommon.c7 7 s' spec_diCommon.K0)) spec_diCommon.K0)))) := by kernel_rfl
noncomputable def spec_diCommon.g (N : Nat) (a0 : Int) (a1 : Int) : Option spec_diCommon.R := spec_diCommon.o0 N a0 a1 ((fun w0 w1 => spec_diCommon.l1 N N w0 w1))
theorem spec_diCommon.c1_0 : spec_diCommon.c1 = (.seq spec_diCommon.c2 (.seq (.block 0 (.loop spec_diCommon.c24)) spec_diCommon.c7)) := by kernel_rfl
theorem spec_diCommon.g.run (N : Nat) (a0 : Int) (a1 : Int) : runC spec_diCommon.C (spec_diCommon.O N) N spec_diCommon.c1 1 (st0 [.one (.int .i64 a0), .one (.int .i64 a1)] [] : St D0) spec_diCommon.K0 = spec_diCommon.g N a0 a1 := by
  rw [spec_diCommon.c1_0]; unfold spec_diCommon.g; exact (spec_diCommon.o0.run N spec_diCommon.c24 a0 a1).trans (congr rfl (funext fun w0 => funext fun w1 => (spec_diCommon.loop12 N N) w0 w1))
theorem spec_diCommon.good (N : Nat) (a0 : Int) (a1 : Int) (r : spec_diCommon.R) (h : spec_diCommon.g N a0 a1 = some r) : Go.PM.Good Go.Proofs.Tryz.prog T0 61 [.one (.int .i64 a0), .one (.int .i64 a1)] [] (spec_diCommon.sig.ret r) (spec_diCommon.sig.bs r) :=
  good_fn tabOk0 mixed0 spec_diCommon.sig (spec_diCommon.E N) Go.Proofs.Tryz.func61 (by kernel_rfl) (by kernel_rfl) 83 0 0 [(12, [0, 1], [])] 800 false [] [(false, [.any])] (by kernel_rfl) rfl rfl ((spec_diCommon.g.run N a0 a1).trans h)
noncomputable def spec_diCommon.ent (N : Nat) : Ent Go.Proofs.Tryz.prog T0 := mkEnt 61 [(false, [.any]), (false, [.any])] spec_diCommon.sig (fun t => spec_diCommon.g N t.1 t.2) (fun t r h => spec_diCommon.good N t.1 t.2 r h)
end Go.Proofs.YtehbhinaopdkeaaGreat.M

namespace Go.Proofs.YtehbhinaopdkeaaGreat.M
open Go Go.PM Go.Proofs.YtehbhinaopdkeaaGreat.P
set_option linter.unusedVariables false
set_option maxRecDepth 100000
/-! ### spec_diMake -/
abbrev spec_diMake.R : Type := Int × Int × Bool
abbrev spec_diMake.sig : Sig := ⟨[(false, 1), (false, 1)], [], [.int .i64, .int .i64], [(true, 2), (false, 1)], [], [.int .i64, .int .i64, .bool]⟩
noncomputable def spec_diMake.C : Cfg D0 := ⟨Go.Proofs.Tryz.prog, T0, 134217971, 0, 30, 0, [], 7187200, false, []⟩
noncomputable def spec_diMake.E (N : Nat) : List (Ent Go.Proofs.Tryz.prog T0) := [spec_diCommon.ent N]
noncomputable def spec_diMake.O (N : Nat) : Orc D0 spec_diMake.R := orcOf (spec_diMake.E N)
noncomputable def spec_diMake.K0 : Ex → St D0 → Option spec_diMake.R := exitK spec_diMake.C Go.Proofs.Tryz.f62.results.toList [(true, [.any, .any]), (false, [.any])] (decOut spec_diMake.sig)
noncomputable def spec_diMake.c1 : Code := codeAt (Go.Proofs.Tryz.f62.body.getD .skip) []
noncomputable def spec_diMake.o0 (N : Nat) (a0 : Int) (a1 : Int) : Option spec_diMake.R :=
 bif (a1 == 0) then
  none
 else
 bif (a1 == 0) then
  none
 else
 (spec_diCommon.g N (Int.tmod (w64 ((Int.tmod a0 a1) + a1)) a1) a1).bind fun r1 =>
 bif (r1 == 0) then
  none
 else
 bif (r1 == 0) then
  none
 else
 bif (decide ((w64 (Int.tdiv a1 r1)) > 1000000)) then
  some (0, 0, false)
 else
 some ((w64 (Int.tdiv (Int.tmod (w64 ((Int.tmod a0 a1) + a1)) a1) r1)), (w64 (Int.tdiv a1 r1)), true)
theorem spec_diMake.o0.run (N : Nat) (a0 : Int) (a1 : Int) : runC spec_diMake.C (spec_diMake.O N) N spec_diMake.c1 1 (st0 [.one (.int .i64 a0), .one (.int .i64 a1)] [] : St D0) spec_diMake.K0 = spec_diMake.o0 N a0 a1 := by kernel_rfl
noncomputable def spec_diMake.g (N : Nat) (a0 : Int) (a1 : Int) : Option spec_diMake.R := spec_diMake.o0 N a0 a1
theorem spec_diMake.g.run (N : Nat) (a0 : Int) (a1 : Int) : runC spec_diMake.C (spec_diMake.O N) N spec_diMake.c1 1 (st0 [.one (.int .i64 a0), .one (.int .i64 a1)] [] : St D0) spec_diMake.K0 = spec_diMake.g N a0 a1 := by
  exact (spec_diMake.o0.run N a0 a1).trans rfl
theorem spec_diMake.good (N : Nat) (a0 : Int) (a1 : Int) (r : spec_diMake.R) (h : spec_diMake.g N a0 a1 = some r) : Go.PM.Good Go.Proofs.Tryz.prog T0 62 [.one (.int .i64 a0), .one (.int .i64 a1)] [] (spec_diMake.sig.ret r) (spec_diMake.sig.bs r) :=
  good_fn tabOk0 mixed0 spec_diMake.sig (spec_diMake.E N) Go.Proofs.Tryz.func62 (by kernel_rfl) (by kernel_rfl) 134217971 0 0 [] 7187200 false [] [(true, [.any, .any]), (false, [.any])] (by kernel_rfl) rfl rfl ((spec_diMake.g.run N a0 a1).trans h)
noncomputable def spec_diMake.ent (N : Nat) : Ent Go.Proofs.Tryz.prog T0 := mkEnt 62 [(false, [.any]), (false, [.any])] spec_diMake.sig (fun t => spec_diMake.g N t.1 t.2) (fun t r h => spec_diMake.good N t.1 t.2 r h)
end Go.Proofs.YtehbhinaopdkeaaGreat.M

namespace Go.Proofs.YtehbhinaopdkeaaGreat.M
open Go Go.PM Go.Proofs.YtehbhinaopdkeaaGreat.P
set_option linter.unusedVariables false
set_option maxRecDepth 100000
/-! ### spec_diTimes -/
abbrev spec_diTimes.R : Type := Int × Int
abbrev spec_diTimes.sig : Sig := ⟨[(true, 2), (false, 1)], [], [.int .i64, .int .i64, .int .i64], [(true, 2)], [], [.int .i64, .int .i64]⟩
noncomputable def spec_diTimes.C : Cfg D0 := ⟨Go.Proofs.Tryz.prog, T0, 55, 0, 18, 0, [], 1024, false, []⟩
noncomputable def spec_diTimes.E (N : Nat) : List (Ent Go.Proofs.Tryz.prog T0) := [spec_diMake.ent N]
noncomputable def spec_diTimes.O (N : Nat) : Orc D0 spec_diTimes.R := orcOf (spec_diTimes.E N)
noncomputable def spec_diTimes.K0 : Ex → St D0 → Option spec_diTimes.R := exitK spec_diTimes.C Go.Proofs.Tryz.f70.results.toList [(true, [.any, .any])] (decOut spec_diTimes.sig)
noncomputable def spec_diTimes.c1 : Code := codeAt (Go.Proofs.Tryz.f70.body.getD .skip) []
noncomputable def spec_diTimes.o0 (N : Nat) (a0_0 : Int) (a0_1 : Int) (a1 : Int) : Option spec_diTimes.R :=
 (spec_diMake.g N (w64 (a0_0 * a1)) a0_1).bind fun r1 =>
 some (r1.1, r1.2.1)
theorem spec_diTimes.o0.run (N : Nat) (a0_0 : Int) (a0_1 : Int) (a1 : Int) : runC spec_diTimes.C (spec_diTimes.O N) N spec_diTimes.c1 1 (st0 [.agg [.int .i64 a0_0, .int .i64 a0_1], .one (.int .i64 a1)] [] : St D0) spec_diTimes.K0 = spec_diTimes.o0 N a0_0 a0_1 a1 := by kernel_rfl
noncomputable def spec_diTimes.g (N : Nat) (a0_0 : Int) (a0_1 : Int) (a1 : Int) : Option spec_diTimes.R := spec_diTimes.o0 N a0_0 a0_1 a1
theorem spec_diTimes.g.run (N : Nat) (a0_0 : Int) (a0_1 : Int) (a1 : Int) : runC spec_diTimes.C (spec_diTimes.O N) N spec_diTimes.c1 1 (st0 [.agg [.int .i64 a0_0, .int .i64 a0_1], .one (.int .i64 a1)] [] : St D0) spec_diTimes.K0 = spec_diTimes.g N a0_0 a0_1 a1 := by
  exact (spec_diTimes.o0.run N a0_0 a0_1 a1).trans rfl
theorem spec_diTimes.good (N : Nat) (a0_0 : Int) (a0_1 : Int) (a1 : Int) (r : spec_diTimes.R) (h : spec_diTimes.g N a0_0 a0_1 a1 = some r) : Go.PM.Good Go.Proofs.Tryz.prog T0 70 [.agg [.int .i64 a0_0, .int .i64 a0_1], .one (.int .i64 a1)] [] (spec_diTimes.sig.ret r) (spec_diTimes.sig.bs r) :=
  good_fn tabOk0 mixed0 spec_diTimes.sig (spec_diTimes.E N) Go.Proofs.Tryz.func70 (by kernel_rfl) (by kernel_rfl) 55 0 0 [] 1024 false [] [(true, [.any, .any])] (by kernel_rfl) rfl rfl ((spec_diTimes.g.run N a0_0 a0_1 a1).trans h)
noncomputable def spec_diTimes.ent (N : Nat) : Ent Go.Proofs.Tryz.prog T0 := mkEnt 70 [(true, [.any, .any]), (false, [.any])] spec_diTimes.sig (fun t => spec_diTimes.g N t.1 t.2.1 t.2.2) (fun t r h => spec_diTimes.good N t.1 t.2.1 t.2.2 r h)
end Go.Proofs.YtehbhinaopdkeaaGreat.M

namespace Go.Proofs.YtehbhinaopdkeaaGreat.M
open Go Go.PM Go.Proofs.YtehbhinaopdkeaaGreat.P
set_option linter.unusedVariables false
set_option maxRecDepth 100000
/-! ### spec_diGood -/
abbrev spec_diGood.R : Type := Bool
abbrev spec_diGood.sig : Sig := ⟨[(true, 2)], [], [.int .i64, .int .i64], [(false, 1)], [], [.bool]⟩
noncomputable def spec_diGood.C : Cfg D0 := ⟨Go.Proofs.Tryz.prog, T0, 7, 0, 22, 0, [], 0, false, []⟩
noncomputable def spec_diGood.E (N : Nat) : List (Ent Go.Proofs.Tryz.prog T0) := [spec_l1In.ent N, spec_diCommon.ent N]
noncomputable def spec_diGood.O (N : Nat) : Orc D0 spec_diGood.R := orcOf (spec_diGood.E N)
noncomputable def spec_diGood.K0 : Ex → St D0 → Option spec_diGood.R := exitK spec_diGood.C Go.Proofs.Tryz.f55.results.toList [(false, [.any])] (decOut spec_diGood.sig)
noncomputable def spec_diGood.c1 : Code := codeAt (Go.Proofs.Tryz.f55.body.getD .skip) []
noncomputable def spec_diGood.o0 (N : Nat) (a0_0 : Int) (a0_1 : Int) : Option spec_diGood.R :=
 (spec_l1In.g N a0_1 1 1000000).bind fun r1 =>
 bif r1 then
  (spec_l1In.g N a0_0 0 (w64 (a0_1 - 1))).bind fun r2 =>
  bif r2 then
   (spec_diCommon.g N a0_0 a0_1).bind fun r3 =>
   some ((r3 == 1))
  else
  some (false)
 else
 some (false)
theorem spec_diGood.o0.run (N : Nat) (a0_0 : Int) (a0_1 : Int) : runC spec_diGood.C (spec_diGood.O N) N spec_diGood.c1 1 (st0 [.agg [.int .i64 a0_0, .int .i64 a0_1]] [] : St D0) spec_diGood.K0 = spec_diGood.o0 N a0_0 a0_1 := by kernel_rfl
noncomputable def spec_diGood.g (N : Nat) (a0_0 : Int) (a0_1 : Int) : Option spec_diGood.R := spec_diGood.o0 N a0_0 a0_1
theorem spec_diGood.g.run (N : Nat) (a0_0 : Int) (a0_1 : Int) : runC spec_diGood.C (spec_diGood.O N) N spec_diGood.c1 1 (st0 [.agg [.int .i64 a0_0, .int .i64 a0_1]] [] : St D0) spec_diGood.K0 = spec_diGood.g N a0_0 a0_1 := by
  exact (spec_diGood.o0.run N a0_0 a0_1).trans rfl
theorem spec_diGood.good (N : Nat) (a0_0 : Int) (a0_1 : Int) (r : spec_diGood.R) (h : spec_diGood.g N a0_0 a0_1 = some r) : Go.PM.Good Go.Proofs.Tryz.prog T0 55 [.agg [.int .i64 a0_0, .int .i64 a0_1]] [] (spec_diGood.sig.ret r) (spec_diGood.sig.bs r) :=
  good_fn tabOk0 mixed0 spec_diGood.sig (spec_diGood.E N) Go.Proofs.Tryz.func55 (by kernel_rfl) (by kernel_rfl) 7 0 0 [] 0 false [] [(false, [.any])] (by kernel_rfl) rfl rfl ((spec_diGood.g.run N a0_0 a0_1).trans h)
noncomputable def spec_diGood.ent (N : Nat) : Ent Go.Proofs.Tryz.prog T0 := mkEnt 55 [(true, [.any, .any])] spec_diGood.sig (fun t => spec_diGood.g N t.1 t.2) (fun t r h => spec_diGood.good N t.1 t.2 r h)
end Go.Proofs.YtehbhinaopdkeaaGreat.M

namespace Go.Proofs.YtehbhinaopdkeaaGreat.M
open Go Go.PM Go.Proofs.YtehbhinaopdkeaaGreat.P
set_option linter.unusedVariables false
set_option maxRecDepth 100000
/-! ### spec_diAsked -/
abbrev spec_diAsked.R : Type := Bool
abbrev spec_diAsked.sig : Sig := ⟨[(false, 1), (true, 2)], [], [.int .i64, .int .i64, .int .i64], [(false, 1)], [], [.bool]⟩
noncomputable def spec_diAsked.C : Cfg D0 := ⟨Go.Proofs.Tryz.prog, T0, 27, 0, 11, 0, [], 32, false, []⟩
noncomputable def spec_diAsked.E (N : Nat) : List (Ent Go.Proofs.Tryz.prog T0) := [spec_diHours.ent N, spec_diGood.ent N]
noncomputable def spec_diAsked.O (N : Nat) : Orc D0 spec_diAsked.R := orcOf (spec_diAsked.E N)
noncomputable def spec_diAsked.K0 : Ex → St D0 → Option spec_diAsked.R := exitK spec_diAsked.C Go.Proofs.Tryz.f45.results.toList [(false, [.any])] (decOut spec_diAsked.sig)
noncomputable def spec_diAsked.c1 : Code := codeAt (Go.Proofs.Tryz.f45.body.getD .skip) []
noncomputable def spec_diAsked.o0 (N : Nat) (a0 : Int) (a1_0 : Int) (a1_1 : Int) : Option spec_diAsked.R :=
 (spec_diHours.g N a0).bind fun r1 =>
 bif r1 then
  (spec_diGood.g N a1_0 a1_1).bind fun r2 =>
  some (r2)
 else
 some (false)
theorem spec_diAsked.o0.run (N : Nat) (a0 : Int) (a1_0 : Int) (a1_1 : Int) : runC spec_diAsked.C (spec_diAsked.O N) N spec_diAsked.c1 1 (st0 [.one (.int .i64 a0), .agg [.int .i64 a1_0, .int .i64 a1_1]] [] : St D0) spec_diAsked.K0 = spec_diAsked.o0 N a0 a1_0 a1_1 := by kernel_rfl
noncomputable def spec_diAsked.g (N : Nat) (a0 : Int) (a1_0 : Int) (a1_1 : Int) : Option spec_diAsked.R := spec_diAsked.o0 N a0 a1_0 a1_1
theorem spec_diAsked.g.run (N : Nat) (a0 : Int) (a1_0 : Int) (a1_1 : Int) : runC spec_diAsked.C (spec_diAsked.O N) N spec_diAsked.c1 1 (st0 [.one (.int .i64 a0), .agg [.int .i64 a1_0, .int .i64 a1_1]] [] : St D0) spec_diAsked.K0 = spec_diAsked.g N a0 a1_0 a1_1 := by
  exact (spec_diAsked.o0.run N a0 a1_0 a1_1).trans rfl
theorem spec_diAsked.good (N : Nat) (a0 : Int) (a1_0 : Int) (a1_1 : Int) (r : spec_diAsked.R) (h : spec_diAsked.g N a0 a1_0 a1_1 = some r) : Go.PM.Good Go.Proofs.Tryz.prog T0 45 [.one (.int .i64 a0), .agg [.int .i64 a1_0, .int .i64 a1_1]] [] (spec_diAsked.sig.ret r) (spec_diAsked.sig.bs r) :=
  good_fn tabOk0 mixed0 spec_diAsked.sig (spec_diAsked.E N) Go.Proofs.Tryz.func45 (by kernel_rfl) (by kernel_rfl) 27 0 0 [] 32 false [] [(false, [.any])] (by kernel_rfl) rfl rfl ((spec_diAsked.g.run N a0 a1_0 a1_1).trans h)
noncomputable def spec_diAsked.ent (N : Nat) : Ent Go.Proofs.Tryz.prog T0 := mkEnt 45 [(false, [.any]), (true, [.any, .any])] spec_diAsked.sig (fun t => spec_diAsked.g N t.1 t.2.1 t.2.2) (fun t r h => spec_diAsked.good N t.1 t.2.1 t.2.2 r h)
end Go.Proofs.YtehbhinaopdkeaaGreat.M

namespace Go.Proofs.YtehbhinaopdkeaaGreat.M
open Go Go.PM Go.Proofs.YtehbhinaopdkeaaGreat.P
set_option linter.unusedVariables false
set_option maxRecDepth 100000
/-! ### impl_areTurns_1 -/
abbrev impl_areTurns_1.R : Type := Bool
abbrev impl_areTurns_1.sig : Sig := ⟨[(true, 2)], [], [.int .i64, .int .i64], [(false, 1)], [], [.bool]⟩
noncomputable def impl_areTurns_1.C : Cfg D0 := ⟨Go.Proofs.Tryz.prog, T0, 7, 0, 6, 0, [], 0, false, []⟩
noncomputable def impl_areTurns_1.E (N : Nat) : List (Ent Go.Proofs.Tryz.prog T0) := [impl_IsTurn.ent N]
noncomputable def impl_areTurns_1.O (N : Nat) : Orc D0 impl_areTurns_1.R := orcOf (impl_areTurns_1.E N)
noncomputable def impl_areTurns_1.K0 : Ex → St D0 → Option impl_areTurns_1.R := exitK impl_areTurns_1.C Go.Proofs.Tryz.f80.results.toList [(false, [.any])] (decOut impl_areTurns_1.sig)
noncomputable def impl_areTurns_1.c1 : Code := codeAt (Go.Proofs.Tryz.f80.body.getD .skip) []
noncomputable def impl_areTurns_1.o0 (N : Nat) (a0_0 : Int) (a0_1 : Int) : Option impl_areTurns_1.R :=
 (impl_IsTurn.g N a0_0 a0_1).bind fun r1 =>
 some ((!r1))
theorem impl_areTurns_1.o0.run (N : Nat) (a0_0 : Int) (a0_1 : Int) : runC impl_areTurns_1.C (impl_areTurns_1.O N) N impl_areTurns_1.c1 1 (st0 [.agg [.int .i64 a0_0, .int .i64 a0_1]] [] : St D0) impl_areTurns_1.K0 = impl_areTurns_1.o0 N a0_0 a0_1 := by kernel_rfl
noncomputable def impl_areTurns_1.g (N : Nat) (a0_0 : Int) (a0_1 : Int) : Option impl_areTurns_1.R := impl_areTurns_1.o0 N a0_0 a0_1
theorem impl_areTurns_1.g.run (N : Nat) (a0_0 : Int) (a0_1 : Int) : runC impl_areTurns_1.C (impl_areTurns_1.O N) N impl_areTurns_1.c1 1 (st0 [.agg [.int .i64 a0_0, .int .i64 a0_1]] [] : St D0) impl_areTurns_1.K0 = impl_areTurns_1.g N a0_0 a0_1 := by
  exact (impl_areTurns_1.o0.run N a0_0 a0_1).trans rfl
theorem impl_areTurns_1.good (N : Nat) (a0_0 : Int) (a0_1 : Int) (r : impl_areTurns_1.R) (h : impl_areTurns_1.g N a0_0 a0_1 = some r) : Go.PM.Good Go.Proofs.Tryz.prog T0 80 [.agg [.int .i64 a0_0, .int .i64 a0_1]] [] (impl_areTurns_1.sig.ret r) (impl_areTurns_1.sig.bs r) :=
  good_fn tabOk0 mixed0 impl_areTurns_1.sig (impl_areTurns_1.E N) Go.Proofs.Tryz.func80 (by kernel_rfl) (by kernel_rfl) 7 0 0 [] 0 false [] [(false, [.any])] (by kernel_rfl) rfl rfl ((impl_areTurns_1.g.run N a0_0 a0_1).trans h)
noncomputable def impl_areTurns_1.ent (N : Nat) : Ent Go.Proofs.Tryz.prog T0 := mkEnt 80 [(true, [.any, .any])] impl_areTurns_1.sig (fun t => impl_areTurns_1.g N t.1 t.2) (fun t r h => impl_areTurns_1.good N t.1 t.2 r h)
end Go.Proofs.YtehbhinaopdkeaaGreat.M

namespace Go.Proofs.YtehbhinaopdkeaaGreat.M
open Go Go.PM Go.Proofs.YtehbhinaopdkeaaGreat.P
set_option linter.unusedVariables false
set_option maxRecDepth 100000
/-! ### slices_IndexFunc_impl_Turn_impl_Turn -/
abbrev slices_IndexFunc_impl_Turn_impl_Turn.R : Type := Int
abbrev slices_IndexFunc_impl_Turn_impl_Turn.sig : Sig := ⟨[(false, 1), (false, 1)], [], [.sl false 25, .fn 80 []], [(false, 1)], [], [.int .i64]⟩
noncomputable def slices_IndexFunc_impl_Turn_impl_Turn.C : Cfg D0 := ⟨Go.Proofs.Tryz.prog, T0, 66483, 0, 19, 0, [(26, [0, 1, 7, 8], [])], 14400, false, []⟩
noncomputable def slices_IndexFunc_impl_Turn_impl_Turn.E (N : Nat) : List (Ent Go.Proofs.Tryz.prog T0) := [impl_areTurns_1.ent N]
noncomputable def slices_IndexFunc_impl_Turn_impl_Turn.O (N : Nat) : Orc D0 slices_IndexFunc_impl_Turn_impl_Turn.R := orcOf (slices_IndexFunc_impl_Turn_impl_Turn.E N)
noncomputable def slices_IndexFunc_impl_Turn_impl_Turn.K0 : Ex → St D0 → Option slices_IndexFunc_impl_Turn_impl_Turn.R := exitK slices_IndexFunc_impl_Turn_impl_Turn.C Go.Proofs.Tryz.f87.results.toList [(false, [.any])] (decOut slices_IndexFunc_impl_Turn_impl_Turn.sig)
noncomputable def slices_IndexFunc_impl_Turn_impl_Turn.c1 : Code := codeAt (Go.Proofs.Tryz.f87.body.getD .skip) []
noncomputable def slices_IndexFunc_impl_Turn_impl_Turn.c2 : Code := codeAt (Go.Proofs.Tryz.f87.body.getD .skip) [false]
noncomputable def slices_IndexFunc_impl_Turn_impl_Turn.c7 : Code := codeAt (Go.Proofs.Tryz.f87.body.getD .skip) [true, true]
noncomputable def slices_IndexFunc_impl_Turn_impl_Turn.c12 : Code := codeAt (Go.Proofs.Tryz.f87.body.getD .skip) [true, false, false]
noncomputable def slices_IndexFunc_impl_Turn_impl_Turn.c52 : Code := codeAt (Go.Proofs.Tryz.f87.body.getD .skip) [true, false, true, false, false]
noncomputable def slices_IndexFunc_impl_Turn_impl_Turn.K52 (N : Nat) (Kn26 : St D0 → Option slices_IndexFunc_impl_Turn_impl_Turn.R) : Ex → St D0 → Option slices_IndexFunc_impl_Turn_impl_Turn.R := ((fun up => (onN (fun s => slices_IndexFunc_impl_Turn_impl_Turn.C.tidy 26 s ((onN Kn26 up) .normal)) (onN Kn26 up))) (blockK 0 (onN (fun s => slices_IndexFunc_impl_Turn_impl_Turn.C.tidy 6 s (fun s' => runC slices_IndexFunc_impl_Turn_impl_Turn.C (slices_IndexFunc_impl_Turn_impl_Turn.O N) N slices_IndexFunc_impl_Turn_impl_Turn.c7 7 s' slices_IndexFunc_impl_Turn_impl_Turn.K0)) slices_IndexFunc_impl_Turn_impl_Turn.K0)))
noncomputable def slices_IndexFunc_impl_Turn_impl_Turn.o1 (N : Nat) (v0 : List S25) (v1 : Int) (v2 : Int) (c1 : (List S25) → Int → Int → Option slices_IndexFunc_impl_Turn_impl_Turn.R) : Option slices_IndexFunc_impl_Turn_impl_Turn.R :=
 bif (decide (v2 < v1)) then
  bif (decide (0 ≤ v2)) then
   bif (decide (v2 < (v0.length : Int))) then
    (v0[(v2 : Int).toNat]?).bind fun x1 =>
    (impl_areTurns_1.g N x1.f0 x1.f1).bind fun r2 =>
    bif r2 then
     some (v2)
    else
    c1 v0 v1 (w64 (v2 + 1))
   else
   none
  else
  none
 else
 some ((-1))
theorem slices_IndexFunc_impl_Turn_impl_Turn.o1.run (N : Nat) (Kn26 : St D0 → Option slices_IndexFunc_impl_Turn_impl_Turn.R) (v0 : List S25) (v1 : Int) (v2 : Int) : runC slices_IndexFunc_impl_Turn_impl_Turn.C (slices_IndexFunc_impl_Turn_impl_Turn.O N) N slices_IndexFunc_impl_Turn_impl_Turn.c52 52 (mkSt [(0, .one (.sl false 25 v0)), (1, .one (.fn 80 [])), (7, .one (.int .i64 v1)), (8, .one (.int .i64 v2))] [] : St D0) ((fun up => (onN (fun s => slices_IndexFunc_impl_Turn_impl_Turn.C.tidy 26 s ((onN Kn26 up) .normal)) (onN Kn26 up))) (blockK 0 (onN (fun s => slices_IndexFunc_impl_Turn_impl_Turn.C.tidy 6 s (fun s' => runC slices_IndexFunc_impl_Turn_impl_Turn.C (slices_IndexFunc_impl_Turn_impl_Turn.O N) N slices_IndexFunc_impl_Turn_impl_Turn.c7 7 s' slices_IndexFunc_impl_Turn_impl_Turn.K0)) slices_IndexFunc_impl_Turn_impl_Turn.K0))) = slices_IndexFunc_impl_Turn_impl_Turn.o1 N v0 v1 v2 ((fun w0 w1 w2 => Kn26 (mkSt [(0, .one (.sl false 25 w0)), (1, .one (.fn 80 [])), (7, .one (.int .i64 w1)), (8, .one (.int .i64 w2))] [] : St D0))) := by kernel_rfl
noncomputable def slices_IndexFunc_impl_Turn_impl_Turn.d1 (N : Nat) (v0 : List S25) (v1 : Int) (v2 : Int) (c1 : (List S25) → Int → Int → Option slices_IndexFunc_impl_Turn_impl_Turn.R) : Option slices_IndexFunc_impl_Turn_impl_Turn.R := slices_IndexFunc_impl_Turn_impl_Turn.o1 N v0 v1 v2 c1
theorem slices_IndexFunc_impl_Turn_impl_Turn.d1.run (N : Nat) (Kn26 : St D0 → Option slices_IndexFunc_impl_Turn_impl_Turn.R) (v0 : List S25) (v1 : Int) (v2 : Int) : runC slices_IndexFunc_impl_Turn_impl_Turn.C (slices_IndexFunc_impl_Turn_impl_Turn.O N) N slices_IndexFunc_impl_Turn_impl_Turn.c52 52 (mkSt [(0, .one (.sl false 25 v0)), (1, .one (.fn 80 [])), (7, .one (.int .i64 v1)), (8, .one (.int .i64 v2))] [] : St D0) (slices_IndexFunc_impl_Turn_impl_Turn.K52 N Kn26) = slices_IndexFunc_impl_Turn_impl_Turn.d1 N v0 v1 v2 ((fun w0 w1 w2 => Kn26 (mkSt [(0, .one (.sl false 25 w0)), (1, .one (.fn 80 [])), (7, .one (.int .i64 w1)), (8, .one (.int .i64 w2))] [] : St D0))) := by
  exact (slices_IndexFunc_impl_Turn_impl_Turn.o1.run N Kn26 v0 v1 v2).trans rfl
noncomputable def slices_IndexFunc_impl_Turn_impl_Turn.K26 (N : Nat) : Ex → St D0 → Option slices_IndexFunc_impl_Turn_impl_Turn.R := (blockK 0 (onN (fun s => slices_IndexFunc_impl_Turn_impl_Turn.C.tidy 6 s (fun s' => runC slices_IndexFunc_impl_Turn_impl_Turn.C (slices_IndexFunc_impl_Turn_impl_Turn.O N) N slices_IndexFunc_impl_Turn_impl_Turn.c7 7 s' slices_IndexFunc_impl_Turn_impl_Turn.K0)) slices_IndexFunc_impl_Turn_impl_Turn.K0))
noncomputable def slices_IndexFunc_impl_Turn_impl_Turn.l1 (N : Nat) : Nat → (List S25) → Int → Int → Option slices_IndexFunc_impl_Turn_impl_Turn.R
  | 0, _, _, _ => none
  | n + 1, v0, v1, v2 => slices_IndexFunc_impl_Turn_impl_Turn.d1 N v0 v1 v2 ((fun w0 w1 w2 => slices_IndexFunc_impl_Turn_impl_Turn.l1 N n w0 w1 w2))
theorem slices_IndexFunc_impl_Turn_impl_Turn.loop26 (N : Nat) : ∀ n, (∀ (v0 : List S25) (v1 : Int) (v2 : Int), iter (loopF slices_IndexFunc_impl_Turn_impl_Turn.C (slices_IndexFunc_impl_Turn_impl_Turn.O N) N slices_IndexFunc_impl_Turn_impl_Turn.c52 26) n (mkSt [(0, .one (.sl false 25 v0)), (1, .one (.fn 80 [])), (7, .one (.int .i64 v1)), (8, .one (.int .i64 v2))] [] : St D0) (slices_IndexFunc_impl_Turn_impl_Turn.K26 N) = slices_IndexFunc_impl_Turn_impl_Turn.l1 N n v0 v1 v2)
  | 0 => (fun v0 v1 v2 => rfl)
  | n + 1 => (fun v0 v1 v2 => (slices_IndexFunc_impl_Turn_impl_Turn.d1.run N (fun s => iter (loopF slices_IndexFunc_impl_Turn_impl_Turn.C (slices_IndexFunc_impl_Turn_impl_Turn.O N) N slices_IndexFunc_impl_Turn_impl_Turn.c52 26) n s (slices_IndexFunc_impl_Turn_impl_Turn.K26 N)) v0 v1 v2).trans (show _ = slices_IndexFunc_impl_Turn_impl_Turn.d1 N v0 v1 v2 ((fun w0 w1 w2 => slices_IndexFunc_impl_Turn_impl_Turn.l1 N n w0 w1 w2)) from (congr rfl (funext fun w0 => funext fun w1 => funext fun w2 => (slices_IndexFunc_impl_Turn_impl_Turn.loop26 N n) w0 w1 w2))))
noncomputable def slices_IndexFunc_impl_Turn_impl_Turn.o0 (N : Nat) (a0 : List S25) (c1 : (List S25) → Int → Int → Option slices_IndexFunc_impl_Turn_impl_Turn.R) : Option slices_IndexFunc_impl_Turn_impl_Turn.R :=
 c1 a0 (a0.length : Int) 0
theorem slices_IndexFunc_impl_Turn_impl_Turn.o0.run (N : Nat) (H52 : Code) (a0 : List S25) : runC slices_IndexFunc_impl_Turn_impl_Turn.C (slices_IndexFunc_impl_Turn_impl_Turn.O N) N (.seq slices_IndexFunc_impl_Turn_impl_Turn.c2 (.seq (.seq slices_IndexFunc_impl_Turn_impl_Turn.c12 (.block 0 (.loop H52))) slices_IndexFunc_impl_Turn_impl_Turn.c7)) 1 (st0 [.one (.sl false 25 a0), .one (.fn 80 [])] [] : St D0) slices_IndexFunc_impl_Turn_impl_Turn.K0 = slices_IndexFunc_impl_Turn_impl_Turn.o0 N a0 ((fun w0 w1 w2 => iter (loopF slices_IndexFunc_impl_Turn_impl_Turn.C (slices_IndexFunc_impl_Turn_impl_Turn.O N) N H52 26) N (mkSt [(0, .one (.sl false 25 w0)), (1, .one (.fn 80 [])), (7, .one (.int .i64 w1)), (8, .one (.int .i64 w2))] [] : St D0) (blockK 0 (onN (fun s => slices_IndexFunc_impl_Turn_impl_Turn.C.tidy 6 s (fun s' => runC slices_IndexFunc_impl_Turn_impl_Turn.C (slices_IndexFunc_impl_Turn_impl_Turn.O N) N slices_IndexFunc_impl_Turn_impl_Turn.c7 7 s' slices_IndexFunc_impl_Turn_impl_Turn.K0)) slices_IndexFunc_impl_Turn_impl_Turn.K0)))) := by kernel_rfl
noncomputable def slices_IndexFunc_impl_Turn_impl_Turn.g (N : Nat) (a0 : List S25) : Option slices_IndexFunc_impl_Turn_impl_Turn.R := slices_IndexFunc_impl_Turn_impl_Turn.o0 N a0 ((fun w0 w1 w2 => slices_IndexFunc_impl_Turn_impl_Turn.l1 N N w0 w1 w2))
theorem slices_IndexFunc_impl_Turn_impl_Turn.c1_0 : slices_IndexFunc_impl_Turn_impl_Turn.c1 = (.seq slices_IndexFunc_impl_Turn_impl_Turn.c2 (.seq (.seq slices_IndexFunc_impl_Turn_impl_Turn.c12 (.block 0 (.loop slices_IndexFunc_impl_Turn_impl_Turn.c52))) slices_IndexFunc_impl_Turn_impl_Turn.c7)) := by kernel_rfl
theorem slices_IndexFunc_impl_Turn_impl_Turn.g.run (N : Nat) (a0 : List S25) : runC slices_IndexFunc_impl_Turn_impl_Turn.C (slices_IndexFunc_impl_Turn_impl_Turn.O N) N slices_IndexFunc_impl_Turn_impl_Turn.c1 1 (st0 [.one (.sl false 25 a0), .one (.fn 80 [])] [] : St D0) slices_IndexFunc_impl_Turn_impl_Turn.K0 = slices_IndexFunc_impl_Turn_impl_Turn.g N a0 := by
  rw [slices_IndexFunc_impl_Turn_impl_Turn.c1_0]; unfold slices_IndexFunc_impl_Turn_impl_Turn.g; exact (slices_IndexFunc_impl_Turn_impl_Turn.o0.run N slices_IndexFunc_impl_Turn_impl_Turn.c52 a0).trans (congr rfl (funext fun w0 => funext fun w1 => funext fun w2 => (slices_IndexFunc_impl_Turn_impl_Turn.loop26 N N) w0 w1 w2))
theorem slices_IndexFunc_impl_Turn_impl_Turn.good (N : Nat) (a0 : List S25) (r : slices_IndexFunc_impl_Turn_impl_Turn.R) (h : slices_IndexFunc_impl_Turn_impl_Turn.g N a0 = some r) : Go.PM.Good Go.Proofs.Tryz.prog T0 87 [.one (.sl false 25 a0), .one (.fn 80 [])] [] (slices_IndexFunc_impl_Turn_impl_Turn.sig.ret r) (slices_IndexFunc_impl_Turn_impl_Turn.sig.bs r) :=
  good_fn tabOk0 mixed0 slices_IndexFunc_impl_Turn_impl_Turn.sig (slices_IndexFunc_impl_Turn_impl_Turn.E N) Go.Proofs.Tryz.func87 (by kernel_rfl) (by kernel_rfl) 66483 0 0 [(26, [0, 1, 7, 8], [])] 14400 false [] [(false, [.any])] (by kernel_rfl) rfl rfl ((slices_IndexFunc_impl_Turn_impl_Turn.g.run N a0).trans h)
noncomputable def slices_IndexFunc_impl_Turn_impl_Turn.ent (N : Nat) : Ent Go.Proofs.Tryz.prog T0 := mkEnt 87 [(false, [.ro 25]), (false, [.any])] slices_IndexFunc_impl_Turn_impl_Turn.sig (fun t => slices_IndexFunc_impl_Turn_impl_Turn.g N t.1) (fun t r h => slices_IndexFunc_impl_Turn_impl_Turn.good N t.1 r h)
end Go.Proofs.YtehbhinaopdkeaaGreat.M

namespace Go.Proofs.YtehbhinaopdkeaaGreat.M
open Go Go.PM Go.Proofs.YtehbhinaopdkeaaGreat.P
set_option linter.unusedVariables false
set_option maxRecDepth 100000
/-! ### slices_ContainsFunc_impl_Turn_impl_Turn -/
abbrev slices_ContainsFunc_impl_Turn_impl_Turn.R : Type := Bool
abbrev slices_ContainsFunc_impl_Turn_impl_Turn.sig : Sig := ⟨[(false, 1), (false, 1)], [], [.sl false 25, .fn 80 []], [(false, 1)], [], [.bool]⟩
noncomputable def slices_ContainsFunc_impl_Turn_impl_Turn.C : Cfg D0 := ⟨Go.Proofs.Tryz.prog, T0, 19, 0, 9, 0, [], 96, false, []⟩
noncomputable def slices_ContainsFunc_impl_Turn_impl_Turn.E (N : Nat) : List (Ent Go.Proofs.Tryz.prog T0) := [slices_IndexFunc_impl_Turn_impl_Turn.ent N]
noncomputable def slices_ContainsFunc_impl_Turn_impl_Turn.O (N : Nat) : Orc D0 slices_ContainsFunc_impl_Turn_impl_Turn.R := orcOf (slices_ContainsFunc_impl_Turn_impl_Turn.E N)
noncomputable def slices_ContainsFunc_impl_Turn_impl_Turn.K0 : Ex → St D0 → Option slices_ContainsFunc_impl_Turn_impl_Turn.R := exitK slices_ContainsFunc_impl_Turn_impl_Turn.C Go.Proofs.Tryz.f79.results.toList [(false, [.any])] (decOut slices_ContainsFunc_impl_Turn_impl_Turn.sig)
noncomputable def slices_ContainsFunc_impl_Turn_impl_Turn.c1 : Code := codeAt (Go.Proofs.Tryz.f79.body.getD .skip) []
noncomputable def slices_ContainsFunc_impl_Turn_impl_Turn.o0 (N : Nat) (a0 : List S25) : Option slices_ContainsFunc_impl_Turn_impl_Turn.R :=
 (slices_IndexFunc_impl_Turn_impl_Turn.g N a0).bind fun r1 =>
 some ((decide (r1 ≥ 0)))
theorem slices_ContainsFunc_impl_Turn_impl_Turn.o0.run (N : Nat) (a0 : List S25) : runC slices_ContainsFunc_impl_Turn_impl_Turn.C (slices_ContainsFunc_impl_Turn_impl_Turn.O N) N slices_ContainsFunc_impl_Turn_impl_Turn.c1 1 (st0 [.one (.sl false 25 a0), .one (.fn 80 [])] [] : St D0) slices_ContainsFunc_impl_Turn_impl_Turn.K0 = slices_ContainsFunc_impl_Turn_impl_Turn.o0 N a0 := by kernel_rfl
noncomputable def slices_ContainsFunc_impl_Turn_impl_Turn.g (N : Nat) (a0 : List S25) : Option slices_ContainsFunc_impl_Turn_impl_Turn.R := slices_ContainsFunc_impl_Turn_impl_Turn.o0 N a0
theorem slices_ContainsFunc_impl_Turn_impl_Turn.g.run (N : Nat) (a0 : List S25) : runC slices_ContainsFunc_impl_Turn_impl_Turn.C (slices_ContainsFunc_impl_Turn_impl_Turn.O N) N slices_ContainsFunc_impl_Turn_impl_Turn.c1 1 (st0 [.one (.sl false 25 a0), .one (.fn 80 [])] [] : St D0) slices_ContainsFunc_impl_Turn_impl_Turn.K0 = slices_ContainsFunc_impl_Turn_impl_Turn.g N a0 := by
  exact (slices_ContainsFunc_impl_Turn_impl_Turn.o0.run N a0).trans rfl
theorem slices_ContainsFunc_impl_Turn_impl_Turn.good (N : Nat) (a0 : List S25) (r : slices_ContainsFunc_impl_Turn_impl_Turn.R) (h : slices_ContainsFunc_impl_Turn_impl_Turn.g N a0 = some r) : Go.PM.Good Go.Proofs.Tryz.prog T0 79 [.one (.sl false 25 a0), .one (.fn 80 [])] [] (slices_ContainsFunc_impl_Turn_impl_Turn.sig.ret r) (slices_ContainsFunc_impl_Turn_impl_Turn.sig.bs r) :=
  good_fn tabOk0 mixed0 slices_ContainsFunc_impl_Turn_impl_Turn.sig (slices_ContainsFunc_impl_Turn_impl_Turn.E N) Go.Proofs.Tryz.func79 (by kernel_rfl) (by kernel_rfl) 19 0 0 [] 96 false [] [(false, [.any])] (by kernel_rfl) rfl rfl ((slices_ContainsFunc_impl_Turn_impl_Turn.g.run N a0).trans h)
noncomputable def slices_ContainsFunc_impl_Turn_impl_Turn.ent (N : Nat) : Ent Go.Proofs.Tryz.prog T0 := mkEnt 79 [(false, [.ro 25]), (false, [.any])] slices_ContainsFunc_impl_Turn_impl_Turn.sig (fun t => slices_ContainsFunc_impl_Turn_impl_Turn.g N t.1) (fun t r h => slices_ContainsFunc_impl_Turn_impl_Turn.good N t.1 r h)
end Go.Proofs.YtehbhinaopdkeaaGreat.M

namespace Go.Proofs.YtehbhinaopdkeaaGreat.M
open Go Go.PM Go.Proofs.YtehbhinaopdkeaaGreat.P
set_option linter.unusedVariables false
set_option maxRecDepth 100000
/-! ### impl_areTurns -/
abbrev impl_areTurns.R : Type := Bool
abbrev impl_areTurns.sig : Sig := ⟨[(false, 1)], [], [.sl false 25], [(false, 1)], [], [.bool]⟩
noncomputable def impl_areTurns.C : Cfg D0 := ⟨Go.Proofs.Tryz.prog, T0, 5, 0, 6, 0, [], 8, false, []⟩
noncomputable def impl_areTurns.E (N : Nat) : List (Ent Go.Proofs.Tryz.prog T0) := [slices_ContainsFunc_impl_Turn_impl_Turn.ent N]
noncomputable def impl_areTurns.O (N : Nat) : Orc D0 impl_areTurns.R := orcOf (impl_areTurns.E N)
noncomputable def impl_areTurns.K0 : Ex → St D0 → Option impl_areTurns.R := exitK impl_areTurns.C Go.Proofs.Tryz.f56.results.toList [(false, [.any])] (decOut impl_areTurns.sig)
noncomputable def impl_areTurns.c1 : Code := codeAt (Go.Proofs.Tryz.f56.body.getD .skip) []
noncomputable def impl_areTurns.o0 (N : Nat) (a0 : List S25) : Option impl_areTurns.R :=
 (slices_ContainsFunc_impl_Turn_impl_Turn.g N a0).bind fun r1 =>
 some ((!r1))
theorem impl_areTurns.o0.run (N : Nat) (a0 : List S25) : runC impl_areTurns.C (impl_areTurns.O N) N impl_areTurns.c1 1 (st0 [.one (.sl false 25 a0)] [] : St D0) impl_areTurns.K0 = impl_areTurns.o0 N a0 := by kernel_rfl
noncomputable def impl_areTurns.g (N : Nat) (a0 : List S25) : Option impl_areTurns.R := impl_areTurns.o0 N a0
theorem impl_areTurns.g.run (N : Nat) (a0 : List S25) : runC impl_areTurns.C (impl_areTurns.O N) N impl_areTurns.c1 1 (st0 [.one (.sl false 25 a0)] [] : St D0) impl_areTurns.K0 = impl_areTurns.g N a0 := by
  exact (impl_areTurns.o0.run N a0).trans rfl
theorem impl_areTurns.good (N : Nat) (a0 : List S25) (r : impl_areTurns.R) (h : impl_areTurns.g N a0 = some r) : Go.PM.Good Go.Proofs.Tryz.prog T0 56 [.one (.sl false 25 a0)] [] (impl_areTurns.sig.ret r) (impl_areTurns.sig.bs r) :=
  good_fn tabOk0 mixed0 impl_areTurns.sig (impl_areTurns.E N) Go.Proofs.Tryz.func56 (by kernel_rfl) (by kernel_rfl) 5 0 0 [] 8 false [] [(false, [.any])] (by kernel_rfl) rfl rfl ((impl_areTurns.g.run N a0).trans h)
noncomputable def impl_areTurns.ent (N : Nat) : Ent Go.Proofs.Tryz.prog T0 := mkEnt 56 [(false, [.ro 25])] impl_areTurns.sig (fun t => impl_areTurns.g N t) (fun t r h => impl_areTurns.good N t r h)
end Go.Proofs.YtehbhinaopdkeaaGreat.M

namespace Go.Proofs.YtehbhinaopdkeaaGreat.M
open Go Go.PM Go.Proofs.YtehbhinaopdkeaaGreat.P
set_option linter.unusedVariables false
set_option maxRecDepth 100000
/-! ### impl_Turn_mirror -/
abbrev impl_Turn_mirror.R : Type := Int × Int
abbrev impl_Turn_mirror.sig : Sig := ⟨[(true, 2)], [], [.int .i64, .int .i64], [(true, 2)], [], [.int .i64, .int .i64]⟩
noncomputable def impl_Turn_mirror.C : Cfg D0 := ⟨Go.Proofs.Tryz.prog, T0, 7, 0, 5, 0, [], 0, false, []⟩
noncomputable def impl_Turn_mirror.E (N : Nat) : List (Ent Go.Proofs.Tryz.prog T0) := [impl_Turn_times.ent N]
noncomputable def impl_Turn_mirror.O (N : Nat) : Orc D0 impl_Turn_mirror.R := orcOf (impl_Turn_mirror.E N)
noncomputable def impl_Turn_mirror.K0 : Ex → St D0 → Option impl_Turn_mirror.R := exitK impl_Turn_mirror.C Go.Proofs.Tryz.f47.results.toList [(true, [.any, .any])] (decOut impl_Turn_mirror.sig)
noncomputable def impl_Turn_mirror.c1 : Code := codeAt (Go.Proofs.Tryz.f47.body.getD .skip) []
noncomputable def impl_Turn_mirror.o0 (N : Nat) (a0_0 : Int) (a0_1 : Int) : Option impl_Turn_mirror.R :=
 (impl_Turn_times.g N a0_0 a0_1 (-1)).bind fun r1 =>
 some (r1.1, r1.2)
theorem impl_Turn_mirror.o0.run (N : Nat) (a0_0 : Int) (a0_1 : Int) : runC impl_Turn_mirror.C (impl_Turn_mirror.O N) N impl_Turn_mirror.c1 1 (st0 [.agg [.int .i64 a0_0, .int .i64 a0_1]] [] : St D0) impl_Turn_mirror.K0 = impl_Turn_mirror.o0 N a0_0 a0_1 := by kernel_rfl
noncomputable def impl_Turn_mirror.g (N : Nat) (a0_0 : Int) (a0_1 : Int) : Option impl_Turn_mirror.R := impl_Turn_mirror.o0 N a0_0 a0_1
theorem impl_Turn_mirror.g.run (N : Nat) (a0_0 : Int) (a0_1 : Int) : runC impl_Turn_mirror.C (impl_Turn_mirror.O N) N impl_Turn_mirror.c1 1 (st0 [.agg [.int .i64 a0_0, .int .i64 a0_1]] [] : St D0) impl_Turn_mirror.K0 = impl_Turn_mirror.g N a0_0 a0_1 := by
  exact (impl_Turn_mirror.o0.run N a0_0 a0_1).trans rfl
theorem impl_Turn_mirror.good (N : Nat) (a0_0 : Int) (a0_1 : Int) (r : impl_Turn_mirror.R) (h : impl_Turn_mirror.g N a0_0 a0_1 = some r) : Go.PM.Good Go.Proofs.Tryz.prog T0 47 [.agg [.int .i64 a0_0, .int .i64 a0_1]] [] (impl_Turn_mirror.sig.ret r) (impl_Turn_mirror.sig.bs r) :=
  good_fn tabOk0 mixed0 impl_Turn_mirror.sig (impl_Turn_mirror.E N) Go.Proofs.Tryz.func47 (by kernel_rfl) (by kernel_rfl) 7 0 0 [] 0 false [] [(true, [.any, .any])] (by kernel_rfl) rfl rfl ((impl_Turn_mirror.g.run N a0_0 a0_1).trans h)
noncomputable def impl_Turn_mirror.ent (N : Nat) : Ent Go.Proofs.Tryz.prog T0 := mkEnt 47 [(true, [.any, .any])] impl_Turn_mirror.sig (fun t => impl_Turn_mirror.g N t.1 t.2) (fun t r h => impl_Turn_mirror.good N t.1 t.2 r h)
end Go.Proofs.YtehbhinaopdkeaaGreat.M

namespace Go.Proofs.YtehbhinaopdkeaaGreat.M
open Go Go.PM Go.Proofs.YtehbhinaopdkeaaGreat.P
set_option linter.unusedVariables false
set_option maxRecDepth 100000
/-! ### spec_diMirror -/
abbrev spec_diMirror.R : Type := Int × Int
abbrev spec_diMirror.sig : Sig := ⟨[(true, 2)], [], [.int .i64, .int .i64], [(true, 2)], [], [.int .i64, .int .i64]⟩
noncomputable def spec_diMirror.C : Cfg D0 := ⟨Go.Proofs.Tryz.prog, T0, 7, 0, 5, 0, [], 0, false, []⟩
noncomputable def spec_diMirror.E (N : Nat) : List (Ent Go.Proofs.Tryz.prog T0) := [spec_diTimes.ent N]
noncomputable def spec_diMirror.O (N : Nat) : Orc D0 spec_diMirror.R := orcOf (spec_diMirror.E N)
noncomputable def spec_diMirror.K0 : Ex → St D0 → Option spec_diMirror.R := exitK spec_diMirror.C Go.Proofs.Tryz.f69.results.toList [(true, [.any, .any])] (decOut spec_diMirror.sig)
noncomputable def spec_diMirror.c1 : Code := codeAt (Go.Proofs.Tryz.f69.body.getD .skip) []
noncomputable def spec_diMirror.o0 (N : Nat) (a0_0 : Int) (a0_1 : Int) : Option spec_diMirror.R :=
 (spec_diTimes.g N a0_0 a0_1 (-1)).bind fun r1 =>
 some (r1.1, r1.2)
theorem spec_diMirror.o0.run (N : Nat) (a0_0 : Int) (a0_1 : Int) : runC spec_diMirror.C (spec_diMirror.O N) N spec_diMirror.c1 1 (st0 [.agg [.int .i64 a0_0, .int .i64 a0_1]] [] : St D0) spec_diMirror.K0 = spec_diMirror.o0 N a0_0 a0_1 := by kernel_rfl
noncomputable def spec_diMirror.g (N : Nat) (a0_0 : Int) (a0_1 : Int) : Option spec_diMirror.R := spec_diMirror.o0 N a0_0 a0_1
theorem spec_diMirror.g.run (N : Nat) (a0_0 : Int) (a0_1 : Int) : runC spec_diMirror.C (spec_diMirror.O N) N spec_diMirror.c1 1 (st0 [.agg [.int .i64 a0_0, .int .i64 a0_1]] [] : St D0) spec_diMirror.K0 = spec_diMirror.g N a0_0 a0_1 := by
  exact (spec_diMirror.o0.run N a0_0 a0_1).trans rfl
theorem spec_diMirror.good (N : Nat) (a0_0 : Int) (a0_1 : Int) (r : spec_diMirror.R) (h : spec_diMirror.g N a0_0 a0_1 = some r) : Go.PM.Good Go.Proofs.Tryz.prog T0 69 [.agg [.int .i64 a0_0, .int .i64 a0_1]] [] (spec_diMirror.sig.ret r) (spec_diMirror.sig.bs r) :=
  good_fn tabOk0 mixed0 spec_diMirror.sig (spec_diMirror.E N) Go.Proofs.Tryz.func69 (by kernel_rfl) (by kernel_rfl) 7 0 0 [] 0 false [] [(true, [.any, .any])] (by kernel_rfl) rfl rfl ((spec_diMirror.g.run N a0_0 a0_1).trans h)
noncomputable def spec_diMirror.ent (N : Nat) : Ent Go.Proofs.Tryz.prog T0 := mkEnt 69 [(true, [.any, .any])] spec_diMirror.sig (fun t => spec_diMirror.g N t.1 t.2) (fun t r h => spec_diMirror.good N t.1 t.2 r h)
end Go.Proofs.YtehbhinaopdkeaaGreat.M

namespace Go.Proofs.YtehbhinaopdkeaaGreat.M
open Go Go.PM Go.Proofs.YtehbhinaopdkeaaGreat.P
set_option linter.unusedVariables false
set_option maxRecDepth 100000
/-! ### spec_l1Sign -/
abbrev spec_l1Sign.R : Type := Int
abbrev spec_l1Sign.sig : Sig := ⟨[(false, 1)], [], [.int .i64], [(false, 1)], [], [.int .i64]⟩
noncomputable def spec_l1Sign.C : Cfg D0 := ⟨Go.Proofs.Tryz.prog, T0, 77, 0, 9, 0, [], 144, false, []⟩
noncomputable def spec_l1Sign.E (N : Nat) : List (Ent Go.Proofs.Tryz.prog T0) := []
noncomputable def spec_l1Sign.O (N : Nat) : Orc D0 spec_l1Sign.R := orcOf (spec_l1Sign.E N)
noncomputable def spec_l1Sign.K0 : Ex → St D0 → Option spec_l1Sign.R := exitK spec_l1Sign.C Go.Proofs.Tryz.f85.results.toList [(false, [.any])] (decOut spec_l1Sign.sig)
noncomputable def spec_l1Sign.c1 : Code := codeAt (Go.Proofs.Tryz.f85.body.getD .skip) []
noncomputable def spec_l1Sign.o0 (N : Nat) (a0 : Int) : Option spec_l1Sign.R :=
 bif (decide (a0 > 0)) then
  some (1)
 else
 bif (decide (a0 < 0)) then
  some ((-1))
 else
 some (0)
theorem spec_l1Sign.o0.run (N : Nat) (a0 : Int) : runC spec_l1Sign.C (spec_l1Sign.O N) N spec_l1Sign.c1 1 (st0 [.one (.int .i64 a0)] [] : St D0) spec_l1Sign.K0 = spec_l1Sign.o0 N a0 := by kernel_rfl
noncomputable def spec_l1Sign.g (N : Nat) (a0 : Int) : Option spec_l1Sign.R := spec_l1Sign.o0 N a0
theorem spec_l1Sign.g.run (N : Nat) (a0 : Int) : runC spec_l1Sign.C (spec_l1Sign.O N) N spec_l1Sign.c1 1 (st0 [.one (.int .i64 a0)] [] : St D0) spec_l1Sign.K0 = spec_l1Sign.g N a0 := by
  exact (spec_l1Sign.o0.run N a0).trans rfl
theorem spec_l1Sign.good (N : Nat) (a0 : Int) (r : spec_l1Sign.R) (h : spec_l1Sign.g N a0 = some r) : Go.PM.Good Go.Proofs.Tryz.prog T0 85 [.one (.int .i64 a0)] [] (spec_l1Sign.sig.ret r) (spec_l1Sign.sig.bs r) :=
  good_fn tabOk0 mixed0 spec_l1Sign.sig (spec_l1Sign.E N) Go.Proofs.Tryz.func85 (by kernel_rfl) (by kernel_rfl) 77 0 0 [] 144 false [] [(false, [.any])] (by kernel_rfl) rfl rfl ((spec_l1Sign.g.run N a0).trans h)
noncomputable def spec_l1Sign.ent (N : Nat) : Ent Go.Proofs.Tryz.prog T0 := mkEnt 85 [(false, [.any])] spec_l1Sign.sig (fun t => spec_l1Sign.g N t) (fun t r h => spec_l1Sign.good N t r h)
end Go.Proofs.YtehbhinaopdkeaaGreat.M

namespace Go.Proofs.YtehbhinaopdkeaaGreat.M
open Go Go.PM Go.Proofs.YtehbhinaopdkeaaGreat.P
set_option linter.unusedVariables false
set_option maxRecDepth 100000
/-! ### spec_diCompare -/
abbrev spec_diCompare.R : Type := Int
abbrev spec_diCompare.sig : Sig := ⟨[(true, 2), (true, 2)], [], [.int .i64, .int .i64, .int .i64, .int .i64], [(false, 1)], [], [.int .i64]⟩
noncomputable def spec_diCompare.C : Cfg D0 := ⟨Go.Proofs.Tryz.prog, T0, 31, 0, 17, 0, [], 0, false, []⟩
noncomputable def spec_diCompare.E (N : Nat) : List (Ent Go.Proofs.Tryz.prog T0) := [spec_l1Sign.ent N]
noncomputable def spec_diCompare.O (N : Nat) : Orc D0 spec_diCompare.R := orcOf (spec_diCompare.E N)
noncomputable def spec_diCompare.K0 : Ex → St D0 → Option spec_diCompare.R := exitK spec_diCompare.C Go.Proofs.Tryz.f71.results.toList [(false, [.any])] (decOut spec_diCompare.sig)
noncomputable def spec_diCompare.c1 : Code := codeAt (Go.Proofs.Tryz.f71.body.getD .skip) []
noncomputable def spec_diCompare.o0 (N : Nat) (a0_0 : Int) (a0_1 : Int) (a1_0 : Int) (a1_1 : Int) : Option spec_diCompare.R :=
 (spec_l1Sign.g N (w64 ((w64 (a0_0 * a1_1)) - (w64 (a1_0 * a0_1))))).bind fun r1 =>
 some (r1)
theorem spec_diCompare.o0.run (N : Nat) (a0_0 : Int) (a0_1 : Int) (a1_0 : Int) (a1_1 : Int) : runC spec_diCompare.C (spec_diCompare.O N) N spec_diCompare.c1 1 (st0 [.agg [.int .i64 a0_0, .int .i64 a0_1], .agg [.int .i64 a1_0, .int .i64 a1_1]] [] : St D0) spec_diCompare.K0 = spec_diCompare.o0 N a0_0 a0_1 a1_0 a1_1 := by kernel_rfl
noncomputable def spec_diCompare.g (N : Nat) (a0_0 : Int) (a0_1 : Int) (a1_0 : Int) (a1_1 : Int) : Option spec_diCompare.R := spec_diCompare.o0 N a0_0 a0_1 a1_0 a1_1
theorem spec_diCompare.g.run (N : Nat) (a0_0 : Int) (a0_1 : Int) (a1_0 : Int) (a1_1 : Int) : runC spec_diCompare.C (spec_diCompare.O N) N spec_diCompare.c1 1 (st0 [.agg [.int .i64 a0_0, .int .i64 a0_1], .agg [.int .i64 a1_0, .int .i64 a1_1]] [] : St D0) spec_diCompare.K0 = spec_diCompare.g N a0_0 a0_1 a1_0 a1_1 := by
  exact (spec_diCompare.o0.run N a0_0 a0_1 a1_0 a1_1).trans rfl
theorem spec_diCompare.good (N : Nat) (a0_0 : Int) (a0_1 : Int) (a1_0 : Int) (a1_1 : Int) (r : spec_diCompare.R) (h : spec_diCompare.g N a0_0 a0_1 a1_0 a1_1 = some r) : Go.PM.Good Go.Proofs.Tryz.prog T0 71 [.agg [.int .i64 a0_0, .int .i64 a0_1], .agg [.int .i64 a1_0, .int .i64 a1_1]] [] (spec_diCompare.sig.ret r) (spec_diCompare.sig.bs r) :=
  good_fn tabOk0 mixed0 spec_diCompare.sig (spec_diCompare.E N) Go.Proofs.Tryz.func71 (by kernel_rfl) (by kernel_rfl) 31 0 0 [] 0 false [] [(false, [.any])] (by kernel_rfl) rfl rfl ((spec_diCompare.g.run N a0_0 a0_1 a1_0 a1_1).trans h)
noncomputable def spec_diCompare.ent (N : Nat) : Ent Go.Proofs.Tryz.prog T0 := mkEnt 71 [(true, [.any, .any]), (true, [.any, .any])] spec_diCompare.sig (fun t => spec_diCompare.g N t.1 t.2.1 t.2.2.1 t.2.2.2) (fun t r h => spec_diCompare.good N t.1 t.2.1 t.2.2.1 t.2.2.2 r h)
end Go.Proofs.YtehbhinaopdkeaaGreat.M

namespace Go.Proofs.YtehbhinaopdkeaaGreat.M
open Go Go.PM Go.Proofs.YtehbhinaopdkeaaGreat.P
set_option linter.unusedVariables false
set_option maxRecDepth 100000
/-! ### impl_roots -/
abbrev impl_roots.R : Type := List S25 × Bool
abbrev impl_roots.sig : Sig := ⟨[(true, 2), (false, 1)], [], [.int .i64, .int .i64, .int .i64], [(false, 1), (false, 1)], [], [.sl true 25, .bool]⟩
noncomputable def impl_roots.C : Cfg D0 := ⟨Go.Proofs.Tryz.prog, T0, 3831, 0, 32, 0, [(58, [1, 2, 6, 9, 10], [2])], 1082195968, false, []⟩
noncomputable def impl_roots.E (N : Nat) : List (Ent Go.Proofs.Tryz.prog T0) := [impl_part.ent N, impl_areTurns.ent N]
noncomputable def impl_roots.O (N : Nat) : Orc D0 impl_roots.R := orcOf (impl_roots.E N)
noncomputable def impl_roots.K0 : Ex → St D0 → Option impl_roots.R := exitK impl_roots.C Go.Proofs.Tryz.f33.results.toList [(false, [.own 25]), (false, [.any])] (decOut impl_roots.sig)
noncomputable def impl_roots.c1 : Code := codeAt (Go.Proofs.Tryz.f33.body.getD .skip) []
noncomputable def impl_roots.c2 : Code := codeAt (Go.Proofs.Tryz.f33.body.getD .skip) [false]
noncomputable def impl_roots.c6 : Code := codeAt (Go.Proofs.Tryz.f33.body.getD .skip) [true, false]
noncomputable def impl_roots.c15 : Code := codeAt (Go.Proofs.Tryz.f33.body.getD .skip) [true, true, true]
noncomputable def impl_roots.c28 : Code := codeAt (Go.Proofs.Tryz.f33.body.getD .skip) [true, true, false, false]
noncomputable def impl_roots.c116 : Code := codeAt (Go.Proofs.Tryz.f33.body.getD .skip) [true, true, false, true, false, false]
noncomputable def impl_roots.K116 (N : Nat) (Kn58 : St D0 → Option impl_roots.R) : Ex → St D0 → Option impl_roots.R := ((fun up => (onN (fun s => impl_roots.C.tidy 58 s ((onN Kn58 up) .normal)) (onN Kn58 up))) (blockK 0 (onN (fun s => impl_roots.C.tidy 14 s (fun s' => runC impl_roots.C (impl_roots.O N) N impl_roots.c15 15 s' impl_roots.K0)) impl_roots.K0)))
noncomputable def impl_roots.o1 (N : Nat) (v0 : Int) (v1 : List S25) (v2 : Int) (v3 : Int) (v4 : Int) (v5 : Int) (c1 : Int → (List S25) → Int → Int → Int → Int → Option impl_roots.R) : Option impl_roots.R :=
 bif (decide (v3 < v2)) then
  (impl_part.g N (w64 (v4 + (w64 (v3 * v5)))) (w64 (v5 * v0))).bind fun r1 =>
  bif (Nat.blt (v1.length + ([(⟨r1.1, r1.2⟩ : S25)] : List S25).length) 8796093022208) then
   c1 v0 (v1 ++ ([(⟨r1.1, r1.2⟩ : S25)] : List S25)) v2 (w64 (v3 + 1)) v4 v5
  else
  none
 else
 (impl_areTurns.g N v1).bind fun r2 =>
 some (v1, r2)
theorem impl_roots.o1.run (N : Nat) (Kn58 : St D0 → Option impl_roots.R) (v0 : Int) (v1 : List S25) (v2 : Int) (v3 : Int) (v4 : Int) (v5 : Int) : runC impl_roots.C (impl_roots.O N) N impl_roots.c116 116 (mkSt [(1, .one (.int .i64 v0)), (2, .one (.ptr 2 0)), (6, .one (.sl true 25 v1)), (9, .one (.int .i64 v2)), (10, .one (.int .i64 v3))] [(2, some (25, [.int .i64 v4, .int .i64 v5]))] : St D0) ((fun up => (onN (fun s => impl_roots.C.tidy 58 s ((onN Kn58 up) .normal)) (onN Kn58 up))) (blockK 0 (onN (fun s => impl_roots.C.tidy 14 s (fun s' => runC impl_roots.C (impl_roots.O N) N impl_roots.c15 15 s' impl_roots.K0)) impl_roots.K0))) = impl_roots.o1 N v0 v1 v2 v3 v4 v5 ((fun w0 w1 w2 w3 w4 w5 => Kn58 (mkSt [(1, .one (.int .i64 w0)), (2, .one (.ptr 2 0)), (6, .one (.sl true 25 w1)), (9, .one (.int .i64 w2)), (10, .one (.int .i64 w3))] [(2, some (25, [.int .i64 w4, .int .i64 w5]))] : St D0))) := by kernel_rfl
noncomputable def impl_roots.d1 (N : Nat) (v0 : Int) (v1 : List S25) (v2 : Int) (v3 : Int) (v4 : Int) (v5 : Int) (c1 : Int → (List S25) → Int → Int → Int → Int → Option impl_roots.R) : Option impl_roots.R := impl_roots.o1 N v0 v1 v2 v3 v4 v5 c1
theorem impl_roots.d1.run (N : Nat) (Kn58 : St D0 → Option impl_roots.R) (v0 : Int) (v1 : List S25) (v2 : Int) (v3 : Int) (v4 : Int) (v5 : Int) : runC impl_roots.C (impl_roots.O N) N impl_roots.c116 116 (mkSt [(1, .one (.int .i64 v0)), (2, .one (.ptr 2 0)), (6, .one (.sl true 25 v1)), (9, .one (.int .i64 v2)), (10, .one (.int .i64 v3))] [(2, some (25, [.int .i64 v4, .int .i64 v5]))] : St D0) (impl_roots.K116 N Kn58) = impl_roots.d1 N v0 v1 v2 v3 v4 v5 ((fun w0 w1 w2 w3 w4 w5 => Kn58 (mkSt [(1, .one (.int .i64 w0)), (2, .one (.ptr 2 0)), (6, .one (.sl true 25 w1)), (9, .one (.int .i64 w2)), (10, .one (.int .i64 w3))] [(2, some (25, [.int .i64 w4, .int .i64 w5]))] : St D0))) := by
  exact (impl_roots.o1.run N Kn58 v0 v1 v2 v3 v4 v5).trans rfl
noncomputable def impl_roots.K58 (N : Nat) : Ex → St D0 → Option impl_roots.R := (blockK 0 (onN (fun s => impl_roots.C.tidy 14 s (fun s' => runC impl_roots.C (impl_roots.O N) N impl_roots.c15 15 s' impl_roots.K0)) impl_roots.K0))
noncomputable def impl_roots.l1 (N : Nat) : Nat → Int → (List S25) → Int → Int → Int → Int → Option impl_roots.R
  | 0, _, _, _, _, _, _ => none
  | n + 1, v0, v1, v2, v3, v4, v5 => impl_roots.d1 N v0 v1 v2 v3 v4 v5 ((fun w0 w1 w2 w3 w4 w5 => impl_roots.l1 N n w0 w1 w2 w3 w4 w5))
theorem impl_roots.loop58 (N : Nat) : ∀ n, (∀ (v0 : Int) (v1 : List S25) (v2 : Int) (v3 : Int) (v4 : Int) (v5 : Int), iter (loopF impl_roots.C (impl_roots.O N) N impl_roots.c116 58) n (mkSt [(1, .one (.int .i64 v0)), (2, .one (.ptr 2 0)), (6, .one (.sl true 25 v1)), (9, .one (.int .i64 v2)), (10, .one (.int .i64 v3))] [(2, some (25, [.int .i64 v4, .int .i64 v5]))] : St D0) (impl_roots.K58 N) = impl_roots.l1 N n v0 v1 v2 v3 v4 v5)
  | 0 => (fun v0 v1 v2 v3 v4 v5 => rfl)
  | n + 1 => (fun v0 v1 v2 v3 v4 v5 => (impl_roots.d1.run N (fun s => iter (loopF impl_roots.C (impl_roots.O N) N impl_roots.c116 58) n s (impl_roots.K58 N)) v0 v1 v2 v3 v4 v5).trans (show _ = impl_roots.d1 N v0 v1 v2 v3 v4 v5 ((fun w0 w1 w2 w3 w4 w5 => impl_roots.l1 N n w0 w1 w2 w3 w4 w5)) from (congr rfl (funext fun w0 => funext fun w1 => funext fun w2 => funext fun w3 => funext fun w4 => funext fun w5 => (impl_roots.loop58 N n) w0 w1 w2 w3 w4 w5))))
noncomputable def impl_roots.o0 (N : Nat) (a0_0 : Int) (a0_1 : Int) (a1 : Int) (c1 : Int → (List S25) → Int → Int → Int → Int → Option impl_roots.R) : Option impl_roots.R :=
 c1 a1 ([] : List S25) a1 0 a0_0 a0_1
theorem impl_roots.o0.run (N : Nat) (H116 : Code) (a0_0 : Int) (a0_1 : Int) (a1 : Int) : runC impl_roots.C (impl_roots.O N) N (.seq impl_roots.c2 (.seq impl_roots.c6 (.seq (.seq impl_roots.c28 (.block 0 (.loop H116))) impl_roots.c15))) 1 (st0 [.agg [.int .i64 a0_0, .int .i64 a0_1], .one (.int .i64 a1)] [] : St D0) impl_roots.K0 = impl_roots.o0 N a0_0 a0_1 a1 ((fun w0 w1 w2 w3 w4 w5 => iter (loopF impl_roots.C (impl_roots.O N) N H116 58) N (mkSt [(1, .one (.int .i64 w0)), (2, .one (.ptr 2 0)), (6, .one (.sl true 25 w1)), (9, .one (.int .i64 w2)), (10, .one (.int .i64 w3))] [(2, some (25, [.int .i64 w4, .int .i64 w5]))] : St D0) (blockK 0 (onN (fun s => impl_roots.C.tidy 14 s (fun s' => runC impl_roots.C (impl_roots.O N) N impl_roots.c15 15 s' impl_roots.K0)) impl_roots.K0)))) := by kernel_rfl
noncomputable def impl_roots.g (N : Nat) (a0_0 : Int) (a0_1 : Int) (a1 : Int) : Option impl_roots.R := impl_roots.o0 N a0_0 a0_1 a1 ((fun w0 w1 w2 w3 w4 w5 => impl_roots.l1 N N w0 w1 w2 w3 w4 w5))
theorem impl_roots.c1_0 : impl_roots.c1 = (.seq impl_roots.c2 (.seq impl_roots.c6 (.seq (.seq impl_roots.c28 (.block 0 (.loop impl_roots.c116))) impl_roots.c15))) := by kernel_rfl
theorem impl_roots.g.run (N : Nat) (a0_0 : Int) (a0_1 : Int) (a1 : Int) : runC impl_roots.C (impl_roots.O N) N impl_roots.c1 1 (st0 [.agg [.int .i64 a0_0, .int .i64 a0_1], .one (.int .i64 a1)] [] : St D0) impl_roots.K0 = impl_roots.g N a0_0 a0_1 a1 := by
  rw [impl_roots.c1_0]; unfold impl_roots.g; exact (impl_roots.o0.run N impl_roots.c116 a0_0 a0_1 a1).trans (congr rfl (funext fun w0 => funext fun w1 => funext fun w2 => funext fun w3 => funext fun w4 => funext fun w5 => (impl_roots.loop58 N N) w0 w1 w2 w3 w4 w5))
theorem impl_roots.good (N : Nat) (a0_0 : Int) (a0_1 : Int) (a1 : Int) (r : impl_roots.R) (h : impl_roots.g N a0_0 a0_1 a1 = some r) : Go.PM.Good Go.Proofs.Tryz.prog T0 33 [.agg [.int .i64 a0_0, .int .i64 a0_1], .one (.int .i64 a1)] [] (impl_roots.sig.ret r) (impl_roots.sig.bs r) :=
  good_fn tabOk0 mixed0 impl_roots.sig (impl_roots.E N) Go.Proofs.Tryz.func33 (by kernel_rfl) (by kernel_rfl) 3831 0 0 [(58, [1, 2, 6, 9, 10], [2])] 1082195968 false [] [(false, [.own 25]), (false, [.any])] (by kernel_rfl) rfl rfl ((impl_roots.g.run N a0_0 a0_1 a1).trans h)
noncomputable def impl_roots.ent (N : Nat) : Ent Go.Proofs.Tryz.prog T0 := mkEnt 33 [(true, [.any, .any]), (false, [.any])] impl_roots.sig (fun t => impl_roots.g N t.1 t.2.1 t.2.2) (fun t r h => impl_roots.good N t.1 t.2.1 t.2.2 r h)
end Go.Proofs.YtehbhinaopdkeaaGreat.M

namespace Go.Proofs.YtehbhinaopdkeaaGreat.M
open Go Go.PM Go.Proofs.YtehbhinaopdkeaaGreat.P
set_option linter.unusedVariables false
set_option maxRecDepth 100000
/-! ### impl_ifTurns -/
abbrev impl_ifTurns.R : Type := List S25 × Bool
abbrev impl_ifTurns.sig : Sig := ⟨[(false, 1), (false, 1)], [], [.sl false 25, .bool], [(false, 1), (false, 1)], [], [.sl false 25, .bool]⟩
noncomputable def impl_ifTurns.C : Cfg D0 := ⟨Go.Proofs.Tryz.prog, T0, 4147, 0, 14, 0, [(12, [0, 12], [])], 576, false, []⟩
noncomputable def impl_ifTurns.E (N : Nat) : List (Ent Go.Proofs.Tryz.prog T0) := [impl_areTurns.ent N]
noncomputable def impl_ifTurns.O (N : Nat) : Orc D0 impl_ifTurns.R := orcOf (impl_ifTurns.E N)
noncomputable def impl_ifTurns.K0 : Ex → St D0 → Option impl_ifTurns.R := exitK impl_ifTurns.C Go.Proofs.Tryz.f32.results.toList [(false, [.ro 25]), (false, [.any])] (decOut impl_ifTurns.sig)
noncomputable def impl_ifTurns.c1 : Code := codeAt (Go.Proofs.Tryz.f32.body.getD .skip) []
noncomputable def impl_ifTurns.c2 : Code := codeAt (Go.Proofs.Tryz.f32.body.getD .skip) [false]
noncomputable def impl_ifTurns.c7 : Code := codeAt (Go.Proofs.Tryz.f32.body.getD .skip) [true, true]
noncomputable def impl_ifTurns.c12 : Code := codeAt (Go.Proofs.Tryz.f32.body.getD .skip) [true, false, false]
noncomputable def impl_ifTurns.c13 : Code := codeAt (Go.Proofs.Tryz.f32.body.getD .skip) [true, false, true]
noncomputable def impl_ifTurns.K13 (N : Nat) : Ex → St D0 → Option impl_ifTurns.R := (onN (fun s => impl_ifTurns.C.tidy 6 s (fun s' => runC impl_ifTurns.C (impl_ifTurns.O N) N impl_ifTurns.c7 7 s' impl_ifTurns.K0)) impl_ifTurns.K0)
noncomputable def impl_ifTurns.o1 (N : Nat) (v0 : List S25) (v1 : Bool) : Option impl_ifTurns.R :=
 bif v1 then
  some (([] : List S25), false)
 else
 some (v0, true)
theorem impl_ifTurns.o1.run (N : Nat) (v0 : List S25) (v1 : Bool) : runC impl_ifTurns.C (impl_ifTurns.O N) N impl_ifTurns.c13 13 (mkSt [(0, .one (.sl false 25 v0)), (12, .one (.bool v1))] [] : St D0) (onN (fun s => impl_ifTurns.C.tidy 6 s (fun s' => runC impl_ifTurns.C (impl_ifTurns.O N) N impl_ifTurns.c7 7 s' impl_ifTurns.K0)) impl_ifTurns.K0) = impl_ifTurns.o1 N v0 v1 := by kernel_rfl
noncomputable def impl_ifTurns.d1 (N : Nat) (v0 : List S25) (v1 : Bool) : Option impl_ifTurns.R := impl_ifTurns.o1 N v0 v1
theorem impl_ifTurns.d1.run (N : Nat) (v0 : List S25) (v1 : Bool) : runC impl_ifTurns.C (impl_ifTurns.O N) N impl_ifTurns.c13 13 (mkSt [(0, .one (.sl false 25 v0)), (12, .one (.bool v1))] [] : St D0) (impl_ifTurns.K13 N) = impl_ifTurns.d1 N v0 v1 := by
  exact (impl_ifTurns.o1.run N v0 v1).trans rfl
noncomputable def impl_ifTurns.o0 (N : Nat) (a0 : List S25) (a1 : Bool) (c1 : (List S25) → Bool → Option impl_ifTurns.R) : Option impl_ifTurns.R :=
 bif (!a1) then
  c1 a0 true
 else
 (impl_areTurns.g N a0).bind fun r1 =>
 c1 a0 (!r1)
theorem impl_ifTurns.o0.run (N : Nat) (H13 : Code) (a0 : List S25) (a1 : Bool) : runC impl_ifTurns.C (impl_ifTurns.O N) N (.seq impl_ifTurns.c2 (.seq (.seq impl_ifTurns.c12 H13) impl_ifTurns.c7)) 1 (st0 [.one (.sl false 25 a0), .one (.bool a1)] [] : St D0) impl_ifTurns.K0 = impl_ifTurns.o0 N a0 a1 ((fun w0 w1 => runC impl_ifTurns.C (impl_ifTurns.O N) N H13 13 (mkSt [(0, .one (.sl false 25 w0)), (12, .one (.bool w1))] [] : St D0) (onN (fun s => impl_ifTurns.C.tidy 6 s (fun s' => runC impl_ifTurns.C (impl_ifTurns.O N) N impl_ifTurns.c7 7 s' impl_ifTurns.K0)) impl_ifTurns.K0))) := by kernel_rfl
noncomputable def impl_ifTurns.B6 (N : Nat) : St D0 → Option impl_ifTurns.R := fun s' => runC impl_ifTurns.C (impl_ifTurns.O N) N impl_ifTurns.c13 13 s' (impl_ifTurns.K13 N)
noncomputable def impl_ifTurns.g (N : Nat) (a0 : List S25) (a1 : Bool) : Option impl_ifTurns.R := impl_ifTurns.o0 N a0 a1 ((fun w0 w1 => impl_ifTurns.d1 N w0 w1))
theorem impl_ifTurns.c1_0 : impl_ifTurns.c1 = (.seq impl_ifTurns.c2 (.seq (.seq impl_ifTurns.c12 impl_ifTurns.c13) impl_ifTurns.c7)) := by kernel_rfl
theorem impl_ifTurns.g.run (N : Nat) (a0 : List S25) (a1 : Bool) : runC impl_ifTurns.C (impl_ifTurns.O N) N impl_ifTurns.c1 1 (st0 [.one (.sl false 25 a0), .one (.bool a1)] [] : St D0) impl_ifTurns.K0 = impl_ifTurns.g N a0 a1 := by
  rw [impl_ifTurns.c1_0]; unfold impl_ifTurns.g; exact (impl_ifTurns.o0.run N impl_ifTurns.c13 a0 a1).trans (congr rfl (funext fun w0 => funext fun w1 => impl_ifTurns.d1.run N w0 w1))
theorem impl_ifTurns.good (N : Nat) (a0 : List S25) (a1 : Bool) (r : impl_ifTurns.R) (h : impl_ifTurns.g N a0 a1 = some r) : Go.PM.Good Go.Proofs.Tryz.prog T0 32 [.one (.sl false 25 a0), .one (.bool a1)] [] (impl_ifTurns.sig.ret r) (impl_ifTurns.sig.bs r) :=
  good_fn tabOk0 mixed0 impl_ifTurns.sig (impl_ifTurns.E N) Go.Proofs.Tryz.func32 (by kernel_rfl) (by kernel_rfl) 4147 0 0 [(12, [0, 12], [])] 576 false [] [(false, [.ro 25]), (false, [.any])] (by kernel_rfl) rfl rfl ((impl_ifTurns.g.run N a0 a1).trans h)
noncomputable def impl_ifTurns.ent (N : Nat) : Ent Go.Proofs.Tryz.prog T0 := mkEnt 32 [(false, [.ro 25]), (false, [.any])] impl_ifTurns.sig (fun t => impl_ifTurns.g N t.1 t.2) (fun t r h => impl_ifTurns.good N t.1 t.2 r h)
end Go.Proofs.YtehbhinaopdkeaaGreat.M

namespace Go.Proofs.YtehbhinaopdkeaaGreat.M
open Go Go.PM Go.Proofs.YtehbhinaopdkeaaGreat.P
set_option linter.unusedVariables false
set_option maxRecDepth 100000
/-! ### spec_l1Cur_next -/
abbrev spec_l1Cur_next.R : Type := Int × List Int × Int × Int
abbrev spec_l1Cur_next.sig : Sig := ⟨[(false, 1)], [(71, 3)], [.ptr 0 0, .sl false 5, .int .i64, .int .u64], [(false, 1)], [(71, 3)], [.int .i64, .sl false 5, .int .i64, .int .u64]⟩
noncomputable def spec_l1Cur_next.C : Cfg D0 := ⟨Go.Proofs.Tryz.prog, T0, 9007199254749197, 0, 62, 1, [(14, [0, 3], [0])], 36328151978361104, false, []⟩
noncomputable def spec_l1Cur_next.E (N : Nat) : List (Ent Go.Proofs.Tryz.prog T0) := []
noncomputable def spec_l1Cur_next.O (N : Nat) : Orc D0 spec_l1Cur_next.R := orcOf (spec_l1Cur_next.E N)
noncomputable def spec_l1Cur_next.K0 : Ex → St D0 → Option spec_l1Cur_next.R := exitK spec_l1Cur_next.C Go.Proofs.Tryz.f86.results.toList [(false, [.any])] (decOut spec_l1Cur_next.sig)
noncomputable def spec_l1Cur_next.c1 : Code := codeAt (Go.Proofs.Tryz.f86.body.getD .skip) []
noncomputable def spec_l1Cur_next.c2 : Code := codeAt (Go.Proofs.Tryz.f86.body.getD .skip) [false]
noncomputable def spec_l1Cur_next.c6 : Code := codeAt (Go.Proofs.Tryz.f86.body.getD .skip) [true, false]
noncomputable def spec_l1Cur_next.c14 : Code := codeAt (Go.Proofs.Tryz.f86.body.getD .skip) [true, true, false]
noncomputable def spec_l1Cur_next.c15 : Code := codeAt (Go.Proofs.Tryz.f86.body.getD .skip) [true, true, true]
noncomputable def spec_l1Cur_next.K15 (N : Nat) : Ex → St D0 → Option spec_l1Cur_next.R := spec_l1Cur_next.K0
noncomputable def spec_l1Cur_next.o1 (N : Nat) (v0 : Int) (v1 : List Int) (v2 : Int) (v3 : Int) : Option spec_l1Cur_next.R :=
 bif (decide ((w64 (v2 + 1)) ≤ (v1.length : Int))) then
  some (v0, v1, (w64 (v2 + 1)), ((IntKind.wrap .u64) (((IntKind.wrap .u64) (((IntKind.wrap .u64) (v3 * 6364136223846793005)) + ((IntKind.wrap .u64) v0))) + 1442695040888963407)))
 else
 some ((w64 (andK .u64 (shrK .u64 ((IntKind.wrap .u64) (((IntKind.wrap .u64) (((IntKind.wrap .u64) (v3 * 6364136223846793005)) + ((IntKind.wrap .u64) v0))) + 1442695040888963407)) 40) 255)), v1, (w64 (v2 + 1)), ((IntKind.wrap .u64) (((IntKind.wrap .u64) (((IntKind.wrap .u64) (v3 * 6364136223846793005)) + ((IntKind.wrap .u64) v0))) + 1442695040888963407)))
theorem spec_l1Cur_next.o1.run (N : Nat) (v0 : Int) (v1 : List Int) (v2 : Int) (v3 : Int) : runC spec_l1Cur_next.C (spec_l1Cur_next.O N) N spec_l1Cur_next.c15 15 (mkSt [(0, .one (.ptr 0 0)), (3, .one (.int .i64 v0))] [(0, some (71, [.sl false 5 v1, .int .i64 v2, .int .u64 v3]))] : St D0) spec_l1Cur_next.K0 = spec_l1Cur_next.o1 N v0 v1 v2 v3 := by kernel_rfl
noncomputable def spec_l1Cur_next.d1 (N : Nat) (v0 : Int) (v1 : List Int) (v2 : Int) (v3 : Int) : Option spec_l1Cur_next.R := spec_l1Cur_next.o1 N v0 v1 v2 v3
theorem spec_l1Cur_next.d1.run (N : Nat) (v0 : Int) (v1 : List Int) (v2 : Int) (v3 : Int) : runC spec_l1Cur_next.C (spec_l1Cur_next.O N) N spec_l1Cur_next.c15 15 (mkSt [(0, .one (.ptr 0 0)), (3, .one (.int .i64 v0))] [(0, some (71, [.sl false 5 v1, .int .i64 v2, .int .u64 v3]))] : St D0) (spec_l1Cur_next.K15 N) = spec_l1Cur_next.d1 N v0 v1 v2 v3 := by
  exact (spec_l1Cur_next.o1.run N v0 v1 v2 v3).trans rfl
noncomputable def spec_l1Cur_next.o0 (N : Nat) (b0_0 : List Int) (b0_1 : Int) (b0_2 : Int) (c1 : Int → (List Int) → Int → Int → Option spec_l1Cur_next.R) : Option spec_l1Cur_next.R :=
 bif (decide (b0_1 < (b0_0.length : Int))) then
  bif (decide (0 ≤ b0_1)) then
   bif (decide (b0_1 < (b0_0.length : Int))) then
    (b0_0[(b0_1 : Int).toNat]?).bind fun x1 =>
    c1 (w64 x1) b0_0 b0_1 b0_2
   else
   none
  else
  none
 else
 c1 0 b0_0 b0_1 b0_2
theorem spec_l1Cur_next.o0.run (N : Nat) (H15 : Code) (b0_0 : List Int) (b0_1 : Int) (b0_2 : Int) : runC spec_l1Cur_next.C (spec_l1Cur_next.O N) N (.seq spec_l1Cur_next.c2 (.seq spec_l1Cur_next.c6 (.seq spec_l1Cur_next.c14 H15))) 1 (st0 [.one (.ptr 0 0)] [(71, [.sl false 5 b0_0, .int .i64 b0_1, .int .u64 b0_2])] : St D0) spec_l1Cur_next.K0 = spec_l1Cur_next.o0 N b0_0 b0_1 b0_2 ((fun w0 w1 w2 w3 => runC spec_l1Cur_next.C (spec_l1Cur_next.O N) N H15 15 (mkSt [(0, .one (.ptr 0 0)), (3, .one (.int .i64 w0))] [(0, some (71, [.sl false 5 w1, .int .i64 w2, .int .u64 w3]))] : St D0) spec_l1Cur_next.K0)) := by kernel_rfl
noncomputable def spec_l1Cur_next.B7 (N : Nat) : St D0 → Option spec_l1Cur_next.R := fun s' => runC spec_l1Cur_next.C (spec_l1Cur_next.O N) N spec_l1Cur_next.c15 15 s' (spec_l1Cur_next.K15 N)
noncomputable def spec_l1Cur_next.g (N : Nat) (b0_0 : List Int) (b0_1 : Int) (b0_2 : Int) : Option spec_l1Cur_next.R := spec_l1Cur_next.o0 N b0_0 b0_1 b0_2 ((fun w0 w1 w2 w3 => spec_l1Cur_next.d1 N w0 w1 w2 w3))
theorem spec_l1Cur_next.c1_0 : spec_l1Cur_next.c1 = (.seq spec_l1Cur_next.c2 (.seq spec_l1Cur_next.c6 (.seq spec_l1Cur_next.c14 spec_l1Cur_next.c15))) := by kernel_rfl
theorem spec_l1Cur_next.g.run (N : Nat) (b0_0 : List Int) (b0_1 : Int) (b0_2 : Int) : runC spec_l1Cur_next.C (spec_l1Cur_next.O N) N spec_l1Cur_next.c1 1 (st0 [.one (.ptr 0 0)] [(71, [.sl false 5 b0_0, .int .i64 b0_1, .int .u64 b0_2])] : St D0) spec_l1Cur_next.K0 = spec_l1Cur_next.g N b0_0 b0_1 b0_2 := by
  rw [spec_l1Cur_next.c1_0]; unfold spec_l1Cur_next.g; exact (spec_l1Cur_next.o0.run N spec_l1Cur_next.c15 b0_0 b0_1 b0_2).trans (congr rfl (funext fun w0 => funext fun w1 => funext fun w2 => funext fun w3 => spec_l1Cur_next.d1.run N w0 w1 w2 w3))
theorem spec_l1Cur_next.good (N : Nat) (b0_0 : List Int) (b0_1 : Int) (b0_2 : Int) (r : spec_l1Cur_next.R) (h : spec_l1Cur_next.g N b0_0 b0_1 b0_2 = some r) : Go.PM.Good Go.Proofs.Tryz.prog T0 86 [.one (.ptr 0 0)] [(71, [.sl false 5 b0_0, .int .i64 b0_1, .int .u64 b0_2])] (spec_l1Cur_next.sig.ret r) (spec_l1Cur_next.sig.bs r) :=
  good_fn tabOk0 mixed0 spec_l1Cur_next.sig (spec_l1Cur_next.E N) Go.Proofs.Tryz.func86 (by kernel_rfl) (by kernel_rfl) 9007199254749197 0 1 [(14, [0, 3], [0])] 36328151978361104 false [] [(false, [.any])] (by kernel_rfl) rfl rfl ((spec_l1Cur_next.g.run N b0_0 b0_1 b0_2).trans h)
noncomputable def spec_l1Cur_next.ent (N : Nat) : Ent Go.Proofs.Tryz.prog T0 := mkEnt 86 [(false, [.any])] spec_l1Cur_next.sig (fun t => spec_l1Cur_next.g N t.2.1 t.2.2.1 t.2.2.2) (fun t r h => spec_l1Cur_next.good N t.2.1 t.2.2.1 t.2.2.2 r h)
end Go.Proofs.YtehbhinaopdkeaaGreat.M

namespace Go.Proofs.YtehbhinaopdkeaaGreat.M
open Go Go.PM Go.Proofs.YtehbhinaopdkeaaGreat.P
set_option linter.unusedVariables false
set_option maxRecDepth 100000
/-! ### spec_l1Cur_pick -/
abbrev spec_l1Cur_pick.R : Type := Int × List Int × Int × Int
abbrev spec_l1Cur_pick.sig : Sig := ⟨[(false, 1), (false, 1)], [(71, 3)], [.ptr 0 0, .int .i64, .sl false 5, .int .i64, .int .u64], [(false, 1)], [(71, 3)], [.int .i64, .sl false 5, .int .i64, .int .u64]⟩
noncomputable def spec_l1Cur_pick.C : Cfg D0 := ⟨Go.Proofs.Tryz.prog, T0, 2227, 0, 20, 1, [(30, [1, 5], [0])], 415040, false, []⟩
noncomputable def spec_l1Cur_pick.E (N : Nat) : List (Ent Go.Proofs.Tryz.prog T0) := [spec_l1Cur_next.ent N]
noncomputable def spec_l1Cur_pick.O (N : Nat) : Orc D0 spec_l1Cur_pick.R := orcOf (spec_l1Cur_pick.E N)
noncomputable def spec_l1Cur_pick.K0 : Ex → St D0 → Option spec_l1Cur_pick.R := exitK spec_l1Cur_pick.C Go.Proofs.Tryz.f73.results.toList [(false, [.any])] (decOut spec_l1Cur_pick.sig)
noncomputable def spec_l1Cur_pick.c1 : Code := codeAt (Go.Proofs.Tryz.f73.body.getD .skip) []
noncomputable def spec_l1Cur_pick.c2 : Code := codeAt (Go.Proofs.Tryz.f73.body.getD .skip) [false]
noncomputable def spec_l1Cur_pick.c6 : Code := codeAt (Go.Proofs.Tryz.f73.body.getD .skip) [true, false]
noncomputable def spec_l1Cur_pick.c14 : Code := codeAt (Go.Proofs.Tryz.f73.body.getD .skip) [true, true, false]
noncomputable def spec_l1Cur_pick.c30 : Code := codeAt (Go.Proofs.Tryz.f73.body.getD .skip) [true, true, true, false]
noncomputable def spec_l1Cur_pick.c31 : Code := codeAt (Go.Proofs.Tryz.f73.body.getD .skip) [true, true, true, true]
noncomputable def spec_l1Cur_pick.K31 (N : Nat) : Ex → St D0 → Option spec_l1Cur_pick.R := spec_l1Cur_pick.K0
noncomputable def spec_l1Cur_pick.o1 (N : Nat) (v0 : Int) (v1 : Int) (v2 : List Int) (v3 : Int) (v4 : Int) : Option spec_l1Cur_pick.R :=
 bif (v0 == 0) then
  none
 else
 some ((Int.tmod v1 v0), v2, v3, v4)
theorem spec_l1Cur_pick.o1.run (N : Nat) (v0 : Int) (v1 : Int) (v2 : List Int) (v3 : Int) (v4 : Int) : runC spec_l1Cur_pick.C (spec_l1Cur_pick.O N) N spec_l1Cur_pick.c31 31 (mkSt [(1, .one (.int .i64 v0)), (5, .one (.int .i64 v1))] [(0, some (71, [.sl false 5 v2, .int .i64 v3, .int .u64 v4]))] : St D0) spec_l1Cur_pick.K0 = spec_l1Cur_pick.o1 N v0 v1 v2 v3 v4 := by kernel_rfl
noncomputable def spec_l1Cur_pick.d1 (N : Nat) (v0 : Int) (v1 : Int) (v2 : List Int) (v3 : Int) (v4 : Int) : Option spec_l1Cur_pick.R := spec_l1Cur_pick.o1 N v0 v1 v2 v3 v4
theorem spec_l1Cur_pick.d1.run (N : Nat) (v0 : Int) (v1 : Int) (v2 : List Int) (v3 : Int) (v4 : Int) : runC spec_l1Cur_pick.C (spec_l1Cur_pick.O N) N spec_l1Cur_pick.c31 31 (mkSt [(1, .one (.int .i64 v0)), (5, .one (.int .i64 v1))] [(0, some (71, [.sl false 5 v2, .int .i64 v3, .int .u64 v4]))] : St D0) (spec_l1Cur_pick.K31 N) = spec_l1Cur_pick.d1 N v0 v1 v2 v3 v4 := by
  exact (spec_l1Cur_pick.o1.run N v0 v1 v2 v3 v4).trans rfl
noncomputable def spec_l1Cur_pick.o0 (N : Nat) (a1 : Int) (b0_0 : List Int) (b0_1 : Int) (b0_2 : Int) (c1 : Int → Int → (List Int) → Int → Int → Option spec_l1Cur_pick.R) : Option spec_l1Cur_pick.R :=
 bif (decide (a1 ≤ 1)) then
  some (0, b0_0, b0_1, b0_2)
 else
 (spec_l1Cur_next.g N b0_0 b0_1 b0_2).bind fun r1 =>
 bif (decide (a1 > 200)) then
  (spec_l1Cur_next.g N r1.2.1 r1.2.2.1 r1.2.2.2).bind fun r2 =>
  c1 a1 (w64 ((w64 (r1.1 * 256)) + r2.1)) r2.2.1 r2.2.2.1 r2.2.2.2
 else
 c1 a1 r1.1 r1.2.1 r1.2.2.1 r1.2.2.2
theorem spec_l1Cur_pick.o0.run (N : Nat) (H31 : Code) (a1 : Int) (b0_0 : List Int) (b0_1 : Int) (b0_2 : Int) : runC spec_l1Cur_pick.C (spec_l1Cur_pick.O N) N (.seq spec_l1Cur_pick.c2 (.seq spec_l1Cur_pick.c6 (.seq spec_l1Cur_pick.c14 (.seq spec_l1Cur_pick.c30 H31)))) 1 (st0 [.one (.ptr 0 0), .one (.int .i64 a1)] [(71, [.sl false 5 b0_0, .int .i64 b0_1, .int .u64 b0_2])] : St D0) spec_l1Cur_pick.K0 = spec_l1Cur_pick.o0 N a1 b0_0 b0_1 b0_2 ((fun w0 w1 w2 w3 w4 => runC spec_l1Cur_pick.C (spec_l1Cur_pick.O N) N H31 31 (mkSt [(1, .one (.int .i64 w0)), (5, .one (.int .i64 w1))] [(0, some (71, [.sl false 5 w2, .int .i64 w3, .int .u64 w4]))] : St D0) spec_l1Cur_pick.K0)) := by kernel_rfl
noncomputable def spec_l1Cur_pick.B15 (N : Nat) : St D0 → Option spec_l1Cur_pick.R := fun s' => runC spec_l1Cur_pick.C (spec_l1Cur_pick.O N) N spec_l1Cur_pick.c31 31 s' (spec_l1Cur_pick.K31 N)
noncomputable def spec_l1Cur_pick.g (N : Nat) (a1 : Int) (b0_0 : List Int) (b0_1 : Int) (b0_2 : Int) : Option spec_l1Cur_pick.R := spec_l1Cur_pick.o0 N a1 b0_0 b0_1 b0_2 ((fun w0 w1 w2 w3 w4 => spec_l1Cur_pick.d1 N w0 w1 w2 w3 w4))
theorem spec_l1Cur_pick.c1_0 : spec_l1Cur_pick.c1 = (.seq spec_l1Cur_pick.c2 (.seq spec_l1Cur_pick.c6 (.seq spec_l1Cur_pick.c14 (.seq spec_l1Cur_pick.c30 spec_l1Cur_pick.c31)))) := by kernel_rfl
theorem spec_l1Cur_pick.g.run (N : Nat) (a1 : Int) (b0_0 : List Int) (b0_1 : Int) (b0_2 : Int) : runC spec_l1Cur_pick.C (spec_l1Cur_pick.O N) N spec_l1Cur_pick.c1 1 (st0 [.one (.ptr 0 0), .one (.int .i64 a1)] [(71, [.sl false 5 b0_0, .int .i64 b0_1, .int .u64 b0_2])] : St D0) spec_l1Cur_pick.K0 = spec_l1Cur_pick.g N a1 b0_0 b0_1 b0_2 := by
  rw [spec_l1Cur_pick.c1_0]; unfold spec_l1Cur_pick.g; exact (spec_l1Cur_pick.o0.run N spec_l1Cur_pick.c31 a1 b0_0 b0_1 b0_2).trans (congr rfl (funext fun w0 => funext fun w1 => funext fun w2 => funext fun w3 => funext fun w4 => spec_l1Cur_pick.d1.run N w0 w1 w2 w3 w4))
theorem spec_l1Cur_pick.good (N : Nat) (a1 : Int) (b0_0 : List Int) (b0_1 : Int) (b0_2 : Int) (r : spec_l1Cur_pick.R) (h : spec_l1Cur_pick.g N a1 b0_0 b0_1 b0_2 = some r) : Go.PM.Good Go.Proofs.Tryz.prog T0 73 [.one (.ptr 0 0), .one (.int .i64 a1)] [(71, [.sl false 5 b0_0, .int .i64 b0_1, .int .u64 b0_2])] (spec_l1Cur_pick.sig.ret r) (spec_l1Cur_pick.sig.bs r) :=
  good_fn tabOk0 mixed0 spec_l1Cur_pick.sig (spec_l1Cur_pick.E N) Go.Proofs.Tryz.func73 (by kernel_rfl) (by kernel_rfl) 2227 0 1 [(30, [1, 5], [0])] 415040 false [] [(false, [.any])] (by kernel_rfl) rfl rfl ((spec_l1Cur_pick.g.run N a1 b0_0 b0_1 b0_2).trans h)
noncomputable def spec_l1Cur_pick.ent (N : Nat) : Ent Go.Proofs.Tryz.prog T0 := mkEnt 73 [(false, [.any]), (false, [.any])] spec_l1Cur_pick.sig (fun t => spec_l1Cur_pick.g N t.2.1 t.2.2.1 t.2.2.2.1 t.2.2.2.2) (fun t r h => spec_l1Cur_pick.good N t.2.1 t.2.2.1 t.2.2.2.1 t.2.2.2.2 r h)
end Go.Proofs.YtehbhinaopdkeaaGreat.M

namespace Go.Proofs.YtehbhinaopdkeaaGreat.M
open Go Go.PM Go.Proofs.YtehbhinaopdkeaaGreat.P
set_option linter.unusedVariables false
set_option maxRecDepth 100000
/-! ### spec_l1Cur_among -/
abbrev spec_l1Cur_among.R : Type := Int × List Int × Int × Int
abbrev spec_l1Cur_among.sig : Sig := ⟨[(false, 1), (false, 1)], [(71, 3)], [.ptr 0 0, .sl false 3, .sl false 5, .int .i64, .int .u64], [(false, 1)], [(71, 3)], [.int .i64, .sl false 5, .int .i64, .int .u64]⟩
noncomputable def spec_l1Cur_among.C : Cfg D0 := ⟨Go.Proofs.Tryz.prog, T0, 19, 0, 12, 1, [], 224, false, []⟩
noncomputable def spec_l1Cur_among.E (N : Nat) : List (Ent Go.Proofs.Tryz.prog T0) := [spec_l1Cur_pick.ent N]
noncomputable def spec_l1Cur_among.O (N : Nat) : Orc D0 spec_l1Cur_among.R := orcOf (spec_l1Cur_among.E N)
noncomputable def spec_l1Cur_among.K0 : Ex → St D0 → Option spec_l1Cur_among.R := exitK spec_l1Cur_among.C Go.Proofs.Tryz.f76.results.toList [(false, [.any])] (decOut spec_l1Cur_among.sig)
noncomputable def spec_l1Cur_among.c1 : Code := codeAt (Go.Proofs.Tryz.f76.body.getD .skip) []
noncomputable def spec_l1Cur_among.o0 (N : Nat) (a1 : List Int) (b0_0 : List Int) (b0_1 : Int) (b0_2 : Int) : Option spec_l1Cur_among.R :=
 (spec_l1Cur_pick.g N (a1.length : Int) b0_0 b0_1 b0_2).bind fun r1 =>
 bif (decide (0 ≤ r1.1)) then
  bif (decide (r1.1 < (a1.length : Int))) then
   (a1[(r1.1 : Int).toNat]?).bind fun x2 =>
   some (x2, r1.2.1, r1.2.2.1, r1.2.2.2)
  else
  none
 else
 none
theorem spec_l1Cur_among.o0.run (N : Nat) (a1 : List Int) (b0_0 : List Int) (b0_1 : Int) (b0_2 : Int) : runC spec_l1Cur_among.C (spec_l1Cur_among.O N) N spec_l1Cur_among.c1 1 (st0 [.one (.ptr 0 0), .one (.sl false 3 a1)] [(71, [.sl false 5 b0_0, .int .i64 b0_1, .int .u64 b0_2])] : St D0) spec_l1Cur_among.K0 = spec_l1Cur_among.o0 N a1 b0_0 b0_1 b0_2 := by kernel_rfl
noncomputable def spec_l1Cur_among.g (N : Nat) (a1 : List Int) (b0_0 : List Int) (b0_1 : Int) (b0_2 : Int) : Option spec_l1Cur_among.R := spec_l1Cur_among.o0 N a1 b0_0 b0_1 b0_2
theorem spec_l1Cur_among.g.run (N : Nat) (a1 : List Int) (b0_0 : List Int) (b0_1 : Int) (b0_2 : Int) : runC spec_l1Cur_among.C (spec_l1Cur_among.O N) N spec_l1Cur_among.c1 1 (st0 [.one (.ptr 0 0), .one (.sl false 3 a1)] [(71, [.sl false 5 b0_0, .int .i64 b0_1, .int .u64 b0_2])] : St D0) spec_l1Cur_among.K0 = spec_l1Cur_among.g N a1 b0_0 b0_1 b0_2 := by
  exact (spec_l1Cur_among.o0.run N a1 b0_0 b0_1 b0_2).trans rfl
theorem spec_l1Cur_among.good (N : Nat) (a1 : List Int) (b0_0 : List Int) (b0_1 : Int) (b0_2 : Int) (r : spec_l1Cur_among.R) (h : spec_l1Cur_among.g N a1 b0_0 b0_1 b0_2 = some r) : Go.PM.Good Go.Proofs.Tryz.prog T0 76 [.one (.ptr 0 0), .one (.sl false 3 a1)] [(71, [.sl false 5 b0_0, .int .i64 b0_1, .int .u64 b0_2])] (spec_l1Cur_among.sig.ret r) (spec_l1Cur_among.sig.bs r) :=
  good_fn tabOk0 mixed0 spec_l1Cur_among.sig (spec_l1Cur_among.E N) Go.Proofs.Tryz.func76 (by kernel_rfl) (by kernel_rfl) 19 0 1 [] 224 false [] [(false, [.any])] (by kernel_rfl) rfl rfl ((spec_l1Cur_among.g.run N a1 b0_0 b0_1 b0_2).trans h)
noncomputable def spec_l1Cur_among.ent (N : Nat) : Ent Go.Proofs.Tryz.prog T0 := mkEnt 76 [(false, [.any]), (false, [.ro 3])] spec_l1Cur_among.sig (fun t => spec_l1Cur_among.g N t.2.1 t.2.2.1 t.2.2.2.1 t.2.2.2.2) (fun t r h => spec_l1Cur_among.good N t.2.1 t.2.2.1 t.2.2.2.1 t.2.2.2.2 r h)
end Go.Proofs.YtehbhinaopdkeaaGreat.M

namespace Go.Proofs.YtehbhinaopdkeaaGreat.M
open Go Go.PM Go.Proofs.YtehbhinaopdkeaaGreat.P
set_option linter.unusedVariables false
set_option maxRecDepth 100000
/-! ### spec_l1Cur_one -/
abbrev spec_l1Cur_one.R : Type := Bool × List Int × Int × Int
abbrev spec_l1Cur_one.sig : Sig := ⟨[(false, 1), (false, 1)], [(71, 3)], [.ptr 0 0, .int .i64, .sl false 5, .int .i64, .int .u64], [(false, 1)], [(71, 3)], [.bool, .sl false 5, .int .i64, .int .u64]⟩
noncomputable def spec_l1Cur_one.C : Cfg D0 := ⟨Go.Proofs.Tryz.prog, T0, 19, 0, 9, 1, [], 96, false, []⟩
noncomputable def spec_l1Cur_one.E (N : Nat) : List (Ent Go.Proofs.Tryz.prog T0) := [spec_l1Cur_pick.ent N]
noncomputable def spec_l1Cur_one.O (N : Nat) : Orc D0 spec_l1Cur_one.R := orcOf (spec_l1Cur_one.E N)
noncomputable def spec_l1Cur_one.K0 : Ex → St D0 → Option spec_l1Cur_one.R := exitK spec_l1Cur_one.C Go.Proofs.Tryz.f72.results.toList [(false, [.any])] (decOut spec_l1Cur_one.sig)
noncomputable def spec_l1Cur_one.c1 : Code := codeAt (Go.Proofs.Tryz.f72.body.getD .skip) []
noncomputable def spec_l1Cur_one.o0 (N : Nat) (a1 : Int) (b0_0 : List Int) (b0_1 : Int) (b0_2 : Int) : Option spec_l1Cur_one.R :=
 (spec_l1Cur_pick.g N a1 b0_0 b0_1 b0_2).bind fun r1 =>
 some ((r1.1 == 0), r1.2.1, r1.2.2.1, r1.2.2.2)
theorem spec_l1Cur_one.o0.run (N : Nat) (a1 : Int) (b0_0 : List Int) (b0_1 : Int) (b0_2 : Int) : runC spec_l1Cur_one.C (spec_l1Cur_one.O N) N spec_l1Cur_one.c1 1 (st0 [.one (.ptr 0 0), .one (.int .i64 a1)] [(71, [.sl false 5 b0_0, .int .i64 b0_1, .int .u64 b0_2])] : St D0) spec_l1Cur_one.K0 = spec_l1Cur_one.o0 N a1 b0_0 b0_1 b0_2 := by kernel_rfl
noncomputable def spec_l1Cur_one.g (N : Nat) (a1 : Int) (b0_0 : List Int) (b0_1 : Int) (b0_2 : Int) : Option spec_l1Cur_one.R := spec_l1Cur_one.o0 N a1 b0_0 b0_1 b0_2
theorem spec_l1Cur_one.g.run (N : Nat) (a1 : Int) (b0_0 : List Int) (b0_1 : Int) (b0_2 : Int) : runC spec_l1Cur_one.C (spec_l1Cur_one.O N) N spec_l1Cur_one.c1 1 (st0 [.one (.ptr 0 0), .one (.int .i64 a1)] [(71, [.sl false 5 b0_0, .int .i64 b0_1, .int .u64 b0_2])] : St D0) spec_l1Cur_one.K0 = spec_l1Cur_one.g N a1 b0_0 b0_1 b0_2 := by
  exact (spec_l1Cur_one.o0.run N a1 b0_0 b0_1 b0_2).trans rfl
theorem spec_l1Cur_one.good (N : Nat) (a1 : Int) (b0_0 : List Int) (b0_1 : Int) (b0_2 : Int) (r : spec_l1Cur_one.R) (h : spec_l1Cur_one.g N a1 b0_0 b0_1 b0_2 = some r) : Go.PM.Good Go.Proofs.Tryz.prog T0 72 [.one (.ptr 0 0), .one (.int .i64 a1)] [(71, [.sl false 5 b0_0, .int .i64 b0_1, .int .u64 b0_2])] (spec_l1Cur_one.sig.ret r) (spec_l1Cur_one.sig.bs r) :=
  good_fn tabOk0 mixed0 spec_l1Cur_one.sig (spec_l1Cur_one.E N) Go.Proofs.Tryz.func72 (by kernel_rfl) (by kernel_rfl) 19 0 1 [] 96 false [] [(false, [.any])] (by kernel_rfl) rfl rfl ((spec_l1Cur_one.g.run N a1 b0_0 b0_1 b0_2).trans h)
noncomputable def spec_l1Cur_one.ent (N : Nat) : Ent Go.Proofs.Tryz.prog T0 := mkEnt 72 [(false, [.any]), (false, [.any])] spec_l1Cur_one.sig (fun t => spec_l1Cur_one.g N t.2.1 t.2.2.1 t.2.2.2.1 t.2.2.2.2) (fun t r h => spec_l1Cur_one.good N t.2.1 t.2.2.1 t.2.2.2.1 t.2.2.2.2 r h)
end Go.Proofs.YtehbhinaopdkeaaGreat.M

namespace Go.Proofs.YtehbhinaopdkeaaGreat.M
open Go Go.PM Go.Proofs.YtehbhinaopdkeaaGreat.P
set_option linter.unusedVariables false
set_option maxRecDepth 100000
/-! ### laws_wTurns -/
abbrev laws_wTurns.R : Type := Bool
abbrev laws_wTurns.sig : Sig := ⟨[(false, 1), (false, 1)], [], [.sl false 25, .sl false 25], [(false, 1)], [], [.bool]⟩
noncomputable def laws_wTurns.C : Cfg D0 := ⟨Go.Proofs.Tryz.prog, T0, 16806963, 0, 26, 0, [(58, [0, 1, 12, 13], [])], 3344704, false, []⟩
noncomputable def laws_wTurns.E (N : Nat) : List (Ent Go.Proofs.Tryz.prog T0) := []
noncomputable def laws_wTurns.O (N : Nat) : Orc D0 laws_wTurns.R := orcOf (laws_wTurns.E N)
noncomputable def laws_wTurns.K0 : Ex → St D0 → Option laws_wTurns.R := exitK laws_wTurns.C Go.Proofs.Tryz.f10.results.toList [(false, [.any])] (decOut laws_wTurns.sig)
noncomputable def laws_wTurns.c1 : Code := codeAt (Go.Proofs.Tryz.f10.body.getD .skip) []
noncomputable def laws_wTurns.c2 : Code := codeAt (Go.Proofs.Tryz.f10.body.getD .skip) [false]
noncomputable def laws_wTurns.c6 : Code := codeAt (Go.Proofs.Tryz.f10.body.getD .skip) [true, false]
noncomputable def laws_wTurns.c15 : Code := codeAt (Go.Proofs.Tryz.f10.body.getD .skip) [true, true, true]
noncomputable def laws_wTurns.c28 : Code := codeAt (Go.Proofs.Tryz.f10.body.getD .skip) [true, true, false, false]
noncomputable def laws_wTurns.c116 : Code := codeAt (Go.Proofs.Tryz.f10.body.getD .skip) [true, true, false, true, false, false]
noncomputable def laws_wTurns.K116 (N : Nat) (Kn58 : St D0 → Option laws_wTurns.R) : Ex → St D0 → Option laws_wTurns.R := ((fun up => (onN (fun s => laws_wTurns.C.tidy 58 s ((onN Kn58 up) .normal)) (onN Kn58 up))) (blockK 0 (onN (fun s => laws_wTurns.C.tidy 14 s (fun s' => runC laws_wTurns.C (laws_wTurns.O N) N laws_wTurns.c15 15 s' laws_wTurns.K0)) laws_wTurns.K0)))
noncomputable def laws_wTurns.o1 (N : Nat) (v0 : List S25) (v1 : List S25) (v2 : Int) (v3 : Int) (c1 : (List S25) → (List S25) → Int → Int → Option laws_wTurns.R) : Option laws_wTurns.R :=
 bif (decide (v3 < v2)) then
  bif (decide (0 ≤ v3)) then
   bif (decide (v3 < (v0.length : Int))) then
    (v0[(v3 : Int).toNat]?).bind fun x1 =>
    bif (decide (0 ≤ v3)) then
     bif (decide (v3 < (v1.length : Int))) then
      (v1[(v3 : Int).toNat]?).bind fun x2 =>
      bif (!((x1.f0 == x2.f0) && ((x1.f1 == x2.f1) && true))) then
       some (false)
      else
      c1 v0 v1 v2 (w64 (v3 + 1))
     else
     none
    else
    none
   else
   none
  else
  none
 else
 some (true)
theorem laws_wTurns.o1.run (N : Nat) (Kn58 : St D0 → Option laws_wTurns.R) (v0 : List S25) (v1 : List S25) (v2 : Int) (v3 : Int) : runC laws_wTurns.C (laws_wTurns.O N) N laws_wTurns.c116 116 (mkSt [(0, .one (.sl false 25 v0)), (1, .one (.sl false 25 v1)), (12, .one (.int .i64 v2)), (13, .one (.int .i64 v3))] [] : St D0) ((fun up => (onN (fun s => laws_wTurns.C.tidy 58 s ((onN Kn58 up) .normal)) (onN Kn58 up))) (blockK 0 (onN (fun s => laws_wTurns.C.tidy 14 s (fun s' => runC laws_wTurns.C (laws_wTurns.O N) N laws_wTurns.c15 15 s' laws_wTurns.K0)) laws_wTurns.K0))) = laws_wTurns.o1 N v0 v1 v2 v3 ((fun w0 w1 w2 w3 => Kn58 (mkSt [(0, .one (.sl false 25 w0)), (1, .one (.sl false 25 w1)), (12, .one (.int .i64 w2)), (13, .one (.int .i64 w3))] [] : St D0))) := by kernel_rfl
noncomputable def laws_wTurns.d1 (N : Nat) (v0 : List S25) (v1 : List S25) (v2 : Int) (v3 : Int) (c1 : (List S25) → (List S25) → Int → Int → Option laws_wTurns.R) : Option laws_wTurns.R := laws_wTurns.o1 N v0 v1 v2 v3 c1
theorem laws_wTurns.d1.run (N : Nat) (Kn58 : St D0 → Option laws_wTurns.R) (v0 : List S25) (v1 : List S25) (v2 : Int) (v3 : Int) : runC laws_wTurns.C (laws_wTurns.O N) N laws_wTurns.c116 116 (mkSt [(0, .one (.sl false 25 v0)), (1, .one (.sl false 25 v1)), (12, .one (.int .i64 v2)), (13, .one (.int .i64 v3))] [] : St D0) (laws_wTurns.K116 N Kn58) = laws_wTurns.d1 N v0 v1 v2 v3 ((fun w0 w1 w2 w3 => Kn58 (mkSt [(0, .one (.sl false 25 w0)), (1, .one (.sl false 25 w1)), (12, .one (.int .i64 w2)), (13, .one (.int .i64 w3))] [] : St D0))) := by
  exact (laws_wTurns.o1.run N Kn58 v0 v1 v2 v3).trans rfl
noncomputable def laws_wTurns.K58 (N : Nat) : Ex → St D0 → Option laws_wTurns.R := (blockK 0 (onN (fun s => laws_wTurns.C.tidy 14 s (fun s' => runC laws_wTurns.C (laws_wTurns.O N) N laws_wTurns.c15 15 s' laws_wTurns.K0)) laws_wTurns.K0))
noncomputable def laws_wTurns.l1 (N : Nat) : Nat → (List S25) → (List S25) → Int → Int → Option laws_wTurns.R
  | 0, _, _, _, _ => none
  | n + 1, v0, v1, v2, v3 => laws_wTurns.d1 N v0 v1 v2 v3 ((fun w0 w1 w2 w3 => laws_wTurns.l1 N n w0 w1 w2 w3))
theorem laws_wTurns.loop58 (N : Nat) : ∀ n, (∀ (v0 : List S25) (v1 : List S25) (v2 : Int) (v3 : Int), iter (loopF laws_wTurns.C (laws_wTurns.O N) N laws_wTurns.c116 58) n (mkSt [(0, .one (.sl false 25 v0)), (1, .one (.sl false 25 v1)), (12, .one (.int .i64 v2)), (13, .one (.int .i64 v3))] [] : St D0) (laws_wTurns.K58 N) = laws_wTurns.l1 N n v0 v1 v2 v3)
  | 0 => (fun v0 v1 v2 v3 => rfl)
  | n + 1 => (fun v0 v1 v2 v3 => (laws_wTurns.d1.run N (fun s => iter (loopF laws_wTurns.C (laws_wTurns.O N) N laws_wTurns.c116 58) n s (laws_wTurns.K58 N)) v0 v1 v2 v3).trans (show _ = laws_wTurns.d1 N v0 v1 v2 v3 ((fun w0 w1 w2 w3 => laws_wTurns.l1 N n w0 w1 w2 w3)) from (congr rfl (funext fun w0 => funext fun w1 => funext fun w2 => funext fun w3 => (laws_wTurns.loop58 N n) w0 w1 w2 w3))))
noncomputable def laws_wTurns.o0 (N : Nat) (a0 : List S25) (a1 : List S25) (c1 : (List S25) → (List S25) → Int → Int → Option laws_wTurns.R) : Option laws_wTurns.R :=
 bif ((a0.length : Int) != (a1.length : Int)) then
  some (false)
 else
 c1 a0 a1 (a0.length : Int) 0
theorem laws_wTurns.o0.run (N : Nat) (H116 : Code) (a0 : List S25) (a1 : List S25) : runC laws_wTurns.C (laws_wTurns.O N) N (.seq laws_wTurns.c2 (.seq laws_wTurns.c6 (.seq (.seq laws_wTurns.c28 (.block 0 (.loop H116))) laws_wTurns.c15))) 1 (st0 [.one (.sl false 25 a0), .one (.sl false 25 a1)] [] : St D0) laws_wTurns.K0 = laws_wTurns.o0 N a0 a1 ((fun w0 w1 w2 w3 => iter (loopF laws_wTurns.C (laws_wTurns.O N) N H116 58) N (mkSt [(0, .one (.sl false 25 w0)), (1, .one (.sl false 25 w1)), (12, .one (.int .i64 w2)), (13, .one (.int .i64 w3))] [] : St D0) (blockK 0 (onN (fun s => laws_wTurns.C.tidy 14 s (fun s' => runC laws_wTurns.C (laws_wTurns.O N) N laws_wTurns.c15 15 s' laws_wTurns.K0)) laws_wTurns.K0)))) := by kernel_rfl
noncomputable def laws_wTurns.g (N : Nat) (a0 : List S25) (a1 : List S25) : Option laws_wTurns.R := laws_wTurns.o0 N a0 a1 ((fun w0 w1 w2 w3 => laws_wTurns.l1 N N w0 w1 w2 w3))
theorem laws_wTurns.c1_0 : laws_wTurns.c1 = (.seq laws_wTurns.c2 (.seq laws_wTurns.c6 (.seq (.seq laws_wTurns.c28 (.block 0 (.loop laws_wTurns.c116))) laws_wTurns.c15))) := by kernel_rfl
theorem laws_wTurns.g.run (N : Nat) (a0 : List S25) (a1 : List S25) : runC laws_wTurns.C (laws_wTurns.O N) N laws_wTurns.c1 1 (st0 [.one (.sl false 25 a0), .one (.sl false 25 a1)] [] : St D0) laws_wTurns.K0 = laws_wTurns.g N a0 a1 := by
  rw [laws_wTurns.c1_0]; unfold laws_wTurns.g; exact (laws_wTurns.o0.run N laws_wTurns.c116 a0 a1).trans (congr rfl (funext fun w0 => funext fun w1 => funext fun w2 => funext fun w3 => (laws_wTurns.loop58 N N) w0 w1 w2 w3))
theorem laws_wTurns.good (N : Nat) (a0 : List S25) (a1 : List S25) (r : laws_wTurns.R) (h : laws_wTurns.g N a0 a1 = some r) : Go.PM.Good Go.Proofs.Tryz.prog T0 10 [.one (.sl false 25 a0), .one (.sl false 25 a1)] [] (laws_wTurns.sig.ret r) (laws_wTurns.sig.bs r) :=
  good_fn tabOk0 mixed0 laws_wTurns.sig (laws_wTurns.E N) Go.Proofs.Tryz.func10 (by kernel_rfl) (by kernel_rfl) 16806963 0 0 [(58, [0, 1, 12, 13], [])] 3344704 false [] [(false, [.any])] (by kernel_rfl) rfl rfl ((laws_wTurns.g.run N a0 a1).trans h)
noncomputable def laws_wTurns.ent (N : Nat) : Ent Go.Proofs.Tryz.prog T0 := mkEnt 10 [(false, [.ro 25]), (false, [.ro 25])] laws_wTurns.sig (fun t => laws_wTurns.g N t.1 t.2) (fun t r h => laws_wTurns.good N t.1 t.2 r h)
end Go.Proofs.YtehbhinaopdkeaaGreat.M

namespace Go.Proofs.YtehbhinaopdkeaaGreat.M
open Go Go.PM Go.Proofs.YtehbhinaopdkeaaGreat.P
set_option linter.unusedVariables false
set_option maxRecDepth 100000
/-! ### laws_wRises -/
abbrev laws_wRises.R : Type := Bool
abbrev laws_wRises.sig : Sig := ⟨[(false, 1)], [], [.sl false 25], [(false, 1)], [], [.bool]⟩
noncomputable def laws_wRises.C : Cfg D0 := ⟨Go.Proofs.Tryz.prog, T0, 17179869325, 0, 35, 0, [(26, [0, 3], [])], 415436080, false, []⟩
noncomputable def laws_wRises.E (N : Nat) : List (Ent Go.Proofs.Tryz.prog T0) := []
noncomputable def laws_wRises.O (N : Nat) : Orc D0 laws_wRises.R := orcOf (laws_wRises.E N)
noncomputable def laws_wRises.K0 : Ex → St D0 → Option laws_wRises.R := exitK laws_wRises.C Go.Proofs.Tryz.f11.results.toList [(false, [.any])] (decOut laws_wRises.sig)
noncomputable def laws_wRises.c1 : Code := codeAt (Go.Proofs.Tryz.f11.body.getD .skip) []
noncomputable def laws_wRises.c2 : Code := codeAt (Go.Proofs.Tryz.f11.body.getD .skip) [false]
noncomputable def laws_wRises.c7 : Code := codeAt (Go.Proofs.Tryz.f11.body.getD .skip) [true, true]
noncomputable def laws_wRises.c12 : Code := codeAt (Go.Proofs.Tryz.f11.body.getD .skip) [true, false, false]
noncomputable def laws_wRises.c52 : Code := codeAt (Go.Proofs.Tryz.f11.body.getD .skip) [true, false, true, false, false]
noncomputable def laws_wRises.K52 (N : Nat) (Kn26 : St D0 → Option laws_wRises.R) : Ex → St D0 → Option laws_wRises.R := ((fun up => (onN (fun s => laws_wRises.C.tidy 26 s ((onN Kn26 up) .normal)) (onN Kn26 up))) (blockK 0 (onN (fun s => laws_wRises.C.tidy 6 s (fun s' => runC laws_wRises.C (laws_wRises.O N) N laws_wRises.c7 7 s' laws_wRises.K0)) laws_wRises.K0)))
noncomputable def laws_wRises.o1 (N : Nat) (v0 : List S25) (v1 : Int) (c1 : (List S25) → Int → Option laws_wRises.R) : Option laws_wRises.R :=
 bif (decide (v1 < (v0.length : Int))) then
  bif (decide (0 ≤ (w64 (v1 - 1)))) then
   bif (decide ((w64 (v1 - 1)) < (v0.length : Int))) then
    (v0[((w64 (v1 - 1)) : Int).toNat]?).bind fun x1 =>
    bif (decide (0 ≤ v1)) then
     bif (decide (v1 < (v0.length : Int))) then
      (v0[(v1 : Int).toNat]?).bind fun x2 =>
      bif (decide (0 ≤ v1)) then
       bif (decide (v1 < (v0.length : Int))) then
        (v0[(v1 : Int).toNat]?).bind fun x3 =>
        bif (decide (0 ≤ (w64 (v1 - 1)))) then
         bif (decide ((w64 (v1 - 1)) < (v0.length : Int))) then
          (v0[((w64 (v1 - 1)) : Int).toNat]?).bind fun x4 =>
          bif (decide ((w64 (x1.f0 * x2.f1)) ≥ (w64 (x3.f0 * x4.f1)))) then
           some (false)
          else
          c1 v0 (w64 (v1 + 1))
         else
         none
        else
        none
       else
       none
      else
      none
     else
     none
    else
    none
   else
   none
  else
  none
 else
 some (true)
theorem laws_wRises.o1.run (N : Nat) (Kn26 : St D0 → Option laws_wRises.R) (v0 : List S25) (v1 : Int) : runC laws_wRises.C (laws_wRises.O N) N laws_wRises.c52 52 (mkSt [(0, .one (.sl false 25 v0)), (3, .one (.int .i64 v1))] [] : St D0) ((fun up => (onN (fun s => laws_wRises.C.tidy 26 s ((onN Kn26 up) .normal)) (onN Kn26 up))) (blockK 0 (onN (fun s => laws_wRises.C.tidy 6 s (fun s' => runC laws_wRises.C (laws_wRises.O N) N laws_wRises.c7 7 s' laws_wRises.K0)) laws_wRises.K0))) = laws_wRises.o1 N v0 v1 ((fun w0 w1 => Kn26 (mkSt [(0, .one (.sl false 25 w0)), (3, .one (.int .i64 w1))] [] : St D0))) := by kernel_rfl
noncomputable def laws_wRises.d1 (N : Nat) (v0 : List S25) (v1 : Int) (c1 : (List S25) → Int → Option laws_wRises.R) : Option laws_wRises.R := laws_wRises.o1 N v0 v1 c1
theorem laws_wRises.d1.run (N : Nat) (Kn26 : St D0 → Option laws_wRises.R) (v0 : List S25) (v1 : Int) : runC laws_wRises.C (laws_wRises.O N) N laws_wRises.c52 52 (mkSt [(0, .one (.sl false 25 v0)), (3, .one (.int .i64 v1))] [] : St D0) (laws_wRises.K52 N Kn26) = laws_wRises.d1 N v0 v1 ((fun w0 w1 => Kn26 (mkSt [(0, .one (.sl false 25 w0)), (3, .one (.int .i64 w1))] [] : St D0))) := by
  exact (laws_wRises.o1.run N Kn26 v0 v1).trans rfl
noncomputable def laws_wRises.K26 (N : Nat) : Ex → St D0 → Option laws_wRises.R := (blockK 0 (onN (fun s => laws_wRises.C.tidy 6 s (fun s' => runC laws_wRises.C (laws_wRises.O N) N laws_wRises.c7 7 s' laws_wRises.K0)) laws_wRises.K0))
noncomputable def laws_wRises.l1 (N : Nat) : Nat → (List S25) → Int → Option laws_wRises.R
  | 0, _, _ => none
  | n + 1, v0, v1 => laws_wRises.d1 N v0 v1 ((fun w0 w1 => laws_wRises.l1 N n w0 w1))
theorem laws_wRises.loop26 (N : Nat) : ∀ n, (∀ (v0 : List S25) (v1 : Int), iter (loopF laws_wRises.C (laws_wRises.O N) N laws_wRises.c52 26) n (mkSt [(0, .one (.sl false 25 v0)), (3, .one (.int .i64 v1))] [] : St D0) (laws_wRises.K26 N) = laws_wRises.l1 N n v0 v1)
  | 0 => (fun v0 v1 => rfl)
  | n + 1 => (fun v0 v1 => (laws_wRises.d1.run N (fun s => iter (loopF laws_wRises.C (laws_wRises.O N) N laws_wRises.c52 26) n s (laws_wRises.K26 N)) v0 v1).trans (show _ = laws_wRises.d1 N v0 v1 ((fun w0 w1 => laws_wRises.l1 N n w0 w1)) from (congr rfl (funext fun w0 => funext fun w1 => (laws_wRises.loop26 N n) w0 w1))))
noncomputable def laws_wRises.o0 (N : Nat) (a0 : List S25) (c1 : (List S25) → Int → Option laws_wRises.R) : Option laws_wRises.R :=
 c1 a0 1
theorem laws_wRises.o0.run (N : Nat) (H52 : Code) (a0 : List S25) : runC laws_wRises.C (laws_wRises.O N) N (.seq laws_wRises.c2 (.seq (.seq laws_wRises.c12 (.block 0 (.loop H52))) laws_wRises.c7)) 1 (st0 [.one (.sl false 25 a0)] [] : St D0) laws_wRises.K0 = laws_wRises.o0 N a0 ((fun w0 w1 => iter (loopF laws_wRises.C (laws_wRises.O N) N H52 26) N (mkSt [(0, .one (.sl false 25 w0)), (3, .one (.int .i64 w1))] [] : St D0) (blockK 0 (onN (fun s => laws_wRises.C.tidy 6 s (fun s' => runC laws_wRises.C (laws_wRises.O N) N laws_wRises.c7 7 s' laws_wRises.K0)) laws_wRises.K0)))) := by kernel_rfl
noncomputable def laws_wRises.g (N : Nat) (a0 : List S25) : Option laws_wRises.R := laws_wRises.o0 N a0 ((fun w0 w1 => laws_wRises.l1 N N w0 w1))
theorem laws_wRises.c1_0 : laws_wRises.c1 = (.seq laws_wRises.c2 (.seq (.seq laws_wRises.c12 (.block 0 (.loop laws_wRises.c52))) laws_wRises.c7)) := by kernel_rfl
theorem laws_wRises.g.run (N : Nat) (a0 : List S25) : runC laws_wRises.C (laws_wRises.O N) N laws_wRises.c1 1 (st0 [.one (.sl false 25 a0)] [] : St D0) laws_wRises.K0 = laws_wRises.g N a0 := by
  rw [laws_wRises.c1_0]; unfold laws_wRises.g; exact (laws_wRises.o0.run N laws_wRises.c52 a0).trans (congr rfl (funext fun w0 => funext fun w1 => (laws_wRises.loop26 N N) w0 w1))
theorem laws_wRises.good (N : Nat) (a0 : List S25) (r : laws_wRises.R) (h : laws_wRises.g N a0 = some r) : Go.PM.Good Go.Proofs.Tryz.prog T0 11 [.one (.sl false 25 a0)] [] (laws_wRises.sig.ret r) (laws_wRises.sig.bs r) :=
  good_fn tabOk0 mixed0 laws_wRises.sig (laws_wRises.E N) Go.Proofs.Tryz.func11 (by kernel_rfl) (by kernel_rfl) 17179869325 0 0 [(26, [0, 3], [])] 415436080 false [] [(false, [.any])] (by kernel_rfl) rfl rfl ((laws_wRises.g.run N a0).trans h)
noncomputable def laws_wRises.ent (N : Nat) : Ent Go.Proofs.Tryz.prog T0 := mkEnt 11 [(false, [.ro 25])] laws_wRises.sig (fun t => laws_wRises.g N t) (fun t r h => laws_wRises.good N t r h)
end Go.Proofs.YtehbhinaopdkeaaGreat.M

namespace Go.Proofs.YtehbhinaopdkeaaGreat.M
open Go Go.PM Go.Proofs.YtehbhinaopdkeaaGreat.P
set_option linter.unusedVariables false
set_option maxRecDepth 100000
/-! ### spec_l1Cur_sureTurn -/
abbrev spec_l1Cur_sureTurn.R : Type := Int × Int × List Int × Int × Int
abbrev spec_l1Cur_sureTurn.sig : Sig := ⟨[(false, 1)], [(71, 3)], [.ptr 0 0, .sl false 5, .int .i64, .int .u64], [(true, 2)], [(71, 3)], [.int .i64, .int .i64, .sl false 5, .int .i64, .int .u64]⟩
noncomputable def spec_l1Cur_sureTurn.C : Cfg D0 := ⟨Go.Proofs.Tryz.prog, T0, 61, 0, 24, 1, [], 722688, false, []⟩
noncomputable def spec_l1Cur_sureTurn.E (N : Nat) : List (Ent Go.Proofs.Tryz.prog T0) := [spec_l1Cur_pick.ent N, spec_diMake.ent N]
noncomputable def spec_l1Cur_sureTurn.O (N : Nat) : Orc D0 spec_l1Cur_sureTurn.R := orcOf (spec_l1Cur_sureTurn.E N)
noncomputable def spec_l1Cur_sureTurn.K0 : Ex → St D0 → Option spec_l1Cur_sureTurn.R := exitK spec_l1Cur_sureTurn.C Go.Proofs.Tryz.f77.results.toList [(true, [.any, .any])] (decOut spec_l1Cur_sureTurn.sig)
noncomputable def spec_l1Cur_sureTurn.c1 : Code := codeAt (Go.Proofs.Tryz.f77.body.getD .skip) []
noncomputable def spec_l1Cur_sureTurn.o0 (N : Nat) (b0_0 : List Int) (b0_1 : Int) (b0_2 : Int) : Option spec_l1Cur_sureTurn.R :=
 (spec_l1Cur_pick.g N (([1, 2, 3, 4, 6, 8, 11, 12, 13, 24, 60, 143, 720, 719, 7, 5] : List Int).length : Int) b0_0 b0_1 b0_2).bind fun r1 =>
 bif (decide (0 ≤ r1.1)) then
  bif (decide (r1.1 < (([1, 2, 3, 4, 6, 8, 11, 12, 13, 24, 60, 143, 720, 719, 7, 5] : List Int).length : Int))) then
   (([1, 2, 3, 4, 6, 8, 11, 12, 13, 24, 60, 143, 720, 719, 7, 5] : List Int)[(r1.1 : Int).toNat]?).bind fun x2 =>
   (spec_l1Cur_pick.g N x2 r1.2.1 r1.2.2.1 r1.2.2.2).bind fun r3 =>
   (spec_diMake.g N r3.1 x2).bind fun r4 =>
   some (r4.1, r4.2.1, r3.2.1, r3.2.2.1, r3.2.2.2)
  else
  none
 else
 none
theorem spec_l1Cur_sureTurn.o0.run (N : Nat) (b0_0 : List Int) (b0_1 : Int) (b0_2 : Int) : runC spec_l1Cur_sureTurn.C (spec_l1Cur_sureTurn.O N) N spec_l1Cur_sureTurn.c1 1 (st0 [.one (.ptr 0 0)] [(71, [.sl false 5 b0_0, .int .i64 b0_1, .int .u64 b0_2])] : St D0) spec_l1Cur_sureTurn.K0 = spec_l1Cur_sureTurn.o0 N b0_0 b0_1 b0_2 := by kernel_rfl
noncomputable def spec_l1Cur_sureTurn.g (N : Nat) (b0_0 : List Int) (b0_1 : Int) (b0_2 : Int) : Option spec_l1Cur_sureTurn.R := spec_l1Cur_sureTurn.o0 N b0_0 b0_1 b0_2
theorem spec_l1Cur_sureTurn.g.run (N : Nat) (b0_0 : List Int) (b0_1 : Int) (b0_2 : Int) : runC spec_l1Cur_sureTurn.C (spec_l1Cur_sureTurn.O N) N spec_l1Cur_sureTurn.c1 1 (st0 [.one (.ptr 0 0)] [(71, [.sl false 5 b0_0, .int .i64 b0_1, .int .u64 b0_2])] : St D0) spec_l1Cur_sureTurn.K0 = spec_l1Cur_sureTurn.g N b0_0 b0_1 b0_2 := by
  exact (spec_l1Cur_sureTurn.o0.run N b0_0 b0_1 b0_2).trans rfl
theorem spec_l1Cur_sureTurn.good (N : Nat) (b0_0 : List Int) (b0_1 : Int) (b0_2 : Int) (r : spec_l1Cur_sureTurn.R) (h : spec_l1Cur_sureTurn.g N b0_0 b0_1 b0_2 = some r) : Go.PM.Good Go.Proofs.Tryz.prog T0 77 [.one (.ptr 0 0)] [(71, [.sl false 5 b0_0, .int .i64 b0_1, .int .u64 b0_2])] (spec_l1Cur_sureTurn.sig.ret r) (spec_l1Cur_sureTurn.sig.bs r) :=
  good_fn tabOk0 mixed0 spec_l1Cur_sureTurn.sig (spec_l1Cur_sureTurn.E N) Go.Proofs.Tryz.func77 (by kernel_rfl) (by kernel_rfl) 61 0 1 [] 722688 false [] [(true, [.any, .any])] (by kernel_rfl) rfl rfl ((spec_l1Cur_sureTurn.g.run N b0_0 b0_1 b0_2).trans h)
noncomputable def spec_l1Cur_sureTurn.ent (N : Nat) : Ent Go.Proofs.Tryz.prog T0 := mkEnt 77 [(false, [.any])] spec_l1Cur_sureTurn.sig (fun t => spec_l1Cur_sureTurn.g N t.2.1 t.2.2.1 t.2.2.2) (fun t r h => spec_l1Cur_sureTurn.good N t.2.1 t.2.2.1 t.2.2.2 r h)
end Go.Proofs.YtehbhinaopdkeaaGreat.M

namespace Go.Proofs.YtehbhinaopdkeaaGreat.M
open Go Go.PM Go.Proofs.YtehbhinaopdkeaaGreat.P
set_option linter.unusedVariables false
set_option maxRecDepth 100000
/-! ### spec_l1Cur_turn -/
abbrev spec_l1Cur_turn.R : Type := Int × Int × List Int × Int × Int
abbrev spec_l1Cur_turn.sig : Sig := ⟨[(false, 1)], [(71, 3)], [.ptr 0 0, .sl false 5, .int .i64, .int .u64], [(true, 2)], [(71, 3)], [.int .i64, .int .i64, .sl false 5, .int .i64, .int .u64]⟩
noncomputable def spec_l1Cur_turn.C : Cfg D0 := ⟨Go.Proofs.Tryz.prog, T0, 1065013, 0, 28, 1, [], 71369864, false, []⟩
noncomputable def spec_l1Cur_turn.E (N : Nat) : List (Ent Go.Proofs.Tryz.prog T0) := [spec_l1Cur_pick.ent N, spec_l1Cur_among.ent N, spec_l1Cur_sureTurn.ent N]
noncomputable def spec_l1Cur_turn.O (N : Nat) : Orc D0 spec_l1Cur_turn.R := orcOf (spec_l1Cur_turn.E N)
noncomputable def spec_l1Cur_turn.K0 : Ex → St D0 → Option spec_l1Cur_turn.R := exitK spec_l1Cur_turn.C Go.Proofs.Tryz.f54.results.toList [(true, [.any, .any])] (decOut spec_l1Cur_turn.sig)
noncomputable def spec_l1Cur_turn.c1 : Code := codeAt (Go.Proofs.Tryz.f54.body.getD .skip) []
noncomputable def spec_l1Cur_turn.o0 (N : Nat) (b0_0 : List Int) (b0_1 : Int) (b0_2 : Int) : Option spec_l1Cur_turn.R :=
 (spec_l1Cur_pick.g N 16 b0_0 b0_1 b0_2).bind fun r1 =>
 bif (r1.1 == 0) then
  (spec_l1Cur_among.g N ([(-1), 0, 2, 5, 4611686018427387904] : List Int) r1.2.1 r1.2.2.1 r1.2.2.2).bind fun r2 =>
  (spec_l1Cur_among.g N ([0, 1, 2, 4, 1000000, 1000001, (-3)] : List Int) r2.2.1 r2.2.2.1 r2.2.2.2).bind fun r3 =>
  some (r2.1, r3.1, r3.2.1, r3.2.2.1, r3.2.2.2)
 else
 bif (r1.1 == 1) then
  (spec_l1Cur_among.g N ([1, 999999, 7] : List Int) r1.2.1 r1.2.2.1 r1.2.2.2).bind fun r4 =>
  some (r4.1, 1000000, r4.2.1, r4.2.2.1, r4.2.2.2)
 else
 bif (r1.1 == 2) then
  (spec_l1Cur_pick.g N 900000 r1.2.1 r1.2.2.1 r1.2.2.2).bind fun r5 =>
  some ((w64 (1 + r5.1)), 999983, r5.2.1, r5.2.2.1, r5.2.2.2)
 else
 (spec_l1Cur_sureTurn.g N r1.2.1 r1.2.2.1 r1.2.2.2).bind fun r6 =>
 some (r6.1, r6.2.1, r6.2.2.1, r6.2.2.2.1, r6.2.2.2.2)
theorem spec_l1Cur_turn.o0.run (N : Nat) (b0_0 : List Int) (b0_1 : Int) (b0_2 : Int) : runC spec_l1Cur_turn.C (spec_l1Cur_turn.O N) N spec_l1Cur_turn.c1 1 (st0 [.one (.ptr 0 0)] [(71, [.sl false 5 b0_0, .int .i64 b0_1, .int .u64 b0_2])] : St D0) spec_l1Cur_turn.K0 = spec_l1Cur_turn.o0 N b0_0 b0_1 b0_2 := by kernel_rfl
noncomputable def spec_l1Cur_turn.g (N : Nat) (b0_0 : List Int) (b0_1 : Int) (b0_2 : Int) : Option spec_l1Cur_turn.R := spec_l1Cur_turn.o0 N b0_0 b0_1 b0_2
theorem spec_l1Cur_turn.g.run (N : Nat) (b0_0 : List Int) (b0_1 : Int) (b0_2 : Int) : runC spec_l1Cur_turn.C (spec_l1Cur_turn.O N) N spec_l1Cur_turn.c1 1 (st0 [.one (.ptr 0 0)] [(71, [.sl false 5 b0_0, .int .i64 b0_1, .int .u64 b0_2])] : St D0) spec_l1Cur_turn.K0 = spec_l1Cur_turn.g N b0_0 b0_1 b0_2 := by
  exact (spec_l1Cur_turn.o0.run N b0_0 b0_1 b0_2).trans rfl
theorem spec_l1Cur_turn.good (N : Nat) (b0_0 : List Int) (b0_1 : Int) (b0_2 : Int) (r : spec_l1Cur_turn.R) (h : spec_l1Cur_turn.g N b0_0 b0_1 b0_2 = some r) : Go.PM.Good Go.Proofs.Tryz.prog T0 54 [.one (.ptr 0 0)] [(71, [.sl false 5 b0_0, .int .i64 b0_1, .int .u64 b0_2])] (spec_l1Cur_turn.sig.ret r) (spec_l1Cur_turn.sig.bs r) :=
  good_fn tabOk0 mixed0 spec_l1Cur_turn.sig (spec_l1Cur_turn.E N) Go.Proofs.Tryz.func54 (by kernel_rfl) (by kernel_rfl) 1065013 0 1 [] 71369864 false [] [(true, [.any, .any])] (by kernel_rfl) rfl rfl ((spec_l1Cur_turn.g.run N b0_0 b0_1 b0_2).trans h)
noncomputable def spec_l1Cur_turn.ent (N : Nat) : Ent Go.Proofs.Tryz.prog T0 := mkEnt 54 [(false, [.any])] spec_l1Cur_turn.sig (fun t => spec_l1Cur_turn.g N t.2.1 t.2.2.1 t.2.2.2) (fun t r h => spec_l1Cur_turn.good N t.2.1 t.2.2.1 t.2.2.2 r h)
end Go.Proofs.YtehbhinaopdkeaaGreat.M

namespace Go.Proofs.YtehbhinaopdkeaaGreat.M
open Go Go.PM Go.Proofs.YtehbhinaopdkeaaGreat.P
set_option linter.unusedVariables false
set_option maxRecDepth 100000
/-! ### spec_l1Cur_hours -/
abbrev spec_l1Cur_hours.R : Type := Int × List Int × Int × Int
abbrev spec_l1Cur_hours.sig : Sig := ⟨[(false, 1)], [(71, 3)], [.ptr 0 0, .sl false 5, .int .i64, .int .u64], [(false, 1)], [(71, 3)], [.int .i64, .sl false 5, .int .i64, .int .u64]⟩
noncomputable def spec_l1Cur_hours.C : Cfg D0 := ⟨Go.Proofs.Tryz.prog, T0, 5, 0, 6, 1, [], 8, false, []⟩
noncomputable def spec_l1Cur_hours.E (N : Nat) : List (Ent Go.Proofs.Tryz.prog T0) := [spec_l1Cur_among.ent N]
noncomputable def spec_l1Cur_hours.O (N : Nat) : Orc D0 spec_l1Cur_hours.R := orcOf (spec_l1Cur_hours.E N)
noncomputable def spec_l1Cur_hours.K0 : Ex → St D0 → Option spec_l1Cur_hours.R := exitK spec_l1Cur_hours.C Go.Proofs.Tryz.f57.results.toList [(false, [.any])] (decOut spec_l1Cur_hours.sig)
noncomputable def spec_l1Cur_hours.c1 : Code := codeAt (Go.Proofs.Tryz.f57.body.getD .skip) []
noncomputable def spec_l1Cur_hours.o0 (N : Nat) (b0_0 : List Int) (b0_1 : Int) (b0_2 : Int) : Option spec_l1Cur_hours.R :=
 (spec_l1Cur_among.g N ([12, 24, 10, 12, 24, 6, 2, 3, 5, 12, 1, 25, 0] : List Int) b0_0 b0_1 b0_2).bind fun r1 =>
 some (r1.1, r1.2.1, r1.2.2.1, r1.2.2.2)
theorem spec_l1Cur_hours.o0.run (N : Nat) (b0_0 : List Int) (b0_1 : Int) (b0_2 : Int) : runC spec_l1Cur_hours.C (spec_l1Cur_hours.O N) N spec_l1Cur_hours.c1 1 (st0 [.one (.ptr 0 0)] [(71, [.sl false 5 b0_0, .int .i64 b0_1, .int .u64 b0_2])] : St D0) spec_l1Cur_hours.K0 = spec_l1Cur_hours.o0 N b0_0 b0_1 b0_2 := by kernel_rfl
noncomputable def spec_l1Cur_hours.g (N : Nat) (b0_0 : List Int) (b0_1 : Int) (b0_2 : Int) : Option spec_l1Cur_hours.R := spec_l1Cur_hours.o0 N b0_0 b0_1 b0_2
theorem spec_l1Cur_hours.g.run (N : Nat) (b0_0 : List Int) (b0_1 : Int) (b0_2 : Int) : runC spec_l1Cur_hours.C (spec_l1Cur_hours.O N) N spec_l1Cur_hours.c1 1 (st0 [.one (.ptr 0 0)] [(71, [.sl false 5 b0_0, .int .i64 b0_1, .int .u64 b0_2])] : St D0) spec_l1Cur_hours.K0 = spec_l1Cur_hours.g N b0_0 b0_1 b0_2 := by
  exact (spec_l1Cur_hours.o0.run N b0_0 b0_1 b0_2).trans rfl
theorem spec_l1Cur_hours.good (N : Nat) (b0_0 : List Int) (b0_1 : Int) (b0_2 : Int) (r : spec_l1Cur_hours.R) (h : spec_l1Cur_hours.g N b0_0 b0_1 b0_2 = some r) : Go.PM.Good Go.Proofs.Tryz.prog T0 57 [.one (.ptr 0 0)] [(71, [.sl false 5 b0_0, .int .i64 b0_1, .int .u64 b0_2])] (spec_l1Cur_hours.sig.ret r) (spec_l1Cur_hours.sig.bs r) :=
  good_fn tabOk0 mixed0 spec_l1Cur_hours.sig (spec_l1Cur_hours.E N) Go.Proofs.Tryz.func57 (by kernel_rfl) (by kernel_rfl) 5 0 1 [] 8 false [] [(false, [.any])] (by kernel_rfl) rfl rfl ((spec_l1Cur_hours.g.run N b0_0 b0_1 b0_2).trans h)
noncomputable def spec_l1Cur_hours.ent (N : Nat) : Ent Go.Proofs.Tryz.prog T0 := mkEnt 57 [(false, [.any])] spec_l1Cur_hours.sig (fun t => spec_l1Cur_hours.g N t.2.1 t.2.2.1 t.2.2.2) (fun t r h => spec_l1Cur_hours.good N t.2.1 t.2.2.1 t.2.2.2 r h)
end Go.Proofs.YtehbhinaopdkeaaGreat.M

namespace Go.Proofs.YtehbhinaopdkeaaGreat.M
open Go Go.PM Go.Proofs.YtehbhinaopdkeaaGreat.P
set_option linter.unusedVariables false
set_option maxRecDepth 100000
/-! ### impl_SeenOf -/
abbrev impl_SeenOf.R : Type := Int × Int × Int × Int × Bool
abbrev impl_SeenOf.sig : Sig := ⟨[(false, 1), (true, 2)], [], [.int .i64, .int .i64, .int .i64], [(true, 4), (false, 1)], [], [.int .i64, .int .i64, .int .i64, .int .i64, .bool]⟩
noncomputable def impl_SeenOf.C : Cfg D0 := ⟨Go.Proofs.Tryz.prog, T0, 571, 0, 16, 0, [], 8256, false, []⟩
noncomputable def impl_SeenOf.E (N : Nat) : List (Ent Go.Proofs.Tryz.prog T0) := [impl_isTime.ent N, impl_Turn_times.ent N]
noncomputable def impl_SeenOf.O (N : Nat) : Orc D0 impl_SeenOf.R := orcOf (impl_SeenOf.E N)
noncomputable def impl_SeenOf.K0 : Ex → St D0 → Option impl_SeenOf.R := exitK impl_SeenOf.C Go.Proofs.Tryz.f12.results.toList [(true, [.any, .any, .any, .any]), (false, [.any])] (decOut impl_SeenOf.sig)
noncomputable def impl_SeenOf.c1 : Code := codeAt (Go.Proofs.Tryz.f12.body.getD .skip) []
noncomputable def impl_SeenOf.o0 (N : Nat) (a0 : Int) (a1_0 : Int) (a1_1 : Int) : Option impl_SeenOf.R :=
 (impl_isTime.g N a0 a1_0 a1_1).bind fun r1 =>
 bif (!r1) then
  some (0, 0, 0, 0, false)
 else
 (impl_Turn_times.g N a1_0 a1_1 a0).bind fun r2 =>
 some (a1_0, a1_1, r2.1, r2.2, true)
theorem impl_SeenOf.o0.run (N : Nat) (a0 : Int) (a1_0 : Int) (a1_1 : Int) : runC impl_SeenOf.C (impl_SeenOf.O N) N impl_SeenOf.c1 1 (st0 [.one (.int .i64 a0), .agg [.int .i64 a1_0, .int .i64 a1_1]] [] : St D0) impl_SeenOf.K0 = impl_SeenOf.o0 N a0 a1_0 a1_1 := by kernel_rfl
noncomputable def impl_SeenOf.g (N : Nat) (a0 : Int) (a1_0 : Int) (a1_1 : Int) : Option impl_SeenOf.R := impl_SeenOf.o0 N a0 a1_0 a1_1
theorem impl_SeenOf.g.run (N : Nat) (a0 : Int) (a1_0 : Int) (a1_1 : Int) : runC impl_SeenOf.C (impl_SeenOf.O N) N impl_SeenOf.c1 1 (st0 [.one (.int .i64 a0), .agg [.int .i64 a1_0, .int .i64 a1_1]] [] : St D0) impl_SeenOf.K0 = impl_SeenOf.g N a0 a1_0 a1_1 := by
  exact (impl_SeenOf.o0.run N a0 a1_0 a1_1).trans rfl
theorem impl_SeenOf.good (N : Nat) (a0 : Int) (a1_0 : Int) (a1_1 : Int) (r : impl_SeenOf.R) (h : impl_SeenOf.g N a0 a1_0 a1_1 = some r) : Go.PM.Good Go.Proofs.Tryz.prog T0 12 [.one (.int .i64 a0), .agg [.int .i64 a1_0, .int .i64 a1_1]] [] (impl_SeenOf.sig.ret r) (impl_SeenOf.sig.bs r) :=
  good_fn tabOk0 mixed0 impl_SeenOf.sig (impl_SeenOf.E N) Go.Proofs.Tryz.func12 (by kernel_rfl) (by kernel_rfl) 571 0 0 [] 8256 false [] [(true, [.any, .any, .any, .any]), (false, [.any])] (by kernel_rfl) rfl rfl ((impl_SeenOf.g.run N a0 a1_0 a1_1).trans h)
noncomputable def impl_SeenOf.ent (N : Nat) : Ent Go.Proofs.Tryz.prog T0 := mkEnt 12 [(false, [.any]), (true, [.any, .any])] impl_SeenOf.sig (fun t => impl_SeenOf.g N t.1 t.2.1 t.2.2) (fun t r h => impl_SeenOf.good N t.1 t.2.1 t.2.2 r h)
end Go.Proofs.YtehbhinaopdkeaaGreat.M

namespace Go.Proofs.YtehbhinaopdkeaaGreat.M
open Go Go.PM Go.Proofs.YtehbhinaopdkeaaGreat.P
set_option linter.unusedVariables false
set_option maxRecDepth 100000
/-! ### impl_IsSeen -/
abbrev impl_IsSeen.R : Type := Bool
abbrev impl_IsSeen.sig : Sig := ⟨[(true, 4)], [], [.int .i64, .int .i64, .int .i64, .int .i64], [(false, 1)], [], [.bool]⟩
noncomputable def impl_IsSeen.C : Cfg D0 := ⟨Go.Proofs.Tryz.prog, T0, 7, 0, 9, 0, [], 0, false, []⟩
noncomputable def impl_IsSeen.E (N : Nat) : List (Ent Go.Proofs.Tryz.prog T0) := [impl_areTurns.ent N]
noncomputable def impl_IsSeen.O (N : Nat) : Orc D0 impl_IsSeen.R := orcOf (impl_IsSeen.E N)
noncomputable def impl_IsSeen.K0 : Ex → St D0 → Option impl_IsSeen.R := exitK impl_IsSeen.C Go.Proofs.Tryz.f27.results.toList [(false, [.any])] (decOut impl_IsSeen.sig)
noncomputable def impl_IsSeen.c1 : Code := codeAt (Go.Proofs.Tryz.f27.body.getD .skip) []
noncomputable def impl_IsSeen.o0 (N : Nat) (a0_0 : Int) (a0_1 : Int) (a0_2 : Int) (a0_3 : Int) : Option impl_IsSeen.R :=
 (impl_areTurns.g N ([(⟨a0_0, a0_1⟩ : S25), (⟨a0_2, a0_3⟩ : S25)] : List S25)).bind fun r1 =>
 some (r1)
theorem impl_IsSeen.o0.run (N : Nat) (a0_0 : Int) (a0_1 : Int) (a0_2 : Int) (a0_3 : Int) : runC impl_IsSeen.C (impl_IsSeen.O N) N impl_IsSeen.c1 1 (st0 [.agg [.int .i64 a0_0, .int .i64 a0_1, .int .i64 a0_2, .int .i64 a0_3]] [] : St D0) impl_IsSeen.K0 = impl_IsSeen.o0 N a0_0 a0_1 a0_2 a0_3 := by kernel_rfl
noncomputable def impl_IsSeen.g (N : Nat) (a0_0 : Int) (a0_1 : Int) (a0_2 : Int) (a0_3 : Int) : Option impl_IsSeen.R := impl_IsSeen.o0 N a0_0 a0_1 a0_2 a0_3
theorem impl_IsSeen.g.run (N : Nat) (a0_0 : Int) (a0_1 : Int) (a0_2 : Int) (a0_3 : Int) : runC impl_IsSeen.C (impl_IsSeen.O N) N impl_IsSeen.c1 1 (st0 [.agg [.int .i64 a0_0, .int .i64 a0_1, .int .i64 a0_2, .int .i64 a0_3]] [] : St D0) impl_IsSeen.K0 = impl_IsSeen.g N a0_0 a0_1 a0_2 a0_3 := by
  exact (impl_IsSeen.o0.run N a0_0 a0_1 a0_2 a0_3).trans rfl
theorem impl_IsSeen.good (N : Nat) (a0_0 : Int) (a0_1 : Int) (a0_2 : Int) (a0_3 : Int) (r : impl_IsSeen.R) (h : impl_IsSeen.g N a0_0 a0_1 a0_2 a0_3 = some r) : Go.PM.Good Go.Proofs.Tryz.prog T0 27 [.agg [.int .i64 a0_0, .int .i64 a0_1, .int .i64 a0_2, .int .i64 a0_3]] [] (impl_IsSeen.sig.ret r) (impl_IsSeen.sig.bs r) :=
  good_fn tabOk0 mixed0 impl_IsSeen.sig (impl_IsSeen.E N) Go.Proofs.Tryz.func27 (by kernel_rfl) (by kernel_rfl) 7 0 0 [] 0 false [] [(false, [.any])] (by kernel_rfl) rfl rfl ((impl_IsSeen.g.run N a0_0 a0_1 a0_2 a0_3).trans h)
noncomputable def impl_IsSeen.ent (N : Nat) : Ent Go.Proofs.Tryz.prog T0 := mkEnt 27 [(true, [.any, .any, .any, .any])] impl_IsSeen.sig (fun t => impl_IsSeen.g N t.1 t.2.1 t.2.2.1 t.2.2.2) (fun t r h => impl_IsSeen.good N t.1 t.2.1 t.2.2.1 t.2.2.2 r h)
end Go.Proofs.YtehbhinaopdkeaaGreat.M

namespace Go.Proofs.YtehbhinaopdkeaaGreat.M
open Go Go.PM Go.Proofs.YtehbhinaopdkeaaGreat.P
set_option linter.unusedVariables false
set_option maxRecDepth 100000
/-! ### impl_isSeenOf -/
abbrev impl_isSeenOf.R : Type := Bool
abbrev impl_isSeenOf.sig : Sig := ⟨[(false, 1), (true, 4)], [], [.int .i64, .int .i64, .int .i64, .int .i64, .int .i64], [(false, 1)], [], [.bool]⟩
noncomputable def impl_isSeenOf.C : Cfg D0 := ⟨Go.Proofs.Tryz.prog, T0, 27, 0, 11, 0, [], 32, false, []⟩
noncomputable def impl_isSeenOf.E (N : Nat) : List (Ent Go.Proofs.Tryz.prog T0) := [impl_isDial.ent N, impl_IsSeen.ent N]
noncomputable def impl_isSeenOf.O (N : Nat) : Orc D0 impl_isSeenOf.R := orcOf (impl_isSeenOf.E N)
noncomputable def impl_isSeenOf.K0 : Ex → St D0 → Option impl_isSeenOf.R := exitK impl_isSeenOf.C Go.Proofs.Tryz.f31.results.toList [(false, [.any])] (decOut impl_isSeenOf.sig)
noncomputable def impl_isSeenOf.c1 : Code := codeAt (Go.Proofs.Tryz.f31.body.getD .skip) []
noncomputable def impl_isSeenOf.o0 (N : Nat) (a0 : Int) (a1_0 : Int) (a1_1 : Int) (a1_2 : Int) (a1_3 : Int) : Option impl_isSeenOf.R :=
 (impl_isDial.g N a0).bind fun r1 =>
 bif r1 then
  (impl_IsSeen.g N a1_0 a1_1 a1_2 a1_3).bind fun r2 =>
  some (r2)
 else
 some (false)
theorem impl_isSeenOf.o0.run (N : Nat) (a0 : Int) (a1_0 : Int) (a1_1 : Int) (a1_2 : Int) (a1_3 : Int) : runC impl_isSeenOf.C (impl_isSeenOf.O N) N impl_isSeenOf.c1 1 (st0 [.one (.int .i64 a0), .agg [.int .i64 a1_0, .int .i64 a1_1, .int .i64 a1_2, .int .i64 a1_3]] [] : St D0) impl_isSeenOf.K0 = impl_isSeenOf.o0 N a0 a1_0 a1_1 a1_2 a1_3 := by kernel_rfl
noncomputable def impl_isSeenOf.g (N : Nat) (a0 : Int) (a1_0 : Int) (a1_1 : Int) (a1_2 : Int) (a1_3 : Int) : Option impl_isSeenOf.R := impl_isSeenOf.o0 N a0 a1_0 a1_1 a1_2 a1_3
theorem impl_isSeenOf.g.run (N : Nat) (a0 : Int) (a1_0 : Int) (a1_1 : Int) (a1_2 : Int) (a1_3 : Int) : runC impl_isSeenOf.C (impl_isSeenOf.O N) N impl_isSeenOf.c1 1 (st0 [.one (.int .i64 a0), .agg [.int .i64 a1_0, .int .i64 a1_1, .int .i64 a1_2, .int .i64 a1_3]] [] : St D0) impl_isSeenOf.K0 = impl_isSeenOf.g N a0 a1_0 a1_1 a1_2 a1_3 := by
  exact (impl_isSeenOf.o0.run N a0 a1_0 a1_1 a1_2 a1_3).trans rfl
theorem impl_isSeenOf.good (N : Nat) (a0 : Int) (a1_0 : Int) (a1_1 : Int) (a1_2 : Int) (a1_3 : Int) (r : impl_isSeenOf.R) (h : impl_isSeenOf.g N a0 a1_0 a1_1 a1_2 a1_3 = some r) : Go.PM.Good Go.Proofs.Tryz.prog T0 31 [.one (.int .i64 a0), .agg [.int .i64 a1_0, .int .i64 a1_1, .int .i64 a1_2, .int .i64 a1_3]] [] (impl_isSeenOf.sig.ret r) (impl_isSeenOf.sig.bs r) :=
  good_fn tabOk0 mixed0 impl_isSeenOf.sig (impl_isSeenOf.E N) Go.Proofs.Tryz.func31 (by kernel_rfl) (by kernel_rfl) 27 0 0 [] 32 false [] [(false, [.any])] (by kernel_rfl) rfl rfl ((impl_isSeenOf.g.run N a0 a1_0 a1_1 a1_2 a1_3).trans h)
noncomputable def impl_isSeenOf.ent (N : Nat) : Ent Go.Proofs.Tryz.prog T0 := mkEnt 31 [(false, [.any]), (true, [.any, .any, .any, .any])] impl_isSeenOf.sig (fun t => impl_isSeenOf.g N t.1 t.2.1 t.2.2.1 t.2.2.2.1 t.2.2.2.2) (fun t r h => impl_isSeenOf.good N t.1 t.2.1 t.2.2.1 t.2.2.2.1 t.2.2.2.2 r h)
end Go.Proofs.YtehbhinaopdkeaaGreat.M

namespace Go.Proofs.YtehbhinaopdkeaaGreat.M
open Go Go.PM Go.Proofs.YtehbhinaopdkeaaGreat.P
set_option linter.unusedVariables false
set_option maxRecDepth 100000
/-! ### impl_isTrue -/
abbrev impl_isTrue.R : Type := Bool
abbrev impl_isTrue.sig : Sig := ⟨[(false, 1), (true, 4)], [], [.int .i64, .int .i64, .int .i64, .int .i64, .int .i64], [(false, 1)], [], [.bool]⟩
noncomputable def impl_isTrue.C : Cfg D0 := ⟨Go.Proofs.Tryz.prog, T0, 27, 0, 12, 0, [], 128, false, []⟩
noncomputable def impl_isTrue.E (N : Nat) : List (Ent Go.Proofs.Tryz.prog T0) := [impl_Turn_times.ent N]
noncomputable def impl_isTrue.O (N : Nat) : Orc D0 impl_isTrue.R := orcOf (impl_isTrue.E N)
noncomputable def impl_isTrue.K0 : Ex → St D0 → Option impl_isTrue.R := exitK impl_isTrue.C Go.Proofs.Tryz.f43.results.toList [(false, [.any])] (decOut impl_isTrue.sig)
noncomputable def impl_isTrue.c1 : Code := codeAt (Go.Proofs.Tryz.f43.body.getD .skip) []
noncomputable def impl_isTrue.o0 (N : Nat) (a0 : Int) (a1_0 : Int) (a1_1 : Int) (a1_2 : Int) (a1_3 : Int) : Option impl_isTrue.R :=
 (impl_Turn_times.g N a1_0 a1_1 a0).bind fun r1 =>
 some (((r1.1 == a1_2) && ((r1.2 == a1_3) && true)))
theorem impl_isTrue.o0.run (N : Nat) (a0 : Int) (a1_0 : Int) (a1_1 : Int) (a1_2 : Int) (a1_3 : Int) : runC impl_isTrue.C (impl_isTrue.O N) N impl_isTrue.c1 1 (st0 [.one (.int .i64 a0), .agg [.int .i64 a1_0, .int .i64 a1_1, .int .i64 a1_2, .int .i64 a1_3]] [] : St D0) impl_isTrue.K0 = impl_isTrue.o0 N a0 a1_0 a1_1 a1_2 a1_3 := by kernel_rfl
noncomputable def impl_isTrue.g (N : Nat) (a0 : Int) (a1_0 : Int) (a1_1 : Int) (a1_2 : Int) (a1_3 : Int) : Option impl_isTrue.R := impl_isTrue.o0 N a0 a1_0 a1_1 a1_2 a1_3
theorem impl_isTrue.g.run (N : Nat) (a0 : Int) (a1_0 : Int) (a1_1 : Int) (a1_2 : Int) (a1_3 : Int) : runC impl_isTrue.C (impl_isTrue.O N) N impl_isTrue.c1 1 (st0 [.one (.int .i64 a0), .agg [.int .i64 a1_0, .int .i64 a1_1, .int .i64 a1_2, .int .i64 a1_3]] [] : St D0) impl_isTrue.K0 = impl_isTrue.g N a0 a1_0 a1_1 a1_2 a1_3 := by
  exact (impl_isTrue.o0.run N a0 a1_0 a1_1 a1_2 a1_3).trans rfl
theorem impl_isTrue.good (N : Nat) (a0 : Int) (a1_0 : Int) (a1_1 : Int) (a1_2 : Int) (a1_3 : Int) (r : impl_isTrue.R) (h : impl_isTrue.g N a0 a1_0 a1_1 a1_2 a1_3 = some r) : Go.PM.Good Go.Proofs.Tryz.prog T0 43 [.one (.int .i64 a0), .agg [.int .i64 a1_0, .int .i64 a1_1, .int .i64 a1_2, .int .i64 a1_3]] [] (impl_isTrue.sig.ret r) (impl_isTrue.sig.bs r) :=
  good_fn tabOk0 mixed0 impl_isTrue.sig (impl_isTrue.E N) Go.Proofs.Tryz.func43 (by kernel_rfl) (by kernel_rfl) 27 0 0 [] 128 false [] [(false, [.any])] (by kernel_rfl) rfl rfl ((impl_isTrue.g.run N a0 a1_0 a1_1 a1_2 a1_3).trans h)
noncomputable def impl_isTrue.ent (N : Nat) : Ent Go.Proofs.Tryz.prog T0 := mkEnt 43 [(false, [.any]), (true, [.any, .any, .any, .any])] impl_isTrue.sig (fun t => impl_isTrue.g N t.1 t.2.1 t.2.2.1 t.2.2.2.1 t.2.2.2.2) (fun t r h => impl_isTrue.good N t.1 t.2.1 t.2.2.1 t.2.2.2.1 t.2.2.2.2 r h)
end Go.Proofs.YtehbhinaopdkeaaGreat.M

namespace Go.Proofs.YtehbhinaopdkeaaGreat.M
open Go Go.PM Go.Proofs.YtehbhinaopdkeaaGreat.P
set_option linter.unusedVariables false
set_option maxRecDepth 100000
/-! ### impl_IsTrueSeen -/
abbrev impl_IsTrueSeen.R : Type := Bool × Bool
abbrev impl_IsTrueSeen.sig : Sig := ⟨[(false, 1), (true, 4)], [], [.int .i64, .int .i64, .int .i64, .int .i64, .int .i64], [(false, 1), (false, 1)], [], [.bool, .bool]⟩
noncomputable def impl_IsTrueSeen.C : Cfg D0 := ⟨Go.Proofs.Tryz.prog, T0, 59, 0, 17, 0, [], 17472, false, []⟩
noncomputable def impl_IsTrueSeen.E (N : Nat) : List (Ent Go.Proofs.Tryz.prog T0) := [impl_isSeenOf.ent N, impl_isTrue.ent N]
noncomputable def impl_IsTrueSeen.O (N : Nat) : Orc D0 impl_IsTrueSeen.R := orcOf (impl_IsTrueSeen.E N)
noncomputable def impl_IsTrueSeen.K0 : Ex → St D0 → Option impl_IsTrueSeen.R := exitK impl_IsTrueSeen.C Go.Proofs.Tryz.f14.results.toList [(false, [.any]), (false, [.any])] (decOut impl_IsTrueSeen.sig)
noncomputable def impl_IsTrueSeen.c1 : Code := codeAt (Go.Proofs.Tryz.f14.body.getD .skip) []
noncomputable def impl_IsTrueSeen.o0 (N : Nat) (a0 : Int) (a1_0 : Int) (a1_1 : Int) (a1_2 : Int) (a1_3 : Int) : Option impl_IsTrueSeen.R :=
 (impl_isSeenOf.g N a0 a1_0 a1_1 a1_2 a1_3).bind fun r1 =>
 bif r1 then
  (impl_isTrue.g N a0 a1_0 a1_1 a1_2 a1_3).bind fun r2 =>
  (impl_isSeenOf.g N a0 a1_0 a1_1 a1_2 a1_3).bind fun r3 =>
  some (r2, r3)
 else
 (impl_isSeenOf.g N a0 a1_0 a1_1 a1_2 a1_3).bind fun r4 =>
 some (false, r4)
theorem impl_IsTrueSeen.o0.run (N : Nat) (a0 : Int) (a1_0 : Int) (a1_1 : Int) (a1_2 : Int) (a1_3 : Int) : runC impl_IsTrueSeen.C (impl_IsTrueSeen.O N) N impl_IsTrueSeen.c1 1 (st0 [.one (.int .i64 a0), .agg [.int .i64 a1_0, .int .i64 a1_1, .int .i64 a1_2, .int .i64 a1_3]] [] : St D0) impl_IsTrueSeen.K0 = impl_IsTrueSeen.o0 N a0 a1_0 a1_1 a1_2 a1_3 := by kernel_rfl
noncomputable def impl_IsTrueSeen.g (N : Nat) (a0 : Int) (a1_0 : Int) (a1_1 : Int) (a1_2 : Int) (a1_3 : Int) : Option impl_IsTrueSeen.R := impl_IsTrueSeen.o0 N a0 a1_0 a1_1 a1_2 a1_3
theorem impl_IsTrueSeen.g.run (N : Nat) (a0 : Int) (a1_0 : Int) (a1_1 : Int) (a1_2 : Int) (a1_3 : Int) : runC impl_IsTrueSeen.C (impl_IsTrueSeen.O N) N impl_IsTrueSeen.c1 1 (st0 [.one (.int .i64 a0), .agg [.int .i64 a1_0, .int .i64 a1_1, .int .i64 a1_2, .int .i64 a1_3]] [] : St D0) impl_IsTrueSeen.K0 = impl_IsTrueSeen.g N a0 a1_0 a1_1 a1_2 a1_3 := by
  exact (impl_IsTrueSeen.o0.run N a0 a1_0 a1_1 a1_2 a1_3).trans rfl
theorem impl_IsTrueSeen.good (N : Nat) (a0 : Int) (a1_0 : Int) (a1_1 : Int) (a1_2 : Int) (a1_3 : Int) (r : impl_IsTrueSeen.R) (h : impl_IsTrueSeen.g N a0 a1_0 a1_1 a1_2 a1_3 = some r) : Go.PM.Good Go.Proofs.Tryz.prog T0 14 [.one (.int .i64 a0), .agg [.int .i64 a1_0, .int .i64 a1_1, .int .i64 a1_2, .int .i64 a1_3]] [] (impl_IsTrueSeen.sig.ret r) (impl_IsTrueSeen.sig.bs r) :=
  good_fn tabOk0 mixed0 impl_IsTrueSeen.sig (impl_IsTrueSeen.E N) Go.Proofs.Tryz.func14 (by kernel_rfl) (by kernel_rfl) 59 0 0 [] 17472 false [] [(false, [.any]), (false, [.any])] (by kernel_rfl) rfl rfl ((impl_IsTrueSeen.g.run N a0 a1_0 a1_1 a1_2 a1_3).trans h)
noncomputable def impl_IsTrueSeen.ent (N : Nat) : Ent Go.Proofs.Tryz.prog T0 := mkEnt 14 [(false, [.any]), (true, [.any, .any, .any, .any])] impl_IsTrueSeen.sig (fun t => impl_IsTrueSeen.g N t.1 t.2.1 t.2.2.1 t.2.2.2.1 t.2.2.2.2) (fun t r h => impl_IsTrueSeen.good N t.1 t.2.1 t.2.2.1 t.2.2.2.1 t.2.2.2.2 r h)
end Go.Proofs.YtehbhinaopdkeaaGreat.M

namespace Go.Proofs.YtehbhinaopdkeaaGreat.M
open Go Go.PM Go.Proofs.YtehbhinaopdkeaaGreat.P
set_option linter.unusedVariables false
set_option maxRecDepth 100000
/-! ### impl_MirrorSeen -/
abbrev impl_MirrorSeen.R : Type := Int × Int × Int × Int × Bool
abbrev impl_MirrorSeen.sig : Sig := ⟨[(true, 4)], [], [.int .i64, .int .i64, .int .i64, .int .i64], [(true, 4), (false, 1)], [], [.int .i64, .int .i64, .int .i64, .int .i64, .bool]⟩
noncomputable def impl_MirrorSeen.C : Cfg D0 := ⟨Go.Proofs.Tryz.prog, T0, 79, 0, 15, 0, [], 0, false, []⟩
noncomputable def impl_MirrorSeen.E (N : Nat) : List (Ent Go.Proofs.Tryz.prog T0) := [impl_IsSeen.ent N, impl_Turn_mirror.ent N]
noncomputable def impl_MirrorSeen.O (N : Nat) : Orc D0 impl_MirrorSeen.R := orcOf (impl_MirrorSeen.E N)
noncomputable def impl_MirrorSeen.K0 : Ex → St D0 → Option impl_MirrorSeen.R := exitK impl_MirrorSeen.C Go.Proofs.Tryz.f23.results.toList [(true, [.any, .any, .any, .any]), (false, [.any])] (decOut impl_MirrorSeen.sig)
noncomputable def impl_MirrorSeen.c1 : Code := codeAt (Go.Proofs.Tryz.f23.body.getD .skip) []
noncomputable def impl_MirrorSeen.o0 (N : Nat) (a0_0 : Int) (a0_1 : Int) (a0_2 : Int) (a0_3 : Int) : Option impl_MirrorSeen.R :=
 (impl_IsSeen.g N a0_0 a0_1 a0_2 a0_3).bind fun r1 =>
 bif (!r1) then
  some (0, 0, 0, 0, false)
 else
 (impl_Turn_mirror.g N a0_0 a0_1).bind fun r2 =>
 (impl_Turn_mirror.g N a0_2 a0_3).bind fun r3 =>
 some (r2.1, r2.2, r3.1, r3.2, true)
theorem impl_MirrorSeen.o0.run (N : Nat) (a0_0 : Int) (a0_1 : Int) (a0_2 : Int) (a0_3 : Int) : runC impl_MirrorSeen.C (impl_MirrorSeen.O N) N impl_MirrorSeen.c1 1 (st0 [.agg [.int .i64 a0_0, .int .i64 a0_1, .int .i64 a0_2, .int .i64 a0_3]] [] : St D0) impl_MirrorSeen.K0 = impl_MirrorSeen.o0 N a0_0 a0_1 a0_2 a0_3 := by kernel_rfl
noncomputable def impl_MirrorSeen.g (N : Nat) (a0_0 : Int) (a0_1 : Int) (a0_2 : Int) (a0_3 : Int) : Option impl_MirrorSeen.R := impl_MirrorSeen.o0 N a0_0 a0_1 a0_2 a0_3
theorem impl_MirrorSeen.g.run (N : Nat) (a0_0 : Int) (a0_1 : Int) (a0_2 : Int) (a0_3 : Int) : runC impl_MirrorSeen.C (impl_MirrorSeen.O N) N impl_MirrorSeen.c1 1 (st0 [.agg [.int .i64 a0_0, .int .i64 a0_1, .int .i64 a0_2, .int .i64 a0_3]] [] : St D0) impl_MirrorSeen.K0 = impl_MirrorSeen.g N a0_0 a0_1 a0_2 a0_3 := by
  exact (impl_MirrorSeen.o0.run N a0_0 a0_1 a0_2 a0_3).trans rfl
theorem impl_MirrorSeen.good (N : Nat) (a0_0 : Int) (a0_1 : Int) (a0_2 : Int) (a0_3 : Int) (r : impl_MirrorSeen.R) (h : impl_MirrorSeen.g N a0_0 a0_1 a0_2 a0_3 = some r) : Go.PM.Good Go.Proofs.Tryz.prog T0 23 [.agg [.int .i64 a0_0, .int .i64 a0_1, .int .i64 a0_2, .int .i64 a0_3]] [] (impl_MirrorSeen.sig.ret r) (impl_MirrorSeen.sig.bs r) :=
  good_fn tabOk0 mixed0 impl_MirrorSeen.sig (impl_MirrorSeen.E N) Go.Proofs.Tryz.func23 (by kernel_rfl) (by kernel_rfl) 79 0 0 [] 0 false [] [(true, [.any, .any, .any, .any]), (false, [.any])] (by kernel_rfl) rfl rfl ((impl_MirrorSeen.g.run N a0_0 a0_1 a0_2 a0_3).trans h)
noncomputable def impl_MirrorSeen.ent (N : Nat) : Ent Go.Proofs.Tryz.prog T0 := mkEnt 23 [(true, [.any, .any, .any, .any])] impl_MirrorSeen.sig (fun t => impl_MirrorSeen.g N t.1 t.2.1 t.2.2.1 t.2.2.2) (fun t r h => impl_MirrorSeen.good N t.1 t.2.1 t.2.2.1 t.2.2.2 r h)
end Go.Proofs.YtehbhinaopdkeaaGreat.M

namespace Go.Proofs.YtehbhinaopdkeaaGreat.M
open Go Go.PM Go.Proofs.YtehbhinaopdkeaaGreat.P
set_option linter.unusedVariables false
set_option maxRecDepth 100000
/-! ### spec_seGood -/
abbrev spec_seGood.R : Type := Bool
abbrev spec_seGood.sig : Sig := ⟨[(true, 4)], [], [.int .i64, .int .i64, .int .i64, .int .i64], [(false, 1)], [], [.bool]⟩
noncomputable def spec_seGood.C : Cfg D0 := ⟨Go.Proofs.Tryz.prog, T0, 7, 0, 11, 0, [], 0, false, []⟩
noncomputable def spec_seGood.E (N : Nat) : List (Ent Go.Proofs.Tryz.prog T0) := [spec_diGood.ent N]
noncomputable def spec_seGood.O (N : Nat) : Orc D0 spec_seGood.R := orcOf (spec_seGood.E N)
noncomputable def spec_seGood.K0 : Ex → St D0 → Option spec_seGood.R := exitK spec_seGood.C Go.Proofs.Tryz.f52.results.toList [(false, [.any])] (decOut spec_seGood.sig)
noncomputable def spec_seGood.c1 : Code := codeAt (Go.Proofs.Tryz.f52.body.getD .skip) []
noncomputable def spec_seGood.o0 (N : Nat) (a0_0 : Int) (a0_1 : Int) (a0_2 : Int) (a0_3 : Int) : Option spec_seGood.R :=
 (spec_diGood.g N a0_0 a0_1).bind fun r1 =>
 bif r1 then
  (spec_diGood.g N a0_2 a0_3).bind fun r2 =>
  some (r2)
 else
 some (false)
theorem spec_seGood.o0.run (N : Nat) (a0_0 : Int) (a0_1 : Int) (a0_2 : Int) (a0_3 : Int) : runC spec_seGood.C (spec_seGood.O N) N spec_seGood.c1 1 (st0 [.agg [.int .i64 a0_0, .int .i64 a0_1, .int .i64 a0_2, .int .i64 a0_3]] [] : St D0) spec_seGood.K0 = spec_seGood.o0 N a0_0 a0_1 a0_2 a0_3 := by kernel_rfl
noncomputable def spec_seGood.g (N : Nat) (a0_0 : Int) (a0_1 : Int) (a0_2 : Int) (a0_3 : Int) : Option spec_seGood.R := spec_seGood.o0 N a0_0 a0_1 a0_2 a0_3
theorem spec_seGood.g.run (N : Nat) (a0_0 : Int) (a0_1 : Int) (a0_2 : Int) (a0_3 : Int) : runC spec_seGood.C (spec_seGood.O N) N spec_seGood.c1 1 (st0 [.agg [.int .i64 a0_0, .int .i64 a0_1, .int .i64 a0_2, .int .i64 a0_3]] [] : St D0) spec_seGood.K0 = spec_seGood.g N a0_0 a0_1 a0_2 a0_3 := by
  exact (spec_seGood.o0.run N a0_0 a0_1 a0_2 a0_3).trans rfl
theorem spec_seGood.good (N : Nat) (a0_0 : Int) (a0_1 : Int) (a0_2 : Int) (a0_3 : Int) (r : spec_seGood.R) (h : spec_seGood.g N a0_0 a0_1 a0_2 a0_3 = some r) : Go.PM.Good Go.Proofs.Tryz.prog T0 52 [.agg [.int .i64 a0_0, .int .i64 a0_1, .int .i64 a0_2, .int .i64 a0_3]] [] (spec_seGood.sig.ret r) (spec_seGood.sig.bs r) :=
  good_fn tabOk0 mixed0 spec_seGood.sig (spec_seGood.E N) Go.Proofs.Tryz.func52 (by kernel_rfl) (by kernel_rfl) 7 0 0 [] 0 false [] [(false, [.any])] (by kernel_rfl) rfl rfl ((spec_seGood.g.run N a0_0 a0_1 a0_2 a0_3).trans h)
noncomputable def spec_seGood.ent (N : Nat) : Ent Go.Proofs.Tryz.prog T0 := mkEnt 52 [(true, [.any, .any, .any, .any])] spec_seGood.sig (fun t => spec_seGood.g N t.1 t.2.1 t.2.2.1 t.2.2.2) (fun t r h => spec_seGood.good N t.1 t.2.1 t.2.2.1 t.2.2.2 r h)
end Go.Proofs.YtehbhinaopdkeaaGreat.M

namespace Go.Proofs.YtehbhinaopdkeaaGreat.M
open Go Go.PM Go.Proofs.YtehbhinaopdkeaaGreat.P
set_option linter.unusedVariables false
set_option maxRecDepth 100000
/-! ### spec_seAsked -/
abbrev spec_seAsked.R : Type := Bool
abbrev spec_seAsked.sig : Sig := ⟨[(false, 1), (true, 4)], [], [.int .i64, .int .i64, .int .i64, .int .i64, .int .i64], [(false, 1)], [], [.bool]⟩
noncomputable def spec_seAsked.C : Cfg D0 := ⟨Go.Proofs.Tryz.prog, T0, 27, 0, 11, 0, [], 32, false, []⟩
noncomputable def spec_seAsked.E (N : Nat) : List (Ent Go.Proofs.Tryz.prog T0) := [spec_diHours.ent N, spec_seGood.ent N]
noncomputable def spec_seAsked.O (N : Nat) : Orc D0 spec_seAsked.R := orcOf (spec_seAsked.E N)
noncomputable def spec_seAsked.K0 : Ex → St D0 → Option spec_seAsked.R := exitK spec_seAsked.C Go.Proofs.Tryz.f35.results.toList [(false, [.any])] (decOut spec_seAsked.sig)
noncomputable def spec_seAsked.c1 : Code := codeAt (Go.Proofs.Tryz.f35.body.getD .skip) []
noncomputable def spec_seAsked.o0 (N : Nat) (a0 : Int) (a1_0 : Int) (a1_1 : Int) (a1_2 : Int) (a1_3 : Int) : Option spec_seAsked.R :=
 (spec_diHours.g N a0).bind fun r1 =>
 bif r1 then
  (spec_seGood.g N a1_0 a1_1 a1_2 a1_3).bind fun r2 =>
  some (r2)
 else
 some (false)
theorem spec_seAsked.o0.run (N : Nat) (a0 : Int) (a1_0 : Int) (a1_1 : Int) (a1_2 : Int) (a1_3 : Int) : runC spec_seAsked.C (spec_seAsked.O N) N spec_seAsked.c1 1 (st0 [.one (.int .i64 a0), .agg [.int .i64 a1_0, .int .i64 a1_1, .int .i64 a1_2, .int .i64 a1_3]] [] : St D0) spec_seAsked.K0 = spec_seAsked.o0 N a0 a1_0 a1_1 a1_2 a1_3 := by kernel_rfl
noncomputable def spec_seAsked.g (N : Nat) (a0 : Int) (a1_0 : Int) (a1_1 : Int) (a1_2 : Int) (a1_3 : Int) : Option spec_seAsked.R := spec_seAsked.o0 N a0 a1_0 a1_1 a1_2 a1_3
theorem spec_seAsked.g.run (N : Nat) (a0 : Int) (a1_0 : Int) (a1_1 : Int) (a1_2 : Int) (a1_3 : Int) : runC spec_seAsked.C (spec_seAsked.O N) N spec_seAsked.c1 1 (st0 [.one (.int .i64 a0), .agg [.int .i64 a1_0, .int .i64 a1_1, .int .i64 a1_2, .int .i64 a1_3]] [] : St D0) spec_seAsked.K0 = spec_seAsked.g N a0 a1_0 a1_1 a1_2 a1_3 := by
  exact (spec_seAsked.o0.run N a0 a1_0 a1_1 a1_2 a1_3).trans rfl
theorem spec_seAsked.good (N : Nat) (a0 : Int) (a1_0 : Int) (a1_1 : Int) (a1_2 : Int) (a1_3 : Int) (r : spec_seAsked.R) (h : spec_seAsked.g N a0 a1_0 a1_1 a1_2 a1_3 = some r) : Go.PM.Good Go.Proofs.Tryz.prog T0 35 [.one (.int .i64 a0), .agg [.int .i64 a1_0, .int .i64 a1_1, .int .i64 a1_2, .int .i64 a1_3]] [] (spec_seAsked.sig.ret r) (spec_seAsked.sig.bs r) :=
  good_fn tabOk0 mixed0 spec_seAsked.sig (spec_seAsked.E N) Go.Proofs.Tryz.func35 (by kernel_rfl) (by kernel_rfl) 27 0 0 [] 32 false [] [(false, [.any])] (by kernel_rfl) rfl rfl ((spec_seAsked.g.run N a0 a1_0 a1_1 a1_2 a1_3).trans h)
noncomputable def spec_seAsked.ent (N : Nat) : Ent Go.Proofs.Tryz.prog T0 := mkEnt 35 [(false, [.any]), (true, [.any, .any, .any, .any])] spec_seAsked.sig (fun t => spec_seAsked.g N t.1 t.2.1 t.2.2.1 t.2.2.2.1 t.2.2.2.2) (fun t r h => spec_seAsked.good N t.1 t.2.1 t.2.2.1 t.2.2.2.1 t.2.2.2.2 r h)
end Go.Proofs.YtehbhinaopdkeaaGreat.M

namespace Go.Proofs.YtehbhinaopdkeaaGreat.M
open Go Go.PM Go.Proofs.YtehbhinaopdkeaaGreat.P
set_option linter.unusedVariables false
set_option maxRecDepth 100000
/-! ### spec_seTrue -/
abbrev spec_seTrue.R : Type := Bool
abbrev spec_seTrue.sig : Sig := ⟨[(false, 1), (true, 4)], [], [.int .i64, .int .i64, .int .i64, .int .i64, .int .i64], [(false, 1)], [], [.bool]⟩
noncomputable def spec_seTrue.C : Cfg D0 := ⟨Go.Proofs.Tryz.prog, T0, 27, 0, 12, 0, [], 128, false, []⟩
noncomputable def spec_seTrue.E (N : Nat) : List (Ent Go.Proofs.Tryz.prog T0) := [spec_diTimes.ent N]
noncomputable def spec_seTrue.O (N : Nat) : Orc D0 spec_seTrue.R := orcOf (spec_seTrue.E N)
noncomputable def spec_seTrue.K0 : Ex → St D0 → Option spec_seTrue.R := exitK spec_seTrue.C Go.Proofs.Tryz.f49.results.toList [(false, [.any])] (decOut spec_seTrue.sig)
noncomputable def spec_seTrue.c1 : Code := codeAt (Go.Proofs.Tryz.f49.body.getD .skip) []
noncomputable def spec_seTrue.o0 (N : Nat) (a0 : Int) (a1_0 : Int) (a1_1 : Int) (a1_2 : Int) (a1_3 : Int) : Option spec_seTrue.R :=
 (spec_diTimes.g N a1_0 a1_1 a0).bind fun r1 =>
 some (((r1.1 == a1_2) && ((r1.2 == a1_3) && true)))
theorem spec_seTrue.o0.run (N : Nat) (a0 : Int) (a1_0 : Int) (a1_1 : Int) (a1_2 : Int) (a1_3 : Int) : runC spec_seTrue.C (spec_seTrue.O N) N spec_seTrue.c1 1 (st0 [.one (.int .i64 a0), .agg [.int .i64 a1_0, .int .i64 a1_1, .int .i64 a1_2, .int .i64 a1_3]] [] : St D0) spec_seTrue.K0 = spec_seTrue.o0 N a0 a1_0 a1_1 a1_2 a1_3 := by kernel_rfl
noncomputable def spec_seTrue.g (N : Nat) (a0 : Int) (a1_0 : Int) (a1_1 : Int) (a1_2 : Int) (a1_3 : Int) : Option spec_seTrue.R := spec_seTrue.o0 N a0 a1_0 a1_1 a1_2 a1_3
theorem spec_seTrue.g.run (N : Nat) (a0 : Int) (a1_0 : Int) (a1_1 : Int) (a1_2 : Int) (a1_3 : Int) : runC spec_seTrue.C (spec_seTrue.O N) N spec_seTrue.c1 1 (st0 [.one (.int .i64 a0), .agg [.int .i64 a1_0, .int .i64 a1_1, .int .i64 a1_2, .int .i64 a1_3]] [] : St D0) spec_seTrue.K0 = spec_seTrue.g N a0 a1_0 a1_1 a1_2 a1_3 := by
  exact (spec_seTrue.o0.run N a0 a1_0 a1_1 a1_2 a1_3).trans rfl
theorem spec_seTrue.good (N : Nat) (a0 : Int) (a1_0 : Int) (a1_1 : Int) (a1_2 : Int) (a1_3 : Int) (r : spec_seTrue.R) (h : spec_seTrue.g N a0 a1_0 a1_1 a1_2 a1_3 = some r) : Go.PM.Good Go.Proofs.Tryz.prog T0 49 [.one (.int .i64 a0), .agg [.int .i64 a1_0, .int .i64 a1_1, .int .i64 a1_2, .int .i64 a1_3]] [] (spec_seTrue.sig.ret r) (spec_seTrue.sig.bs r) :=
  good_fn tabOk0 mixed0 spec_seTrue.sig (spec_seTrue.E N) Go.Proofs.Tryz.func49 (by kernel_rfl) (by kernel_rfl) 27 0 0 [] 128 false [] [(false, [.any])] (by kernel_rfl) rfl rfl ((spec_seTrue.g.run N a0 a1_0 a1_1 a1_2 a1_3).trans h)
noncomputable def spec_seTrue.ent (N : Nat) : Ent Go.Proofs.Tryz.prog T0 := mkEnt 49 [(false, [.any]), (true, [.any, .any, .any, .any])] spec_seTrue.sig (fun t => spec_seTrue.g N t.1 t.2.1 t.2.2.1 t.2.2.2.1 t.2.2.2.2) (fun t r h => spec_seTrue.good N t.1 t.2.1 t.2.2.1 t.2.2.2.1 t.2.2.2.2 r h)
end Go.Proofs.YtehbhinaopdkeaaGreat.M

namespace Go.Proofs.YtehbhinaopdkeaaGreat.M
open Go Go.PM Go.Proofs.YtehbhinaopdkeaaGreat.P
set_option linter.unusedVariables false
set_option maxRecDepth 100000
/-! ### spec_seOf -/
abbrev spec_seOf.R : Type := Int × Int × Int × Int
abbrev spec_seOf.sig : Sig := ⟨[(false, 1), (true, 2)], [], [.int .i64, .int .i64, .int .i64], [(true, 4)], [], [.int .i64, .int .i64, .int .i64, .int .i64]⟩
noncomputable def spec_seOf.C : Cfg D0 := ⟨Go.Proofs.Tryz.prog, T0, 27, 0, 10, 0, [], 128, false, []⟩
noncomputable def spec_seOf.E (N : Nat) : List (Ent Go.Proofs.Tryz.prog T0) := [spec_diTimes.ent N]
noncomputable def spec_seOf.O (N : Nat) : Orc D0 spec_seOf.R := orcOf (spec_seOf.E N)
noncomputable def spec_seOf.K0 : Ex → St D0 → Option spec_seOf.R := exitK spec_seOf.C Go.Proofs.Tryz.f74.results.toList [(true, [.any, .any, .any, .any])] (decOut spec_seOf.sig)
noncomputable def spec_seOf.c1 : Code := codeAt (Go.Proofs.Tryz.f74.body.getD .skip) []
noncomputable def spec_seOf.o0 (N : Nat) (a0 : Int) (a1_0 : Int) (a1_1 : Int) : Option spec_seOf.R :=
 (spec_diTimes.g N a1_0 a1_1 a0).bind fun r1 =>
 some (a1_0, a1_1, r1.1, r1.2)
theorem spec_seOf.o0.run (N : Nat) (a0 : Int) (a1_0 : Int) (a1_1 : Int) : runC spec_seOf.C (spec_seOf.O N) N spec_seOf.c1 1 (st0 [.one (.int .i64 a0), .agg [.int .i64 a1_0, .int .i64 a1_1]] [] : St D0) spec_seOf.K0 = spec_seOf.o0 N a0 a1_0 a1_1 := by kernel_rfl
noncomputable def spec_seOf.g (N : Nat) (a0 : Int) (a1_0 : Int) (a1_1 : Int) : Option spec_seOf.R := spec_seOf.o0 N a0 a1_0 a1_1
theorem spec_seOf.g.run (N : Nat) (a0 : Int) (a1_0 : Int) (a1_1 : Int) : runC spec_seOf.C (spec_seOf.O N) N spec_seOf.c1 1 (st0 [.one (.int .i64 a0), .agg [.int .i64 a1_0, .int .i64 a1_1]] [] : St D0) spec_seOf.K0 = spec_seOf.g N a0 a1_0 a1_1 := by
  exact (spec_seOf.o0.run N a0 a1_0 a1_1).trans rfl
theorem spec_seOf.good (N : Nat) (a0 : Int) (a1_0 : Int) (a1_1 : Int) (r : spec_seOf.R) (h : spec_seOf.g N a0 a1_0 a1_1 = some r) : Go.PM.Good Go.Proofs.Tryz.prog T0 74 [.one (.int .i64 a0), .agg [.int .i64 a1_0, .int .i64 a1_1]] [] (spec_seOf.sig.ret r) (spec_seOf.sig.bs r) :=
  good_fn tabOk0 mixed0 spec_seOf.sig (spec_seOf.E N) Go.Proofs.Tryz.func74 (by kernel_rfl) (by kernel_rfl) 27 0 0 [] 128 false [] [(true, [.any, .any, .any, .any])] (by kernel_rfl) rfl rfl ((spec_seOf.g.run N a0 a1_0 a1_1).trans h)
noncomputable def spec_seOf.ent (N : Nat) : Ent Go.Proofs.Tryz.prog T0 := mkEnt 74 [(false, [.any]), (true, [.any, .any])] spec_seOf.sig (fun t => spec_seOf.g N t.1 t.2.1 t.2.2) (fun t r h => spec_seOf.good N t.1 t.2.1 t.2.2 r h)
end Go.Proofs.YtehbhinaopdkeaaGreat.M

namespace Go.Proofs.YtehbhinaopdkeaaGreat.M
open Go Go.PM Go.Proofs.YtehbhinaopdkeaaGreat.P
set_option linter.unusedVariables false
set_option maxRecDepth 100000
/-! ### spec_seMirror -/
abbrev spec_seMirror.R : Type := Int × Int × Int × Int
abbrev spec_seMirror.sig : Sig := ⟨[(true, 4)], [], [.int .i64, .int .i64, .int .i64, .int .i64], [(true, 4)], [], [.int .i64, .int .i64, .int .i64, .int .i64]⟩
noncomputable def spec_seMirror.C : Cfg D0 := ⟨Go.Proofs.Tryz.prog, T0, 7, 0, 10, 0, [], 0, false, []⟩
noncomputable def spec_seMirror.E (N : Nat) : List (Ent Go.Proofs.Tryz.prog T0) := [spec_diMirror.ent N]
noncomputable def spec_seMirror.O (N : Nat) : Orc D0 spec_seMirror.R := orcOf (spec_seMirror.E N)
noncomputable def spec_seMirror.K0 : Ex → St D0 → Option spec_seMirror.R := exitK spec_seMirror.C Go.Proofs.Tryz.f48.results.toList [(true, [.any, .any, .any, .any])] (decOut spec_seMirror.sig)
noncomputable def spec_seMirror.c1 : Code := codeAt (Go.Proofs.Tryz.f48.body.getD .skip) []
noncomputable def spec_seMirror.o0 (N : Nat) (a0_0 : Int) (a0_1 : Int) (a0_2 : Int) (a0_3 : Int) : Option spec_seMirror.R :=
 (spec_diMirror.g N a0_0 a0_1).bind fun r1 =>
 (spec_diMirror.g N a0_2 a0_3).bind fun r2 =>
 some (r1.1, r1.2, r2.1, r2.2)
theorem spec_seMirror.o0.run (N : Nat) (a0_0 : Int) (a0_1 : Int) (a0_2 : Int) (a0_3 : Int) : runC spec_seMirror.C (spec_seMirror.O N) N spec_seMirror.c1 1 (st0 [.agg [.int .i64 a0_0, .int .i64 a0_1, .int .i64 a0_2, .int .i64 a0_3]] [] : St D0) spec_seMirror.K0 = spec_seMirror.o0 N a0_0 a0_1 a0_2 a0_3 := by kernel_rfl
noncomputable def spec_seMirror.g (N : Nat) (a0_0 : Int) (a0_1 : Int) (a0_2 : Int) (a0_3 : Int) : Option spec_seMirror.R := spec_seMirror.o0 N a0_0 a0_1 a0_2 a0_3
theorem spec_seMirror.g.run (N : Nat) (a0_0 : Int) (a0_1 : Int) (a0_2 : Int) (a0_3 : Int) : runC spec_seMirror.C (spec_seMirror.O N) N spec_seMirror.c1 1 (st0 [.agg [.int .i64 a0_0, .int .i64 a0_1, .int .i64 a0_2, .int .i64 a0_3]] [] : St D0) spec_seMirror.K0 = spec_seMirror.g N a0_0 a0_1 a0_2 a0_3 := by
  exact (spec_seMirror.o0.run N a0_0 a0_1 a0_2 a0_3).trans rfl
theorem spec_seMirror.good (N : Nat) (a0_0 : Int) (a0_1 : Int) (a0_2 : Int) (a0_3 : Int) (r : spec_seMirror.R) (h : spec_seMirror.g N a0_0 a0_1 a0_2 a0_3 = some r) : Go.PM.Good Go.Proofs.Tryz.prog T0 48 [.agg [.int .i64 a0_0, .int .i64 a0_1, .int .i64 a0_2, .int .i64 a0_3]] [] (spec_seMirror.sig.ret r) (spec_seMirror.sig.bs r) :=
  good_fn tabOk0 mixed0 spec_seMirror.sig (spec_seMirror.E N) Go.Proofs.Tryz.func48 (by kernel_rfl) (by kernel_rfl) 7 0 0 [] 0 false [] [(true, [.any, .any, .any, .any])] (by kernel_rfl) rfl rfl ((spec_seMirror.g.run N a0_0 a0_1 a0_2 a0_3).trans h)
noncomputable def spec_seMirror.ent (N : Nat) : Ent Go.Proofs.Tryz.prog T0 := mkEnt 48 [(true, [.any, .any, .any, .any])] spec_seMirror.sig (fun t => spec_seMirror.g N t.1 t.2.1 t.2.2.1 t.2.2.2) (fun t r h => spec_seMirror.good N t.1 t.2.1 t.2.2.1 t.2.2.2 r h)
end Go.Proofs.YtehbhinaopdkeaaGreat.M

namespace Go.Proofs.YtehbhinaopdkeaaGreat.M
open Go Go.PM Go.Proofs.YtehbhinaopdkeaaGreat.P
set_option linter.unusedVariables false
set_option maxRecDepth 100000
open Go.RowKit Go.Lib
/-! ### slices_Clone_impl_Turn_impl_Turn -/
abbrev slices_Clone_impl_Turn_impl_Turn.R : Type := List S25
abbrev slices_Clone_impl_Turn_impl_Turn.sig : Sig := ⟨[(false, 1)], [], [.sl false 25], [(false, 1)], [], [.sl true 25]⟩
set_option maxHeartbeats 2000000 in
set_option maxRecDepth 100000 in
theorem slices_Clone_impl_Turn_impl_Turn.walk (ad : Addr) (n c : Nat) (news : List Value) (w : World) (hl : news.length = n * 2) (hn : n ≤ maxLen) (hbig : n * 16 ≤ 140737488355328) (hc : ∀ j u, news[j]? = some u → w.cell? (ad.add j) = some u) (h1 : ∀ u ∈ news, u.oneCell' = true) :
    Calls Go.Proofs.Tryz.prog 65 #[.slice (some ad) n c] w fun e w' => ∃ v', e = .returned v' ∧ w'.ownsRow w.heap.size 25 2 v' n news ∧ Go.RowKit.Below w.heap.size w w' := by
  have q22 : ∀ (w : World) (a : Option Addr) (n c n' c' : Nat), (binOp .eql 30 (.slice a n c) (.slice none n' c')).run Go.Proofs.Tryz.prog w = .ok (.bool a.isNone) w := fun w a n c n' c' => Lib.run_eql_slice_nil w _ _ a n c n' c' Go.Proofs.Tryz.underlying30
  have u22 : ∀ w, Sem.run Go.Proofs.Tryz.prog (underlying 30) w = .ok (TypeDesc.slice 25) w := run_underlying Go.Proofs.Tryz.underlying30
  have A : Aside (∀ j u, news[j]? = some u → w.cell? (ad.add j) = some u) := hc
  clear hc
  have HI : (Go.Proofs.Tryz.prog.info? 25).map (fun i => (i.zero, i.size, i.bytes)) = some (some (.agg #[(.int .i64 0), (.int .i64 0)]), 2, 16) := by kernel_rfl
  obtain ⟨i0, hi, hz0, hz1, hz2⟩ := info_parts HI
  go_enter Go.Proofs.Tryz.func65, Go.Proofs.Tryz.ntmps65
  go_wp2_with (at_builtin; refine wpList_append_own _ rfl _ _ 30 rfl w.heap.size 25 i0 _ 2 16 Go.Proofs.Tryz.underlying30 hi hz0 hz1 hz2 rfl (by decide) _ _ _ rfl (World.ownsRow_made w #[] 0 (Nat.le_refl _) (Nat.zero_le _) (by simp)) ad n c news rfl ?qc1 ?qc2 ?qc3 ?qc4 ?qc5 ?qc6 ?_)
  case qc1 => exact hl
  case qc2 =>
    intro j u hj
    exact Lib.cell?_alloc_some _ (A.out j u hj)
  case qc3 => exact h1
  case qc4 => rw [Nat.zero_add]; exact hn
  case qc5 => rw [Nat.zero_add]; exact hbig
  case qc6 => simp
  intro v' w1 hown hgrow hnil
  go_wp2
  go_ret
  exact ⟨v', rfl, by simpa using hown, ((Below.refl _ w).alloc (Nat.le_refl _) _).grown hgrow (by simp) (by intro k hk; simp [Value.ownBlock] at hk; omega)⟩
set_option maxHeartbeats 1000000 in
theorem slices_Clone_impl_Turn_impl_Turn.walk0 (n c : Nat) (w : World) : Calls Go.Proofs.Tryz.prog 65 #[.slice none n c] w fun e w' => e = .returned (.slice none 0 0) ∧ w' = w := by
  have q22 : ∀ (w : World) (a : Option Addr) (n c n' c' : Nat), (binOp .eql 30 (.slice a n c) (.slice none n' c')).run Go.Proofs.Tryz.prog w = .ok (.bool a.isNone) w := fun w a n c n' c' => Lib.run_eql_slice_nil w _ _ a n c n' c' Go.Proofs.Tryz.underlying30
  go_enter Go.Proofs.Tryz.func65, Go.Proofs.Tryz.ntmps65
  go_wp2
  go_ret
  exact ⟨rfl, rfl⟩

noncomputable def slices_Clone_impl_Turn_impl_Turn.g (N : Nat) (a0 : List S25) : Option slices_Clone_impl_Turn_impl_Turn.R := bif Nat.ble (a0.length * 16) 140737488355328 then some a0 else none
theorem slices_Clone_impl_Turn_impl_Turn.good (N : Nat) (a0 : List S25) (r : slices_Clone_impl_Turn_impl_Turn.R) (h : slices_Clone_impl_Turn_impl_Turn.g N a0 = some r) : Go.PM.Good Go.Proofs.Tryz.prog T0 65 [.one (.sl false 25 a0)] [] (slices_Clone_impl_Turn_impl_Turn.sig.ret r) (slices_Clone_impl_Turn_impl_Turn.sig.bs r) := by
  unfold slices_Clone_impl_Turn_impl_Turn.g at h
  obtain ⟨h1, h2⟩ := bif_some h
  cases Option.some.inj h2
  exact good_clone tabOk0 25 16 ⟨_, Go.Proofs.Tryz.func65, by kernel_rfl, rfl⟩ (by show 0 < 2; omega) (by omega) (fun ad n c news w h1 h2 h3 h4 h5 => slices_Clone_impl_Turn_impl_Turn.walk ad n c news w h1 h2 h3 h4 h5) slices_Clone_impl_Turn_impl_Turn.walk0 a0 (Nat.le_of_ble_eq_true h1)
noncomputable def slices_Clone_impl_Turn_impl_Turn.ent (N : Nat) : Ent Go.Proofs.Tryz.prog T0 := mkEnt 65 [(false, [.ro 25])] slices_Clone_impl_Turn_impl_Turn.sig (fun t => slices_Clone_impl_Turn_impl_Turn.g N t) (fun t r h => slices_Clone_impl_Turn_impl_Turn.good N t r h)
end Go.Proofs.YtehbhinaopdkeaaGreat.M

namespace Go.Proofs.YtehbhinaopdkeaaGreat.M
open Go Go.PM Go.Proofs.YtehbhinaopdkeaaGreat.P
set_option linter.unusedVariables false
set_option maxRecDepth 100000
open Go.RowKit Go.Lib Go.Sort Go.Proofs
/-! ### impl_sorted -/
abbrev impl_sorted.R : Type := List S25
abbrev impl_sorted.sig : Sig := ⟨[(false, 1)], [], [.sl false 25], [(false, 1)], [], [.sl true 25]⟩
instance impl_sorted.inh0 : Inhabited S25 := ⟨⟨0, 0⟩⟩
instance impl_sorted.inh : Inhabited (D0 25) := impl_sorted.inh0
noncomputable def impl_sorted.enc (x : S25) : List Value := [.int .i64 x.f0, .int .i64 x.f1]
noncomputable def impl_sorted.cf (x y : S25) : Int := Lib.compareInt (w64 (x.f0 * y.f1)) (w64 (y.f0 * x.f1))
set_option maxHeartbeats 1000000 in
theorem impl_sorted.cmp0 (a b c d x y r : Int) (hx : wrap64 (a * d) = x) (hy : wrap64 (c * b) = y) (W : World) (HC : ∀ W, Calls Go.Proofs.Tryz.prog 84 #[.int .i64 x, .int .i64 y] W fun e w' => e = .returned (.int .i64 r) ∧ w' = W) : Calls Go.Proofs.Tryz.prog 67 #[.agg #[.int .i64 a, .int .i64 b], .agg #[.int .i64 c, .int .i64 d]] W fun e w' => e = .returned (.int .i64 r) ∧ ∃ q os', w' = grow (W.drewN q) os' := by
  go_enter Go.Proofs.Tryz.func67, Go.Proofs.Tryz.ntmps67
  go_wp2_with (go_at_call 84; rw [hx, hy]; refine (HC _).mono ?_; rintro e w' ⟨rfl, rfl⟩)
  go_ret
  exact ⟨rfl, 0, _, by rw [alloc_eq_grow, alloc_eq_grow, grow_grow]; rfl⟩
theorem impl_sorted.wr (x : Int) : wrap64 x = w64 x := by unfold wrap64; exact (IntKind.wrap_i64 x).symm
theorem impl_sorted.cmp (x y : S25) (W : World) : Calls Go.Proofs.Tryz.prog 67 #[.agg (impl_sorted.enc x).toArray, .agg (impl_sorted.enc y).toArray] W fun e w' => e = .returned (.int .i64 (impl_sorted.cf x y)) ∧ ∃ q os', w' = grow (W.drewN q) os' :=
  impl_sorted.cmp0 x.f0 x.f1 y.f0 y.f1 _ _ _ (impl_sorted.wr _) (impl_sorted.wr _) W fun W => Go.Proofs.Tryz.cmp_Compare_int (w64 (x.f0 * y.f1)) (w64 (y.f0 * x.f1)) W
theorem impl_sorted.kc : KC (D := D0) T0 25 (fun x : D0 25 => impl_sorted.enc x) 2 := by
  refine ⟨by omega, rfl, fun _ => rfl, ?_, ?_⟩
  · intro C x j l h
    have h : ([.int .i64 (x : S25).f0, .int .i64 (x : S25).f1] : List (LV D0))[j]? = some l := h
    match j, h with
    | 0, h => cases h; exact .int ..
    | 1, h => cases h; exact .int ..
  · intro C x j l v h hr
    have h : ([.int .i64 (x : S25).f0, .int .i64 (x : S25).f1] : List (LV D0))[j]? = some l := h
    match j, h with
    | 0, h => cases h; cases hr; rfl
    | 1, h => cases h; cases hr; rfl
noncomputable def impl_sorted.c2 (x y : S25) : List S25 := bif (y.f0 == x.f0 && y.f1 == x.f1) then [x] else [x, y]
noncomputable def impl_sorted.i2 (x y : S25) : List S25 := bif decide (impl_sorted.cf y x < 0) then [y, x] else [x, y]
noncomputable def impl_sorted.s2 : List S25 → List S25
  | [x, y] => bif decide (impl_sorted.cf y x < 0) then impl_sorted.c2 y x else impl_sorted.c2 x y
  | xs => xs
theorem impl_sorted.ins1 (x : D0 25) : insertionSort (ltOf impl_sorted.cf) #[x] 0 1 = #[x] := by
  unfold insertionSort insOuter
  simp
theorem impl_sorted.ins2 (x y : D0 25) : insertionSort (ltOf impl_sorted.cf) #[x, y] 0 2 = (impl_sorted.i2 x y).toArray := by
  unfold insertionSort insOuter
  rw [if_pos (by omega)]
  unfold insOuter
  rw [if_neg (by omega)]
  unfold insInner insInner impl_sorted.i2 ltOf
  by_cases h : impl_sorted.cf y x < 0
  · simp [h, swp]
  · simp [h]
set_option maxHeartbeats 1000000 in
/-- sorted: copied, sorted, each once -/
theorem impl_sorted.join (A : Option Addr) (n c : Nat) (w : World) (G1 G2 G3 : Value → World → Prop)
    (H1 : Calls Go.Proofs.Tryz.prog 65 #[.slice A n c] w fun e w1 => ∃ v, e = .returned v ∧ G1 v w1)
    (H2 : ∀ v w1, G1 v w1 → Calls Go.Proofs.Tryz.prog 66 #[v, .func (.func 67) #[] #[]] w1 fun e w2 => e = .returned (.tuple #[]) ∧ G2 v w2)
    (H3 : ∀ v w2, G2 v w2 → Calls Go.Proofs.Tryz.prog 68 #[v] w2 fun e w3 => ∃ u, e = .returned u ∧ G3 u w3) :
    Calls Go.Proofs.Tryz.prog 46 #[.slice A n c] w fun e w' => ∃ u, e = .returned u ∧ G3 u w' := by
  go_enter Go.Proofs.Tryz.func46, Go.Proofs.Tryz.ntmps46
  go_wp2_with (first | (go_at_call 65; refine H1.mono ?_; rintro e w1 ⟨v, rfl, hg1⟩) | (go_at_call 66; refine (H2 _ _ hg1).mono ?_; rintro e w2 ⟨rfl, hg2⟩) | (go_at_call 68; refine (H3 _ _ hg2).mono ?_; rintro e w3 ⟨u, rfl, hg3⟩))
  go_ret
  exact ⟨u, rfl, hg3⟩
/-- a row of turns -/
structure impl_sorted.Row (w : World) (v : Value) (n : Nat) (xs : List S25) (W : World) : Prop where
  row : ∃ g cp cur, v = .slice (some ⟨g, 0, none⟩) n cp ∧ W.heap[g]? = some (.cells cur 25 (0, 0)) ∧ cur.size = cp * 2 ∧ n ≤ cp ∧ cp ≤ maxLen ∧ w.heap.size ≤ g ∧ ∀ C, RowAt (D := D0) T0 C 25 xs cur
  below : Below w.heap.size w W
theorem impl_sorted.own {w W : World} {v : Value} {n : Nat} {xs : List S25} {L : List Value} (hn : xs.length = n + 1) (hr : ∀ C, RowOf (D := D0) T0 C 25 xs L) (h : W.ownsRow w.heap.size 25 2 v (n + 1) L) (hB : Below w.heap.size w W) : impl_sorted.Row w v (n + 1) xs W := by
  obtain ⟨hl, h | ⟨g, cap, cur, hv, hg, hw, h1, h2, h3, h4⟩⟩ := h
  · omega
  · refine ⟨⟨g, cap, cur, hv, hw, h3, h1, h2, hg, fun C => ⟨?_, fun i x j l hi hl => ?_⟩⟩, hB⟩
    · rw [hn, h3]; show (n + 1) * 2 ≤ cap * 2; omega
    · obtain ⟨u, k1, k2⟩ := (hr C).2 i x j l hi hl
      refine ⟨u, ?_, k2⟩
      rw [← h4, List.getElem?_take] at k1
      split at k1
      · simpa using k1
      · cases k1
theorem impl_sorted.sortRow {w W : World} {v : Value} {n : Nat} {xs ys : List S25} (hn : xs.length = n) (hn1 : 1 ≤ n) (h12 : n ≤ 12) (hy : insertionSort (ltOf impl_sorted.cf) (xs.toArray : Array (D0 25)) 0 n = ys.toArray) (hl : ys.length = n) (h : impl_sorted.Row w v n xs W) :
    Calls Go.Proofs.Tryz.prog 66 #[v, .func (.func 67) #[] #[]] W fun e w2 => e = .returned (.tuple #[]) ∧ impl_sorted.Row w v n ys w2 := by
  obtain ⟨⟨g, cp, cur, rfl, hw, hs, hc, hm, hg, hr⟩, hB⟩ := h
  have hgW : g < W.heap.size := (Array.getElem?_eq_some_iff.1 hw).1
  have hH := impl_sorted.kc.holds (xs := xs) tabOk0 (hr fun _ _ => none) hw
  have eg : ∀ args w, (callFunc 67 args).run Go.Proofs.Tryz.prog w = .ok (.enter 67 args) w := enters_of Go.Proofs.Tryz.func67 (by kernel_rfl) rfl
  have hcall := AnyQ.slices_SortFunc_small Go.Proofs.Tryz.sortL 2 Go.Proofs.Tryz.isAgg25 Go.Proofs.Tryz.sizeOf25 (fun x : D0 25 => impl_sorted.enc x) (fun _ => rfl) (fun x v hv => by simp [impl_sorted.enc] at hv; rcases hv with rfl | rfl <;> rfl) impl_sorted.cf 67 #[] g 0 cp xs.toArray W eg (fun _ _ _ _ x y => impl_sorted.cmp x y _) hH hgW (by simpa [hn] using h12)
    (fun n W h => (Go.Proofs.Tryz.bits_Len n W (by omega) (by omega)).mono fun _ _ ⟨he, hw⟩ => ⟨⟨_, he⟩, hw⟩)
  have hsz : xs.toArray.size = n := by simpa using hn
  rw [hsz, hy] at hcall
  change Calls Go.Proofs.Tryz.prog 66 _ _ _ at hcall
  refine hcall.mono ?_
  rintro e w2 ⟨rfl, m, os, rfl⟩
  obtain ⟨cur', k1, k2, k3, k4, k5⟩ := world_rowK (ys := ys) tabOk0 impl_sorted.kc hw (by rw [hl, hs]; show n * 2 ≤ cp * 2; omega) m os
  refine ⟨rfl, ⟨g, cp, cur', rfl, k1, by rw [k2, hs], hc, hm, hg, k3⟩, hB.trans ⟨rfl, rfl, rfl, k5, fun j hj => ?_⟩⟩
  exact k4 j (by have := hB.size; omega) (by omega)
theorem impl_sorted.eqP (a b c d : Int) (w : World) : Sem.run Go.Proofs.Tryz.prog (binOp .eql 25 (.agg #[.int .i64 a, .int .i64 b]) (.agg #[.int .i64 c, .int .i64 d])) w = .ok (.bool (a == c && b == d)) w := by
  have u3 := Go.Proofs.Tryz.underlying3
  have a3 := Go.Proofs.Tryz.isAgg3
  have z3 := Go.Proofs.Tryz.sizeOf3
  have hS : Go.Proofs.Tryz.prog.underlying 25 = some (.struct (Go.Proofs.Tryz.prog.fieldsOf 25)) := by kernel_rfl
  have hp : Go.Proofs.Tryz.prog.stoodInHeld 25 = false := by kernel_rfl
  rw [run_eql_struct, show (10000 : Nat) = 9999 + 1 from rfl, run_equalIn_agg w 9999 25 _ _ hS hp]
  simp only [Program.fieldsOf, Go.Proofs.Tryz.underlying25]
  go_simp
  by_cases h1 : a = c <;> by_cases h2 : b = d <;> simp [h1, h2]
theorem impl_sorted.grd : GuardAt Go.Proofs.Tryz.prog 25 (fun x : S25 => .agg #[.int .i64 x.f0, .int .i64 x.f1]) := GuardAt.agg _ (by kernel_rfl)
set_option maxHeartbeats 4000000 in
/-- two turns that are the same -/
theorem impl_sorted.cptS (g cap : Nat) (a b : Int) (w : World) (hc : 2 ≤ cap) (h0 : w.cell? ⟨g, 0, none⟩ = some (.int .i64 a)) (h1 : w.cell? ⟨g, 1, none⟩ = some (.int .i64 b)) (h2 : w.cell? ⟨g, 2, none⟩ = some (.int .i64 a)) (h3 : w.cell? ⟨g, 3, none⟩ = some (.int .i64 b)) (hf : ∀ i, w.frozen? ⟨g, i, none⟩ = false) :
    Calls Go.Proofs.Tryz.prog 68 #[.slice (some ⟨g, 0, none⟩) 2 cap] w fun e w' => e = .returned (.slice (some ⟨g, 0, none⟩) 1 cap) ∧ ∃ q, w' = (w.drewN q).setCells g 2 [.int .i64 0, .int .i64 0] := by
  have mixed : Go.Proofs.Tryz.prog.follows .mixedOrders = true := mixed0
  have hcl : ∀ q ty c, (Builtin.clear_ #[30] ty #[.slice (some ⟨g, 2, none⟩) 1 c]).run Go.Proofs.Tryz.prog (w.drewN q) = .ok (.tuple #[]) ((w.drewN q).setCells g 2 [.int .i64 0, .int .i64 0]) := by
    intro q ty c
    have HI : (Go.Proofs.Tryz.prog.info? 25).map (fun i => (i.zero, i.size, i.bytes)) = some (some (.agg #[(.int .i64 0), (.int .i64 0)]), 2, 16) := by kernel_rfl
    obtain ⟨i0, hi0, hz0, hz1, hz2⟩ := info_parts HI
    refine clear1 (w.drewN q) 30 25 ty (.agg #[(.int .i64 0), (.int .i64 0)]) Go.Proofs.Tryz.underlying30 (fun W => by simp [zeroValue, typeInfo, hi0, hz0, Result.andThen]) (by simp [Value.cells, Value.oneCell']) g 2 c (fun j hj => ?_) (fun j hj => by exact hf _)
    rw [World.cell?_drewN]
    match j, hj with
    | 0, _ => rw [h2]; rfl
    | 1, _ => rw [h3]; rfl
  have u38 := Go.Proofs.Tryz.underlying30
  have aE := Go.Proofs.Tryz.isAgg25
  have zE := Go.Proofs.Tryz.sizeOf25
  have u3 := Go.Proofs.Tryz.underlying3
  have he := impl_sorted.eqP a b a b
  simp only [beq_self_eq_true, Bool.and_self] at he
  have hg : ∀ (op : BinOp) (p q : Operand) (x y : S25) (w : World), Sem.run Go.Proofs.Tryz.prog (eqGuard op 25 p q (.agg #[.int .i64 x.f0, .int .i64 x.f1]) (.agg #[.int .i64 y.f0, .int .i64 y.f1])) w = .ok () w := impl_sorted.grd
  have hg := fun op p q => hg op p q ⟨a, b⟩ ⟨a, b⟩
  dsimp only at hg
  have hw0 : IntKind.wrap .i64 0 = 0 := by decide
  have hw2 : IntKind.wrap .i64 2 = 2 := by decide
  go_enter Go.Proofs.Tryz.func68, Go.Proofs.Tryz.ntmps68
  go_wp2
  refine wp_loop_rounds 1 ?_
  rw [rounds_succ]
  go_wp2_with fail
  go_quiet_o (fail)
  go_wp2
  refine wp_loop_rounds 1 ?_
  rw [rounds_succ]
  go_wp2
  go_ret
  exact ⟨rfl, nq, rfl⟩
set_option maxHeartbeats 4000000 in
/-- two turns that are not -/
theorem impl_sorted.cptN (g cap : Nat) (a b c d : Int) (w : World) (hn : (c == a && d == b) = false) (h0 : w.cell? ⟨g, 0, none⟩ = some (.int .i64 a)) (h1 : w.cell? ⟨g, 1, none⟩ = some (.int .i64 b)) (h2 : w.cell? ⟨g, 2, none⟩ = some (.int .i64 c)) (h3 : w.cell? ⟨g, 3, none⟩ = some (.int .i64 d)) :
    Calls Go.Proofs.Tryz.prog 68 #[.slice (some ⟨g, 0, none⟩) 2 cap] w fun e w' => e = .returned (.slice (some ⟨g, 0, none⟩) 2 cap) ∧ ∃ q, w' = w.drewN q := by
  have mixed : Go.Proofs.Tryz.prog.follows .mixedOrders = true := mixed0
  have u38 := Go.Proofs.Tryz.underlying30
  have aE := Go.Proofs.Tryz.isAgg25
  have zE := Go.Proofs.Tryz.sizeOf25
  have u3 := Go.Proofs.Tryz.underlying3
  have he := impl_sorted.eqP c d a b
  rw [hn] at he
  have hg : ∀ (op : BinOp) (p q : Operand) (x y : S25) (w : World), Sem.run Go.Proofs.Tryz.prog (eqGuard op 25 p q (.agg #[.int .i64 x.f0, .int .i64 x.f1]) (.agg #[.int .i64 y.f0, .int .i64 y.f1])) w = .ok () w := impl_sorted.grd
  have hg := fun op p q => hg op p q ⟨c, d⟩ ⟨a, b⟩
  dsimp only at hg
  have hw0 : IntKind.wrap .i64 0 = 0 := by decide
  have hw2 : IntKind.wrap .i64 2 = 2 := by decide
  clear hn
  go_enter Go.Proofs.Tryz.func68, Go.Proofs.Tryz.ntmps68
  go_wp2
  refine wp_loop_rounds 2 ?_
  rw [rounds_succ]
  go_wp2_with fail
  go_quiet_o (fail)
  go_wp2
  rw [rounds_succ]
  go_wp2
  go_ret
  exact ⟨rfl, nq, rfl⟩
set_option maxHeartbeats 1000000 in
theorem impl_sorted.cpt0 (a : Option Addr) (cap : Nat) (w : World) :
    Calls Go.Proofs.Tryz.prog 68 #[.slice a 0 cap] w fun e w' => e = .returned (.slice a 0 cap) ∧ w' = w := by
  go_enter Go.Proofs.Tryz.func68, Go.Proofs.Tryz.ntmps68
  go_wp2
  go_ret
  exact ⟨rfl, rfl⟩
set_option maxHeartbeats 1000000 in
theorem impl_sorted.cpt1 (a : Option Addr) (cap : Nat) (w : World) :
    Calls Go.Proofs.Tryz.prog 68 #[.slice a 1 cap] w fun e w' => e = .returned (.slice a 1 cap) ∧ w' = w := by
  go_enter Go.Proofs.Tryz.func68, Go.Proofs.Tryz.ntmps68
  go_wp2
  go_ret
  exact ⟨rfl, rfl⟩

/-- what sorted leaves -/
noncomputable def impl_sorted.Out (w : World) (ys : List S25) (u : Value) (W : World) : Prop := W.ownsRow w.heap.size 25 2 u ys.length (ys.flatMap impl_sorted.enc) ∧ Below w.heap.size w W
theorem impl_sorted.four {cur : Array Value} {cp : Nat} (x y : S25) (hs : cur.size = cp * 2) (hc : 2 ≤ cp) (hr : ∀ C, RowAt (D := D0) T0 C 25 ([x, y] : List S25) cur) : cur.toList.take 4 = [.int .i64 x.f0, .int .i64 x.f1, .int .i64 y.f0, .int .i64 y.f1] := by
  have h0 := impl_sorted.kc.get (xs := [x, y]) tabOk0 (hr fun _ _ => none) (i := 0) (c := 0) (x := x) rfl (by omega)
  have h1 := impl_sorted.kc.get (xs := [x, y]) tabOk0 (hr fun _ _ => none) (i := 0) (c := 1) (x := x) rfl (by omega)
  have h2 := impl_sorted.kc.get (xs := [x, y]) tabOk0 (hr fun _ _ => none) (i := 1) (c := 0) (x := y) rfl (by omega)
  have h3 := impl_sorted.kc.get (xs := [x, y]) tabOk0 (hr fun _ _ => none) (i := 1) (c := 1) (x := y) rfl (by omega)
  apply List.ext_getElem?
  intro i
  rw [List.getElem?_take]
  match i with
  | 0 => simpa [impl_sorted.enc] using h0
  | 1 => simpa [impl_sorted.enc] using h1
  | 2 => simpa [impl_sorted.enc] using h2
  | 3 => simpa [impl_sorted.enc] using h3
  | i + 4 => rw [if_neg (by omega)]; rfl
theorem impl_sorted.cptRow {w W : World} {v : Value} (x y : S25) (h : impl_sorted.Row w v 2 [x, y] W) :
    Calls Go.Proofs.Tryz.prog 68 #[v] W fun e w3 => ∃ u, e = .returned u ∧ impl_sorted.Out w (impl_sorted.c2 x y) u w3 := by
  obtain ⟨⟨g, cp, cur, rfl, hw, hs, hc, hm, hg, hr⟩, hB⟩ := h
  have h4 := impl_sorted.four x y hs hc hr
  have hz : ∀ i, i < 4 → cur[i]? = (cur.toList.take 4)[i]? := fun i hi => by rw [List.getElem?_take, if_pos hi]; simp
  have k0 : W.cell? ⟨g, 0, none⟩ = some (.int .i64 x.f0) := by rw [blkc hw, hz 0 (by omega), h4]; rfl
  have k1 : W.cell? ⟨g, 1, none⟩ = some (.int .i64 x.f1) := by rw [blkc hw, hz 1 (by omega), h4]; rfl
  have k2 : W.cell? ⟨g, 2, none⟩ = some (.int .i64 y.f0) := by rw [blkc hw, hz 2 (by omega), h4]; rfl
  have k3 : W.cell? ⟨g, 3, none⟩ = some (.int .i64 y.f1) := by rw [blkc hw, hz 3 (by omega), h4]; rfl
  cases he : (y.f0 == x.f0 && y.f1 == x.f1) with
  | true =>
    have e := he
    simp only [Bool.and_eq_true, beq_iff_eq] at e
    rw [e.1] at k2
    rw [e.2] at k3
    refine (impl_sorted.cptS g cp x.f0 x.f1 W hc k0 k1 k2 k3 (fun i => blkf hw i)).mono ?_
    rintro e w3 ⟨rfl, q, rfl⟩
    obtain ⟨cur', q1, q2, q3⟩ := setCells_list (g := g) (e := 25) [.int .i64 0, .int .i64 0] 2 (W.drewN q) cur hw (by show 4 ≤ cur.size; omega)
    have hE : impl_sorted.c2 x y = [x] := by unfold impl_sorted.c2; rw [he]; rfl
    refine ⟨_, rfl, ?_, belowc hg _ _ _ (hB.trans ⟨rfl, rfl, rfl, Nat.le_refl _, fun _ _ => rfl⟩)⟩
    rw [hE]
    refine ⟨rfl, .inr ⟨g, cp, cur', rfl, hg, q1, by show 1 ≤ cp; omega, hm, by rw [q2, hs], ?_⟩⟩
    have h2 : cur.toList.take 2 = impl_sorted.enc x := by
      have := congrArg (List.take 2) h4
      rw [List.take_take] at this
      exact this
    rw [q3, h2]
    rfl
  | false =>
    refine (impl_sorted.cptN g cp x.f0 x.f1 y.f0 y.f1 W he k0 k1 k2 k3).mono ?_
    rintro e w3 ⟨rfl, q, rfl⟩
    have hE : impl_sorted.c2 x y = [x, y] := by unfold impl_sorted.c2; rw [he]; rfl
    refine ⟨_, rfl, ?_, hB.trans ⟨rfl, rfl, rfl, Nat.le_refl _, fun _ _ => rfl⟩⟩
    rw [hE]
    exact ⟨rfl, .inr ⟨g, cp, cur, rfl, hg, hw, hc, hm, hs, h4⟩⟩
theorem impl_sorted.cptRow1 {w W : World} {v : Value} (x : S25) (h : impl_sorted.Row w v 1 [x] W) :
    Calls Go.Proofs.Tryz.prog 68 #[v] W fun e w3 => ∃ u, e = .returned u ∧ impl_sorted.Out w [x] u w3 := by
  obtain ⟨⟨g, cp, cur, rfl, hw, hs, hc, hm, hg, hr⟩, hB⟩ := h
  have h0 := impl_sorted.kc.get (xs := [x]) tabOk0 (hr fun _ _ => none) (i := 0) (c := 0) (x := x) rfl (by omega)
  have h1 := impl_sorted.kc.get (xs := [x]) tabOk0 (hr fun _ _ => none) (i := 0) (c := 1) (x := x) rfl (by omega)
  refine (impl_sorted.cpt1 _ cp W).mono ?_
  rintro e w3 ⟨rfl, rfl⟩
  refine ⟨_, rfl, ⟨rfl, .inr ⟨g, cp, cur, rfl, hg, hw, hc, hm, hs, ?_⟩⟩, hB⟩
  apply List.ext_getElem?
  intro i
  rw [List.getElem?_take]
  match i with
  | 0 => simpa [impl_sorted.enc] using h0
  | 1 => simpa [impl_sorted.enc] using h1
  | i + 2 => rw [if_neg (by show ¬ i + 2 < 1 * 2; omega)]; rfl
theorem impl_sorted.rowOf (ys : List S25) (C : Nat → Nat → Option Value) : RowOf (D := D0) T0 C 25 ys (ys.flatMap impl_sorted.enc) := by
  induction ys with
  | nil => exact RowOf.nil ..
  | cons y ys ih =>
    refine RowOf.append (D := D0) (e := 25) (xs := [y]) (ys := ys) tabOk0 (L := impl_sorted.enc y) (M := ys.flatMap impl_sorted.enc) ⟨rfl, fun i x j l hi hl => ?_⟩ ih
    match i, hi with
    | 0, hi =>
      cases hi
      have hj : j < 2 := by
        have := (List.getElem?_eq_some_iff.1 hl).1
        rw [(tabOk0).out_len] at this
        exact this
      exact ⟨(impl_sorted.enc y)[j]!, by match j, hj with | 0, _ => rfl | 1, _ => rfl, impl_sorted.kc.rep C y j l hl⟩
theorem impl_sorted.len2 (xs : List S25) (h : xs.length ≤ 2) : xs = [] ∨ (∃ x, xs = [x]) ∨ ∃ x y, xs = [x, y] := by
  match xs, h with
  | [], _ => exact .inl rfl
  | [x], _ => exact .inr (.inl ⟨x, rfl⟩)
  | [x, y], _ => exact .inr (.inr ⟨x, y, rfl⟩)
theorem impl_sorted.walk0 (A : Option Addr) (c : Nat) (w : World) : Calls Go.Proofs.Tryz.prog 46 #[.slice A 0 c] w fun e w' => ∃ u, e = .returned u ∧ impl_sorted.Out w [] u w' := by
  refine impl_sorted.join A 0 c w (fun v w1 => impl_sorted.Out w [] v w1) (fun v w1 => impl_sorted.Out w [] v w1) _ ?_ ?_ ?_
  · cases A with
    | none => exact (slices_Clone_impl_Turn_impl_Turn.walk0 0 c w).mono fun e w1 ⟨he, hw⟩ => ⟨_, he, hw ▸ ⟨⟨rfl, .inl ⟨rfl, rfl⟩⟩, Below.refl _ _⟩⟩
    | some ad => exact (slices_Clone_impl_Turn_impl_Turn.walk ad 0 c [] w rfl (by unfold maxLen; omega) (by omega) (fun j u h => by simp at h) (fun u h => by simp at h)).mono fun e w1 ⟨v, he, h1, h2⟩ => ⟨v, he, h1, h2⟩
  · rintro v w1 ⟨⟨hl, h⟩, hB⟩
    obtain ⟨p, cp, rfl⟩ : ∃ p cp, v = .slice p 0 cp := by
      rcases h with ⟨rfl, _⟩ | ⟨g, cp, _, rfl, _⟩
      · exact ⟨_, _, rfl⟩
      · exact ⟨_, _, rfl⟩
    refine (AnyF.slices_SortFunc_none Go.Proofs.Tryz.sortL p cp (.func (.func 67) #[] #[]) w1).mono ?_
    rintro e w2 ⟨rfl, rfl⟩
    exact ⟨rfl, ⟨hl, h⟩, hB⟩
  · rintro v w1 ⟨⟨hl, h⟩, hB⟩
    obtain ⟨p, cp, rfl⟩ : ∃ p cp, v = .slice p 0 cp := by
      rcases h with ⟨rfl, _⟩ | ⟨g, cp, _, rfl, _⟩
      · exact ⟨_, _, rfl⟩
      · exact ⟨_, _, rfl⟩
    refine (impl_sorted.cpt0 p cp w1).mono ?_
    rintro e w2 ⟨rfl, rfl⟩
    exact ⟨_, rfl, ⟨hl, h⟩, hB⟩
theorem impl_sorted.good0 (xs : List S25) (hx : xs.length ≤ 2) : Go.PM.Good Go.Proofs.Tryz.prog T0 46 [.one (.sl false 25 xs)] [] (.one (.sl true 25 (impl_sorted.s2 xs))) [] := by
  refine good_rowC tabOk0 25 ⟨_, Go.Proofs.Tryz.func46, by kernel_rfl, rfl⟩ (by show 0 < 2; omega) [] xs (impl_sorted.s2 xs) (fun _ => (impl_sorted.s2 xs).flatMap impl_sorted.enc) (fun C L _ => impl_sorted.rowOf _ C) ?_
  intro A c L w hl hc hA hcell h1 ⟨C0, hrow⟩
  have hrow' : ∀ C, RowOf (D := D0) T0 C 25 xs L := fun C => impl_sorted.kc.rowOf (ys := xs) tabOk0 hl (fun i c y hi hc => impl_sorted.kc.flat tabOk0 hrow i c y hi hc) C
  rcases impl_sorted.len2 xs hx with rfl | ⟨x, rfl⟩ | ⟨x, y, rfl⟩
  · exact (impl_sorted.walk0 A c w).mono fun e w' ⟨u, h1, h2, h3⟩ => ⟨u, h1, h2, h3⟩
  · cases A with
    | none => cases hA rfl
    | some ad =>
      refine (impl_sorted.join (some ad) 1 c w (fun v W => impl_sorted.Row w v 1 [x] W) (fun v W => impl_sorted.Row w v 1 [x] W) (fun u W => impl_sorted.Out w [x] u W) ?_ ?_ ?_).mono fun e w' ⟨u, h1, h2, h3⟩ => ⟨u, h1, h2, h3⟩
      · exact (slices_Clone_impl_Turn_impl_Turn.walk ad 1 c L w hl (by unfold maxLen; omega) (by omega) (hcell ad rfl) h1).mono fun e w1 ⟨v, he, k1, k2⟩ => ⟨v, he, impl_sorted.own (n := 0) rfl hrow' k1 k2⟩
      · exact fun v W h => impl_sorted.sortRow rfl (by omega) (by omega) (impl_sorted.ins1 x) rfl h
      · exact fun v W h => impl_sorted.cptRow1 x h
  · cases A with
    | none => cases hA rfl
    | some ad =>
      have hE : impl_sorted.s2 [x, y] = bif decide (impl_sorted.cf y x < 0) then impl_sorted.c2 y x else impl_sorted.c2 x y := rfl
      refine (impl_sorted.join (some ad) 2 c w (fun v W => impl_sorted.Row w v 2 [x, y] W) (fun v W => impl_sorted.Row w v 2 (impl_sorted.i2 x y) W) (fun u W => impl_sorted.Out w (impl_sorted.s2 [x, y]) u W) ?_ ?_ ?_).mono fun e w' ⟨u, h1, h2, h3⟩ => ⟨u, h1, h2, h3⟩
      · exact (slices_Clone_impl_Turn_impl_Turn.walk ad 2 c L w hl (by unfold maxLen; omega) (by omega) (hcell ad rfl) h1).mono fun e w1 ⟨v, he, k1, k2⟩ => ⟨v, he, impl_sorted.own (n := 1) rfl hrow' k1 k2⟩
      · exact fun v W h => impl_sorted.sortRow rfl (by omega) (by omega) (impl_sorted.ins2 x y) (by unfold impl_sorted.i2; cases decide (impl_sorted.cf y x < 0) <;> rfl) h
      · intro v W h
        rw [hE]
        unfold impl_sorted.i2 at h
        cases hd : decide (impl_sorted.cf y x < 0) with
        | true => rw [hd] at h; exact impl_sorted.cptRow y x h
        | false => rw [hd] at h; exact impl_sorted.cptRow x y h
noncomputable def impl_sorted.g (N : Nat) (a0 : List S25) : Option impl_sorted.R := bif Nat.ble a0.length 2 then some (impl_sorted.s2 a0) else none
theorem impl_sorted.good (N : Nat) (a0 : List S25) (r : impl_sorted.R) (h : impl_sorted.g N a0 = some r) : Go.PM.Good Go.Proofs.Tryz.prog T0 46 [.one (.sl false 25 a0)] [] (impl_sorted.sig.ret r) (impl_sorted.sig.bs r) := by
  unfold impl_sorted.g at h
  obtain ⟨h1, h2⟩ := bif_some h
  cases Option.some.inj h2
  exact impl_sorted.good0 a0 (Nat.le_of_ble_eq_true h1)
noncomputable def impl_sorted.ent (N : Nat) : Ent Go.Proofs.Tryz.prog T0 := mkEnt 46 [(false, [.ro 25])] impl_sorted.sig (fun t => impl_sorted.g N t) (fun t r h => impl_sorted.good N t r h)

end Go.Proofs.YtehbhinaopdkeaaGreat.M

namespace Go.Proofs.YtehbhinaopdkeaaGreat.M
open Go Go.PM Go.Proofs.YtehbhinaopdkeaaGreat.P
set_option linter.unusedVariables false
set_option maxRecDepth 100000
/-! ### spec_sePut -/
abbrev spec_sePut.R : Type := List S25
abbrev spec_sePut.sig : Sig := ⟨[(false, 1), (true, 2)], [], [.sl false 25, .int .i64, .int .i64], [(false, 1)], [], [.sl false 25]⟩
noncomputable def spec_sePut.C : Cfg D0 := ⟨Go.Proofs.Tryz.prog, T0, 8590459003, 0, 48, 0, [(28, [0, 3, 5], [3]), (60, [0, 3, 5, 33], [3]), (112, [0, 3, 5], [3])], 52983132860800, false, []⟩
noncomputable def spec_sePut.E (N : Nat) : List (Ent Go.Proofs.Tryz.prog T0) := [spec_diCompare.ent N]
noncomputable def spec_sePut.O (N : Nat) : Orc D0 spec_sePut.R := orcOf (spec_sePut.E N)
noncomputable def spec_sePut.K0 : Ex → St D0 → Option spec_sePut.R := exitK spec_sePut.C Go.Proofs.Tryz.f50.results.toList [(false, [.ro 25])] (decOut spec_sePut.sig)
noncomputable def spec_sePut.c1 : Code := codeAt (Go.Proofs.Tryz.f50.body.getD .skip) []
noncomputable def spec_sePut.c2 : Code := codeAt (Go.Proofs.Tryz.f50.body.getD .skip) [false]
noncomputable def spec_sePut.c6 : Code := codeAt (Go.Proofs.Tryz.f50.body.getD .skip) [true, false]
noncomputable def spec_sePut.c15 : Code := codeAt (Go.Proofs.Tryz.f50.body.getD .skip) [true, true, true]
noncomputable def spec_sePut.c31 : Code := codeAt (Go.Proofs.Tryz.f50.body.getD .skip) [true, true, true, true]
noncomputable def spec_sePut.c56 : Code := codeAt (Go.Proofs.Tryz.f50.body.getD .skip) [true, true, false, false, false]
noncomputable def spec_sePut.c60 : Code := codeAt (Go.Proofs.Tryz.f50.body.getD .skip) [true, true, true, false, false]
noncomputable def spec_sePut.c61 : Code := codeAt (Go.Proofs.Tryz.f50.body.getD .skip) [true, true, true, false, true]
noncomputable def spec_sePut.c112 : Code := codeAt (Go.Proofs.Tryz.f50.body.getD .skip) [true, true, false, false, false, false]
noncomputable def spec_sePut.c113 : Code := codeAt (Go.Proofs.Tryz.f50.body.getD .skip) [true, true, false, false, false, true]
noncomputable def spec_sePut.K113 (N : Nat) (Kn28 : St D0 → Option spec_sePut.R) : Ex → St D0 → Option spec_sePut.R := ((fun up => (onN (fun s => spec_sePut.C.tidy 28 s ((onN Kn28 up) .normal)) (onN Kn28 up))) (blockK 0 (onN (fun s => spec_sePut.C.tidy 14 s (fun s' => runC spec_sePut.C (spec_sePut.O N) N spec_sePut.c15 15 s' spec_sePut.K0)) spec_sePut.K0)))
noncomputable def spec_sePut.o2 (N : Nat) (v0 : List S25) (v1 : Int) (v2 : Int) (v3 : Int) (c1 : (List S25) → Int → Int → Int → Option spec_sePut.R) : Option spec_sePut.R :=
 c1 v0 (w64 (v1 + 1)) v2 v3
theorem spec_sePut.o2.run (N : Nat) (Kn28 : St D0 → Option spec_sePut.R) (v0 : List S25) (v1 : Int) (v2 : Int) (v3 : Int) : runC spec_sePut.C (spec_sePut.O N) N spec_sePut.c113 113 (mkSt [(0, .one (.sl false 25 v0)), (3, .one (.ptr 3 0)), (5, .one (.int .i64 v1))] [(3, some (25, [.int .i64 v2, .int .i64 v3]))] : St D0) ((fun up => (onN (fun s => spec_sePut.C.tidy 28 s ((onN Kn28 up) .normal)) (onN Kn28 up))) (blockK 0 (onN (fun s => spec_sePut.C.tidy 14 s (fun s' => runC spec_sePut.C (spec_sePut.O N) N spec_sePut.c15 15 s' spec_sePut.K0)) spec_sePut.K0))) = spec_sePut.o2 N v0 v1 v2 v3 ((fun w0 w1 w2 w3 => Kn28 (mkSt [(0, .one (.sl false 25 w0)), (3, .one (.ptr 3 0)), (5, .one (.int .i64 w1))] [(3, some (25, [.int .i64 w2, .int .i64 w3]))] : St D0))) := by kernel_rfl
noncomputable def spec_sePut.d2 (N : Nat) (v0 : List S25) (v1 : Int) (v2 : Int) (v3 : Int) (c1 : (List S25) → Int → Int → Int → Option spec_sePut.R) : Option spec_sePut.R := spec_sePut.o2 N v0 v1 v2 v3 c1
theorem spec_sePut.d2.run (N : Nat) (Kn28 : St D0 → Option spec_sePut.R) (v0 : List S25) (v1 : Int) (v2 : Int) (v3 : Int) : runC spec_sePut.C (spec_sePut.O N) N spec_sePut.c113 113 (mkSt [(0, .one (.sl false 25 v0)), (3, .one (.ptr 3 0)), (5, .one (.int .i64 v1))] [(3, some (25, [.int .i64 v2, .int .i64 v3]))] : St D0) (spec_sePut.K113 N Kn28) = spec_sePut.d2 N v0 v1 v2 v3 ((fun w0 w1 w2 w3 => Kn28 (mkSt [(0, .one (.sl false 25 w0)), (3, .one (.ptr 3 0)), (5, .one (.int .i64 w1))] [(3, some (25, [.int .i64 w2, .int .i64 w3]))] : St D0))) := by
  exact (spec_sePut.o2.run N Kn28 v0 v1 v2 v3).trans rfl
noncomputable def spec_sePut.K61 (N : Nat) : Ex → St D0 → Option spec_sePut.R := (onN (fun s => spec_sePut.C.tidy 30 s (fun s' => runC spec_sePut.C (spec_sePut.O N) N spec_sePut.c31 31 s' spec_sePut.K0)) spec_sePut.K0)
noncomputable def spec_sePut.o3 (N : Nat) (v0 : List S25) (v1 : Int) (v2 : Bool) (v3 : Int) (v4 : Int) : Option spec_sePut.R :=
 bif v2 then
  some (v0)
 else
 bif (decide (0 ≤ v1)) then
  bif (decide (v1 ≤ (v0.length : Int))) then
   bif (decide (0 ≤ v1)) then
    bif (Nat.blt (([] : List S25).length + ((v0.take (v1 : Int).toNat).drop (0 : Int).toNat).length) 8796093022208) then
     bif (Nat.blt ((([] : List S25) ++ ((v0.take (v1 : Int).toNat).drop (0 : Int).toNat)).length + ([(⟨v3, v4⟩ : S25)] : List S25).length) 8796093022208) then
      bif (decide (0 ≤ (v0.length : Int))) then
       bif (decide ((v0.length : Int) ≤ (v0.length : Int))) then
        bif (decide (0 ≤ v1)) then
         bif (decide (v1 ≤ (v0.length : Int))) then
          bif (Nat.blt (((([] : List S25) ++ ((v0.take (v1 : Int).toNat).drop (0 : Int).toNat)) ++ ([(⟨v3, v4⟩ : S25)] : List S25)).length + ((v0.take ((v0.length : Int) : Int).toNat).drop (v1 : Int).toNat).length) 8796093022208) then
           some ((((([] : List S25) ++ ((v0.take (v1 : Int).toNat).drop (0 : Int).toNat)) ++ ([(⟨v3, v4⟩ : S25)] : List S25)) ++ ((v0.take ((v0.length : Int) : Int).toNat).drop (v1 : Int).toNat)))
          else
          none
         else
         none
        else
        none
       else
       none
      else
      none
     else
     none
    else
    none
   else
   none
  else
  none
 else
 none
theorem spec_sePut.o3.run (N : Nat) (v0 : List S25) (v1 : Int) (v2 : Bool) (v3 : Int) (v4 : Int) : runC spec_sePut.C (spec_sePut.O N) N spec_sePut.c61 61 (mkSt [(0, .one (.sl false 25 v0)), (3, .one (.ptr 3 0)), (5, .one (.int .i64 v1)), (33, .one (.bool v2))] [(3, some (25, [.int .i64 v3, .int .i64 v4]))] : St D0) (onN (fun s => spec_sePut.C.tidy 30 s (fun s' => runC spec_sePut.C (spec_sePut.O N) N spec_sePut.c31 31 s' spec_sePut.K0)) spec_sePut.K0) = spec_sePut.o3 N v0 v1 v2 v3 v4 := by kernel_rfl
noncomputable def spec_sePut.d3 (N : Nat) (v0 : List S25) (v1 : Int) (v2 : Bool) (v3 : Int) (v4 : Int) : Option spec_sePut.R := spec_sePut.o3 N v0 v1 v2 v3 v4
theorem spec_sePut.d3.run (N : Nat) (v0 : List S25) (v1 : Int) (v2 : Bool) (v3 : Int) (v4 : Int) : runC spec_sePut.C (spec_sePut.O N) N spec_sePut.c61 61 (mkSt [(0, .one (.sl false 25 v0)), (3, .one (.ptr 3 0)), (5, .one (.int .i64 v1)), (33, .one (.bool v2))] [(3, some (25, [.int .i64 v3, .int .i64 v4]))] : St D0) (spec_sePut.K61 N) = spec_sePut.d3 N v0 v1 v2 v3 v4 := by
  exact (spec_sePut.o3.run N v0 v1 v2 v3 v4).trans rfl
noncomputable def spec_sePut.K56 (N : Nat) (Kn28 : St D0 → Option spec_sePut.R) : Ex → St D0 → Option spec_sePut.R := ((fun up => (onN (fun s => spec_sePut.C.tidy 28 s ((onN Kn28 up) .normal)) (onN Kn28 up))) (blockK 0 (onN (fun s => spec_sePut.C.tidy 14 s (fun s' => runC spec_sePut.C (spec_sePut.O N) N spec_sePut.c15 15 s' spec_sePut.K0)) spec_sePut.K0)))
noncomputable def spec_sePut.o1 (N : Nat) (v0 : List S25) (v1 : Int) (v2 : Int) (v3 : Int) (c2 : (List S25) → Int → Int → Int → Option spec_sePut.R) (c3 : (List S25) → Int → Bool → Int → Int → Option spec_sePut.R) : Option spec_sePut.R :=
 bif (decide (v1 < (v0.length : Int))) then
  bif (decide (0 ≤ v1)) then
   bif (decide (v1 < (v0.length : Int))) then
    (v0[(v1 : Int).toNat]?).bind fun x1 =>
    (spec_diCompare.g N x1.f0 x1.f1 v2 v3).bind fun r2 =>
    bif (decide (r2 < 0)) then
     c2 v0 v1 v2 v3
    else
    bif (decide (v1 < (v0.length : Int))) then
     bif (decide (0 ≤ v1)) then
      bif (decide (v1 < (v0.length : Int))) then
       (v0[(v1 : Int).toNat]?).bind fun x3 =>
       c3 v0 v1 ((x3.f0 == v2) && ((x3.f1 == v3) && true)) v2 v3
      else
      none
     else
     none
    else
    c3 v0 v1 false v2 v3
   else
   none
  else
  none
 else
 bif (decide (v1 < (v0.length : Int))) then
  bif (decide (0 ≤ v1)) then
   bif (decide (v1 < (v0.length : Int))) then
    (v0[(v1 : Int).toNat]?).bind fun x4 =>
    c3 v0 v1 ((x4.f0 == v2) && ((x4.f1 == v3) && true)) v2 v3
   else
   none
  else
  none
 else
 c3 v0 v1 false v2 v3
theorem spec_sePut.o1.run (N : Nat) (Kn28 : St D0 → Option spec_sePut.R) (H61 : Code) (H113 : Code) (v0 : List S25) (v1 : Int) (v2 : Int) (v3 : Int) : runC spec_sePut.C (spec_sePut.O N) N (.seq spec_sePut.c112 H113) 56 (mkSt [(0, .one (.sl false 25 v0)), (3, .one (.ptr 3 0)), (5, .one (.int .i64 v1))] [(3, some (25, [.int .i64 v2, .int .i64 v3]))] : St D0) ((fun up => (onN (fun s => spec_sePut.C.tidy 28 s ((onN Kn28 up) .normal)) (onN Kn28 up))) (blockK 0 (onN (fun s => spec_sePut.C.tidy 14 s (fun s' => runC spec_sePut.C (spec_sePut.O N) N (.seq (.seq spec_sePut.c60 H61) spec_sePut.c31) 15 s' spec_sePut.K0)) spec_sePut.K0))) = spec_sePut.o1 N v0 v1 v2 v3 ((fun w0 w1 w2 w3 => runC spec_sePut.C (spec_sePut.O N) N H113 113 (mkSt [(0, .one (.sl false 25 w0)), (3, .one (.ptr 3 0)), (5, .one (.int .i64 w1))] [(3, some (25, [.int .i64 w2, .int .i64 w3]))] : St D0) ((fun up => (onN (fun s => spec_sePut.C.tidy 28 s ((onN Kn28 up) .normal)) (onN Kn28 up))) (blockK 0 (onN (fun s => spec_sePut.C.tidy 14 s (fun s' => runC spec_sePut.C (spec_sePut.O N) N (.seq (.seq spec_sePut.c60 H61) spec_sePut.c31) 15 s' spec_sePut.K0)) spec_sePut.K0))))) ((fun w0 w1 w2 w3 w4 => runC spec_sePut.C (spec_sePut.O N) N H61 61 (mkSt [(0, .one (.sl false 25 w0)), (3, .one (.ptr 3 0)), (5, .one (.int .i64 w1)), (33, .one (.bool w2))] [(3, some (25, [.int .i64 w3, .int .i64 w4]))] : St D0) (onN (fun s => spec_sePut.C.tidy 30 s (fun s' => runC spec_sePut.C (spec_sePut.O N) N spec_sePut.c31 31 s' spec_sePut.K0)) spec_sePut.K0))) := by kernel_rfl
noncomputable def spec_sePut.B30 (N : Nat) : St D0 → Option spec_sePut.R := fun s' => runC spec_sePut.C (spec_sePut.O N) N spec_sePut.c61 61 s' (spec_sePut.K61 N)
noncomputable def spec_sePut.B56 (N : Nat) (Kn28 : St D0 → Option spec_sePut.R) : St D0 → Option spec_sePut.R := fun s' => runC spec_sePut.C (spec_sePut.O N) N spec_sePut.c113 113 s' (spec_sePut.K113 N Kn28)
noncomputable def spec_sePut.d1 (N : Nat) (v0 : List S25) (v1 : Int) (v2 : Int) (v3 : Int) (c1 : (List S25) → Int → Int → Int → Option spec_sePut.R) : Option spec_sePut.R := spec_sePut.o1 N v0 v1 v2 v3 ((fun w0 w1 w2 w3 => spec_sePut.d2 N w0 w1 w2 w3 c1)) ((fun w0 w1 w2 w3 w4 => spec_sePut.d3 N w0 w1 w2 w3 w4))
theorem spec_sePut.c56_1 : spec_sePut.c56 = (.seq spec_sePut.c112 spec_sePut.c113) := by kernel_rfl
theorem spec_sePut.d1.run (N : Nat) (Kn28 : St D0 → Option spec_sePut.R) (v0 : List S25) (v1 : Int) (v2 : Int) (v3 : Int) : runC spec_sePut.C (spec_sePut.O N) N spec_sePut.c56 56 (mkSt [(0, .one (.sl false 25 v0)), (3, .one (.ptr 3 0)), (5, .one (.int .i64 v1))] [(3, some (25, [.int .i64 v2, .int .i64 v3]))] : St D0) (spec_sePut.K56 N Kn28) = spec_sePut.d1 N v0 v1 v2 v3 ((fun w0 w1 w2 w3 => Kn28 (mkSt [(0, .one (.sl false 25 w0)), (3, .one (.ptr 3 0)), (5, .one (.int .i64 w1))] [(3, some (25, [.int .i64 w2, .int .i64 w3]))] : St D0))) := by
  rw [spec_sePut.c56_1]; unfold spec_sePut.d1; exact (spec_sePut.o1.run N Kn28 spec_sePut.c61 spec_sePut.c113 v0 v1 v2 v3).trans (congr (congr rfl (funext fun w0 => funext fun w1 => funext fun w2 => funext fun w3 => spec_sePut.d2.run N Kn28 w0 w1 w2 w3)) (funext fun w0 => funext fun w1 => funext fun w2 => funext fun w3 => funext fun w4 => spec_sePut.d3.run N w0 w1 w2 w3 w4))
noncomputable def spec_sePut.K28 (N : Nat) : Ex → St D0 → Option spec_sePut.R := (blockK 0 (onN (fun s => spec_sePut.C.tidy 14 s (fun s' => runC spec_sePut.C (spec_sePut.O N) N spec_sePut.c15 15 s' spec_sePut.K0)) spec_sePut.K0))
noncomputable def spec_sePut.l1 (N : Nat) : Nat → (List S25) → Int → Int → Int → Option spec_sePut.R
  | 0, _, _, _, _ => none
  | n + 1, v0, v1, v2, v3 => spec_sePut.d1 N v0 v1 v2 v3 ((fun w0 w1 w2 w3 => spec_sePut.l1 N n w0 w1 w2 w3))
theorem spec_sePut.loop28 (N : Nat) : ∀ n, (∀ (v0 : List S25) (v1 : Int) (v2 : Int) (v3 : Int), iter (loopF spec_sePut.C (spec_sePut.O N) N spec_sePut.c56 28) n (mkSt [(0, .one (.sl false 25 v0)), (3, .one (.ptr 3 0)), (5, .one (.int .i64 v1))] [(3, some (25, [.int .i64 v2, .int .i64 v3]))] : St D0) (spec_sePut.K28 N) = spec_sePut.l1 N n v0 v1 v2 v3)
  | 0 => (fun v0 v1 v2 v3 => rfl)
  | n + 1 => (fun v0 v1 v2 v3 => (spec_sePut.d1.run N (fun s => iter (loopF spec_sePut.C (spec_sePut.O N) N spec_sePut.c56 28) n s (spec_sePut.K28 N)) v0 v1 v2 v3).trans (show _ = spec_sePut.d1 N v0 v1 v2 v3 ((fun w0 w1 w2 w3 => spec_sePut.l1 N n w0 w1 w2 w3)) from (congr rfl (funext fun w0 => funext fun w1 => funext fun w2 => funext fun w3 => (spec_sePut.loop28 N n) w0 w1 w2 w3))))
noncomputable def spec_sePut.o0 (N : Nat) (a0 : List S25) (a1_0 : Int) (a1_1 : Int) (c1 : (List S25) → Int → Int → Int → Option spec_sePut.R) : Option spec_sePut.R :=
 c1 a0 0 a1_0 a1_1
theorem spec_sePut.o0.run (N : Nat) (H56 : Code) (a0 : List S25) (a1_0 : Int) (a1_1 : Int) : runC spec_sePut.C (spec_sePut.O N) N (.seq spec_sePut.c2 (.seq spec_sePut.c6 (.seq (.block 0 (.loop H56)) spec_sePut.c15))) 1 (st0 [.one (.sl false 25 a0), .agg [.int .i64 a1_0, .int .i64 a1_1]] [] : St D0) spec_sePut.K0 = spec_sePut.o0 N a0 a1_0 a1_1 ((fun w0 w1 w2 w3 => iter (loopF spec_sePut.C (spec_sePut.O N) N H56 28) N (mkSt [(0, .one (.sl false 25 w0)), (3, .one (.ptr 3 0)), (5, .one (.int .i64 w1))] [(3, some (25, [.int .i64 w2, .int .i64 w3]))] : St D0) (blockK 0 (onN (fun s => spec_sePut.C.tidy 14 s (fun s' => runC spec_sePut.C (spec_sePut.O N) N spec_sePut.c15 15 s' spec_sePut.K0)) spec_sePut.K0)))) := by kernel_rfl
noncomputable def spec_sePut.g (N : Nat) (a0 : List S25) (a1_0 : Int) (a1_1 : Int) : Option spec_sePut.R := spec_sePut.o0 N a0 a1_0 a1_1 ((fun w0 w1 w2 w3 => spec_sePut.l1 N N w0 w1 w2 w3))
theorem spec_sePut.c1_0 : spec_sePut.c1 = (.seq spec_sePut.c2 (.seq spec_sePut.c6 (.seq (.block 0 (.loop spec_sePut.c56)) spec_sePut.c15))) := by kernel_rfl
theorem spec_sePut.g.run (N : Nat) (a0 : List S25) (a1_0 : Int) (a1_1 : Int) : runC spec_sePut.C (spec_sePut.O N) N spec_sePut.c1 1 (st0 [.one (.sl false 25 a0), .agg [.int .i64 a1_0, .int .i64 a1_1]] [] : St D0) spec_sePut.K0 = spec_sePut.g N a0 a1_0 a1_1 := by
  rw [spec_sePut.c1_0]; unfold spec_sePut.g; exact (spec_sePut.o0.run N spec_sePut.c56 a0 a1_0 a1_1).trans (congr rfl (funext fun w0 => funext fun w1 => funext fun w2 => funext fun w3 => (spec_sePut.loop28 N N) w0 w1 w2 w3))
theorem spec_sePut.good (N : Nat) (a0 : List S25) (a1_0 : Int) (a1_1 : Int) (r : spec_sePut.R) (h : spec_sePut.g N a0 a1_0 a1_1 = some r) : Go.PM.Good Go.Proofs.Tryz.prog T0 50 [.one (.sl false 25 a0), .agg [.int .i64 a1_0, .int .i64 a1_1]] [] (spec_sePut.sig.ret r) (spec_sePut.sig.bs r) :=
  good_fn tabOk0 mixed0 spec_sePut.sig (spec_sePut.E N) Go.Proofs.Tryz.func50 (by kernel_rfl) (by kernel_rfl) 8590459003 0 0 [(28, [0, 3, 5], [3]), (60, [0, 3, 5, 33], [3]), (112, [0, 3, 5], [3])] 52983132860800 false [] [(false, [.ro 25])] (by kernel_rfl) rfl rfl ((spec_sePut.g.run N a0 a1_0 a1_1).trans h)
noncomputable def spec_sePut.ent (N : Nat) : Ent Go.Proofs.Tryz.prog T0 := mkEnt 50 [(false, [.ro 25]), (true, [.any, .any])] spec_sePut.sig (fun t => spec_sePut.g N t.1 t.2.1 t.2.2) (fun t r h => spec_sePut.good N t.1 t.2.1 t.2.2 r h)
end Go.Proofs.YtehbhinaopdkeaaGreat.M

namespace Go.Proofs.YtehbhinaopdkeaaGreat.M
open Go Go.PM Go.Proofs.YtehbhinaopdkeaaGreat.P
set_option linter.unusedVariables false
set_option maxRecDepth 100000
/-! ### laws_wHas -/
abbrev laws_wHas.R : Type := Bool
abbrev laws_wHas.sig : Sig := ⟨[(false, 1), (true, 2)], [], [.sl false 25, .int .i64, .int .i64], [(false, 1)], [], [.bool]⟩
noncomputable def laws_wHas.C : Cfg D0 := ⟨Go.Proofs.Tryz.prog, T0, 34779, 0, 17, 0, [(26, [3, 7, 8, 9], [3])], 0, false, []⟩
noncomputable def laws_wHas.E (N : Nat) : List (Ent Go.Proofs.Tryz.prog T0) := []
noncomputable def laws_wHas.O (N : Nat) : Orc D0 laws_wHas.R := orcOf (laws_wHas.E N)
noncomputable def laws_wHas.K0 : Ex → St D0 → Option laws_wHas.R := exitK laws_wHas.C Go.Proofs.Tryz.f15.results.toList [(false, [.any])] (decOut laws_wHas.sig)
noncomputable def laws_wHas.c1 : Code := codeAt (Go.Proofs.Tryz.f15.body.getD .skip) []
noncomputable def laws_wHas.c2 : Code := codeAt (Go.Proofs.Tryz.f15.body.getD .skip) [false]
noncomputable def laws_wHas.c7 : Code := codeAt (Go.Proofs.Tryz.f15.body.getD .skip) [true, true]
noncomputable def laws_wHas.c12 : Code := codeAt (Go.Proofs.Tryz.f15.body.getD .skip) [true, false, false]
noncomputable def laws_wHas.c52 : Code := codeAt (Go.Proofs.Tryz.f15.body.getD .skip) [true, false, true, false, false]
noncomputable def laws_wHas.K52 (N : Nat) (Kn26 : St D0 → Option laws_wHas.R) : Ex → St D0 → Option laws_wHas.R := ((fun up => (onN (fun s => laws_wHas.C.tidy 26 s ((onN Kn26 up) .normal)) (onN Kn26 up))) (blockK 0 (onN (fun s => laws_wHas.C.tidy 6 s (fun s' => runC laws_wHas.C (laws_wHas.O N) N laws_wHas.c7 7 s' laws_wHas.K0)) laws_wHas.K0)))
noncomputable def laws_wHas.o1 (N : Nat) (v0 : List S25) (v1 : Int) (v2 : Int) (v3 : Int) (v4 : Int) (c1 : (List S25) → Int → Int → Int → Int → Option laws_wHas.R) : Option laws_wHas.R :=
 bif (decide (v2 < v1)) then
  bif (decide (0 ≤ v2)) then
   bif (decide (v2 < (v0.length : Int))) then
    (v0[(v2 : Int).toNat]?).bind fun x1 =>
    bif ((x1.f0 == v3) && ((x1.f1 == v4) && true)) then
     some (true)
    else
    c1 v0 v1 (w64 (v2 + 1)) v3 v4
   else
   none
  else
  none
 else
 some (false)
theorem laws_wHas.o1.run (N : Nat) (Kn26 : St D0 → Option laws_wHas.R) (v0 : List S25) (v1 : Int) (v2 : Int) (v3 : Int) (v4 : Int) : runC laws_wHas.C (laws_wHas.O N) N laws_wHas.c52 52 (mkSt [(3, .one (.ptr 3 0)), (7, .one (.sl false 25 v0)), (8, .one (.int .i64 v1)), (9, .one (.int .i64 v2))] [(3, some (25, [.int .i64 v3, .int .i64 v4]))] : St D0) ((fun up => (onN (fun s => laws_wHas.C.tidy 26 s ((onN Kn26 up) .normal)) (onN Kn26 up))) (blockK 0 (onN (fun s => laws_wHas.C.tidy 6 s (fun s' => runC laws_wHas.C (laws_wHas.O N) N laws_wHas.c7 7 s' laws_wHas.K0)) laws_wHas.K0))) = laws_wHas.o1 N v0 v1 v2 v3 v4 ((fun w0 w1 w2 w3 w4 => Kn26 (mkSt [(3, .one (.ptr 3 0)), (7, .one (.sl false 25 w0)), (8, .one (.int .i64 w1)), (9, .one (.int .i64 w2))] [(3, some (25, [.int .i64 w3, .int .i64 w4]))] : St D0))) := by kernel_rfl
noncomputable def laws_wHas.d1 (N : Nat) (v0 : List S25) (v1 : Int) (v2 : Int) (v3 : Int) (v4 : Int) (c1 : (List S25) → Int → Int → Int → Int → Option laws_wHas.R) : Option laws_wHas.R := laws_wHas.o1 N v0 v1 v2 v3 v4 c1
theorem laws_wHas.d1.run (N : Nat) (Kn26 : St D0 → Option laws_wHas.R) (v0 : List S25) (v1 : Int) (v2 : Int) (v3 : Int) (v4 : Int) : runC laws_wHas.C (laws_wHas.O N) N laws_wHas.c52 52 (mkSt [(3, .one (.ptr 3 0)), (7, .one (.sl false 25 v0)), (8, .one (.int .i64 v1)), (9, .one (.int .i64 v2))] [(3, some (25, [.int .i64 v3, .int .i64 v4]))] : St D0) (laws_wHas.K52 N Kn26) = laws_wHas.d1 N v0 v1 v2 v3 v4 ((fun w0 w1 w2 w3 w4 => Kn26 (mkSt [(3, .one (.ptr 3 0)), (7, .one (.sl false 25 w0)), (8, .one (.int .i64 w1)), (9, .one (.int .i64 w2))] [(3, some (25, [.int .i64 w3, .int .i64 w4]))] : St D0))) := by
  exact (laws_wHas.o1.run N Kn26 v0 v1 v2 v3 v4).trans rfl
noncomputable def laws_wHas.K26 (N : Nat) : Ex → St D0 → Option laws_wHas.R := (blockK 0 (onN (fun s => laws_wHas.C.tidy 6 s (fun s' => runC laws_wHas.C (laws_wHas.O N) N laws_wHas.c7 7 s' laws_wHas.K0)) laws_wHas.K0))
noncomputable def laws_wHas.l1 (N : Nat) : Nat → (List S25) → Int → Int → Int → Int → Option laws_wHas.R
  | 0, _, _, _, _, _ => none
  | n + 1, v0, v1, v2, v3, v4 => laws_wHas.d1 N v0 v1 v2 v3 v4 ((fun w0 w1 w2 w3 w4 => laws_wHas.l1 N n w0 w1 w2 w3 w4))
theorem laws_wHas.loop26 (N : Nat) : ∀ n, (∀ (v0 : List S25) (v1 : Int) (v2 : Int) (v3 : Int) (v4 : Int), iter (loopF laws_wHas.C (laws_wHas.O N) N laws_wHas.c52 26) n (mkSt [(3, .one (.ptr 3 0)), (7, .one (.sl false 25 v0)), (8, .one (.int .i64 v1)), (9, .one (.int .i64 v2))] [(3, some (25, [.int .i64 v3, .int .i64 v4]))] : St D0) (laws_wHas.K26 N) = laws_wHas.l1 N n v0 v1 v2 v3 v4)
  | 0 => (fun v0 v1 v2 v3 v4 => rfl)
  | n + 1 => (fun v0 v1 v2 v3 v4 => (laws_wHas.d1.run N (fun s => iter (loopF laws_wHas.C (laws_wHas.O N) N laws_wHas.c52 26) n s (laws_wHas.K26 N)) v0 v1 v2 v3 v4).trans (show _ = laws_wHas.d1 N v0 v1 v2 v3 v4 ((fun w0 w1 w2 w3 w4 => laws_wHas.l1 N n w0 w1 w2 w3 w4)) from (congr rfl (funext fun w0 => funext fun w1 => funext fun w2 => funext fun w3 => funext fun w4 => (laws_wHas.loop26 N n) w0 w1 w2 w3 w4))))
noncomputable def laws_wHas.o0 (N : Nat) (a0 : List S25) (a1_0 : Int) (a1_1 : Int) (c1 : (List S25) → Int → Int → Int → Int → Option laws_wHas.R) : Option laws_wHas.R :=
 c1 a0 (a0.length : Int) 0 a1_0 a1_1
theorem laws_wHas.o0.run (N : Nat) (H52 : Code) (a0 : List S25) (a1_0 : Int) (a1_1 : Int) : runC laws_wHas.C (laws_wHas.O N) N (.seq laws_wHas.c2 (.seq (.seq laws_wHas.c12 (.block 0 (.loop H52))) laws_wHas.c7)) 1 (st0 [.one (.sl false 25 a0), .agg [.int .i64 a1_0, .int .i64 a1_1]] [] : St D0) laws_wHas.K0 = laws_wHas.o0 N a0 a1_0 a1_1 ((fun w0 w1 w2 w3 w4 => iter (loopF laws_wHas.C (laws_wHas.O N) N H52 26) N (mkSt [(3, .one (.ptr 3 0)), (7, .one (.sl false 25 w0)), (8, .one (.int .i64 w1)), (9, .one (.int .i64 w2))] [(3, some (25, [.int .i64 w3, .int .i64 w4]))] : St D0) (blockK 0 (onN (fun s => laws_wHas.C.tidy 6 s (fun s' => runC laws_wHas.C (laws_wHas.O N) N laws_wHas.c7 7 s' laws_wHas.K0)) laws_wHas.K0)))) := by kernel_rfl
noncomputable def laws_wHas.g (N : Nat) (a0 : List S25) (a1_0 : Int) (a1_1 : Int) : Option laws_wHas.R := laws_wHas.o0 N a0 a1_0 a1_1 ((fun w0 w1 w2 w3 w4 => laws_wHas.l1 N N w0 w1 w2 w3 w4))
theorem laws_wHas.c1_0 : laws_wHas.c1 = (.seq laws_wHas.c2 (.seq (.seq laws_wHas.c12 (.block 0 (.loop laws_wHas.c52))) laws_wHas.c7)) := by kernel_rfl
theorem laws_wHas.g.run (N : Nat) (a0 : List S25) (a1_0 : Int) (a1_1 : Int) : runC laws_wHas.C (laws_wHas.O N) N laws_wHas.c1 1 (st0 [.one (.sl false 25 a0), .agg [.int .i64 a1_0, .int .i64 a1_1]] [] : St D0) laws_wHas.K0 = laws_wHas.g N a0 a1_0 a1_1 := by
  rw [laws_wHas.c1_0]; unfold laws_wHas.g; exact (laws_wHas.o0.run N laws_wHas.c52 a0 a1_0 a1_1).trans (congr rfl (funext fun w0 => funext fun w1 => funext fun w2 => funext fun w3 => funext fun w4 => (laws_wHas.loop26 N N) w0 w1 w2 w3 w4))
theorem laws_wHas.good (N : Nat) (a0 : List S25) (a1_0 : Int) (a1_1 : Int) (r : laws_wHas.R) (h : laws_wHas.g N a0 a1_0 a1_1 = some r) : Go.PM.Good Go.Proofs.Tryz.prog T0 15 [.one (.sl false 25 a0), .agg [.int .i64 a1_0, .int .i64 a1_1]] [] (laws_wHas.sig.ret r) (laws_wHas.sig.bs r) :=
  good_fn tabOk0 mixed0 laws_wHas.sig (laws_wHas.E N) Go.Proofs.Tryz.func15 (by kernel_rfl) (by kernel_rfl) 34779 0 0 [(26, [3, 7, 8, 9], [3])] 0 false [] [(false, [.any])] (by kernel_rfl) rfl rfl ((laws_wHas.g.run N a0 a1_0 a1_1).trans h)
noncomputable def laws_wHas.ent (N : Nat) : Ent Go.Proofs.Tryz.prog T0 := mkEnt 15 [(false, [.ro 25]), (true, [.any, .any])] laws_wHas.sig (fun t => laws_wHas.g N t.1 t.2.1 t.2.2) (fun t r h => laws_wHas.good N t.1 t.2.1 t.2.2 r h)
end Go.Proofs.YtehbhinaopdkeaaGreat.M

namespace Go.Proofs.YtehbhinaopdkeaaGreat.M
open Go Go.PM Go.Proofs.YtehbhinaopdkeaaGreat.P
set_option linter.unusedVariables false
set_option maxRecDepth 100000
/-! ### impl_Turn_minus -/
abbrev impl_Turn_minus.R : Type := Int × Int
abbrev impl_Turn_minus.sig : Sig := ⟨[(true, 2), (true, 2)], [], [.int .i64, .int .i64, .int .i64, .int .i64], [(true, 2)], [], [.int .i64, .int .i64]⟩
noncomputable def impl_Turn_minus.C : Cfg D0 := ⟨Go.Proofs.Tryz.prog, T0, 31, 0, 22, 0, [], 0, false, []⟩
noncomputable def impl_Turn_minus.E (N : Nat) : List (Ent Go.Proofs.Tryz.prog T0) := [impl_part.ent N]
noncomputable def impl_Turn_minus.O (N : Nat) : Orc D0 impl_Turn_minus.R := orcOf (impl_Turn_minus.E N)
noncomputable def impl_Turn_minus.K0 : Ex → St D0 → Option impl_Turn_minus.R := exitK impl_Turn_minus.C Go.Proofs.Tryz.f34.results.toList [(true, [.any, .any])] (decOut impl_Turn_minus.sig)
noncomputable def impl_Turn_minus.c1 : Code := codeAt (Go.Proofs.Tryz.f34.body.getD .skip) []
noncomputable def impl_Turn_minus.o0 (N : Nat) (a0_0 : Int) (a0_1 : Int) (a1_0 : Int) (a1_1 : Int) : Option impl_Turn_minus.R :=
 (impl_part.g N (w64 ((w64 (a0_0 * a1_1)) - (w64 (a1_0 * a0_1)))) (w64 (a0_1 * a1_1))).bind fun r1 =>
 some (r1.1, r1.2)
theorem impl_Turn_minus.o0.run (N : Nat) (a0_0 : Int) (a0_1 : Int) (a1_0 : Int) (a1_1 : Int) : runC impl_Turn_minus.C (impl_Turn_minus.O N) N impl_Turn_minus.c1 1 (st0 [.agg [.int .i64 a0_0, .int .i64 a0_1], .agg [.int .i64 a1_0, .int .i64 a1_1]] [] : St D0) impl_Turn_minus.K0 = impl_Turn_minus.o0 N a0_0 a0_1 a1_0 a1_1 := by kernel_rfl
noncomputable def impl_Turn_minus.g (N : Nat) (a0_0 : Int) (a0_1 : Int) (a1_0 : Int) (a1_1 : Int) : Option impl_Turn_minus.R := impl_Turn_minus.o0 N a0_0 a0_1 a1_0 a1_1
theorem impl_Turn_minus.g.run (N : Nat) (a0_0 : Int) (a0_1 : Int) (a1_0 : Int) (a1_1 : Int) : runC impl_Turn_minus.C (impl_Turn_minus.O N) N impl_Turn_minus.c1 1 (st0 [.agg [.int .i64 a0_0, .int .i64 a0_1], .agg [.int .i64 a1_0, .int .i64 a1_1]] [] : St D0) impl_Turn_minus.K0 = impl_Turn_minus.g N a0_0 a0_1 a1_0 a1_1 := by
  exact (impl_Turn_minus.o0.run N a0_0 a0_1 a1_0 a1_1).trans rfl
theorem impl_Turn_minus.good (N : Nat) (a0_0 : Int) (a0_1 : Int) (a1_0 : Int) (a1_1 : Int) (r : impl_Turn_minus.R) (h : impl_Turn_minus.g N a0_0 a0_1 a1_0 a1_1 = some r) : Go.PM.Good Go.Proofs.Tryz.prog T0 34 [.agg [.int .i64 a0_0, .int .i64 a0_1], .agg [.int .i64 a1_0, .int .i64 a1_1]] [] (impl_Turn_minus.sig.ret r) (impl_Turn_minus.sig.bs r) :=
  good_fn tabOk0 mixed0 impl_Turn_minus.sig (impl_Turn_minus.E N) Go.Proofs.Tryz.func34 (by kernel_rfl) (by kernel_rfl) 31 0 0 [] 0 false [] [(true, [.any, .any])] (by kernel_rfl) rfl rfl ((impl_Turn_minus.g.run N a0_0 a0_1 a1_0 a1_1).trans h)
noncomputable def impl_Turn_minus.ent (N : Nat) : Ent Go.Proofs.Tryz.prog T0 := mkEnt 34 [(true, [.any, .any]), (true, [.any, .any])] impl_Turn_minus.sig (fun t => impl_Turn_minus.g N t.1 t.2.1 t.2.2.1 t.2.2.2) (fun t r h => impl_Turn_minus.good N t.1 t.2.1 t.2.2.1 t.2.2.2 r h)
end Go.Proofs.YtehbhinaopdkeaaGreat.M

namespace Go.Proofs.YtehbhinaopdkeaaGreat.M
open Go Go.PM Go.Proofs.YtehbhinaopdkeaaGreat.P
set_option linter.unusedVariables false
set_option maxRecDepth 100000
/-! ### impl_Turn_plus -/
abbrev impl_Turn_plus.R : Type := Int × Int
abbrev impl_Turn_plus.sig : Sig := ⟨[(true, 2), (true, 2)], [], [.int .i64, .int .i64, .int .i64, .int .i64], [(true, 2)], [], [.int .i64, .int .i64]⟩
noncomputable def impl_Turn_plus.C : Cfg D0 := ⟨Go.Proofs.Tryz.prog, T0, 31, 0, 22, 0, [], 0, false, []⟩
noncomputable def impl_Turn_plus.E (N : Nat) : List (Ent Go.Proofs.Tryz.prog T0) := [impl_part.ent N]
noncomputable def impl_Turn_plus.O (N : Nat) : Orc D0 impl_Turn_plus.R := orcOf (impl_Turn_plus.E N)
noncomputable def impl_Turn_plus.K0 : Ex → St D0 → Option impl_Turn_plus.R := exitK impl_Turn_plus.C Go.Proofs.Tryz.f42.results.toList [(true, [.any, .any])] (decOut impl_Turn_plus.sig)
noncomputable def impl_Turn_plus.c1 : Code := codeAt (Go.Proofs.Tryz.f42.body.getD .skip) []
noncomputable def impl_Turn_plus.o0 (N : Nat) (a0_0 : Int) (a0_1 : Int) (a1_0 : Int) (a1_1 : Int) : Option impl_Turn_plus.R :=
 (impl_part.g N (w64 ((w64 (a0_0 * a1_1)) + (w64 (a1_0 * a0_1)))) (w64 (a0_1 * a1_1))).bind fun r1 =>
 some (r1.1, r1.2)
theorem impl_Turn_plus.o0.run (N : Nat) (a0_0 : Int) (a0_1 : Int) (a1_0 : Int) (a1_1 : Int) : runC impl_Turn_plus.C (impl_Turn_plus.O N) N impl_Turn_plus.c1 1 (st0 [.agg [.int .i64 a0_0, .int .i64 a0_1], .agg [.int .i64 a1_0, .int .i64 a1_1]] [] : St D0) impl_Turn_plus.K0 = impl_Turn_plus.o0 N a0_0 a0_1 a1_0 a1_1 := by kernel_rfl
noncomputable def impl_Turn_plus.g (N : Nat) (a0_0 : Int) (a0_1 : Int) (a1_0 : Int) (a1_1 : Int) : Option impl_Turn_plus.R := impl_Turn_plus.o0 N a0_0 a0_1 a1_0 a1_1
theorem impl_Turn_plus.g.run (N : Nat) (a0_0 : Int) (a0_1 : Int) (a1_0 : Int) (a1_1 : Int) : runC impl_Turn_plus.C (impl_Turn_plus.O N) N impl_Turn_plus.c1 1 (st0 [.agg [.int .i64 a0_0, .int .i64 a0_1], .agg [.int .i64 a1_0, .int .i64 a1_1]] [] : St D0) impl_Turn_plus.K0 = impl_Turn_plus.g N a0_0 a0_1 a1_0 a1_1 := by
  exact (impl_Turn_plus.o0.run N a0_0 a0_1 a1_0 a1_1).trans rfl
theorem impl_Turn_plus.good (N : Nat) (a0_0 : Int) (a0_1 : Int) (a1_0 : Int) (a1_1 : Int) (r : impl_Turn_plus.R) (h : impl_Turn_plus.g N a0_0 a0_1 a1_0 a1_1 = some r) : Go.PM.Good Go.Proofs.Tryz.prog T0 42 [.agg [.int .i64 a0_0, .int .i64 a0_1], .agg [.int .i64 a1_0, .int .i64 a1_1]] [] (impl_Turn_plus.sig.ret r) (impl_Turn_plus.sig.bs r) :=
  good_fn tabOk0 mixed0 impl_Turn_plus.sig (impl_Turn_plus.E N) Go.Proofs.Tryz.func42 (by kernel_rfl) (by kernel_rfl) 31 0 0 [] 0 false [] [(true, [.any, .any])] (by kernel_rfl) rfl rfl ((impl_Turn_plus.g.run N a0_0 a0_1 a1_0 a1_1).trans h)
noncomputable def impl_Turn_plus.ent (N : Nat) : Ent Go.Proofs.Tryz.prog T0 := mkEnt 42 [(true, [.any, .any]), (true, [.any, .any])] impl_Turn_plus.sig (fun t => impl_Turn_plus.g N t.1 t.2.1 t.2.2.1 t.2.2.2) (fun t r h => impl_Turn_plus.good N t.1 t.2.1 t.2.2.1 t.2.2.2 r h)
end Go.Proofs.YtehbhinaopdkeaaGreat.M

namespace Go.Proofs.YtehbhinaopdkeaaGreat.M
open Go Go.PM Go.Proofs.YtehbhinaopdkeaaGreat.P
set_option linter.unusedVariables false
set_option maxRecDepth 100000
/-! ### spec_diAdd -/
abbrev spec_diAdd.R : Type := Int × Int × Bool
abbrev spec_diAdd.sig : Sig := ⟨[(true, 2), (true, 2), (false, 1)], [], [.int .i64, .int .i64, .int .i64, .int .i64, .int .i64], [(true, 2), (false, 1)], [], [.int .i64, .int .i64, .bool]⟩
noncomputable def spec_diAdd.C : Cfg D0 := ⟨Go.Proofs.Tryz.prog, T0, 223, 0, 29, 0, [], 8192, false, []⟩
noncomputable def spec_diAdd.E (N : Nat) : List (Ent Go.Proofs.Tryz.prog T0) := [spec_diMake.ent N]
noncomputable def spec_diAdd.O (N : Nat) : Orc D0 spec_diAdd.R := orcOf (spec_diAdd.E N)
noncomputable def spec_diAdd.K0 : Ex → St D0 → Option spec_diAdd.R := exitK spec_diAdd.C Go.Proofs.Tryz.f38.results.toList [(true, [.any, .any]), (false, [.any])] (decOut spec_diAdd.sig)
noncomputable def spec_diAdd.c1 : Code := codeAt (Go.Proofs.Tryz.f38.body.getD .skip) []
noncomputable def spec_diAdd.o0 (N : Nat) (a0_0 : Int) (a0_1 : Int) (a1_0 : Int) (a1_1 : Int) (a2 : Int) : Option spec_diAdd.R :=
 (spec_diMake.g N (w64 ((w64 (a0_0 * a1_1)) + (w64 ((w64 (a2 * a1_0)) * a0_1)))) (w64 (a0_1 * a1_1))).bind fun r1 =>
 some (r1.1, r1.2.1, r1.2.2)
theorem spec_diAdd.o0.run (N : Nat) (a0_0 : Int) (a0_1 : Int) (a1_0 : Int) (a1_1 : Int) (a2 : Int) : runC spec_diAdd.C (spec_diAdd.O N) N spec_diAdd.c1 1 (st0 [.agg [.int .i64 a0_0, .int .i64 a0_1], .agg [.int .i64 a1_0, .int .i64 a1_1], .one (.int .i64 a2)] [] : St D0) spec_diAdd.K0 = spec_diAdd.o0 N a0_0 a0_1 a1_0 a1_1 a2 := by kernel_rfl
noncomputable def spec_diAdd.g (N : Nat) (a0_0 : Int) (a0_1 : Int) (a1_0 : Int) (a1_1 : Int) (a2 : Int) : Option spec_diAdd.R := spec_diAdd.o0 N a0_0 a0_1 a1_0 a1_1 a2
theorem spec_diAdd.g.run (N : Nat) (a0_0 : Int) (a0_1 : Int) (a1_0 : Int) (a1_1 : Int) (a2 : Int) : runC spec_diAdd.C (spec_diAdd.O N) N spec_diAdd.c1 1 (st0 [.agg [.int .i64 a0_0, .int .i64 a0_1], .agg [.int .i64 a1_0, .int .i64 a1_1], .one (.int .i64 a2)] [] : St D0) spec_diAdd.K0 = spec_diAdd.g N a0_0 a0_1 a1_0 a1_1 a2 := by
  exact (spec_diAdd.o0.run N a0_0 a0_1 a1_0 a1_1 a2).trans rfl
theorem spec_diAdd.good (N : Nat) (a0_0 : Int) (a0_1 : Int) (a1_0 : Int) (a1_1 : Int) (a2 : Int) (r : spec_diAdd.R) (h : spec_diAdd.g N a0_0 a0_1 a1_0 a1_1 a2 = some r) : Go.PM.Good Go.Proofs.Tryz.prog T0 38 [.agg [.int .i64 a0_0, .int .i64 a0_1], .agg [.int .i64 a1_0, .int .i64 a1_1], .one (.int .i64 a2)] [] (spec_diAdd.sig.ret r) (spec_diAdd.sig.bs r) :=
  good_fn tabOk0 mixed0 spec_diAdd.sig (spec_diAdd.E N) Go.Proofs.Tryz.func38 (by kernel_rfl) (by kernel_rfl) 223 0 0 [] 8192 false [] [(true, [.any, .any]), (false, [.any])] (by kernel_rfl) rfl rfl ((spec_diAdd.g.run N a0_0 a0_1 a1_0 a1_1 a2).trans h)
noncomputable def spec_diAdd.ent (N : Nat) : Ent Go.Proofs.Tryz.prog T0 := mkEnt 38 [(true, [.any, .any]), (true, [.any, .any]), (false, [.any])] spec_diAdd.sig (fun t => spec_diAdd.g N t.1 t.2.1 t.2.2.1 t.2.2.2.1 t.2.2.2.2) (fun t r h => spec_diAdd.good N t.1 t.2.1 t.2.2.1 t.2.2.2.1 t.2.2.2.2 r h)
end Go.Proofs.YtehbhinaopdkeaaGreat.M

namespace Go.Proofs.YtehbhinaopdkeaaGreat.M
open Go Go.PM Go.Proofs.YtehbhinaopdkeaaGreat.P
set_option linter.unusedVariables false
set_option maxRecDepth 100000
/-! ### spec_seApart -/
abbrev spec_seApart.R : Type := Int × Int
abbrev spec_seApart.sig : Sig := ⟨[(true, 4)], [], [.int .i64, .int .i64, .int .i64, .int .i64], [(false, 1), (false, 1)], [], [.int .i64, .int .i64]⟩
noncomputable def spec_seApart.C : Cfg D0 := ⟨Go.Proofs.Tryz.prog, T0, 127, 0, 43, 0, [], 3768296931328, false, []⟩
noncomputable def spec_seApart.E (N : Nat) : List (Ent Go.Proofs.Tryz.prog T0) := [spec_diCommon.ent N]
noncomputable def spec_seApart.O (N : Nat) : Orc D0 spec_seApart.R := orcOf (spec_seApart.E N)
noncomputable def spec_seApart.K0 : Ex → St D0 → Option spec_seApart.R := exitK spec_seApart.C Go.Proofs.Tryz.f36.results.toList [(false, [.any]), (false, [.any])] (decOut spec_seApart.sig)
noncomputable def spec_seApart.c1 : Code := codeAt (Go.Proofs.Tryz.f36.body.getD .skip) []
noncomputable def spec_seApart.o0 (N : Nat) (a0_0 : Int) (a0_1 : Int) (a0_2 : Int) (a0_3 : Int) : Option spec_seApart.R :=
 bif ((w64 (a0_3 * a0_1)) == 0) then
  none
 else
 (spec_diCommon.g N (Int.tmod (w64 ((w64 ((w64 (a0_2 * a0_1)) - (w64 (a0_0 * a0_3)))) + (w64 (a0_3 * a0_1)))) (w64 (a0_3 * a0_1))) (w64 (a0_3 * a0_1))).bind fun r1 =>
 bif (r1 == 0) then
  none
 else
 bif (r1 == 0) then
  none
 else
 some ((w64 (Int.tdiv (Int.tmod (w64 ((w64 ((w64 (a0_2 * a0_1)) - (w64 (a0_0 * a0_3)))) + (w64 (a0_3 * a0_1)))) (w64 (a0_3 * a0_1))) r1)), (w64 (Int.tdiv (w64 (a0_3 * a0_1)) r1)))
theorem spec_seApart.o0.run (N : Nat) (a0_0 : Int) (a0_1 : Int) (a0_2 : Int) (a0_3 : Int) : runC spec_seApart.C (spec_seApart.O N) N spec_seApart.c1 1 (st0 [.agg [.int .i64 a0_0, .int .i64 a0_1, .int .i64 a0_2, .int .i64 a0_3]] [] : St D0) spec_seApart.K0 = spec_seApart.o0 N a0_0 a0_1 a0_2 a0_3 := by kernel_rfl
noncomputable def spec_seApart.g (N : Nat) (a0_0 : Int) (a0_1 : Int) (a0_2 : Int) (a0_3 : Int) : Option spec_seApart.R := spec_seApart.o0 N a0_0 a0_1 a0_2 a0_3
theorem spec_seApart.g.run (N : Nat) (a0_0 : Int) (a0_1 : Int) (a0_2 : Int) (a0_3 : Int) : runC spec_seApart.C (spec_seApart.O N) N spec_seApart.c1 1 (st0 [.agg [.int .i64 a0_0, .int .i64 a0_1, .int .i64 a0_2, .int .i64 a0_3]] [] : St D0) spec_seApart.K0 = spec_seApart.g N a0_0 a0_1 a0_2 a0_3 := by
  exact (spec_seApart.o0.run N a0_0 a0_1 a0_2 a0_3).trans rfl
theorem spec_seApart.good (N : Nat) (a0_0 : Int) (a0_1 : Int) (a0_2 : Int) (a0_3 : Int) (r : spec_seApart.R) (h : spec_seApart.g N a0_0 a0_1 a0_2 a0_3 = some r) : Go.PM.Good Go.Proofs.Tryz.prog T0 36 [.agg [.int .i64 a0_0, .int .i64 a0_1, .int .i64 a0_2, .int .i64 a0_3]] [] (spec_seApart.sig.ret r) (spec_seApart.sig.bs r) :=
  good_fn tabOk0 mixed0 spec_seApart.sig (spec_seApart.E N) Go.Proofs.Tryz.func36 (by kernel_rfl) (by kernel_rfl) 127 0 0 [] 3768296931328 false [] [(false, [.any]), (false, [.any])] (by kernel_rfl) rfl rfl ((spec_seApart.g.run N a0_0 a0_1 a0_2 a0_3).trans h)
noncomputable def spec_seApart.ent (N : Nat) : Ent Go.Proofs.Tryz.prog T0 := mkEnt 36 [(true, [.any, .any, .any, .any])] spec_seApart.sig (fun t => spec_seApart.g N t.1 t.2.1 t.2.2.1 t.2.2.2) (fun t r h => spec_seApart.good N t.1 t.2.1 t.2.2.1 t.2.2.2 r h)
end Go.Proofs.YtehbhinaopdkeaaGreat.M

namespace Go.Proofs.YtehbhinaopdkeaaGreat.M
open Go Go.PM Go.Proofs.YtehbhinaopdkeaaGreat.P
set_option linter.unusedVariables false
set_option maxRecDepth 100000
/-! ### spec_seAngle -/
abbrev spec_seAngle.R : Type := List S25 × Bool
abbrev spec_seAngle.sig : Sig := ⟨[(false, 1), (false, 1), (false, 1)], [], [.int .i64, .int .i64, .int .i64], [(false, 1), (false, 1)], [], [.sl true 25, .bool]⟩
noncomputable def spec_seAngle.C : Cfg D0 := ⟨Go.Proofs.Tryz.prog, T0, 4295004103, 0, 38, 0, [(58, [0, 1, 2, 8, 9], [])], 2201563136, false, []⟩
noncomputable def spec_seAngle.E (N : Nat) : List (Ent Go.Proofs.Tryz.prog T0) := [spec_diMake.ent N]
noncomputable def spec_seAngle.O (N : Nat) : Orc D0 spec_seAngle.R := orcOf (spec_seAngle.E N)
noncomputable def spec_seAngle.K0 : Ex → St D0 → Option spec_seAngle.R := exitK spec_seAngle.C Go.Proofs.Tryz.f37.results.toList [(false, [.own 25]), (false, [.any])] (decOut spec_seAngle.sig)
noncomputable def spec_seAngle.c1 : Code := codeAt (Go.Proofs.Tryz.f37.body.getD .skip) []
noncomputable def spec_seAngle.c2 : Code := codeAt (Go.Proofs.Tryz.f37.body.getD .skip) [false]
noncomputable def spec_seAngle.c6 : Code := codeAt (Go.Proofs.Tryz.f37.body.getD .skip) [true, false]
noncomputable def spec_seAngle.c15 : Code := codeAt (Go.Proofs.Tryz.f37.body.getD .skip) [true, true, true]
noncomputable def spec_seAngle.c28 : Code := codeAt (Go.Proofs.Tryz.f37.body.getD .skip) [true, true, false, false]
noncomputable def spec_seAngle.c116 : Code := codeAt (Go.Proofs.Tryz.f37.body.getD .skip) [true, true, false, true, false, false]
noncomputable def spec_seAngle.K116 (N : Nat) (Kn58 : St D0 → Option spec_seAngle.R) : Ex → St D0 → Option spec_seAngle.R := ((fun up => (onN (fun s => spec_seAngle.C.tidy 58 s ((onN Kn58 up) .normal)) (onN Kn58 up))) (blockK 0 (onN (fun s => spec_seAngle.C.tidy 14 s (fun s' => runC spec_seAngle.C (spec_seAngle.O N) N spec_seAngle.c15 15 s' spec_seAngle.K0)) spec_seAngle.K0)))
noncomputable def spec_seAngle.o1 (N : Nat) (v0 : Int) (v1 : Int) (v2 : Int) (v3 : Int) (c2 : Int → Int → Int → (List S25) → Int → Option spec_seAngle.R) : Option spec_seAngle.R :=
 bif (decide (v3 < (w64 (v0 - 1)))) then
  (spec_diMake.g N (w64 (v1 + (w64 (v3 * v2)))) (w64 (v2 * (w64 (v0 - 1))))).bind fun r1 =>
  bif (!r1.2.2) then
   some (([] : List S25), false)
  else
  bif (Nat.blt (([] : List S25).length + ([(⟨r1.1, r1.2.1⟩ : S25)] : List S25).length) 8796093022208) then
   c2 v0 v1 v2 (([] : List S25) ++ ([(⟨r1.1, r1.2.1⟩ : S25)] : List S25)) (w64 (v3 + 1))
  else
  none
 else
 some (([] : List S25), true)
theorem spec_seAngle.o1.run (N : Nat) (Kn58 : St D0 → Option spec_seAngle.R) (v0 : Int) (v1 : Int) (v2 : Int) (v3 : Int) : runC spec_seAngle.C (spec_seAngle.O N) N spec_seAngle.c116 116 (mkSt [(0, .one (.int .i64 v0)), (1, .one (.int .i64 v1)), (2, .one (.int .i64 v2)), (8, .one (.nl)), (9, .one (.int .i64 v3))] [] : St D0) ((fun up => (onN (fun s => spec_seAngle.C.tidy 58 s ((onN Kn58 up) .normal)) (onN Kn58 up))) (blockK 0 (onN (fun s => spec_seAngle.C.tidy 14 s (fun s' => runC spec_seAngle.C (spec_seAngle.O N) N spec_seAngle.c15 15 s' spec_seAngle.K0)) spec_seAngle.K0))) = spec_seAngle.o1 N v0 v1 v2 v3 ((fun w0 w1 w2 w3 w4 => Kn58 (mkSt [(0, .one (.int .i64 w0)), (1, .one (.int .i64 w1)), (2, .one (.int .i64 w2)), (8, .one (.sl true 25 w3)), (9, .one (.int .i64 w4))] [] : St D0))) := by kernel_rfl
noncomputable def spec_seAngle.d1 (N : Nat) (v0 : Int) (v1 : Int) (v2 : Int) (v3 : Int) (c2 : Int → Int → Int → (List S25) → Int → Option spec_seAngle.R) : Option spec_seAngle.R := spec_seAngle.o1 N v0 v1 v2 v3 c2
theorem spec_seAngle.d1.run (N : Nat) (Kn58 : St D0 → Option spec_seAngle.R) (v0 : Int) (v1 : Int) (v2 : Int) (v3 : Int) : runC spec_seAngle.C (spec_seAngle.O N) N spec_seAngle.c116 116 (mkSt [(0, .one (.int .i64 v0)), (1, .one (.int .i64 v1)), (2, .one (.int .i64 v2)), (8, .one (.nl)), (9, .one (.int .i64 v3))] [] : St D0) (spec_seAngle.K116 N Kn58) = spec_seAngle.d1 N v0 v1 v2 v3 ((fun w0 w1 w2 w3 w4 => Kn58 (mkSt [(0, .one (.int .i64 w0)), (1, .one (.int .i64 w1)), (2, .one (.int .i64 w2)), (8, .one (.sl true 25 w3)), (9, .one (.int .i64 w4))] [] : St D0))) := by
  exact (spec_seAngle.o1.run N Kn58 v0 v1 v2 v3).trans rfl
noncomputable def spec_seAngle.o2 (N : Nat) (v0 : Int) (v1 : Int) (v2 : Int) (v3 : List S25) (v4 : Int) (c2 : Int → Int → Int → (List S25) → Int → Option spec_seAngle.R) : Option spec_seAngle.R :=
 bif (decide (v4 < (w64 (v0 - 1)))) then
  (spec_diMake.g N (w64 (v1 + (w64 (v4 * v2)))) (w64 (v2 * (w64 (v0 - 1))))).bind fun r1 =>
  bif (!r1.2.2) then
   some (([] : List S25), false)
  else
  bif (Nat.blt (v3.length + ([(⟨r1.1, r1.2.1⟩ : S25)] : List S25).length) 8796093022208) then
   c2 v0 v1 v2 (v3 ++ ([(⟨r1.1, r1.2.1⟩ : S25)] : List S25)) (w64 (v4 + 1))
  else
  none
 else
 some (v3, true)
theorem spec_seAngle.o2.run (N : Nat) (Kn58 : St D0 → Option spec_seAngle.R) (v0 : Int) (v1 : Int) (v2 : Int) (v3 : List S25) (v4 : Int) : runC spec_seAngle.C (spec_seAngle.O N) N spec_seAngle.c116 116 (mkSt [(0, .one (.int .i64 v0)), (1, .one (.int .i64 v1)), (2, .one (.int .i64 v2)), (8, .one (.sl true 25 v3)), (9, .one (.int .i64 v4))] [] : St D0) ((fun up => (onN (fun s => spec_seAngle.C.tidy 58 s ((onN Kn58 up) .normal)) (onN Kn58 up))) (blockK 0 (onN (fun s => spec_seAngle.C.tidy 14 s (fun s' => runC spec_seAngle.C (spec_seAngle.O N) N spec_seAngle.c15 15 s' spec_seAngle.K0)) spec_seAngle.K0))) = spec_seAngle.o2 N v0 v1 v2 v3 v4 ((fun w0 w1 w2 w3 w4 => Kn58 (mkSt [(0, .one (.int .i64 w0)), (1, .one (.int .i64 w1)), (2, .one (.int .i64 w2)), (8, .one (.sl true 25 w3)), (9, .one (.int .i64 w4))] [] : St D0))) := by kernel_rfl
noncomputable def spec_seAngle.d2 (N : Nat) (v0 : Int) (v1 : Int) (v2 : Int) (v3 : List S25) (v4 : Int) (c2 : Int → Int → Int → (List S25) → Int → Option spec_seAngle.R) : Option spec_seAngle.R := spec_seAngle.o2 N v0 v1 v2 v3 v4 c2
theorem spec_seAngle.d2.run (N : Nat) (Kn58 : St D0 → Option spec_seAngle.R) (v0 : Int) (v1 : Int) (v2 : Int) (v3 : List S25) (v4 : Int) : runC spec_seAngle.C (spec_seAngle.O N) N spec_seAngle.c116 116 (mkSt [(0, .one (.int .i64 v0)), (1, .one (.int .i64 v1)), (2, .one (.int .i64 v2)), (8, .one (.sl true 25 v3)), (9, .one (.int .i64 v4))] [] : St D0) (spec_seAngle.K116 N Kn58) = spec_seAngle.d2 N v0 v1 v2 v3 v4 ((fun w0 w1 w2 w3 w4 => Kn58 (mkSt [(0, .one (.int .i64 w0)), (1, .one (.int .i64 w1)), (2, .one (.int .i64 w2)), (8, .one (.sl true 25 w3)), (9, .one (.int .i64 w4))] [] : St D0))) := by
  exact (spec_seAngle.o2.run N Kn58 v0 v1 v2 v3 v4).trans rfl
noncomputable def spec_seAngle.K58 (N : Nat) : Ex → St D0 → Option spec_seAngle.R := (blockK 0 (onN (fun s => spec_seAngle.C.tidy 14 s (fun s' => runC spec_seAngle.C (spec_seAngle.O N) N spec_seAngle.c15 15 s' spec_seAngle.K0)) spec_seAngle.K0))
mutual
noncomputable def spec_seAngle.l1 (N : Nat) : Nat → Int → Int → Int → Int → Option spec_seAngle.R
  | 0, _, _, _, _ => none
  | n + 1, v0, v1, v2, v3 => spec_seAngle.d1 N v0 v1 v2 v3 ((fun w0 w1 w2 w3 w4 => spec_seAngle.l2 N n w0 w1 w2 w3 w4))
noncomputable def spec_seAngle.l2 (N : Nat) : Nat → Int → Int → Int → (List S25) → Int → Option spec_seAngle.R
  | 0, _, _, _, _, _ => none
  | n + 1, v0, v1, v2, v3, v4 => spec_seAngle.d2 N v0 v1 v2 v3 v4 ((fun w0 w1 w2 w3 w4 => spec_seAngle.l2 N n w0 w1 w2 w3 w4))
end
theorem spec_seAngle.loop58 (N : Nat) : ∀ n, (∀ (v0 : Int) (v1 : Int) (v2 : Int) (v3 : Int), iter (loopF spec_seAngle.C (spec_seAngle.O N) N spec_seAngle.c116 58) n (mkSt [(0, .one (.int .i64 v0)), (1, .one (.int .i64 v1)), (2, .one (.int .i64 v2)), (8, .one (.nl)), (9, .one (.int .i64 v3))] [] : St D0) (spec_seAngle.K58 N) = spec_seAngle.l1 N n v0 v1 v2 v3) ∧ (∀ (v0 : Int) (v1 : Int) (v2 : Int) (v3 : List S25) (v4 : Int), iter (loopF spec_seAngle.C (spec_seAngle.O N) N spec_seAngle.c116 58) n (mkSt [(0, .one (.int .i64 v0)), (1, .one (.int .i64 v1)), (2, .one (.int .i64 v2)), (8, .one (.sl true 25 v3)), (9, .one (.int .i64 v4))] [] : St D0) (spec_seAngle.K58 N) = spec_seAngle.l2 N n v0 v1 v2 v3 v4)
  | 0 => ⟨(fun v0 v1 v2 v3 => rfl), (fun v0 v1 v2 v3 v4 => rfl)⟩
  | n + 1 => ⟨(fun v0 v1 v2 v3 => (spec_seAngle.d1.run N (fun s => iter (loopF spec_seAngle.C (spec_seAngle.O N) N spec_seAngle.c116 58) n s (spec_seAngle.K58 N)) v0 v1 v2 v3).trans (show _ = spec_seAngle.d1 N v0 v1 v2 v3 ((fun w0 w1 w2 w3 w4 => spec_seAngle.l2 N n w0 w1 w2 w3 w4)) from (congr rfl (funext fun w0 => funext fun w1 => funext fun w2 => funext fun w3 => funext fun w4 => (spec_seAngle.loop58 N n).2 w0 w1 w2 w3 w4)))), (fun v0 v1 v2 v3 v4 => (spec_seAngle.d2.run N (fun s => iter (loopF spec_seAngle.C (spec_seAngle.O N) N spec_seAngle.c116 58) n s (spec_seAngle.K58 N)) v0 v1 v2 v3 v4).trans (show _ = spec_seAngle.d2 N v0 v1 v2 v3 v4 ((fun w0 w1 w2 w3 w4 => spec_seAngle.l2 N n w0 w1 w2 w3 w4)) from (congr rfl (funext fun w0 => funext fun w1 => funext fun w2 => funext fun w3 => funext fun w4 => (spec_seAngle.loop58 N n).2 w0 w1 w2 w3 w4))))⟩
noncomputable def spec_seAngle.o0 (N : Nat) (a0 : Int) (a1 : Int) (a2 : Int) (c1 : Int → Int → Int → Int → Option spec_seAngle.R) : Option spec_seAngle.R :=
 c1 a0 a1 a2 0
theorem spec_seAngle.o0.run (N : Nat) (H116 : Code) (a0 : Int) (a1 : Int) (a2 : Int) : runC spec_seAngle.C (spec_seAngle.O N) N (.seq spec_seAngle.c2 (.seq spec_seAngle.c6 (.seq (.seq spec_seAngle.c28 (.block 0 (.loop H116))) spec_seAngle.c15))) 1 (st0 [.one (.int .i64 a0), .one (.int .i64 a1), .one (.int .i64 a2)] [] : St D0) spec_seAngle.K0 = spec_seAngle.o0 N a0 a1 a2 ((fun w0 w1 w2 w3 => iter (loopF spec_seAngle.C (spec_seAngle.O N) N H116 58) N (mkSt [(0, .one (.int .i64 w0)), (1, .one (.int .i64 w1)), (2, .one (.int .i64 w2)), (8, .one (.nl)), (9, .one (.int .i64 w3))] [] : St D0) (blockK 0 (onN (fun s => spec_seAngle.C.tidy 14 s (fun s' => runC spec_seAngle.C (spec_seAngle.O N) N spec_seAngle.c15 15 s' spec_seAngle.K0)) spec_seAngle.K0)))) := by kernel_rfl
noncomputable def spec_seAngle.g (N : Nat) (a0 : Int) (a1 : Int) (a2 : Int) : Option spec_seAngle.R := spec_seAngle.o0 N a0 a1 a2 ((fun w0 w1 w2 w3 => spec_seAngle.l1 N N w0 w1 w2 w3))
theorem spec_seAngle.c1_0 : spec_seAngle.c1 = (.seq spec_seAngle.c2 (.seq spec_seAngle.c6 (.seq (.seq spec_seAngle.c28 (.block 0 (.loop spec_seAngle.c116))) spec_seAngle.c15))) := by kernel_rfl
theorem spec_seAngle.g.run (N : Nat) (a0 : Int) (a1 : Int) (a2 : Int) : runC spec_seAngle.C (spec_seAngle.O N) N spec_seAngle.c1 1 (st0 [.one (.int .i64 a0), .one (.int .i64 a1), .one (.int .i64 a2)] [] : St D0) spec_seAngle.K0 = spec_seAngle.g N a0 a1 a2 := by
  rw [spec_seAngle.c1_0]; unfold spec_seAngle.g; exact (spec_seAngle.o0.run N spec_seAngle.c116 a0 a1 a2).trans (congr rfl (funext fun w0 => funext fun w1 => funext fun w2 => funext fun w3 => (spec_seAngle.loop58 N N).1 w0 w1 w2 w3))
theorem spec_seAngle.good (N : Nat) (a0 : Int) (a1 : Int) (a2 : Int) (r : spec_seAngle.R) (h : spec_seAngle.g N a0 a1 a2 = some r) : Go.PM.Good Go.Proofs.Tryz.prog T0 37 [.one (.int .i64 a0), .one (.int .i64 a1), .one (.int .i64 a2)] [] (spec_seAngle.sig.ret r) (spec_seAngle.sig.bs r) :=
  good_fn tabOk0 mixed0 spec_seAngle.sig (spec_seAngle.E N) Go.Proofs.Tryz.func37 (by kernel_rfl) (by kernel_rfl) 4295004103 0 0 [(58, [0, 1, 2, 8, 9], [])] 2201563136 false [] [(false, [.own 25]), (false, [.any])] (by kernel_rfl) rfl rfl ((spec_seAngle.g.run N a0 a1 a2).trans h)
noncomputable def spec_seAngle.ent (N : Nat) : Ent Go.Proofs.Tryz.prog T0 := mkEnt 37 [(false, [.any]), (false, [.any]), (false, [.any])] spec_seAngle.sig (fun t => spec_seAngle.g N t.1 t.2.1 t.2.2) (fun t r h => spec_seAngle.good N t.1 t.2.1 t.2.2 r h)
end Go.Proofs.YtehbhinaopdkeaaGreat.M
