/- What the program's functions compute, walked by the machine (part 1). No conditions but those stated. -/
import Derived.Test.YtehbhinaopdkeaaPm3
import Derived.Test.YtehbhinaopdkeaaProg
import Derived.Test.YtehbhinaopdkeaaShelf
import Derived.WalkKit
import Derived.Lib.Walk
import Derived.OwnWalk
import Derived.Laws.StructEq
import Derived.Shelf.SlicesQ.Load
noncomputable section
namespace Go.Proofs.Ytehbhinaopdkeaa.M
open Go Go.PM
set_option linter.unusedVariables false
set_option maxRecDepth 100000
end Go.Proofs.Ytehbhinaopdkeaa.M
namespace Go.Proofs.Ytehbhinaopdkeaa.P
structure S25 where
  f0 : Int
  f1 : Int
structure S31 where
  f0 : Int
  f1 : Int
  f2 : Int
  f3 : Int
structure S63 where
  f0 : Int
  f1 : Int
  f2 : Int
end Go.Proofs.Ytehbhinaopdkeaa.P
namespace Go.Proofs.Ytehbhinaopdkeaa.M
open Go Go.PM Go.Proofs.Ytehbhinaopdkeaa.P
abbrev D0 : TypeId → Type
  | 3 => Int
  | 5 => Int
  | 25 => S25
  | 31 => S31
  | 63 => S63
  | _ => Unit
def T0 : Tab D0 where
  size := fun e => match e with
    | 3 => 1
    | 5 => 1
    | 25 => 2
    | 31 => 4
    | 63 => 3
    | _ => 0
  out := fun e x => match e, x with
    | 3, x => [.int .i64 x]
    | 5, x => [.int .u8 x]
    | 25, x => [.int .i64 x.f0, .int .i64 x.f1]
    | 31, x => [.int .i64 x.f0, .int .i64 x.f1, .int .i64 x.f2, .int .i64 x.f3]
    | 63, x => [.int .i64 x.f0, .int .i64 x.f1, .int .i64 x.f2]
    | _, _ => []
  inn := fun e ls => match e, ls with
    | 3, [.int .i64 x0] => some x0
    | 5, [.int .u8 x0] => some x0
    | 25, [.int .i64 x0, .int .i64 x1] => some ⟨x0, x1⟩
    | 31, [.int .i64 x0, .int .i64 x1, .int .i64 x2, .int .i64 x3] => some ⟨x0, x1, x2, x3⟩
    | 63, [.int .i64 x0, .int .i64 x1, .int .i64 x2] => some ⟨x0, x1, x2⟩
    | _, _ => none
  kd := fun e => match e with
    | 3 => [13]
    | 5 => [14]
    | 25 => [13, 13]
    | 31 => [13, 13, 13, 13]
    | 63 => [13, 13, 13]
    | _ => []
theorem tabOk0 : TabOk T0 where
  out_len := by
    intro e x
    simp only [T0]
    split <;> first | rfl | (split <;> first | rfl | (rename_i h _ _ _ _; exact absurd HEq.rfl (fun h' => h _ rfl h')) | simp_all)
  kd_ok := by
    intro e x
    simp only [T0]
    split <;> first | rfl | (split <;> first | rfl | (rename_i h _ _ _ _; exact absurd HEq.rfl (fun h' => h _ rfl h')) | simp_all)
  inn_ok := by
    intro e ls x h C blk vs hF
    simp only [T0] at h
    split at h <;> first | (cases h; done) | (simp only [Option.some.injEq] at h; subst h; exact tab_inn hF rfl) | (split at h <;> first | (cases h; done) | (rename_i he; simp only [Option.some.injEq] at h; subst h; subst he; exact tab_inn_sl rfl hF))
theorem mixed0 : Try.prog.follows .mixedOrders = true := by kernel_rfl
end Go.Proofs.Ytehbhinaopdkeaa.M
namespace Go.Proofs.Ytehbhinaopdkeaa.M
open Go Go.PM Go.Proofs.Ytehbhinaopdkeaa.P
set_option linter.unusedVariables false
set_option maxRecDepth 100000
/-! ### zq30 -/
abbrev zq30.R : Type := Bool
abbrev zq30.sig : Sig := ⟨[(false, 1), (false, 1), (false, 1)], [], [.int .i64, .int .i64, .int .i64], [(false, 1)], [], [.bool]⟩
def zq30.C : Cfg D0 := ⟨Try.prog, T0, 71, 0, 15, 0, [], 6528, false, []⟩
def zq30.E (N : Nat) : List (Ent Try.prog T0) := []
def zq30.O (N : Nat) : Orc D0 zq30.R := orcOf (zq30.E N)
def zq30.K0 : Ex → St D0 → Option zq30.R := exitK zq30.C Try.f81.results.toList [(false, [.any])] (decOut zq30.sig)
def zq30.c1 : Code := codeAt (Try.f81.body.getD .skip) []
def zq30.o0 (N : Nat) (a0 : Int) (a1 : Int) (a2 : Int) : Option zq30.R :=
 bif (decide (a0 ≥ a1)) then
  some ((decide (a0 ≤ a2)))
 else
 some (false)
theorem zq30.o0.run (N : Nat) (a0 : Int) (a1 : Int) (a2 : Int) : runC zq30.C (zq30.O N) N zq30.c1 1 (st0 [.one (.int .i64 a0), .one (.int .i64 a1), .one (.int .i64 a2)] [] : St D0) zq30.K0 = zq30.o0 N a0 a1 a2 := by kernel_rfl
def zq30.g (N : Nat) (a0 : Int) (a1 : Int) (a2 : Int) : Option zq30.R := zq30.o0 N a0 a1 a2
theorem zq30.g.run (N : Nat) (a0 : Int) (a1 : Int) (a2 : Int) : runC zq30.C (zq30.O N) N zq30.c1 1 (st0 [.one (.int .i64 a0), .one (.int .i64 a1), .one (.int .i64 a2)] [] : St D0) zq30.K0 = zq30.g N a0 a1 a2 := by
  exact (zq30.o0.run N a0 a1 a2).trans rfl
theorem zq30.good (N : Nat) (a0 : Int) (a1 : Int) (a2 : Int) (r : zq30.R) (h : zq30.g N a0 a1 a2 = some r) : Go.PM.Good Try.prog T0 81 [.one (.int .i64 a0), .one (.int .i64 a1), .one (.int .i64 a2)] [] (zq30.sig.ret r) (zq30.sig.bs r) :=
  good_fn tabOk0 mixed0 zq30.sig (zq30.E N) Try.func81 (by kernel_rfl) (by kernel_rfl) 71 0 0 [] 6528 false [] [(false, [.any])] (by kernel_rfl) rfl rfl ((zq30.g.run N a0 a1 a2).trans h)
def zq30.ent (N : Nat) : Ent Try.prog T0 := mkEnt 81 [(false, [.any]), (false, [.any]), (false, [.any])] zq30.sig (fun t => zq30.g N t.1 t.2.1 t.2.2) (fun t r h => zq30.good N t.1 t.2.1 t.2.2 r h)
/-! ### zq23 -/
abbrev zq23.R : Type := Bool
abbrev zq23.sig : Sig := ⟨[(false, 1)], [], [.int .i64], [(false, 1)], [], [.bool]⟩
def zq23.C : Cfg D0 := ⟨Try.prog, T0, 5, 0, 5, 0, [], 8, false, []⟩
def zq23.E (N : Nat) : List (Ent Try.prog T0) := [zq30.ent N]
def zq23.O (N : Nat) : Orc D0 zq23.R := orcOf (zq23.E N)
def zq23.K0 : Ex → St D0 → Option zq23.R := exitK zq23.C Try.f70.results.toList [(false, [.any])] (decOut zq23.sig)
def zq23.c1 : Code := codeAt (Try.f70.body.getD .skip) []
def zq23.o0 (N : Nat) (a0 : Int) : Option zq23.R :=
 (zq30.g N a0 2 24).bind fun r1 =>
 some (r1)
theorem zq23.o0.run (N : Nat) (a0 : Int) : runC zq23.C (zq23.O N) N zq23.c1 1 (st0 [.one (.int .i64 a0)] [] : St D0) zq23.K0 = zq23.o0 N a0 := by kernel_rfl
def zq23.g (N : Nat) (a0 : Int) : Option zq23.R := zq23.o0 N a0
theorem zq23.g.run (N : Nat) (a0 : Int) : runC zq23.C (zq23.O N) N zq23.c1 1 (st0 [.one (.int .i64 a0)] [] : St D0) zq23.K0 = zq23.g N a0 := by
  exact (zq23.o0.run N a0).trans rfl
theorem zq23.good (N : Nat) (a0 : Int) (r : zq23.R) (h : zq23.g N a0 = some r) : Go.PM.Good Try.prog T0 70 [.one (.int .i64 a0)] [] (zq23.sig.ret r) (zq23.sig.bs r) :=
  good_fn tabOk0 mixed0 zq23.sig (zq23.E N) Try.func70 (by kernel_rfl) (by kernel_rfl) 5 0 0 [] 8 false [] [(false, [.any])] (by kernel_rfl) rfl rfl ((zq23.g.run N a0).trans h)
def zq23.ent (N : Nat) : Ent Try.prog T0 := mkEnt 70 [(false, [.any])] zq23.sig (fun t => zq23.g N t) (fun t r h => zq23.good N t r h)
/-! ### zq69 -/
abbrev zq69.R : Type := Bool
abbrev zq69.sig : Sig := ⟨[(false, 1), (false, 1), (false, 1)], [], [.int .i64, .int .i64, .int .i64], [(false, 1)], [], [.bool]⟩
def zq69.C : Cfg D0 := ⟨Try.prog, T0, 71, 0, 15, 0, [], 6528, false, []⟩
def zq69.E (N : Nat) : List (Ent Try.prog T0) := []
def zq69.O (N : Nat) : Orc D0 zq69.R := orcOf (zq69.E N)
def zq69.K0 : Ex → St D0 → Option zq69.R := exitK zq69.C Try.f96.results.toList [(false, [.any])] (decOut zq69.sig)
def zq69.c1 : Code := codeAt (Try.f96.body.getD .skip) []
def zq69.o0 (N : Nat) (a0 : Int) (a1 : Int) (a2 : Int) : Option zq69.R :=
 bif (decide (a0 ≥ a1)) then
  some ((decide (a0 ≤ a2)))
 else
 some (false)
theorem zq69.o0.run (N : Nat) (a0 : Int) (a1 : Int) (a2 : Int) : runC zq69.C (zq69.O N) N zq69.c1 1 (st0 [.one (.int .i64 a0), .one (.int .i64 a1), .one (.int .i64 a2)] [] : St D0) zq69.K0 = zq69.o0 N a0 a1 a2 := by kernel_rfl
def zq69.g (N : Nat) (a0 : Int) (a1 : Int) (a2 : Int) : Option zq69.R := zq69.o0 N a0 a1 a2
theorem zq69.g.run (N : Nat) (a0 : Int) (a1 : Int) (a2 : Int) : runC zq69.C (zq69.O N) N zq69.c1 1 (st0 [.one (.int .i64 a0), .one (.int .i64 a1), .one (.int .i64 a2)] [] : St D0) zq69.K0 = zq69.g N a0 a1 a2 := by
  exact (zq69.o0.run N a0 a1 a2).trans rfl
theorem zq69.good (N : Nat) (a0 : Int) (a1 : Int) (a2 : Int) (r : zq69.R) (h : zq69.g N a0 a1 a2 = some r) : Go.PM.Good Try.prog T0 96 [.one (.int .i64 a0), .one (.int .i64 a1), .one (.int .i64 a2)] [] (zq69.sig.ret r) (zq69.sig.bs r) :=
  good_fn tabOk0 mixed0 zq69.sig (zq69.E N) Try.func96 (by kernel_rfl) (by kernel_rfl) 71 0 0 [] 6528 false [] [(false, [.any])] (by kernel_rfl) rfl rfl ((zq69.g.run N a0 a1 a2).trans h)
def zq69.ent (N : Nat) : Ent Try.prog T0 := mkEnt 96 [(false, [.any]), (false, [.any]), (false, [.any])] zq69.sig (fun t => zq69.g N t.1 t.2.1 t.2.2) (fun t r h => zq69.good N t.1 t.2.1 t.2.2 r h)
/-! ### zq57 -/
abbrev zq57.R : Type := Bool
abbrev zq57.sig : Sig := ⟨[(false, 1)], [], [.int .i64], [(false, 1)], [], [.bool]⟩
def zq57.C : Cfg D0 := ⟨Try.prog, T0, 5, 0, 5, 0, [], 8, false, []⟩
def zq57.E (N : Nat) : List (Ent Try.prog T0) := [zq69.ent N]
def zq57.O (N : Nat) : Orc D0 zq57.R := orcOf (zq57.E N)
def zq57.K0 : Ex → St D0 → Option zq57.R := exitK zq57.C Try.f53.results.toList [(false, [.any])] (decOut zq57.sig)
def zq57.c1 : Code := codeAt (Try.f53.body.getD .skip) []
def zq57.o0 (N : Nat) (a0 : Int) : Option zq57.R :=
 (zq69.g N a0 2 24).bind fun r1 =>
 some (r1)
theorem zq57.o0.run (N : Nat) (a0 : Int) : runC zq57.C (zq57.O N) N zq57.c1 1 (st0 [.one (.int .i64 a0)] [] : St D0) zq57.K0 = zq57.o0 N a0 := by kernel_rfl
def zq57.g (N : Nat) (a0 : Int) : Option zq57.R := zq57.o0 N a0
theorem zq57.g.run (N : Nat) (a0 : Int) : runC zq57.C (zq57.O N) N zq57.c1 1 (st0 [.one (.int .i64 a0)] [] : St D0) zq57.K0 = zq57.g N a0 := by
  exact (zq57.o0.run N a0).trans rfl
theorem zq57.good (N : Nat) (a0 : Int) (r : zq57.R) (h : zq57.g N a0 = some r) : Go.PM.Good Try.prog T0 53 [.one (.int .i64 a0)] [] (zq57.sig.ret r) (zq57.sig.bs r) :=
  good_fn tabOk0 mixed0 zq57.sig (zq57.E N) Try.func53 (by kernel_rfl) (by kernel_rfl) 5 0 0 [] 8 false [] [(false, [.any])] (by kernel_rfl) rfl rfl ((zq57.g.run N a0).trans h)
def zq57.ent (N : Nat) : Ent Try.prog T0 := mkEnt 53 [(false, [.any])] zq57.sig (fun t => zq57.g N t) (fun t r h => zq57.good N t r h)
/-! ### zq20 -/
abbrev zq20.R : Type := Int × Int
abbrev zq20.sig : Sig := ⟨[(false, 1), (false, 1)], [], [.int .i64, .int .i64], [(false, 1), (false, 1)], [], [.int .i64, .int .i64]⟩
def zq20.C : Cfg D0 := ⟨Try.prog, T0, 33011, 0, 23, 0, [(14, [6, 7], [])], 875264, false, []⟩
def zq20.E (N : Nat) : List (Ent Try.prog T0) := []
def zq20.O (N : Nat) : Orc D0 zq20.R := orcOf (zq20.E N)
def zq20.K0 : Ex → St D0 → Option zq20.R := exitK zq20.C Try.f116.results.toList [(false, [.any]), (false, [.any])] (decOut zq20.sig)
def zq20.c1 : Code := codeAt (Try.f116.body.getD .skip) []
def zq20.c2 : Code := codeAt (Try.f116.body.getD .skip) [false]
def zq20.c6 : Code := codeAt (Try.f116.body.getD .skip) [true, false]
def zq20.c14 : Code := codeAt (Try.f116.body.getD .skip) [true, true, false]
def zq20.c15 : Code := codeAt (Try.f116.body.getD .skip) [true, true, true]
def zq20.K15 (N : Nat) : Ex → St D0 → Option zq20.R := zq20.K0
def zq20.o1 (N : Nat) (v0 : Int) (v1 : Int) : Option zq20.R :=
 some (v0, v1)
theorem zq20.o1.run (N : Nat) (v0 : Int) (v1 : Int) : runC zq20.C (zq20.O N) N zq20.c15 15 (mkSt [(6, .one (.int .i64 v0)), (7, .one (.int .i64 v1))] [] : St D0) zq20.K0 = zq20.o1 N v0 v1 := by kernel_rfl
def zq20.d1 (N : Nat) (v0 : Int) (v1 : Int) : Option zq20.R := zq20.o1 N v0 v1
theorem zq20.d1.run (N : Nat) (v0 : Int) (v1 : Int) : runC zq20.C (zq20.O N) N zq20.c15 15 (mkSt [(6, .one (.int .i64 v0)), (7, .one (.int .i64 v1))] [] : St D0) (zq20.K15 N) = zq20.d1 N v0 v1 := by
  exact (zq20.o1.run N v0 v1).trans rfl
def zq20.o0 (N : Nat) (a0 : Int) (a1 : Int) (c1 : Int → Int → Option zq20.R) : Option zq20.R :=
 bif (a1 == 0) then
  none
 else
 bif (a1 == 0) then
  none
 else
 bif (decide ((Int.tmod a0 a1) < 0)) then
  c1 (w64 ((w64 (Int.tdiv a0 a1)) - 1)) (w64 ((Int.tmod a0 a1) + a1))
 else
 c1 (w64 (Int.tdiv a0 a1)) (Int.tmod a0 a1)
theorem zq20.o0.run (N : Nat) (H15 : Code) (a0 : Int) (a1 : Int) : runC zq20.C (zq20.O N) N (.seq zq20.c2 (.seq zq20.c6 (.seq zq20.c14 H15))) 1 (st0 [.one (.int .i64 a0), .one (.int .i64 a1)] [] : St D0) zq20.K0 = zq20.o0 N a0 a1 ((fun w0 w1 => runC zq20.C (zq20.O N) N H15 15 (mkSt [(6, .one (.int .i64 w0)), (7, .one (.int .i64 w1))] [] : St D0) zq20.K0)) := by kernel_rfl
def zq20.g (N : Nat) (a0 : Int) (a1 : Int) : Option zq20.R := zq20.o0 N a0 a1 ((fun w0 w1 => zq20.d1 N w0 w1))
theorem zq20.c1_0 : zq20.c1 = (.seq zq20.c2 (.seq zq20.c6 (.seq zq20.c14 zq20.c15))) := by kernel_rfl
theorem zq20.g.run (N : Nat) (a0 : Int) (a1 : Int) : runC zq20.C (zq20.O N) N zq20.c1 1 (st0 [.one (.int .i64 a0), .one (.int .i64 a1)] [] : St D0) zq20.K0 = zq20.g N a0 a1 := by
  rw [zq20.c1_0]; unfold zq20.g; exact (zq20.o0.run N zq20.c15 a0 a1).trans (congr rfl (funext fun w0 => funext fun w1 => zq20.d1.run N w0 w1))
theorem zq20.good (N : Nat) (a0 : Int) (a1 : Int) (r : zq20.R) (h : zq20.g N a0 a1 = some r) : Go.PM.Good Try.prog T0 116 [.one (.int .i64 a0), .one (.int .i64 a1)] [] (zq20.sig.ret r) (zq20.sig.bs r) :=
  good_fn tabOk0 mixed0 zq20.sig (zq20.E N) Try.func116 (by kernel_rfl) (by kernel_rfl) 33011 0 0 [(14, [6, 7], [])] 875264 false [] [(false, [.any]), (false, [.any])] (by kernel_rfl) rfl rfl ((zq20.g.run N a0 a1).trans h)
def zq20.ent (N : Nat) : Ent Try.prog T0 := mkEnt 116 [(false, [.any]), (false, [.any])] zq20.sig (fun t => zq20.g N t.1 t.2) (fun t r h => zq20.good N t.1 t.2 r h)
/-! ### zq21 -/
abbrev zq21.R : Type := Int
abbrev zq21.sig : Sig := ⟨[(false, 1), (false, 1)], [], [.int .i64, .int .i64], [(false, 1)], [], [.int .i64]⟩
def zq21.C : Cfg D0 := ⟨Try.prog, T0, 83, 0, 15, 0, [(12, [0, 1], [])], 6944, false, []⟩
def zq21.E (N : Nat) : List (Ent Try.prog T0) := []
def zq21.O (N : Nat) : Orc D0 zq21.R := orcOf (zq21.E N)
def zq21.K0 : Ex → St D0 → Option zq21.R := exitK zq21.C Try.f110.results.toList [(false, [.any])] (decOut zq21.sig)
def zq21.c1 : Code := codeAt (Try.f110.body.getD .skip) []
def zq21.c2 : Code := codeAt (Try.f110.body.getD .skip) [false]
def zq21.c7 : Code := codeAt (Try.f110.body.getD .skip) [true, true]
def zq21.c24 : Code := codeAt (Try.f110.body.getD .skip) [true, false, false, false]
def zq21.K24 (N : Nat) (Kn12 : St D0 → Option zq21.R) : Ex → St D0 → Option zq21.R := ((fun up => (onN (fun s => zq21.C.tidy 12 s ((onN Kn12 up) .normal)) (onN Kn12 up))) (blockK 0 (onN (fun s => zq21.C.tidy 6 s (fun s' => runC zq21.C (zq21.O N) N zq21.c7 7 s' zq21.K0)) zq21.K0)))
def zq21.o1 (N : Nat) (v0 : Int) (v1 : Int) (c1 : Int → Int → Option zq21.R) : Option zq21.R :=
 bif (v1 != 0) then
  bif (v1 == 0) then
   none
  else
  c1 v1 (Int.tmod v0 v1)
 else
 some ((if (w64 (0 - v0)) > v0 then (w64 (0 - v0)) else v0))
theorem zq21.o1.run (N : Nat) (Kn12 : St D0 → Option zq21.R) (v0 : Int) (v1 : Int) : runC zq21.C (zq21.O N) N zq21.c24 24 (mkSt [(0, .one (.int .i64 v0)), (1, .one (.int .i64 v1))] [] : St D0) ((fun up => (onN (fun s => zq21.C.tidy 12 s ((onN Kn12 up) .normal)) (onN Kn12 up))) (blockK 0 (onN (fun s => zq21.C.tidy 6 s (fun s' => runC zq21.C (zq21.O N) N zq21.c7 7 s' zq21.K0)) zq21.K0))) = zq21.o1 N v0 v1 ((fun w0 w1 => Kn12 (mkSt [(0, .one (.int .i64 w0)), (1, .one (.int .i64 w1))] [] : St D0))) := by kernel_rfl
def zq21.d1 (N : Nat) (v0 : Int) (v1 : Int) (c1 : Int → Int → Option zq21.R) : Option zq21.R := zq21.o1 N v0 v1 c1
theorem zq21.d1.run (N : Nat) (Kn12 : St D0 → Option zq21.R) (v0 : Int) (v1 : Int) : runC zq21.C (zq21.O N) N zq21.c24 24 (mkSt [(0, .one (.int .i64 v0)), (1, .one (.int .i64 v1))] [] : St D0) (zq21.K24 N Kn12) = zq21.d1 N v0 v1 ((fun w0 w1 => Kn12 (mkSt [(0, .one (.int .i64 w0)), (1, .one (.int .i64 w1))] [] : St D0))) := by
  exact (zq21.o1.run N Kn12 v0 v1).trans rfl
def zq21.K12 (N : Nat) : Ex → St D0 → Option zq21.R := (blockK 0 (onN (fun s => zq21.C.tidy 6 s (fun s' => runC zq21.C (zq21.O N) N zq21.c7 7 s' zq21.K0)) zq21.K0))
def zq21.l1 (N : Nat) : Nat → Int → Int → Option zq21.R
  | 0, _, _ => none
  | n + 1, v0, v1 => zq21.d1 N v0 v1 ((fun w0 w1 => zq21.l1 N n w0 w1))
theorem zq21.loop12 (N : Nat) : ∀ n, (∀ (v0 : Int) (v1 : Int), iter (loopF zq21.C (zq21.O N) N zq21.c24 12) n (mkSt [(0, .one (.int .i64 v0)), (1, .one (.int .i64 v1))] [] : St D0) (zq21.K12 N) = zq21.l1 N n v0 v1)
  | 0 => (fun v0 v1 => rfl)
  | n + 1 => (fun v0 v1 => (zq21.d1.run N (fun s => iter (loopF zq21.C (zq21.O N) N zq21.c24 12) n s (zq21.K12 N)) v0 v1).trans (show _ = zq21.d1 N v0 v1 ((fun w0 w1 => zq21.l1 N n w0 w1)) from (congr rfl (funext fun w0 => funext fun w1 => (zq21.loop12 N n) w0 w1))))
def zq21.o0 (N : Nat) (a0 : Int) (a1 : Int) (c1 : Int → Int → Option zq21.R) : Option zq21.R :=
 c1 a0 a1
theorem zq21.o0.run (N : Nat) (H24 : Code) (a0 : Int) (a1 : Int) : runC zq21.C (zq21.O N) N (.seq zq21.c2 (.seq (.block 0 (.loop H24)) zq21.c7)) 1 (st0 [.one (.int .i64 a0), .one (.int .i64 a1)] [] : St D0) zq21.K0 = zq21.o0 N a0 a1 ((fun w0 w1 => iter (loopF zq21.C (zq21.O N) N H24 12) N (mkSt [(0, .one (.int .i64 w0)), (1, .one (.int .i64 w1))] [] : St D0) (blockK 0 (onN (fun s => zq21.C.tidy 6 s (fun s' => runC zq21.C (zq21.O N) N zq21.c7 7 s' zq21.K0)) zq21.K0)))) := by kernel_rfl
def zq21.g (N : Nat) (a0 : Int) (a1 : Int) : Option zq21.R := zq21.o0 N a0 a1 ((fun w0 w1 => zq21.l1 N N w0 w1))
theorem zq21.c1_0 : zq21.c1 = (.seq zq21.c2 (.seq (.block 0 (.loop zq21.c24)) zq21.c7)) := by kernel_rfl
theorem zq21.g.run (N : Nat) (a0 : Int) (a1 : Int) : runC zq21.C (zq21.O N) N zq21.c1 1 (st0 [.one (.int .i64 a0), .one (.int .i64 a1)] [] : St D0) zq21.K0 = zq21.g N a0 a1 := by
  rw [zq21.c1_0]; unfold zq21.g; exact (zq21.o0.run N zq21.c24 a0 a1).trans (congr rfl (funext fun w0 => funext fun w1 => (zq21.loop12 N N) w0 w1))
theorem zq21.good (N : Nat) (a0 : Int) (a1 : Int) (r : zq21.R) (h : zq21.g N a0 a1 = some r) : Go.PM.Good Try.prog T0 110 [.one (.int .i64 a0), .one (.int .i64 a1)] [] (zq21.sig.ret r) (zq21.sig.bs r) :=
  good_fn tabOk0 mixed0 zq21.sig (zq21.E N) Try.func110 (by kernel_rfl) (by kernel_rfl) 83 0 0 [(12, [0, 1], [])] 6944 false [] [(false, [.any])] (by kernel_rfl) rfl rfl ((zq21.g.run N a0 a1).trans h)
def zq21.ent (N : Nat) : Ent Try.prog T0 := mkEnt 110 [(false, [.any]), (false, [.any])] zq21.sig (fun t => zq21.g N t.1 t.2) (fun t r h => zq21.good N t.1 t.2 r h)
/-! ### zq27 -/
abbrev zq27.R : Type := Int × Int
abbrev zq27.sig : Sig := ⟨[(false, 1), (false, 1)], [], [.int .i64, .int .i64], [(true, 2)], [], [.int .i64, .int .i64]⟩
def zq27.C : Cfg D0 := ⟨Try.prog, T0, 211, 0, 24, 0, [], 3589632, false, []⟩
def zq27.E (N : Nat) : List (Ent Try.prog T0) := [zq20.ent N, zq21.ent N]
def zq27.O (N : Nat) : Orc D0 zq27.R := orcOf (zq27.E N)
def zq27.K0 : Ex → St D0 → Option zq27.R := exitK zq27.C Try.f91.results.toList [(true, [.any, .any])] (decOut zq27.sig)
def zq27.c1 : Code := codeAt (Try.f91.body.getD .skip) []
def zq27.o0 (N : Nat) (a0 : Int) (a1 : Int) : Option zq27.R :=
 (zq20.g N a0 a1).bind fun r1 =>
 (zq21.g N r1.2 a1).bind fun r2 =>
 bif (r2 == 0) then
  none
 else
 bif (r2 == 0) then
  none
 else
 some ((w64 (Int.tdiv r1.2 r2)), (w64 (Int.tdiv a1 r2)))
theorem zq27.o0.run (N : Nat) (a0 : Int) (a1 : Int) : runC zq27.C (zq27.O N) N zq27.c1 1 (st0 [.one (.int .i64 a0), .one (.int .i64 a1)] [] : St D0) zq27.K0 = zq27.o0 N a0 a1 := by kernel_rfl
def zq27.g (N : Nat) (a0 : Int) (a1 : Int) : Option zq27.R := zq27.o0 N a0 a1
theorem zq27.g.run (N : Nat) (a0 : Int) (a1 : Int) : runC zq27.C (zq27.O N) N zq27.c1 1 (st0 [.one (.int .i64 a0), .one (.int .i64 a1)] [] : St D0) zq27.K0 = zq27.g N a0 a1 := by
  exact (zq27.o0.run N a0 a1).trans rfl
theorem zq27.good (N : Nat) (a0 : Int) (a1 : Int) (r : zq27.R) (h : zq27.g N a0 a1 = some r) : Go.PM.Good Try.prog T0 91 [.one (.int .i64 a0), .one (.int .i64 a1)] [] (zq27.sig.ret r) (zq27.sig.bs r) :=
  good_fn tabOk0 mixed0 zq27.sig (zq27.E N) Try.func91 (by kernel_rfl) (by kernel_rfl) 211 0 0 [] 3589632 false [] [(true, [.any, .any])] (by kernel_rfl) rfl rfl ((zq27.g.run N a0 a1).trans h)
def zq27.ent (N : Nat) : Ent Try.prog T0 := mkEnt 91 [(false, [.any]), (false, [.any])] zq27.sig (fun t => zq27.g N t.1 t.2) (fun t r h => zq27.good N t.1 t.2 r h)
/-! ### zq17 -/
abbrev zq17.R : Type := Int × Int
abbrev zq17.sig : Sig := ⟨[(true, 2), (false, 1)], [], [.int .i64, .int .i64, .int .i64], [(true, 2)], [], [.int .i64, .int .i64]⟩
def zq17.C : Cfg D0 := ⟨Try.prog, T0, 23, 0, 12, 0, [], 128, false, []⟩
def zq17.E (N : Nat) : List (Ent Try.prog T0) := [zq27.ent N]
def zq17.O (N : Nat) : Orc D0 zq17.R := orcOf (zq17.E N)
def zq17.K0 : Ex → St D0 → Option zq17.R := exitK zq17.C Try.f65.results.toList [(true, [.any, .any])] (decOut zq17.sig)
def zq17.c1 : Code := codeAt (Try.f65.body.getD .skip) []
def zq17.o0 (N : Nat) (a0_0 : Int) (a0_1 : Int) (a1 : Int) : Option zq17.R :=
 (zq27.g N (w64 (a0_0 * a1)) a0_1).bind fun r1 =>
 some (r1.1, r1.2)
theorem zq17.o0.run (N : Nat) (a0_0 : Int) (a0_1 : Int) (a1 : Int) : runC zq17.C (zq17.O N) N zq17.c1 1 (st0 [.agg [.int .i64 a0_0, .int .i64 a0_1], .one (.int .i64 a1)] [] : St D0) zq17.K0 = zq17.o0 N a0_0 a0_1 a1 := by kernel_rfl
def zq17.g (N : Nat) (a0_0 : Int) (a0_1 : Int) (a1 : Int) : Option zq17.R := zq17.o0 N a0_0 a0_1 a1
theorem zq17.g.run (N : Nat) (a0_0 : Int) (a0_1 : Int) (a1 : Int) : runC zq17.C (zq17.O N) N zq17.c1 1 (st0 [.agg [.int .i64 a0_0, .int .i64 a0_1], .one (.int .i64 a1)] [] : St D0) zq17.K0 = zq17.g N a0_0 a0_1 a1 := by
  exact (zq17.o0.run N a0_0 a0_1 a1).trans rfl
theorem zq17.good (N : Nat) (a0_0 : Int) (a0_1 : Int) (a1 : Int) (r : zq17.R) (h : zq17.g N a0_0 a0_1 a1 = some r) : Go.PM.Good Try.prog T0 65 [.agg [.int .i64 a0_0, .int .i64 a0_1], .one (.int .i64 a1)] [] (zq17.sig.ret r) (zq17.sig.bs r) :=
  good_fn tabOk0 mixed0 zq17.sig (zq17.E N) Try.func65 (by kernel_rfl) (by kernel_rfl) 23 0 0 [] 128 false [] [(true, [.any, .any])] (by kernel_rfl) rfl rfl ((zq17.g.run N a0_0 a0_1 a1).trans h)
def zq17.ent (N : Nat) : Ent Try.prog T0 := mkEnt 65 [(true, [.any, .any]), (false, [.any])] zq17.sig (fun t => zq17.g N t.1 t.2.1 t.2.2) (fun t r h => zq17.good N t.1 t.2.1 t.2.2 r h)
/-! ### zq8 -/
abbrev zq8.R : Type := Bool
abbrev zq8.sig : Sig := ⟨[(true, 2)], [], [.int .i64, .int .i64], [(false, 1)], [], [.bool]⟩
def zq8.C : Cfg D0 := ⟨Try.prog, T0, 7, 0, 22, 0, [], 0, false, []⟩
def zq8.E (N : Nat) : List (Ent Try.prog T0) := [zq30.ent N, zq21.ent N]
def zq8.O (N : Nat) : Orc D0 zq8.R := orcOf (zq8.E N)
def zq8.K0 : Ex → St D0 → Option zq8.R := exitK zq8.C Try.f83.results.toList [(false, [.any])] (decOut zq8.sig)
def zq8.c1 : Code := codeAt (Try.f83.body.getD .skip) []
def zq8.o0 (N : Nat) (a0_0 : Int) (a0_1 : Int) : Option zq8.R :=
 (zq30.g N a0_1 1 1000000).bind fun r1 =>
 bif r1 then
  (zq30.g N a0_0 0 (w64 (a0_1 - 1))).bind fun r2 =>
  bif r2 then
   (zq21.g N a0_0 a0_1).bind fun r3 =>
   some ((r3 == 1))
  else
  some (false)
 else
 some (false)
theorem zq8.o0.run (N : Nat) (a0_0 : Int) (a0_1 : Int) : runC zq8.C (zq8.O N) N zq8.c1 1 (st0 [.agg [.int .i64 a0_0, .int .i64 a0_1]] [] : St D0) zq8.K0 = zq8.o0 N a0_0 a0_1 := by kernel_rfl
def zq8.g (N : Nat) (a0_0 : Int) (a0_1 : Int) : Option zq8.R := zq8.o0 N a0_0 a0_1
theorem zq8.g.run (N : Nat) (a0_0 : Int) (a0_1 : Int) : runC zq8.C (zq8.O N) N zq8.c1 1 (st0 [.agg [.int .i64 a0_0, .int .i64 a0_1]] [] : St D0) zq8.K0 = zq8.g N a0_0 a0_1 := by
  exact (zq8.o0.run N a0_0 a0_1).trans rfl
theorem zq8.good (N : Nat) (a0_0 : Int) (a0_1 : Int) (r : zq8.R) (h : zq8.g N a0_0 a0_1 = some r) : Go.PM.Good Try.prog T0 83 [.agg [.int .i64 a0_0, .int .i64 a0_1]] [] (zq8.sig.ret r) (zq8.sig.bs r) :=
  good_fn tabOk0 mixed0 zq8.sig (zq8.E N) Try.func83 (by kernel_rfl) (by kernel_rfl) 7 0 0 [] 0 false [] [(false, [.any])] (by kernel_rfl) rfl rfl ((zq8.g.run N a0_0 a0_1).trans h)
def zq8.ent (N : Nat) : Ent Try.prog T0 := mkEnt 83 [(true, [.any, .any])] zq8.sig (fun t => zq8.g N t.1 t.2) (fun t r h => zq8.good N t.1 t.2 r h)
/-! ### zq25 -/
abbrev zq25.R : Type := Bool
abbrev zq25.sig : Sig := ⟨[(false, 1), (true, 2)], [], [.int .i64, .int .i64, .int .i64], [(false, 1)], [], [.bool]⟩
def zq25.C : Cfg D0 := ⟨Try.prog, T0, 27, 0, 11, 0, [], 32, false, []⟩
def zq25.E (N : Nat) : List (Ent Try.prog T0) := [zq23.ent N, zq8.ent N]
def zq25.O (N : Nat) : Orc D0 zq25.R := orcOf (zq25.E N)
def zq25.K0 : Ex → St D0 → Option zq25.R := exitK zq25.C Try.f64.results.toList [(false, [.any])] (decOut zq25.sig)
def zq25.c1 : Code := codeAt (Try.f64.body.getD .skip) []
def zq25.o0 (N : Nat) (a0 : Int) (a1_0 : Int) (a1_1 : Int) : Option zq25.R :=
 (zq23.g N a0).bind fun r1 =>
 bif r1 then
  (zq8.g N a1_0 a1_1).bind fun r2 =>
  some (r2)
 else
 some (false)
theorem zq25.o0.run (N : Nat) (a0 : Int) (a1_0 : Int) (a1_1 : Int) : runC zq25.C (zq25.O N) N zq25.c1 1 (st0 [.one (.int .i64 a0), .agg [.int .i64 a1_0, .int .i64 a1_1]] [] : St D0) zq25.K0 = zq25.o0 N a0 a1_0 a1_1 := by kernel_rfl
def zq25.g (N : Nat) (a0 : Int) (a1_0 : Int) (a1_1 : Int) : Option zq25.R := zq25.o0 N a0 a1_0 a1_1
theorem zq25.g.run (N : Nat) (a0 : Int) (a1_0 : Int) (a1_1 : Int) : runC zq25.C (zq25.O N) N zq25.c1 1 (st0 [.one (.int .i64 a0), .agg [.int .i64 a1_0, .int .i64 a1_1]] [] : St D0) zq25.K0 = zq25.g N a0 a1_0 a1_1 := by
  exact (zq25.o0.run N a0 a1_0 a1_1).trans rfl
theorem zq25.good (N : Nat) (a0 : Int) (a1_0 : Int) (a1_1 : Int) (r : zq25.R) (h : zq25.g N a0 a1_0 a1_1 = some r) : Go.PM.Good Try.prog T0 64 [.one (.int .i64 a0), .agg [.int .i64 a1_0, .int .i64 a1_1]] [] (zq25.sig.ret r) (zq25.sig.bs r) :=
  good_fn tabOk0 mixed0 zq25.sig (zq25.E N) Try.func64 (by kernel_rfl) (by kernel_rfl) 27 0 0 [] 32 false [] [(false, [.any])] (by kernel_rfl) rfl rfl ((zq25.g.run N a0 a1_0 a1_1).trans h)
def zq25.ent (N : Nat) : Ent Try.prog T0 := mkEnt 64 [(false, [.any]), (true, [.any, .any])] zq25.sig (fun t => zq25.g N t.1 t.2.1 t.2.2) (fun t r h => zq25.good N t.1 t.2.1 t.2.2 r h)
/-! ### zq54 -/
abbrev zq54.R : Type := Int
abbrev zq54.sig : Sig := ⟨[(false, 1), (false, 1)], [], [.int .i64, .int .i64], [(false, 1)], [], [.int .i64]⟩
def zq54.C : Cfg D0 := ⟨Try.prog, T0, 83, 0, 12, 0, [(12, [0, 1], [])], 800, false, []⟩
def zq54.E (N : Nat) : List (Ent Try.prog T0) := []
def zq54.O (N : Nat) : Orc D0 zq54.R := orcOf (zq54.E N)
def zq54.K0 : Ex → St D0 → Option zq54.R := exitK zq54.C Try.f98.results.toList [(false, [.any])] (decOut zq54.sig)
def zq54.c1 : Code := codeAt (Try.f98.body.getD .skip) []
def zq54.c2 : Code := codeAt (Try.f98.body.getD .skip) [false]
def zq54.c7 : Code := codeAt (Try.f98.body.getD .skip) [true, true]
def zq54.c24 : Code := codeAt (Try.f98.body.getD .skip) [true, false, false, false]
def zq54.K24 (N : Nat) (Kn12 : St D0 → Option zq54.R) : Ex → St D0 → Option zq54.R := ((fun up => (onN (fun s => zq54.C.tidy 12 s ((onN Kn12 up) .normal)) (onN Kn12 up))) (blockK 0 (onN (fun s => zq54.C.tidy 6 s (fun s' => runC zq54.C (zq54.O N) N zq54.c7 7 s' zq54.K0)) zq54.K0)))
def zq54.o1 (N : Nat) (v0 : Int) (v1 : Int) (c1 : Int → Int → Option zq54.R) : Option zq54.R :=
 bif (decide (v1 > 0)) then
  bif (v1 == 0) then
   none
  else
  c1 v1 (Int.tmod v0 v1)
 else
 some (v0)
theorem zq54.o1.run (N : Nat) (Kn12 : St D0 → Option zq54.R) (v0 : Int) (v1 : Int) : runC zq54.C (zq54.O N) N zq54.c24 24 (mkSt [(0, .one (.int .i64 v0)), (1, .one (.int .i64 v1))] [] : St D0) ((fun up => (onN (fun s => zq54.C.tidy 12 s ((onN Kn12 up) .normal)) (onN Kn12 up))) (blockK 0 (onN (fun s => zq54.C.tidy 6 s (fun s' => runC zq54.C (zq54.O N) N zq54.c7 7 s' zq54.K0)) zq54.K0))) = zq54.o1 N v0 v1 ((fun w0 w1 => Kn12 (mkSt [(0, .one (.int .i64 w0)), (1, .one (.int .i64 w1))] [] : St D0))) := by kernel_rfl
def zq54.d1 (N : Nat) (v0 : Int) (v1 : Int) (c1 : Int → Int → Option zq54.R) : Option zq54.R := zq54.o1 N v0 v1 c1
theorem zq54.d1.run (N : Nat) (Kn12 : St D0 → Option zq54.R) (v0 : Int) (v1 : Int) : runC zq54.C (zq54.O N) N zq54.c24 24 (mkSt [(0, .one (.int .i64 v0)), (1, .one (.int .i64 v1))] [] : St D0) (zq54.K24 N Kn12) = zq54.d1 N v0 v1 ((fun w0 w1 => Kn12 (mkSt [(0, .one (.int .i64 w0)), (1, .one (.int .i64 w1))] [] : St D0))) := by
  exact (zq54.o1.run N Kn12 v0 v1).trans rfl
def zq54.K12 (N : Nat) : Ex → St D0 → Option zq54.R := (blockK 0 (onN (fun s => zq54.C.tidy 6 s (fun s' => runC zq54.C (zq54.O N) N zq54.c7 7 s' zq54.K0)) zq54.K0))
def zq54.l1 (N : Nat) : Nat → Int → Int → Option zq54.R
  | 0, _, _ => none
  | n + 1, v0, v1 => zq54.d1 N v0 v1 ((fun w0 w1 => zq54.l1 N n w0 w1))
theorem zq54.loop12 (N : Nat) : ∀ n, (∀ (v0 : Int) (v1 : Int), iter (loopF zq54.C (zq54.O N) N zq54.c24 12) n (mkSt [(0, .one (.int .i64 v0)), (1, .one (.int .i64 v1))] [] : St D0) (zq54.K12 N) = zq54.l1 N n v0 v1)
  | 0 => (fun v0 v1 => rfl)
  | n + 1 => (fun v0 v1 => (zq54.d1.run N (fun s => iter (loopF zq54.C (zq54.O N) N zq54.c24 12) n s (zq54.K12 N)) v0 v1).trans (show _ = zq54.d1 N v0 v1 ((fun w0 w1 => zq54.l1 N n w0 w1)) from (congr rfl (funext fun w0 => funext fun w1 => (zq54.loop12 N n) w0 w1))))
def zq54.o0 (N : Nat) (a0 : Int) (a1 : Int) (c1 : Int → Int → Option zq54.R) : Option zq54.R :=
 c1 a0 a1
theorem zq54.o0.run (N : Nat) (H24 : Code) (a0 : Int) (a1 : Int) : runC zq54.C (zq54.O N) N (.seq zq54.c2 (.seq (.block 0 (.loop H24)) zq54.c7)) 1 (st0 [.one (.int .i64 a0), .one (.int .i64 a1)] [] : St D0) zq54.K0 = zq54.o0 N a0 a1 ((fun w0 w1 => iter (loopF zq54.C (zq54.O N) N H24 12) N (mkSt [(0, .one (.int .i64 w0)), (1, .one (.int .i64 w1))] [] : St D0) (blockK 0 (onN (fun s => zq54.C.tidy 6 s (fun s' => runC zq54.C (zq54.O N) N zq54.c7 7 s' zq54.K0)) zq54.K0)))) := by kernel_rfl
def zq54.g (N : Nat) (a0 : Int) (a1 : Int) : Option zq54.R := zq54.o0 N a0 a1 ((fun w0 w1 => zq54.l1 N N w0 w1))
theorem zq54.c1_0 : zq54.c1 = (.seq zq54.c2 (.seq (.block 0 (.loop zq54.c24)) zq54.c7)) := by kernel_rfl
theorem zq54.g.run (N : Nat) (a0 : Int) (a1 : Int) : runC zq54.C (zq54.O N) N zq54.c1 1 (st0 [.one (.int .i64 a0), .one (.int .i64 a1)] [] : St D0) zq54.K0 = zq54.g N a0 a1 := by
  rw [zq54.c1_0]; unfold zq54.g; exact (zq54.o0.run N zq54.c24 a0 a1).trans (congr rfl (funext fun w0 => funext fun w1 => (zq54.loop12 N N) w0 w1))
theorem zq54.good (N : Nat) (a0 : Int) (a1 : Int) (r : zq54.R) (h : zq54.g N a0 a1 = some r) : Go.PM.Good Try.prog T0 98 [.one (.int .i64 a0), .one (.int .i64 a1)] [] (zq54.sig.ret r) (zq54.sig.bs r) :=
  good_fn tabOk0 mixed0 zq54.sig (zq54.E N) Try.func98 (by kernel_rfl) (by kernel_rfl) 83 0 0 [(12, [0, 1], [])] 800 false [] [(false, [.any])] (by kernel_rfl) rfl rfl ((zq54.g.run N a0 a1).trans h)
def zq54.ent (N : Nat) : Ent Try.prog T0 := mkEnt 98 [(false, [.any]), (false, [.any])] zq54.sig (fun t => zq54.g N t.1 t.2) (fun t r h => zq54.good N t.1 t.2 r h)
/-! ### zq58 -/
abbrev zq58.R : Type := Int × Int × Bool
abbrev zq58.sig : Sig := ⟨[(false, 1), (false, 1)], [], [.int .i64, .int .i64], [(true, 2), (false, 1)], [], [.int .i64, .int .i64, .bool]⟩
def zq58.C : Cfg D0 := ⟨Try.prog, T0, 134217971, 0, 30, 0, [], 7187200, false, []⟩
def zq58.E (N : Nat) : List (Ent Try.prog T0) := [zq54.ent N]
def zq58.O (N : Nat) : Orc D0 zq58.R := orcOf (zq58.E N)
def zq58.K0 : Ex → St D0 → Option zq58.R := exitK zq58.C Try.f56.results.toList [(true, [.any, .any]), (false, [.any])] (decOut zq58.sig)
def zq58.c1 : Code := codeAt (Try.f56.body.getD .skip) []
def zq58.o0 (N : Nat) (a0 : Int) (a1 : Int) : Option zq58.R :=
 bif (a1 == 0) then
  none
 else
 bif (a1 == 0) then
  none
 else
 (zq54.g N (Int.tmod (w64 ((Int.tmod a0 a1) + a1)) a1) a1).bind fun r1 =>
 bif (r1 == 0) then
  none
 else
 bif (r1 == 0) then
  none
 else
 bif (decide ((w64 (Int.tdiv a1 r1)) > 1000000)) then
  some (0, 0, false)
 else
 some ((w64 (Int.tdiv (Int.tmod (w64 ((Int.tmod a0 a1) + a1)) a1) r1)), (w64 (Int.tdiv a1 r1)), true)
theorem zq58.o0.run (N : Nat) (a0 : Int) (a1 : Int) : runC zq58.C (zq58.O N) N zq58.c1 1 (st0 [.one (.int .i64 a0), .one (.int .i64 a1)] [] : St D0) zq58.K0 = zq58.o0 N a0 a1 := by kernel_rfl
def zq58.g (N : Nat) (a0 : Int) (a1 : Int) : Option zq58.R := zq58.o0 N a0 a1
theorem zq58.g.run (N : Nat) (a0 : Int) (a1 : Int) : runC zq58.C (zq58.O N) N zq58.c1 1 (st0 [.one (.int .i64 a0), .one (.int .i64 a1)] [] : St D0) zq58.K0 = zq58.g N a0 a1 := by
  exact (zq58.o0.run N a0 a1).trans rfl
theorem zq58.good (N : Nat) (a0 : Int) (a1 : Int) (r : zq58.R) (h : zq58.g N a0 a1 = some r) : Go.PM.Good Try.prog T0 56 [.one (.int .i64 a0), .one (.int .i64 a1)] [] (zq58.sig.ret r) (zq58.sig.bs r) :=
  good_fn tabOk0 mixed0 zq58.sig (zq58.E N) Try.func56 (by kernel_rfl) (by kernel_rfl) 134217971 0 0 [] 7187200 false [] [(true, [.any, .any]), (false, [.any])] (by kernel_rfl) rfl rfl ((zq58.g.run N a0 a1).trans h)
def zq58.ent (N : Nat) : Ent Try.prog T0 := mkEnt 56 [(false, [.any]), (false, [.any])] zq58.sig (fun t => zq58.g N t.1 t.2) (fun t r h => zq58.good N t.1 t.2 r h)
/-! ### zq60 -/
abbrev zq60.R : Type := Int × Int
abbrev zq60.sig : Sig := ⟨[(true, 2), (false, 1)], [], [.int .i64, .int .i64, .int .i64], [(true, 2)], [], [.int .i64, .int .i64]⟩
def zq60.C : Cfg D0 := ⟨Try.prog, T0, 55, 0, 18, 0, [], 1024, false, []⟩
def zq60.E (N : Nat) : List (Ent Try.prog T0) := [zq58.ent N]
def zq60.O (N : Nat) : Orc D0 zq60.R := orcOf (zq60.E N)
def zq60.K0 : Ex → St D0 → Option zq60.R := exitK zq60.C Try.f63.results.toList [(true, [.any, .any])] (decOut zq60.sig)
def zq60.c1 : Code := codeAt (Try.f63.body.getD .skip) []
def zq60.o0 (N : Nat) (a0_0 : Int) (a0_1 : Int) (a1 : Int) : Option zq60.R :=
 (zq58.g N (w64 (a0_0 * a1)) a0_1).bind fun r1 =>
 some (r1.1, r1.2.1)
theorem zq60.o0.run (N : Nat) (a0_0 : Int) (a0_1 : Int) (a1 : Int) : runC zq60.C (zq60.O N) N zq60.c1 1 (st0 [.agg [.int .i64 a0_0, .int .i64 a0_1], .one (.int .i64 a1)] [] : St D0) zq60.K0 = zq60.o0 N a0_0 a0_1 a1 := by kernel_rfl
def zq60.g (N : Nat) (a0_0 : Int) (a0_1 : Int) (a1 : Int) : Option zq60.R := zq60.o0 N a0_0 a0_1 a1
theorem zq60.g.run (N : Nat) (a0_0 : Int) (a0_1 : Int) (a1 : Int) : runC zq60.C (zq60.O N) N zq60.c1 1 (st0 [.agg [.int .i64 a0_0, .int .i64 a0_1], .one (.int .i64 a1)] [] : St D0) zq60.K0 = zq60.g N a0_0 a0_1 a1 := by
  exact (zq60.o0.run N a0_0 a0_1 a1).trans rfl
theorem zq60.good (N : Nat) (a0_0 : Int) (a0_1 : Int) (a1 : Int) (r : zq60.R) (h : zq60.g N a0_0 a0_1 a1 = some r) : Go.PM.Good Try.prog T0 63 [.agg [.int .i64 a0_0, .int .i64 a0_1], .one (.int .i64 a1)] [] (zq60.sig.ret r) (zq60.sig.bs r) :=
  good_fn tabOk0 mixed0 zq60.sig (zq60.E N) Try.func63 (by kernel_rfl) (by kernel_rfl) 55 0 0 [] 1024 false [] [(true, [.any, .any])] (by kernel_rfl) rfl rfl ((zq60.g.run N a0_0 a0_1 a1).trans h)
def zq60.ent (N : Nat) : Ent Try.prog T0 := mkEnt 63 [(true, [.any, .any]), (false, [.any])] zq60.sig (fun t => zq60.g N t.1 t.2.1 t.2.2) (fun t r h => zq60.good N t.1 t.2.1 t.2.2 r h)
/-! ### zq56 -/
abbrev zq56.R : Type := Bool
abbrev zq56.sig : Sig := ⟨[(true, 2)], [], [.int .i64, .int .i64], [(false, 1)], [], [.bool]⟩
def zq56.C : Cfg D0 := ⟨Try.prog, T0, 7, 0, 22, 0, [], 0, false, []⟩
def zq56.E (N : Nat) : List (Ent Try.prog T0) := [zq69.ent N, zq54.ent N]
def zq56.O (N : Nat) : Orc D0 zq56.R := orcOf (zq56.E N)
def zq56.K0 : Ex → St D0 → Option zq56.R := exitK zq56.C Try.f100.results.toList [(false, [.any])] (decOut zq56.sig)
def zq56.c1 : Code := codeAt (Try.f100.body.getD .skip) []
def zq56.o0 (N : Nat) (a0_0 : Int) (a0_1 : Int) : Option zq56.R :=
 (zq69.g N a0_1 1 1000000).bind fun r1 =>
 bif r1 then
  (zq69.g N a0_0 0 (w64 (a0_1 - 1))).bind fun r2 =>
  bif r2 then
   (zq54.g N a0_0 a0_1).bind fun r3 =>
   some ((r3 == 1))
  else
  some (false)
 else
 some (false)
theorem zq56.o0.run (N : Nat) (a0_0 : Int) (a0_1 : Int) : runC zq56.C (zq56.O N) N zq56.c1 1 (st0 [.agg [.int .i64 a0_0, .int .i64 a0_1]] [] : St D0) zq56.K0 = zq56.o0 N a0_0 a0_1 := by kernel_rfl
def zq56.g (N : Nat) (a0_0 : Int) (a0_1 : Int) : Option zq56.R := zq56.o0 N a0_0 a0_1
theorem zq56.g.run (N : Nat) (a0_0 : Int) (a0_1 : Int) : runC zq56.C (zq56.O N) N zq56.c1 1 (st0 [.agg [.int .i64 a0_0, .int .i64 a0_1]] [] : St D0) zq56.K0 = zq56.g N a0_0 a0_1 := by
  exact (zq56.o0.run N a0_0 a0_1).trans rfl
theorem zq56.good (N : Nat) (a0_0 : Int) (a0_1 : Int) (r : zq56.R) (h : zq56.g N a0_0 a0_1 = some r) : Go.PM.Good Try.prog T0 100 [.agg [.int .i64 a0_0, .int .i64 a0_1]] [] (zq56.sig.ret r) (zq56.sig.bs r) :=
  good_fn tabOk0 mixed0 zq56.sig (zq56.E N) Try.func100 (by kernel_rfl) (by kernel_rfl) 7 0 0 [] 0 false [] [(false, [.any])] (by kernel_rfl) rfl rfl ((zq56.g.run N a0_0 a0_1).trans h)
def zq56.ent (N : Nat) : Ent Try.prog T0 := mkEnt 100 [(true, [.any, .any])] zq56.sig (fun t => zq56.g N t.1 t.2) (fun t r h => zq56.good N t.1 t.2 r h)
/-! ### zq53 -/
abbrev zq53.R : Type := Bool
abbrev zq53.sig : Sig := ⟨[(false, 1), (true, 2)], [], [.int .i64, .int .i64, .int .i64], [(false, 1)], [], [.bool]⟩
def zq53.C : Cfg D0 := ⟨Try.prog, T0, 27, 0, 11, 0, [], 32, false, []⟩
def zq53.E (N : Nat) : List (Ent Try.prog T0) := [zq57.ent N, zq56.ent N]
def zq53.O (N : Nat) : Orc D0 zq53.R := orcOf (zq53.E N)
def zq53.K0 : Ex → St D0 → Option zq53.R := exitK zq53.C Try.f59.results.toList [(false, [.any])] (decOut zq53.sig)
def zq53.c1 : Code := codeAt (Try.f59.body.getD .skip) []
def zq53.o0 (N : Nat) (a0 : Int) (a1_0 : Int) (a1_1 : Int) : Option zq53.R :=
 (zq57.g N a0).bind fun r1 =>
 bif r1 then
  (zq56.g N a1_0 a1_1).bind fun r2 =>
  some (r2)
 else
 some (false)
theorem zq53.o0.run (N : Nat) (a0 : Int) (a1_0 : Int) (a1_1 : Int) : runC zq53.C (zq53.O N) N zq53.c1 1 (st0 [.one (.int .i64 a0), .agg [.int .i64 a1_0, .int .i64 a1_1]] [] : St D0) zq53.K0 = zq53.o0 N a0 a1_0 a1_1 := by kernel_rfl
def zq53.g (N : Nat) (a0 : Int) (a1_0 : Int) (a1_1 : Int) : Option zq53.R := zq53.o0 N a0 a1_0 a1_1
theorem zq53.g.run (N : Nat) (a0 : Int) (a1_0 : Int) (a1_1 : Int) : runC zq53.C (zq53.O N) N zq53.c1 1 (st0 [.one (.int .i64 a0), .agg [.int .i64 a1_0, .int .i64 a1_1]] [] : St D0) zq53.K0 = zq53.g N a0 a1_0 a1_1 := by
  exact (zq53.o0.run N a0 a1_0 a1_1).trans rfl
theorem zq53.good (N : Nat) (a0 : Int) (a1_0 : Int) (a1_1 : Int) (r : zq53.R) (h : zq53.g N a0 a1_0 a1_1 = some r) : Go.PM.Good Try.prog T0 59 [.one (.int .i64 a0), .agg [.int .i64 a1_0, .int .i64 a1_1]] [] (zq53.sig.ret r) (zq53.sig.bs r) :=
  good_fn tabOk0 mixed0 zq53.sig (zq53.E N) Try.func59 (by kernel_rfl) (by kernel_rfl) 27 0 0 [] 32 false [] [(false, [.any])] (by kernel_rfl) rfl rfl ((zq53.g.run N a0 a1_0 a1_1).trans h)
def zq53.ent (N : Nat) : Ent Try.prog T0 := mkEnt 59 [(false, [.any]), (true, [.any, .any])] zq53.sig (fun t => zq53.g N t.1 t.2.1 t.2.2) (fun t r h => zq53.good N t.1 t.2.1 t.2.2 r h)
/-! ### zq19 -/
abbrev zq19.R : Type := Bool
abbrev zq19.sig : Sig := ⟨[(true, 2)], [], [.int .i64, .int .i64], [(false, 1)], [], [.bool]⟩
def zq19.C : Cfg D0 := ⟨Try.prog, T0, 7, 0, 6, 0, [], 0, false, []⟩
def zq19.E (N : Nat) : List (Ent Try.prog T0) := [zq8.ent N]
def zq19.O (N : Nat) : Orc D0 zq19.R := orcOf (zq19.E N)
def zq19.K0 : Ex → St D0 → Option zq19.R := exitK zq19.C Try.f104.results.toList [(false, [.any])] (decOut zq19.sig)
def zq19.c1 : Code := codeAt (Try.f104.body.getD .skip) []
def zq19.o0 (N : Nat) (a0_0 : Int) (a0_1 : Int) : Option zq19.R :=
 (zq8.g N a0_0 a0_1).bind fun r1 =>
 some ((!r1))
theorem zq19.o0.run (N : Nat) (a0_0 : Int) (a0_1 : Int) : runC zq19.C (zq19.O N) N zq19.c1 1 (st0 [.agg [.int .i64 a0_0, .int .i64 a0_1]] [] : St D0) zq19.K0 = zq19.o0 N a0_0 a0_1 := by kernel_rfl
def zq19.g (N : Nat) (a0_0 : Int) (a0_1 : Int) : Option zq19.R := zq19.o0 N a0_0 a0_1
theorem zq19.g.run (N : Nat) (a0_0 : Int) (a0_1 : Int) : runC zq19.C (zq19.O N) N zq19.c1 1 (st0 [.agg [.int .i64 a0_0, .int .i64 a0_1]] [] : St D0) zq19.K0 = zq19.g N a0_0 a0_1 := by
  exact (zq19.o0.run N a0_0 a0_1).trans rfl
theorem zq19.good (N : Nat) (a0_0 : Int) (a0_1 : Int) (r : zq19.R) (h : zq19.g N a0_0 a0_1 = some r) : Go.PM.Good Try.prog T0 104 [.agg [.int .i64 a0_0, .int .i64 a0_1]] [] (zq19.sig.ret r) (zq19.sig.bs r) :=
  good_fn tabOk0 mixed0 zq19.sig (zq19.E N) Try.func104 (by kernel_rfl) (by kernel_rfl) 7 0 0 [] 0 false [] [(false, [.any])] (by kernel_rfl) rfl rfl ((zq19.g.run N a0_0 a0_1).trans h)
def zq19.ent (N : Nat) : Ent Try.prog T0 := mkEnt 104 [(true, [.any, .any])] zq19.sig (fun t => zq19.g N t.1 t.2) (fun t r h => zq19.good N t.1 t.2 r h)
/-! ### zq38 -/
abbrev zq38.R : Type := Int
abbrev zq38.sig : Sig := ⟨[(false, 1), (false, 1)], [], [.sl false 25, .fn 104 []], [(false, 1)], [], [.int .i64]⟩
def zq38.C : Cfg D0 := ⟨Try.prog, T0, 66483, 0, 19, 0, [(26, [0, 1, 7, 8], [])], 14400, false, []⟩
def zq38.E (N : Nat) : List (Ent Try.prog T0) := [zq19.ent N]
def zq38.O (N : Nat) : Orc D0 zq38.R := orcOf (zq38.E N)
def zq38.K0 : Ex → St D0 → Option zq38.R := exitK zq38.C Try.f117.results.toList [(false, [.any])] (decOut zq38.sig)
def zq38.c1 : Code := codeAt (Try.f117.body.getD .skip) []
def zq38.c2 : Code := codeAt (Try.f117.body.getD .skip) [false]
def zq38.c7 : Code := codeAt (Try.f117.body.getD .skip) [true, true]
def zq38.c12 : Code := codeAt (Try.f117.body.getD .skip) [true, false, false]
def zq38.c52 : Code := codeAt (Try.f117.body.getD .skip) [true, false, true, false, false]
def zq38.K52 (N : Nat) (Kn26 : St D0 → Option zq38.R) : Ex → St D0 → Option zq38.R := ((fun up => (onN (fun s => zq38.C.tidy 26 s ((onN Kn26 up) .normal)) (onN Kn26 up))) (blockK 0 (onN (fun s => zq38.C.tidy 6 s (fun s' => runC zq38.C (zq38.O N) N zq38.c7 7 s' zq38.K0)) zq38.K0)))
def zq38.o1 (N : Nat) (v0 : List S25) (v1 : Int) (v2 : Int) (c1 : (List S25) → Int → Int → Option zq38.R) : Option zq38.R :=
 bif (decide (v2 < v1)) then
  bif (decide (0 ≤ v2)) then
   bif (decide (v2 < (v0.length : Int))) then
    (v0[(v2 : Int).toNat]?).bind fun x1 =>
    (zq19.g N x1.f0 x1.f1).bind fun r2 =>
    bif r2 then
     some (v2)
    else
    c1 v0 v1 (w64 (v2 + 1))
   else
   none
  else
  none
 else
 some ((-1))
theorem zq38.o1.run (N : Nat) (Kn26 : St D0 → Option zq38.R) (v0 : List S25) (v1 : Int) (v2 : Int) : runC zq38.C (zq38.O N) N zq38.c52 52 (mkSt [(0, .one (.sl false 25 v0)), (1, .one (.fn 104 [])), (7, .one (.int .i64 v1)), (8, .one (.int .i64 v2))] [] : St D0) ((fun up => (onN (fun s => zq38.C.tidy 26 s ((onN Kn26 up) .normal)) (onN Kn26 up))) (blockK 0 (onN (fun s => zq38.C.tidy 6 s (fun s' => runC zq38.C (zq38.O N) N zq38.c7 7 s' zq38.K0)) zq38.K0))) = zq38.o1 N v0 v1 v2 ((fun w0 w1 w2 => Kn26 (mkSt [(0, .one (.sl false 25 w0)), (1, .one (.fn 104 [])), (7, .one (.int .i64 w1)), (8, .one (.int .i64 w2))] [] : St D0))) := by kernel_rfl
def zq38.d1 (N : Nat) (v0 : List S25) (v1 : Int) (v2 : Int) (c1 : (List S25) → Int → Int → Option zq38.R) : Option zq38.R := zq38.o1 N v0 v1 v2 c1
theorem zq38.d1.run (N : Nat) (Kn26 : St D0 → Option zq38.R) (v0 : List S25) (v1 : Int) (v2 : Int) : runC zq38.C (zq38.O N) N zq38.c52 52 (mkSt [(0, .one (.sl false 25 v0)), (1, .one (.fn 104 [])), (7, .one (.int .i64 v1)), (8, .one (.int .i64 v2))] [] : St D0) (zq38.K52 N Kn26) = zq38.d1 N v0 v1 v2 ((fun w0 w1 w2 => Kn26 (mkSt [(0, .one (.sl false 25 w0)), (1, .one (.fn 104 [])), (7, .one (.int .i64 w1)), (8, .one (.int .i64 w2))] [] : St D0))) := by
  exact (zq38.o1.run N Kn26 v0 v1 v2).trans rfl
def zq38.K26 (N : Nat) : Ex → St D0 → Option zq38.R := (blockK 0 (onN (fun s => zq38.C.tidy 6 s (fun s' => runC zq38.C (zq38.O N) N zq38.c7 7 s' zq38.K0)) zq38.K0))
def zq38.l1 (N : Nat) : Nat → (List S25) → Int → Int → Option zq38.R
  | 0, _, _, _ => none
  | n + 1, v0, v1, v2 => zq38.d1 N v0 v1 v2 ((fun w0 w1 w2 => zq38.l1 N n w0 w1 w2))
theorem zq38.loop26 (N : Nat) : ∀ n, (∀ (v0 : List S25) (v1 : Int) (v2 : Int), iter (loopF zq38.C (zq38.O N) N zq38.c52 26) n (mkSt [(0, .one (.sl false 25 v0)), (1, .one (.fn 104 [])), (7, .one (.int .i64 v1)), (8, .one (.int .i64 v2))] [] : St D0) (zq38.K26 N) = zq38.l1 N n v0 v1 v2)
  | 0 => (fun v0 v1 v2 => rfl)
  | n + 1 => (fun v0 v1 v2 => (zq38.d1.run N (fun s => iter (loopF zq38.C (zq38.O N) N zq38.c52 26) n s (zq38.K26 N)) v0 v1 v2).trans (show _ = zq38.d1 N v0 v1 v2 ((fun w0 w1 w2 => zq38.l1 N n w0 w1 w2)) from (congr rfl (funext fun w0 => funext fun w1 => funext fun w2 => (zq38.loop26 N n) w0 w1 w2))))
def zq38.o0 (N : Nat) (a0 : List S25) (c1 : (List S25) → Int → Int → Option zq38.R) : Option zq38.R :=
 c1 a0 (a0.length : Int) 0
theorem zq38.o0.run (N : Nat) (H52 : Code) (a0 : List S25) : runC zq38.C (zq38.O N) N (.seq zq38.c2 (.seq (.seq zq38.c12 (.block 0 (.loop H52))) zq38.c7)) 1 (st0 [.one (.sl false 25 a0), .one (.fn 104 [])] [] : St D0) zq38.K0 = zq38.o0 N a0 ((fun w0 w1 w2 => iter (loopF zq38.C (zq38.O N) N H52 26) N (mkSt [(0, .one (.sl false 25 w0)), (1, .one (.fn 104 [])), (7, .one (.int .i64 w1)), (8, .one (.int .i64 w2))] [] : St D0) (blockK 0 (onN (fun s => zq38.C.tidy 6 s (fun s' => runC zq38.C (zq38.O N) N zq38.c7 7 s' zq38.K0)) zq38.K0)))) := by kernel_rfl
def zq38.g (N : Nat) (a0 : List S25) : Option zq38.R := zq38.o0 N a0 ((fun w0 w1 w2 => zq38.l1 N N w0 w1 w2))
theorem zq38.c1_0 : zq38.c1 = (.seq zq38.c2 (.seq (.seq zq38.c12 (.block 0 (.loop zq38.c52))) zq38.c7)) := by kernel_rfl
theorem zq38.g.run (N : Nat) (a0 : List S25) : runC zq38.C (zq38.O N) N zq38.c1 1 (st0 [.one (.sl false 25 a0), .one (.fn 104 [])] [] : St D0) zq38.K0 = zq38.g N a0 := by
  rw [zq38.c1_0]; unfold zq38.g; exact (zq38.o0.run N zq38.c52 a0).trans (congr rfl (funext fun w0 => funext fun w1 => funext fun w2 => (zq38.loop26 N N) w0 w1 w2))
theorem zq38.good (N : Nat) (a0 : List S25) (r : zq38.R) (h : zq38.g N a0 = some r) : Go.PM.Good Try.prog T0 117 [.one (.sl false 25 a0), .one (.fn 104 [])] [] (zq38.sig.ret r) (zq38.sig.bs r) :=
  good_fn tabOk0 mixed0 zq38.sig (zq38.E N) Try.func117 (by kernel_rfl) (by kernel_rfl) 66483 0 0 [(26, [0, 1, 7, 8], [])] 14400 false [] [(false, [.any])] (by kernel_rfl) rfl rfl ((zq38.g.run N a0).trans h)
def zq38.ent (N : Nat) : Ent Try.prog T0 := mkEnt 117 [(false, [.ro 25]), (false, [.any])] zq38.sig (fun t => zq38.g N t.1) (fun t r h => zq38.good N t.1 r h)
/-! ### zq37 -/
abbrev zq37.R : Type := Bool
abbrev zq37.sig : Sig := ⟨[(false, 1), (false, 1)], [], [.sl false 25, .fn 104 []], [(false, 1)], [], [.bool]⟩
def zq37.C : Cfg D0 := ⟨Try.prog, T0, 19, 0, 9, 0, [], 96, false, []⟩
def zq37.E (N : Nat) : List (Ent Try.prog T0) := [zq38.ent N]
def zq37.O (N : Nat) : Orc D0 zq37.R := orcOf (zq37.E N)
def zq37.K0 : Ex → St D0 → Option zq37.R := exitK zq37.C Try.f103.results.toList [(false, [.any])] (decOut zq37.sig)
def zq37.c1 : Code := codeAt (Try.f103.body.getD .skip) []
def zq37.o0 (N : Nat) (a0 : List S25) : Option zq37.R :=
 (zq38.g N a0).bind fun r1 =>
 some ((decide (r1 ≥ 0)))
theorem zq37.o0.run (N : Nat) (a0 : List S25) : runC zq37.C (zq37.O N) N zq37.c1 1 (st0 [.one (.sl false 25 a0), .one (.fn 104 [])] [] : St D0) zq37.K0 = zq37.o0 N a0 := by kernel_rfl
def zq37.g (N : Nat) (a0 : List S25) : Option zq37.R := zq37.o0 N a0
theorem zq37.g.run (N : Nat) (a0 : List S25) : runC zq37.C (zq37.O N) N zq37.c1 1 (st0 [.one (.sl false 25 a0), .one (.fn 104 [])] [] : St D0) zq37.K0 = zq37.g N a0 := by
  exact (zq37.o0.run N a0).trans rfl
theorem zq37.good (N : Nat) (a0 : List S25) (r : zq37.R) (h : zq37.g N a0 = some r) : Go.PM.Good Try.prog T0 103 [.one (.sl false 25 a0), .one (.fn 104 [])] [] (zq37.sig.ret r) (zq37.sig.bs r) :=
  good_fn tabOk0 mixed0 zq37.sig (zq37.E N) Try.func103 (by kernel_rfl) (by kernel_rfl) 19 0 0 [] 96 false [] [(false, [.any])] (by kernel_rfl) rfl rfl ((zq37.g.run N a0).trans h)
def zq37.ent (N : Nat) : Ent Try.prog T0 := mkEnt 103 [(false, [.ro 25]), (false, [.any])] zq37.sig (fun t => zq37.g N t.1) (fun t r h => zq37.good N t.1 r h)
/-! ### zq18 -/
abbrev zq18.R : Type := Bool
abbrev zq18.sig : Sig := ⟨[(false, 1)], [], [.sl false 25], [(false, 1)], [], [.bool]⟩
def zq18.C : Cfg D0 := ⟨Try.prog, T0, 5, 0, 6, 0, [], 8, false, []⟩
def zq18.E (N : Nat) : List (Ent Try.prog T0) := [zq37.ent N]
def zq18.O (N : Nat) : Orc D0 zq18.R := orcOf (zq18.E N)
def zq18.K0 : Ex → St D0 → Option zq18.R := exitK zq18.C Try.f69.results.toList [(false, [.any])] (decOut zq18.sig)
def zq18.c1 : Code := codeAt (Try.f69.body.getD .skip) []
def zq18.o0 (N : Nat) (a0 : List S25) : Option zq18.R :=
 (zq37.g N a0).bind fun r1 =>
 some ((!r1))
theorem zq18.o0.run (N : Nat) (a0 : List S25) : runC zq18.C (zq18.O N) N zq18.c1 1 (st0 [.one (.sl false 25 a0)] [] : St D0) zq18.K0 = zq18.o0 N a0 := by kernel_rfl
def zq18.g (N : Nat) (a0 : List S25) : Option zq18.R := zq18.o0 N a0
theorem zq18.g.run (N : Nat) (a0 : List S25) : runC zq18.C (zq18.O N) N zq18.c1 1 (st0 [.one (.sl false 25 a0)] [] : St D0) zq18.K0 = zq18.g N a0 := by
  exact (zq18.o0.run N a0).trans rfl
theorem zq18.good (N : Nat) (a0 : List S25) (r : zq18.R) (h : zq18.g N a0 = some r) : Go.PM.Good Try.prog T0 69 [.one (.sl false 25 a0)] [] (zq18.sig.ret r) (zq18.sig.bs r) :=
  good_fn tabOk0 mixed0 zq18.sig (zq18.E N) Try.func69 (by kernel_rfl) (by kernel_rfl) 5 0 0 [] 8 false [] [(false, [.any])] (by kernel_rfl) rfl rfl ((zq18.g.run N a0).trans h)
def zq18.ent (N : Nat) : Ent Try.prog T0 := mkEnt 69 [(false, [.ro 25])] zq18.sig (fun t => zq18.g N t) (fun t r h => zq18.good N t r h)
/-! ### zq16 -/
abbrev zq16.R : Type := Int × Int
abbrev zq16.sig : Sig := ⟨[(true, 2)], [], [.int .i64, .int .i64], [(true, 2)], [], [.int .i64, .int .i64]⟩
def zq16.C : Cfg D0 := ⟨Try.prog, T0, 7, 0, 5, 0, [], 0, false, []⟩
def zq16.E (N : Nat) : List (Ent Try.prog T0) := [zq17.ent N]
def zq16.O (N : Nat) : Orc D0 zq16.R := orcOf (zq16.E N)
def zq16.K0 : Ex → St D0 → Option zq16.R := exitK zq16.C Try.f75.results.toList [(true, [.any, .any])] (decOut zq16.sig)
def zq16.c1 : Code := codeAt (Try.f75.body.getD .skip) []
def zq16.o0 (N : Nat) (a0_0 : Int) (a0_1 : Int) : Option zq16.R :=
 (zq17.g N a0_0 a0_1 (-1)).bind fun r1 =>
 some (r1.1, r1.2)
theorem zq16.o0.run (N : Nat) (a0_0 : Int) (a0_1 : Int) : runC zq16.C (zq16.O N) N zq16.c1 1 (st0 [.agg [.int .i64 a0_0, .int .i64 a0_1]] [] : St D0) zq16.K0 = zq16.o0 N a0_0 a0_1 := by kernel_rfl
def zq16.g (N : Nat) (a0_0 : Int) (a0_1 : Int) : Option zq16.R := zq16.o0 N a0_0 a0_1
theorem zq16.g.run (N : Nat) (a0_0 : Int) (a0_1 : Int) : runC zq16.C (zq16.O N) N zq16.c1 1 (st0 [.agg [.int .i64 a0_0, .int .i64 a0_1]] [] : St D0) zq16.K0 = zq16.g N a0_0 a0_1 := by
  exact (zq16.o0.run N a0_0 a0_1).trans rfl
theorem zq16.good (N : Nat) (a0_0 : Int) (a0_1 : Int) (r : zq16.R) (h : zq16.g N a0_0 a0_1 = some r) : Go.PM.Good Try.prog T0 75 [.agg [.int .i64 a0_0, .int .i64 a0_1]] [] (zq16.sig.ret r) (zq16.sig.bs r) :=
  good_fn tabOk0 mixed0 zq16.sig (zq16.E N) Try.func75 (by kernel_rfl) (by kernel_rfl) 7 0 0 [] 0 false [] [(true, [.any, .any])] (by kernel_rfl) rfl rfl ((zq16.g.run N a0_0 a0_1).trans h)
def zq16.ent (N : Nat) : Ent Try.prog T0 := mkEnt 75 [(true, [.any, .any])] zq16.sig (fun t => zq16.g N t.1 t.2) (fun t r h => zq16.good N t.1 t.2 r h)
/-! ### zq59 -/
abbrev zq59.R : Type := Int × Int
abbrev zq59.sig : Sig := ⟨[(true, 2)], [], [.int .i64, .int .i64], [(true, 2)], [], [.int .i64, .int .i64]⟩
def zq59.C : Cfg D0 := ⟨Try.prog, T0, 7, 0, 5, 0, [], 0, false, []⟩
def zq59.E (N : Nat) : List (Ent Try.prog T0) := [zq60.ent N]
def zq59.O (N : Nat) : Orc D0 zq59.R := orcOf (zq59.E N)
def zq59.K0 : Ex → St D0 → Option zq59.R := exitK zq59.C Try.f105.results.toList [(true, [.any, .any])] (decOut zq59.sig)
def zq59.c1 : Code := codeAt (Try.f105.body.getD .skip) []
def zq59.o0 (N : Nat) (a0_0 : Int) (a0_1 : Int) : Option zq59.R :=
 (zq60.g N a0_0 a0_1 (-1)).bind fun r1 =>
 some (r1.1, r1.2)
theorem zq59.o0.run (N : Nat) (a0_0 : Int) (a0_1 : Int) : runC zq59.C (zq59.O N) N zq59.c1 1 (st0 [.agg [.int .i64 a0_0, .int .i64 a0_1]] [] : St D0) zq59.K0 = zq59.o0 N a0_0 a0_1 := by kernel_rfl
def zq59.g (N : Nat) (a0_0 : Int) (a0_1 : Int) : Option zq59.R := zq59.o0 N a0_0 a0_1
theorem zq59.g.run (N : Nat) (a0_0 : Int) (a0_1 : Int) : runC zq59.C (zq59.O N) N zq59.c1 1 (st0 [.agg [.int .i64 a0_0, .int .i64 a0_1]] [] : St D0) zq59.K0 = zq59.g N a0_0 a0_1 := by
  exact (zq59.o0.run N a0_0 a0_1).trans rfl
theorem zq59.good (N : Nat) (a0_0 : Int) (a0_1 : Int) (r : zq59.R) (h : zq59.g N a0_0 a0_1 = some r) : Go.PM.Good Try.prog T0 105 [.agg [.int .i64 a0_0, .int .i64 a0_1]] [] (zq59.sig.ret r) (zq59.sig.bs r) :=
  good_fn tabOk0 mixed0 zq59.sig (zq59.E N) Try.func105 (by kernel_rfl) (by kernel_rfl) 7 0 0 [] 0 false [] [(true, [.any, .any])] (by kernel_rfl) rfl rfl ((zq59.g.run N a0_0 a0_1).trans h)
def zq59.ent (N : Nat) : Ent Try.prog T0 := mkEnt 105 [(true, [.any, .any])] zq59.sig (fun t => zq59.g N t.1 t.2) (fun t r h => zq59.good N t.1 t.2 r h)
/-! ### zq1 -/
abbrev zq1.R : Type := Bool
abbrev zq1.sig : Sig := ⟨[(false, 1)], [], [.int .i64], [(false, 1)], [], [.bool]⟩
def zq1.C : Cfg D0 := ⟨Try.prog, T0, 5, 0, 6, 0, [], 24, false, []⟩
def zq1.E (N : Nat) : List (Ent Try.prog T0) := []
def zq1.O (N : Nat) : Orc D0 zq1.R := orcOf (zq1.E N)
def zq1.K0 : Ex → St D0 → Option zq1.R := exitK zq1.C Try.f130.results.toList [(false, [.any])] (decOut zq1.sig)
def zq1.c1 : Code := codeAt (Try.f130.body.getD .skip) []
def zq1.o0 (N : Nat) (a0 : Int) : Option zq1.R :=
 some ((a0 != a0))
theorem zq1.o0.run (N : Nat) (a0 : Int) : runC zq1.C (zq1.O N) N zq1.c1 1 (st0 [.one (.int .i64 a0)] [] : St D0) zq1.K0 = zq1.o0 N a0 := by kernel_rfl
def zq1.g (N : Nat) (a0 : Int) : Option zq1.R := zq1.o0 N a0
theorem zq1.g.run (N : Nat) (a0 : Int) : runC zq1.C (zq1.O N) N zq1.c1 1 (st0 [.one (.int .i64 a0)] [] : St D0) zq1.K0 = zq1.g N a0 := by
  exact (zq1.o0.run N a0).trans rfl
theorem zq1.good (N : Nat) (a0 : Int) (r : zq1.R) (h : zq1.g N a0 = some r) : Go.PM.Good Try.prog T0 130 [.one (.int .i64 a0)] [] (zq1.sig.ret r) (zq1.sig.bs r) :=
  good_fn tabOk0 mixed0 zq1.sig (zq1.E N) Try.func130 (by kernel_rfl) (by kernel_rfl) 5 0 0 [] 24 false [] [(false, [.any])] (by kernel_rfl) rfl rfl ((zq1.g.run N a0).trans h)
def zq1.ent (N : Nat) : Ent Try.prog T0 := mkEnt 130 [(false, [.any])] zq1.sig (fun t => zq1.g N t) (fun t r h => zq1.good N t r h)
/-! ### zq0 -/
abbrev zq0.R : Type := Int
abbrev zq0.sig : Sig := ⟨[(false, 1), (false, 1)], [], [.int .i64, .int .i64], [(false, 1)], [], [.int .i64]⟩
def zq0.C : Cfg D0 := ⟨Try.prog, T0, 604275, 0, 20, 0, [], 443008, false, []⟩
def zq0.E (N : Nat) : List (Ent Try.prog T0) := [zq1.ent N]
def zq0.O (N : Nat) : Orc D0 zq0.R := orcOf (zq0.E N)
def zq0.K0 : Ex → St D0 → Option zq0.R := exitK zq0.C Try.f113.results.toList [(false, [.any])] (decOut zq0.sig)
def zq0.c1 : Code := codeAt (Try.f113.body.getD .skip) []
def zq0.o0 (N : Nat) (a0 : Int) (a1 : Int) : Option zq0.R :=
 (zq1.g N a0).bind fun r1 =>
 (zq1.g N a1).bind fun r2 =>
 bif r1 then
  bif r2 then
   some (0)
  else
  some ((-1))
 else
 bif r2 then
  some (1)
 else
 bif (decide (a0 < a1)) then
  some ((-1))
 else
 bif (decide (a0 > a1)) then
  some (1)
 else
 some (0)
theorem zq0.o0.run (N : Nat) (a0 : Int) (a1 : Int) : runC zq0.C (zq0.O N) N zq0.c1 1 (st0 [.one (.int .i64 a0), .one (.int .i64 a1)] [] : St D0) zq0.K0 = zq0.o0 N a0 a1 := by kernel_rfl
def zq0.g (N : Nat) (a0 : Int) (a1 : Int) : Option zq0.R := zq0.o0 N a0 a1
theorem zq0.g.run (N : Nat) (a0 : Int) (a1 : Int) : runC zq0.C (zq0.O N) N zq0.c1 1 (st0 [.one (.int .i64 a0), .one (.int .i64 a1)] [] : St D0) zq0.K0 = zq0.g N a0 a1 := by
  exact (zq0.o0.run N a0 a1).trans rfl
theorem zq0.good (N : Nat) (a0 : Int) (a1 : Int) (r : zq0.R) (h : zq0.g N a0 a1 = some r) : Go.PM.Good Try.prog T0 113 [.one (.int .i64 a0), .one (.int .i64 a1)] [] (zq0.sig.ret r) (zq0.sig.bs r) :=
  good_fn tabOk0 mixed0 zq0.sig (zq0.E N) Try.func113 (by kernel_rfl) (by kernel_rfl) 604275 0 0 [] 443008 false [] [(false, [.any])] (by kernel_rfl) rfl rfl ((zq0.g.run N a0 a1).trans h)
def zq0.ent (N : Nat) : Ent Try.prog T0 := mkEnt 113 [(false, [.any]), (false, [.any])] zq0.sig (fun t => zq0.g N t.1 t.2) (fun t r h => zq0.good N t.1 t.2 r h)
/-! ### zq15 -/
abbrev zq15.R : Type := Int
abbrev zq15.sig : Sig := ⟨[(true, 2), (true, 2)], [], [.int .i64, .int .i64, .int .i64, .int .i64], [(false, 1)], [], [.int .i64]⟩
def zq15.C : Cfg D0 := ⟨Try.prog, T0, 31, 0, 16, 0, [], 0, false, []⟩
def zq15.E (N : Nat) : List (Ent Try.prog T0) := [zq0.ent N]
def zq15.O (N : Nat) : Orc D0 zq15.R := orcOf (zq15.E N)
def zq15.K0 : Ex → St D0 → Option zq15.R := exitK zq15.C Try.f86.results.toList [(false, [.any])] (decOut zq15.sig)
def zq15.c1 : Code := codeAt (Try.f86.body.getD .skip) []
def zq15.o0 (N : Nat) (a0_0 : Int) (a0_1 : Int) (a1_0 : Int) (a1_1 : Int) : Option zq15.R :=
 (zq0.g N (w64 (a0_0 * a1_1)) (w64 (a1_0 * a0_1))).bind fun r1 =>
 some (r1)
theorem zq15.o0.run (N : Nat) (a0_0 : Int) (a0_1 : Int) (a1_0 : Int) (a1_1 : Int) : runC zq15.C (zq15.O N) N zq15.c1 1 (st0 [.agg [.int .i64 a0_0, .int .i64 a0_1], .agg [.int .i64 a1_0, .int .i64 a1_1]] [] : St D0) zq15.K0 = zq15.o0 N a0_0 a0_1 a1_0 a1_1 := by kernel_rfl
def zq15.g (N : Nat) (a0_0 : Int) (a0_1 : Int) (a1_0 : Int) (a1_1 : Int) : Option zq15.R := zq15.o0 N a0_0 a0_1 a1_0 a1_1
theorem zq15.g.run (N : Nat) (a0_0 : Int) (a0_1 : Int) (a1_0 : Int) (a1_1 : Int) : runC zq15.C (zq15.O N) N zq15.c1 1 (st0 [.agg [.int .i64 a0_0, .int .i64 a0_1], .agg [.int .i64 a1_0, .int .i64 a1_1]] [] : St D0) zq15.K0 = zq15.g N a0_0 a0_1 a1_0 a1_1 := by
  exact (zq15.o0.run N a0_0 a0_1 a1_0 a1_1).trans rfl
theorem zq15.good (N : Nat) (a0_0 : Int) (a0_1 : Int) (a1_0 : Int) (a1_1 : Int) (r : zq15.R) (h : zq15.g N a0_0 a0_1 a1_0 a1_1 = some r) : Go.PM.Good Try.prog T0 86 [.agg [.int .i64 a0_0, .int .i64 a0_1], .agg [.int .i64 a1_0, .int .i64 a1_1]] [] (zq15.sig.ret r) (zq15.sig.bs r) :=
  good_fn tabOk0 mixed0 zq15.sig (zq15.E N) Try.func86 (by kernel_rfl) (by kernel_rfl) 31 0 0 [] 0 false [] [(false, [.any])] (by kernel_rfl) rfl rfl ((zq15.g.run N a0_0 a0_1 a1_0 a1_1).trans h)
def zq15.ent (N : Nat) : Ent Try.prog T0 := mkEnt 86 [(true, [.any, .any]), (true, [.any, .any])] zq15.sig (fun t => zq15.g N t.1 t.2.1 t.2.2.1 t.2.2.2) (fun t r h => zq15.good N t.1 t.2.1 t.2.2.1 t.2.2.2 r h)
/-! ### zq70 -/
abbrev zq70.R : Type := Int
abbrev zq70.sig : Sig := ⟨[(false, 1)], [], [.int .i64], [(false, 1)], [], [.int .i64]⟩
def zq70.C : Cfg D0 := ⟨Try.prog, T0, 77, 0, 9, 0, [], 144, false, []⟩
def zq70.E (N : Nat) : List (Ent Try.prog T0) := []
def zq70.O (N : Nat) : Orc D0 zq70.R := orcOf (zq70.E N)
def zq70.K0 : Ex → St D0 → Option zq70.R := exitK zq70.C Try.f118.results.toList [(false, [.any])] (decOut zq70.sig)
def zq70.c1 : Code := codeAt (Try.f118.body.getD .skip) []
def zq70.o0 (N : Nat) (a0 : Int) : Option zq70.R :=
 bif (decide (a0 > 0)) then
  some (1)
 else
 bif (decide (a0 < 0)) then
  some ((-1))
 else
 some (0)
theorem zq70.o0.run (N : Nat) (a0 : Int) : runC zq70.C (zq70.O N) N zq70.c1 1 (st0 [.one (.int .i64 a0)] [] : St D0) zq70.K0 = zq70.o0 N a0 := by kernel_rfl
def zq70.g (N : Nat) (a0 : Int) : Option zq70.R := zq70.o0 N a0
theorem zq70.g.run (N : Nat) (a0 : Int) : runC zq70.C (zq70.O N) N zq70.c1 1 (st0 [.one (.int .i64 a0)] [] : St D0) zq70.K0 = zq70.g N a0 := by
  exact (zq70.o0.run N a0).trans rfl
theorem zq70.good (N : Nat) (a0 : Int) (r : zq70.R) (h : zq70.g N a0 = some r) : Go.PM.Good Try.prog T0 118 [.one (.int .i64 a0)] [] (zq70.sig.ret r) (zq70.sig.bs r) :=
  good_fn tabOk0 mixed0 zq70.sig (zq70.E N) Try.func118 (by kernel_rfl) (by kernel_rfl) 77 0 0 [] 144 false [] [(false, [.any])] (by kernel_rfl) rfl rfl ((zq70.g.run N a0).trans h)
def zq70.ent (N : Nat) : Ent Try.prog T0 := mkEnt 118 [(false, [.any])] zq70.sig (fun t => zq70.g N t) (fun t r h => zq70.good N t r h)
/-! ### zq55 -/
abbrev zq55.R : Type := Int
abbrev zq55.sig : Sig := ⟨[(true, 2), (true, 2)], [], [.int .i64, .int .i64, .int .i64, .int .i64], [(false, 1)], [], [.int .i64]⟩
def zq55.C : Cfg D0 := ⟨Try.prog, T0, 31, 0, 17, 0, [], 0, false, []⟩
def zq55.E (N : Nat) : List (Ent Try.prog T0) := [zq70.ent N]
def zq55.O (N : Nat) : Orc D0 zq55.R := orcOf (zq55.E N)
def zq55.K0 : Ex → St D0 → Option zq55.R := exitK zq55.C Try.f106.results.toList [(false, [.any])] (decOut zq55.sig)
def zq55.c1 : Code := codeAt (Try.f106.body.getD .skip) []
def zq55.o0 (N : Nat) (a0_0 : Int) (a0_1 : Int) (a1_0 : Int) (a1_1 : Int) : Option zq55.R :=
 (zq70.g N (w64 ((w64 (a0_0 * a1_1)) - (w64 (a1_0 * a0_1))))).bind fun r1 =>
 some (r1)
theorem zq55.o0.run (N : Nat) (a0_0 : Int) (a0_1 : Int) (a1_0 : Int) (a1_1 : Int) : runC zq55.C (zq55.O N) N zq55.c1 1 (st0 [.agg [.int .i64 a0_0, .int .i64 a0_1], .agg [.int .i64 a1_0, .int .i64 a1_1]] [] : St D0) zq55.K0 = zq55.o0 N a0_0 a0_1 a1_0 a1_1 := by kernel_rfl
def zq55.g (N : Nat) (a0_0 : Int) (a0_1 : Int) (a1_0 : Int) (a1_1 : Int) : Option zq55.R := zq55.o0 N a0_0 a0_1 a1_0 a1_1
theorem zq55.g.run (N : Nat) (a0_0 : Int) (a0_1 : Int) (a1_0 : Int) (a1_1 : Int) : runC zq55.C (zq55.O N) N zq55.c1 1 (st0 [.agg [.int .i64 a0_0, .int .i64 a0_1], .agg [.int .i64 a1_0, .int .i64 a1_1]] [] : St D0) zq55.K0 = zq55.g N a0_0 a0_1 a1_0 a1_1 := by
  exact (zq55.o0.run N a0_0 a0_1 a1_0 a1_1).trans rfl
theorem zq55.good (N : Nat) (a0_0 : Int) (a0_1 : Int) (a1_0 : Int) (a1_1 : Int) (r : zq55.R) (h : zq55.g N a0_0 a0_1 a1_0 a1_1 = some r) : Go.PM.Good Try.prog T0 106 [.agg [.int .i64 a0_0, .int .i64 a0_1], .agg [.int .i64 a1_0, .int .i64 a1_1]] [] (zq55.sig.ret r) (zq55.sig.bs r) :=
  good_fn tabOk0 mixed0 zq55.sig (zq55.E N) Try.func106 (by kernel_rfl) (by kernel_rfl) 31 0 0 [] 0 false [] [(false, [.any])] (by kernel_rfl) rfl rfl ((zq55.g.run N a0_0 a0_1 a1_0 a1_1).trans h)
def zq55.ent (N : Nat) : Ent Try.prog T0 := mkEnt 106 [(true, [.any, .any]), (true, [.any, .any])] zq55.sig (fun t => zq55.g N t.1 t.2.1 t.2.2.1 t.2.2.2) (fun t r h => zq55.good N t.1 t.2.1 t.2.2.1 t.2.2.2 r h)
/-! ### zq28 -/
abbrev zq28.R : Type := List S25 × Bool
abbrev zq28.sig : Sig := ⟨[(true, 2), (false, 1)], [], [.int .i64, .int .i64, .int .i64], [(false, 1), (false, 1)], [], [.sl true 25, .bool]⟩
def zq28.C : Cfg D0 := ⟨Try.prog, T0, 3831, 0, 32, 0, [(58, [1, 2, 6, 9, 10], [2])], 1082195968, false, []⟩
def zq28.E (N : Nat) : List (Ent Try.prog T0) := [zq27.ent N, zq18.ent N]
def zq28.O (N : Nat) : Orc D0 zq28.R := orcOf (zq28.E N)
def zq28.K0 : Ex → St D0 → Option zq28.R := exitK zq28.C Try.f72.results.toList [(false, [.own 25]), (false, [.any])] (decOut zq28.sig)
def zq28.c1 : Code := codeAt (Try.f72.body.getD .skip) []
def zq28.c2 : Code := codeAt (Try.f72.body.getD .skip) [false]
def zq28.c6 : Code := codeAt (Try.f72.body.getD .skip) [true, false]
def zq28.c15 : Code := codeAt (Try.f72.body.getD .skip) [true, true, true]
def zq28.c28 : Code := codeAt (Try.f72.body.getD .skip) [true, true, false, false]
def zq28.c116 : Code := codeAt (Try.f72.body.getD .skip) [true, true, false, true, false, false]
def zq28.K116 (N : Nat) (Kn58 : St D0 → Option zq28.R) : Ex → St D0 → Option zq28.R := ((fun up => (onN (fun s => zq28.C.tidy 58 s ((onN Kn58 up) .normal)) (onN Kn58 up))) (blockK 0 (onN (fun s => zq28.C.tidy 14 s (fun s' => runC zq28.C (zq28.O N) N zq28.c15 15 s' zq28.K0)) zq28.K0)))
def zq28.o1 (N : Nat) (v0 : Int) (v1 : List S25) (v2 : Int) (v3 : Int) (v4 : Int) (v5 : Int) (c1 : Int → (List S25) → Int → Int → Int → Int → Option zq28.R) : Option zq28.R :=
 bif (decide (v3 < v2)) then
  (zq27.g N (w64 (v4 + (w64 (v3 * v5)))) (w64 (v5 * v0))).bind fun r1 =>
  bif (Nat.blt (v1.length + ([(⟨r1.1, r1.2⟩ : S25)] : List S25).length) 8796093022208) then
   c1 v0 (v1 ++ ([(⟨r1.1, r1.2⟩ : S25)] : List S25)) v2 (w64 (v3 + 1)) v4 v5
  else
  none
 else
 (zq18.g N v1).bind fun r2 =>
 some (v1, r2)
theorem zq28.o1.run (N : Nat) (Kn58 : St D0 → Option zq28.R) (v0 : Int) (v1 : List S25) (v2 : Int) (v3 : Int) (v4 : Int) (v5 : Int) : runC zq28.C (zq28.O N) N zq28.c116 116 (mkSt [(1, .one (.int .i64 v0)), (2, .one (.ptr 2 0)), (6, .one (.sl true 25 v1)), (9, .one (.int .i64 v2)), (10, .one (.int .i64 v3))] [(2, some (25, [.int .i64 v4, .int .i64 v5]))] : St D0) ((fun up => (onN (fun s => zq28.C.tidy 58 s ((onN Kn58 up) .normal)) (onN Kn58 up))) (blockK 0 (onN (fun s => zq28.C.tidy 14 s (fun s' => runC zq28.C (zq28.O N) N zq28.c15 15 s' zq28.K0)) zq28.K0))) = zq28.o1 N v0 v1 v2 v3 v4 v5 ((fun w0 w1 w2 w3 w4 w5 => Kn58 (mkSt [(1, .one (.int .i64 w0)), (2, .one (.ptr 2 0)), (6, .one (.sl true 25 w1)), (9, .one (.int .i64 w2)), (10, .one (.int .i64 w3))] [(2, some (25, [.int .i64 w4, .int .i64 w5]))] : St D0))) := by kernel_rfl
def zq28.d1 (N : Nat) (v0 : Int) (v1 : List S25) (v2 : Int) (v3 : Int) (v4 : Int) (v5 : Int) (c1 : Int → (List S25) → Int → Int → Int → Int → Option zq28.R) : Option zq28.R := zq28.o1 N v0 v1 v2 v3 v4 v5 c1
theorem zq28.d1.run (N : Nat) (Kn58 : St D0 → Option zq28.R) (v0 : Int) (v1 : List S25) (v2 : Int) (v3 : Int) (v4 : Int) (v5 : Int) : runC zq28.C (zq28.O N) N zq28.c116 116 (mkSt [(1, .one (.int .i64 v0)), (2, .one (.ptr 2 0)), (6, .one (.sl true 25 v1)), (9, .one (.int .i64 v2)), (10, .one (.int .i64 v3))] [(2, some (25, [.int .i64 v4, .int .i64 v5]))] : St D0) (zq28.K116 N Kn58) = zq28.d1 N v0 v1 v2 v3 v4 v5 ((fun w0 w1 w2 w3 w4 w5 => Kn58 (mkSt [(1, .one (.int .i64 w0)), (2, .one (.ptr 2 0)), (6, .one (.sl true 25 w1)), (9, .one (.int .i64 w2)), (10, .one (.int .i64 w3))] [(2, some (25, [.int .i64 w4, .int .i64 w5]))] : St D0))) := by
  exact (zq28.o1.run N Kn58 v0 v1 v2 v3 v4 v5).trans rfl
def zq28.K58 (N : Nat) : Ex → St D0 → Option zq28.R := (blockK 0 (onN (fun s => zq28.C.tidy 14 s (fun s' => runC zq28.C (zq28.O N) N zq28.c15 15 s' zq28.K0)) zq28.K0))
def zq28.l1 (N : Nat) : Nat → Int → (List S25) → Int → Int → Int → Int → Option zq28.R
  | 0, _, _, _, _, _, _ => none
  | n + 1, v0, v1, v2, v3, v4, v5 => zq28.d1 N v0 v1 v2 v3 v4 v5 ((fun w0 w1 w2 w3 w4 w5 => zq28.l1 N n w0 w1 w2 w3 w4 w5))
theorem zq28.loop58 (N : Nat) : ∀ n, (∀ (v0 : Int) (v1 : List S25) (v2 : Int) (v3 : Int) (v4 : Int) (v5 : Int), iter (loopF zq28.C (zq28.O N) N zq28.c116 58) n (mkSt [(1, .one (.int .i64 v0)), (2, .one (.ptr 2 0)), (6, .one (.sl true 25 v1)), (9, .one (.int .i64 v2)), (10, .one (.int .i64 v3))] [(2, some (25, [.int .i64 v4, .int .i64 v5]))] : St D0) (zq28.K58 N) = zq28.l1 N n v0 v1 v2 v3 v4 v5)
  | 0 => (fun v0 v1 v2 v3 v4 v5 => rfl)
  | n + 1 => (fun v0 v1 v2 v3 v4 v5 => (zq28.d1.run N (fun s => iter (loopF zq28.C (zq28.O N) N zq28.c116 58) n s (zq28.K58 N)) v0 v1 v2 v3 v4 v5).trans (show _ = zq28.d1 N v0 v1 v2 v3 v4 v5 ((fun w0 w1 w2 w3 w4 w5 => zq28.l1 N n w0 w1 w2 w3 w4 w5)) from (congr rfl (funext fun w0 => funext fun w1 => funext fun w2 => funext fun w3 => funext fun w4 => funext fun w5 => (zq28.loop58 N n) w0 w1 w2 w3 w4 w5))))
def zq28.o0 (N : Nat) (a0_0 : Int) (a0_1 : Int) (a1 : Int) (c1 : Int → (List S25) → Int → Int → Int → Int → Option zq28.R) : Option zq28.R :=
 c1 a1 ([] : List S25) a1 0 a0_0 a0_1
theorem zq28.o0.run (N : Nat) (H116 : Code) (a0_0 : Int) (a0_1 : Int) (a1 : Int) : runC zq28.C (zq28.O N) N (.seq zq28.c2 (.seq zq28.c6 (.seq (.seq zq28.c28 (.block 0 (.loop H116))) zq28.c15))) 1 (st0 [.agg [.int .i64 a0_0, .int .i64 a0_1], .one (.int .i64 a1)] [] : St D0) zq28.K0 = zq28.o0 N a0_0 a0_1 a1 ((fun w0 w1 w2 w3 w4 w5 => iter (loopF zq28.C (zq28.O N) N H116 58) N (mkSt [(1, .one (.int .i64 w0)), (2, .one (.ptr 2 0)), (6, .one (.sl true 25 w1)), (9, .one (.int .i64 w2)), (10, .one (.int .i64 w3))] [(2, some (25, [.int .i64 w4, .int .i64 w5]))] : St D0) (blockK 0 (onN (fun s => zq28.C.tidy 14 s (fun s' => runC zq28.C (zq28.O N) N zq28.c15 15 s' zq28.K0)) zq28.K0)))) := by kernel_rfl
def zq28.g (N : Nat) (a0_0 : Int) (a0_1 : Int) (a1 : Int) : Option zq28.R := zq28.o0 N a0_0 a0_1 a1 ((fun w0 w1 w2 w3 w4 w5 => zq28.l1 N N w0 w1 w2 w3 w4 w5))
theorem zq28.c1_0 : zq28.c1 = (.seq zq28.c2 (.seq zq28.c6 (.seq (.seq zq28.c28 (.block 0 (.loop zq28.c116))) zq28.c15))) := by kernel_rfl
theorem zq28.g.run (N : Nat) (a0_0 : Int) (a0_1 : Int) (a1 : Int) : runC zq28.C (zq28.O N) N zq28.c1 1 (st0 [.agg [.int .i64 a0_0, .int .i64 a0_1], .one (.int .i64 a1)] [] : St D0) zq28.K0 = zq28.g N a0_0 a0_1 a1 := by
  rw [zq28.c1_0]; unfold zq28.g; exact (zq28.o0.run N zq28.c116 a0_0 a0_1 a1).trans (congr rfl (funext fun w0 => funext fun w1 => funext fun w2 => funext fun w3 => funext fun w4 => funext fun w5 => (zq28.loop58 N N) w0 w1 w2 w3 w4 w5))
theorem zq28.good (N : Nat) (a0_0 : Int) (a0_1 : Int) (a1 : Int) (r : zq28.R) (h : zq28.g N a0_0 a0_1 a1 = some r) : Go.PM.Good Try.prog T0 72 [.agg [.int .i64 a0_0, .int .i64 a0_1], .one (.int .i64 a1)] [] (zq28.sig.ret r) (zq28.sig.bs r) :=
  good_fn tabOk0 mixed0 zq28.sig (zq28.E N) Try.func72 (by kernel_rfl) (by kernel_rfl) 3831 0 0 [(58, [1, 2, 6, 9, 10], [2])] 1082195968 false [] [(false, [.own 25]), (false, [.any])] (by kernel_rfl) rfl rfl ((zq28.g.run N a0_0 a0_1 a1).trans h)
def zq28.ent (N : Nat) : Ent Try.prog T0 := mkEnt 72 [(true, [.any, .any]), (false, [.any])] zq28.sig (fun t => zq28.g N t.1 t.2.1 t.2.2) (fun t r h => zq28.good N t.1 t.2.1 t.2.2 r h)
/-! ### zq22 -/
abbrev zq22.R : Type := List S25 × Bool
abbrev zq22.sig : Sig := ⟨[(false, 1), (false, 1)], [], [.sl false 25, .bool], [(false, 1), (false, 1)], [], [.sl false 25, .bool]⟩
def zq22.C : Cfg D0 := ⟨Try.prog, T0, 4147, 0, 14, 0, [(12, [0, 12], [])], 576, false, []⟩
def zq22.E (N : Nat) : List (Ent Try.prog T0) := [zq18.ent N]
def zq22.O (N : Nat) : Orc D0 zq22.R := orcOf (zq22.E N)
def zq22.K0 : Ex → St D0 → Option zq22.R := exitK zq22.C Try.f71.results.toList [(false, [.ro 25]), (false, [.any])] (decOut zq22.sig)
def zq22.c1 : Code := codeAt (Try.f71.body.getD .skip) []
def zq22.c2 : Code := codeAt (Try.f71.body.getD .skip) [false]
def zq22.c7 : Code := codeAt (Try.f71.body.getD .skip) [true, true]
def zq22.c12 : Code := codeAt (Try.f71.body.getD .skip) [true, false, false]
def zq22.c13 : Code := codeAt (Try.f71.body.getD .skip) [true, false, true]
def zq22.K13 (N : Nat) : Ex → St D0 → Option zq22.R := (onN (fun s => zq22.C.tidy 6 s (fun s' => runC zq22.C (zq22.O N) N zq22.c7 7 s' zq22.K0)) zq22.K0)
def zq22.o1 (N : Nat) (v0 : List S25) (v1 : Bool) : Option zq22.R :=
 bif v1 then
  some (([] : List S25), false)
 else
 some (v0, true)
theorem zq22.o1.run (N : Nat) (v0 : List S25) (v1 : Bool) : runC zq22.C (zq22.O N) N zq22.c13 13 (mkSt [(0, .one (.sl false 25 v0)), (12, .one (.bool v1))] [] : St D0) (onN (fun s => zq22.C.tidy 6 s (fun s' => runC zq22.C (zq22.O N) N zq22.c7 7 s' zq22.K0)) zq22.K0) = zq22.o1 N v0 v1 := by kernel_rfl
def zq22.d1 (N : Nat) (v0 : List S25) (v1 : Bool) : Option zq22.R := zq22.o1 N v0 v1
theorem zq22.d1.run (N : Nat) (v0 : List S25) (v1 : Bool) : runC zq22.C (zq22.O N) N zq22.c13 13 (mkSt [(0, .one (.sl false 25 v0)), (12, .one (.bool v1))] [] : St D0) (zq22.K13 N) = zq22.d1 N v0 v1 := by
  exact (zq22.o1.run N v0 v1).trans rfl
def zq22.o0 (N : Nat) (a0 : List S25) (a1 : Bool) (c1 : (List S25) → Bool → Option zq22.R) : Option zq22.R :=
 bif (!a1) then
  c1 a0 true
 else
 (zq18.g N a0).bind fun r1 =>
 c1 a0 (!r1)
theorem zq22.o0.run (N : Nat) (H13 : Code) (a0 : List S25) (a1 : Bool) : runC zq22.C (zq22.O N) N (.seq zq22.c2 (.seq (.seq zq22.c12 H13) zq22.c7)) 1 (st0 [.one (.sl false 25 a0), .one (.bool a1)] [] : St D0) zq22.K0 = zq22.o0 N a0 a1 ((fun w0 w1 => runC zq22.C (zq22.O N) N H13 13 (mkSt [(0, .one (.sl false 25 w0)), (12, .one (.bool w1))] [] : St D0) (onN (fun s => zq22.C.tidy 6 s (fun s' => runC zq22.C (zq22.O N) N zq22.c7 7 s' zq22.K0)) zq22.K0))) := by kernel_rfl
def zq22.g (N : Nat) (a0 : List S25) (a1 : Bool) : Option zq22.R := zq22.o0 N a0 a1 ((fun w0 w1 => zq22.d1 N w0 w1))
theorem zq22.c1_0 : zq22.c1 = (.seq zq22.c2 (.seq (.seq zq22.c12 zq22.c13) zq22.c7)) := by kernel_rfl
theorem zq22.g.run (N : Nat) (a0 : List S25) (a1 : Bool) : runC zq22.C (zq22.O N) N zq22.c1 1 (st0 [.one (.sl false 25 a0), .one (.bool a1)] [] : St D0) zq22.K0 = zq22.g N a0 a1 := by
  rw [zq22.c1_0]; unfold zq22.g; exact (zq22.o0.run N zq22.c13 a0 a1).trans (congr rfl (funext fun w0 => funext fun w1 => zq22.d1.run N w0 w1))
theorem zq22.good (N : Nat) (a0 : List S25) (a1 : Bool) (r : zq22.R) (h : zq22.g N a0 a1 = some r) : Go.PM.Good Try.prog T0 71 [.one (.sl false 25 a0), .one (.bool a1)] [] (zq22.sig.ret r) (zq22.sig.bs r) :=
  good_fn tabOk0 mixed0 zq22.sig (zq22.E N) Try.func71 (by kernel_rfl) (by kernel_rfl) 4147 0 0 [(12, [0, 12], [])] 576 false [] [(false, [.ro 25]), (false, [.any])] (by kernel_rfl) rfl rfl ((zq22.g.run N a0 a1).trans h)
def zq22.ent (N : Nat) : Ent Try.prog T0 := mkEnt 71 [(false, [.ro 25]), (false, [.any])] zq22.sig (fun t => zq22.g N t.1 t.2) (fun t r h => zq22.good N t.1 t.2 r h)
/-! ### zq63 -/
abbrev zq63.R : Type := Int × List Int × Int × Int
abbrev zq63.sig : Sig := ⟨[(false, 1)], [(71, 3)], [.ptr 0 0, .sl false 5, .int .i64, .int .u64], [(false, 1)], [(71, 3)], [.int .i64, .sl false 5, .int .i64, .int .u64]⟩
def zq63.C : Cfg D0 := ⟨Try.prog, T0, 9007199254749197, 0, 62, 1, [(14, [0, 3], [0])], 36328151978361104, false, []⟩
def zq63.E (N : Nat) : List (Ent Try.prog T0) := []
def zq63.O (N : Nat) : Orc D0 zq63.R := orcOf (zq63.E N)
def zq63.K0 : Ex → St D0 → Option zq63.R := exitK zq63.C Try.f99.results.toList [(false, [.any])] (decOut zq63.sig)
def zq63.c1 : Code := codeAt (Try.f99.body.getD .skip) []
def zq63.c2 : Code := codeAt (Try.f99.body.getD .skip) [false]
def zq63.c6 : Code := codeAt (Try.f99.body.getD .skip) [true, false]
def zq63.c14 : Code := codeAt (Try.f99.body.getD .skip) [true, true, false]
def zq63.c15 : Code := codeAt (Try.f99.body.getD .skip) [true, true, true]
def zq63.K15 (N : Nat) : Ex → St D0 → Option zq63.R := zq63.K0
def zq63.o1 (N : Nat) (v0 : Int) (v1 : List Int) (v2 : Int) (v3 : Int) : Option zq63.R :=
 bif (decide ((w64 (v2 + 1)) ≤ (v1.length : Int))) then
  some (v0, v1, (w64 (v2 + 1)), ((IntKind.wrap .u64) (((IntKind.wrap .u64) (((IntKind.wrap .u64) (v3 * 6364136223846793005)) + ((IntKind.wrap .u64) v0))) + 1442695040888963407)))
 else
 some ((w64 (andK .u64 (shrK .u64 ((IntKind.wrap .u64) (((IntKind.wrap .u64) (((IntKind.wrap .u64) (v3 * 6364136223846793005)) + ((IntKind.wrap .u64) v0))) + 1442695040888963407)) 40) 255)), v1, (w64 (v2 + 1)), ((IntKind.wrap .u64) (((IntKind.wrap .u64) (((IntKind.wrap .u64) (v3 * 6364136223846793005)) + ((IntKind.wrap .u64) v0))) + 1442695040888963407)))
theorem zq63.o1.run (N : Nat) (v0 : Int) (v1 : List Int) (v2 : Int) (v3 : Int) : runC zq63.C (zq63.O N) N zq63.c15 15 (mkSt [(0, .one (.ptr 0 0)), (3, .one (.int .i64 v0))] [(0, some (71, [.sl false 5 v1, .int .i64 v2, .int .u64 v3]))] : St D0) zq63.K0 = zq63.o1 N v0 v1 v2 v3 := by kernel_rfl
def zq63.d1 (N : Nat) (v0 : Int) (v1 : List Int) (v2 : Int) (v3 : Int) : Option zq63.R := zq63.o1 N v0 v1 v2 v3
theorem zq63.d1.run (N : Nat) (v0 : Int) (v1 : List Int) (v2 : Int) (v3 : Int) : runC zq63.C (zq63.O N) N zq63.c15 15 (mkSt [(0, .one (.ptr 0 0)), (3, .one (.int .i64 v0))] [(0, some (71, [.sl false 5 v1, .int .i64 v2, .int .u64 v3]))] : St D0) (zq63.K15 N) = zq63.d1 N v0 v1 v2 v3 := by
  exact (zq63.o1.run N v0 v1 v2 v3).trans rfl
def zq63.o0 (N : Nat) (b0_0 : List Int) (b0_1 : Int) (b0_2 : Int) (c1 : Int → (List Int) → Int → Int → Option zq63.R) : Option zq63.R :=
 bif (decide (b0_1 < (b0_0.length : Int))) then
  bif (decide (0 ≤ b0_1)) then
   bif (decide (b0_1 < (b0_0.length : Int))) then
    (b0_0[(b0_1 : Int).toNat]?).bind fun x1 =>
    c1 (w64 x1) b0_0 b0_1 b0_2
   else
   none
  else
  none
 else
 c1 0 b0_0 b0_1 b0_2
theorem zq63.o0.run (N : Nat) (H15 : Code) (b0_0 : List Int) (b0_1 : Int) (b0_2 : Int) : runC zq63.C (zq63.O N) N (.seq zq63.c2 (.seq zq63.c6 (.seq zq63.c14 H15))) 1 (st0 [.one (.ptr 0 0)] [(71, [.sl false 5 b0_0, .int .i64 b0_1, .int .u64 b0_2])] : St D0) zq63.K0 = zq63.o0 N b0_0 b0_1 b0_2 ((fun w0 w1 w2 w3 => runC zq63.C (zq63.O N) N H15 15 (mkSt [(0, .one (.ptr 0 0)), (3, .one (.int .i64 w0))] [(0, some (71, [.sl false 5 w1, .int .i64 w2, .int .u64 w3]))] : St D0) zq63.K0)) := by kernel_rfl
def zq63.g (N : Nat) (b0_0 : List Int) (b0_1 : Int) (b0_2 : Int) : Option zq63.R := zq63.o0 N b0_0 b0_1 b0_2 ((fun w0 w1 w2 w3 => zq63.d1 N w0 w1 w2 w3))
theorem zq63.c1_0 : zq63.c1 = (.seq zq63.c2 (.seq zq63.c6 (.seq zq63.c14 zq63.c15))) := by kernel_rfl
theorem zq63.g.run (N : Nat) (b0_0 : List Int) (b0_1 : Int) (b0_2 : Int) : runC zq63.C (zq63.O N) N zq63.c1 1 (st0 [.one (.ptr 0 0)] [(71, [.sl false 5 b0_0, .int .i64 b0_1, .int .u64 b0_2])] : St D0) zq63.K0 = zq63.g N b0_0 b0_1 b0_2 := by
  rw [zq63.c1_0]; unfold zq63.g; exact (zq63.o0.run N zq63.c15 b0_0 b0_1 b0_2).trans (congr rfl (funext fun w0 => funext fun w1 => funext fun w2 => funext fun w3 => zq63.d1.run N w0 w1 w2 w3))
theorem zq63.good (N : Nat) (b0_0 : List Int) (b0_1 : Int) (b0_2 : Int) (r : zq63.R) (h : zq63.g N b0_0 b0_1 b0_2 = some r) : Go.PM.Good Try.prog T0 99 [.one (.ptr 0 0)] [(71, [.sl false 5 b0_0, .int .i64 b0_1, .int .u64 b0_2])] (zq63.sig.ret r) (zq63.sig.bs r) :=
  good_fn tabOk0 mixed0 zq63.sig (zq63.E N) Try.func99 (by kernel_rfl) (by kernel_rfl) 9007199254749197 0 1 [(14, [0, 3], [0])] 36328151978361104 false [] [(false, [.any])] (by kernel_rfl) rfl rfl ((zq63.g.run N b0_0 b0_1 b0_2).trans h)
def zq63.ent (N : Nat) : Ent Try.prog T0 := mkEnt 99 [(false, [.any])] zq63.sig (fun t => zq63.g N t.2.1 t.2.2.1 t.2.2.2) (fun t r h => zq63.good N t.2.1 t.2.2.1 t.2.2.2 r h)
/-! ### zq65 -/
abbrev zq65.R : Type := Int × List Int × Int × Int
abbrev zq65.sig : Sig := ⟨[(false, 1), (false, 1)], [(71, 3)], [.ptr 0 0, .int .i64, .sl false 5, .int .i64, .int .u64], [(false, 1)], [(71, 3)], [.int .i64, .sl false 5, .int .i64, .int .u64]⟩
def zq65.C : Cfg D0 := ⟨Try.prog, T0, 2227, 0, 20, 1, [(30, [1, 5], [0])], 415040, false, []⟩
def zq65.E (N : Nat) : List (Ent Try.prog T0) := [zq63.ent N]
def zq65.O (N : Nat) : Orc D0 zq65.R := orcOf (zq65.E N)
def zq65.K0 : Ex → St D0 → Option zq65.R := exitK zq65.C Try.f57.results.toList [(false, [.any])] (decOut zq65.sig)
def zq65.c1 : Code := codeAt (Try.f57.body.getD .skip) []
def zq65.c2 : Code := codeAt (Try.f57.body.getD .skip) [false]
def zq65.c6 : Code := codeAt (Try.f57.body.getD .skip) [true, false]
def zq65.c14 : Code := codeAt (Try.f57.body.getD .skip) [true, true, false]
def zq65.c30 : Code := codeAt (Try.f57.body.getD .skip) [true, true, true, false]
def zq65.c31 : Code := codeAt (Try.f57.body.getD .skip) [true, true, true, true]
def zq65.K31 (N : Nat) : Ex → St D0 → Option zq65.R := zq65.K0
def zq65.o1 (N : Nat) (v0 : Int) (v1 : Int) (v2 : List Int) (v3 : Int) (v4 : Int) : Option zq65.R :=
 bif (v0 == 0) then
  none
 else
 some ((Int.tmod v1 v0), v2, v3, v4)
theorem zq65.o1.run (N : Nat) (v0 : Int) (v1 : Int) (v2 : List Int) (v3 : Int) (v4 : Int) : runC zq65.C (zq65.O N) N zq65.c31 31 (mkSt [(1, .one (.int .i64 v0)), (5, .one (.int .i64 v1))] [(0, some (71, [.sl false 5 v2, .int .i64 v3, .int .u64 v4]))] : St D0) zq65.K0 = zq65.o1 N v0 v1 v2 v3 v4 := by kernel_rfl
def zq65.d1 (N : Nat) (v0 : Int) (v1 : Int) (v2 : List Int) (v3 : Int) (v4 : Int) : Option zq65.R := zq65.o1 N v0 v1 v2 v3 v4
theorem zq65.d1.run (N : Nat) (v0 : Int) (v1 : Int) (v2 : List Int) (v3 : Int) (v4 : Int) : runC zq65.C (zq65.O N) N zq65.c31 31 (mkSt [(1, .one (.int .i64 v0)), (5, .one (.int .i64 v1))] [(0, some (71, [.sl false 5 v2, .int .i64 v3, .int .u64 v4]))] : St D0) (zq65.K31 N) = zq65.d1 N v0 v1 v2 v3 v4 := by
  exact (zq65.o1.run N v0 v1 v2 v3 v4).trans rfl
def zq65.o0 (N : Nat) (a1 : Int) (b0_0 : List Int) (b0_1 : Int) (b0_2 : Int) (c1 : Int → Int → (List Int) → Int → Int → Option zq65.R) : Option zq65.R :=
 bif (decide (a1 ≤ 1)) then
  some (0, b0_0, b0_1, b0_2)
 else
 (zq63.g N b0_0 b0_1 b0_2).bind fun r1 =>
 bif (decide (a1 > 200)) then
  (zq63.g N r1.2.1 r1.2.2.1 r1.2.2.2).bind fun r2 =>
  c1 a1 (w64 ((w64 (r1.1 * 256)) + r2.1)) r2.2.1 r2.2.2.1 r2.2.2.2
 else
 c1 a1 r1.1 r1.2.1 r1.2.2.1 r1.2.2.2
theorem zq65.o0.run (N : Nat) (H31 : Code) (a1 : Int) (b0_0 : List Int) (b0_1 : Int) (b0_2 : Int) : runC zq65.C (zq65.O N) N (.seq zq65.c2 (.seq zq65.c6 (.seq zq65.c14 (.seq zq65.c30 H31)))) 1 (st0 [.one (.ptr 0 0), .one (.int .i64 a1)] [(71, [.sl false 5 b0_0, .int .i64 b0_1, .int .u64 b0_2])] : St D0) zq65.K0 = zq65.o0 N a1 b0_0 b0_1 b0_2 ((fun w0 w1 w2 w3 w4 => runC zq65.C (zq65.O N) N H31 31 (mkSt [(1, .one (.int .i64 w0)), (5, .one (.int .i64 w1))] [(0, some (71, [.sl false 5 w2, .int .i64 w3, .int .u64 w4]))] : St D0) zq65.K0)) := by kernel_rfl
def zq65.g (N : Nat) (a1 : Int) (b0_0 : List Int) (b0_1 : Int) (b0_2 : Int) : Option zq65.R := zq65.o0 N a1 b0_0 b0_1 b0_2 ((fun w0 w1 w2 w3 w4 => zq65.d1 N w0 w1 w2 w3 w4))
theorem zq65.c1_0 : zq65.c1 = (.seq zq65.c2 (.seq zq65.c6 (.seq zq65.c14 (.seq zq65.c30 zq65.c31)))) := by kernel_rfl
theorem zq65.g.run (N : Nat) (a1 : Int) (b0_0 : List Int) (b0_1 : Int) (b0_2 : Int) : runC zq65.C (zq65.O N) N zq65.c1 1 (st0 [.one (.ptr 0 0), .one (.int .i64 a1)] [(71, [.sl false 5 b0_0, .int .i64 b0_1, .int .u64 b0_2])] : St D0) zq65.K0 = zq65.g N a1 b0_0 b0_1 b0_2 := by
  rw [zq65.c1_0]; unfold zq65.g; exact (zq65.o0.run N zq65.c31 a1 b0_0 b0_1 b0_2).trans (congr rfl (funext fun w0 => funext fun w1 => funext fun w2 => funext fun w3 => funext fun w4 => zq65.d1.run N w0 w1 w2 w3 w4))
theorem zq65.good (N : Nat) (a1 : Int) (b0_0 : List Int) (b0_1 : Int) (b0_2 : Int) (r : zq65.R) (h : zq65.g N a1 b0_0 b0_1 b0_2 = some r) : Go.PM.Good Try.prog T0 57 [.one (.ptr 0 0), .one (.int .i64 a1)] [(71, [.sl false 5 b0_0, .int .i64 b0_1, .int .u64 b0_2])] (zq65.sig.ret r) (zq65.sig.bs r) :=
  good_fn tabOk0 mixed0 zq65.sig (zq65.E N) Try.func57 (by kernel_rfl) (by kernel_rfl) 2227 0 1 [(30, [1, 5], [0])] 415040 false [] [(false, [.any])] (by kernel_rfl) rfl rfl ((zq65.g.run N a1 b0_0 b0_1 b0_2).trans h)
def zq65.ent (N : Nat) : Ent Try.prog T0 := mkEnt 57 [(false, [.any]), (false, [.any])] zq65.sig (fun t => zq65.g N t.2.1 t.2.2.1 t.2.2.2.1 t.2.2.2.2) (fun t r h => zq65.good N t.2.1 t.2.2.1 t.2.2.2.1 t.2.2.2.2 r h)
/-! ### zq61 -/
abbrev zq61.R : Type := Int × List Int × Int × Int
abbrev zq61.sig : Sig := ⟨[(false, 1), (false, 1)], [(71, 3)], [.ptr 0 0, .sl false 3, .sl false 5, .int .i64, .int .u64], [(false, 1)], [(71, 3)], [.int .i64, .sl false 5, .int .i64, .int .u64]⟩
def zq61.C : Cfg D0 := ⟨Try.prog, T0, 19, 0, 12, 1, [], 224, false, []⟩
def zq61.E (N : Nat) : List (Ent Try.prog T0) := [zq65.ent N]
def zq61.O (N : Nat) : Orc D0 zq61.R := orcOf (zq61.E N)
def zq61.K0 : Ex → St D0 → Option zq61.R := exitK zq61.C Try.f95.results.toList [(false, [.any])] (decOut zq61.sig)
def zq61.c1 : Code := codeAt (Try.f95.body.getD .skip) []
def zq61.o0 (N : Nat) (a1 : List Int) (b0_0 : List Int) (b0_1 : Int) (b0_2 : Int) : Option zq61.R :=
 (zq65.g N (a1.length : Int) b0_0 b0_1 b0_2).bind fun r1 =>
 bif (decide (0 ≤ r1.1)) then
  bif (decide (r1.1 < (a1.length : Int))) then
   (a1[(r1.1 : Int).toNat]?).bind fun x2 =>
   some (x2, r1.2.1, r1.2.2.1, r1.2.2.2)
  else
  none
 else
 none
theorem zq61.o0.run (N : Nat) (a1 : List Int) (b0_0 : List Int) (b0_1 : Int) (b0_2 : Int) : runC zq61.C (zq61.O N) N zq61.c1 1 (st0 [.one (.ptr 0 0), .one (.sl false 3 a1)] [(71, [.sl false 5 b0_0, .int .i64 b0_1, .int .u64 b0_2])] : St D0) zq61.K0 = zq61.o0 N a1 b0_0 b0_1 b0_2 := by kernel_rfl
def zq61.g (N : Nat) (a1 : List Int) (b0_0 : List Int) (b0_1 : Int) (b0_2 : Int) : Option zq61.R := zq61.o0 N a1 b0_0 b0_1 b0_2
theorem zq61.g.run (N : Nat) (a1 : List Int) (b0_0 : List Int) (b0_1 : Int) (b0_2 : Int) : runC zq61.C (zq61.O N) N zq61.c1 1 (st0 [.one (.ptr 0 0), .one (.sl false 3 a1)] [(71, [.sl false 5 b0_0, .int .i64 b0_1, .int .u64 b0_2])] : St D0) zq61.K0 = zq61.g N a1 b0_0 b0_1 b0_2 := by
  exact (zq61.o0.run N a1 b0_0 b0_1 b0_2).trans rfl
theorem zq61.good (N : Nat) (a1 : List Int) (b0_0 : List Int) (b0_1 : Int) (b0_2 : Int) (r : zq61.R) (h : zq61.g N a1 b0_0 b0_1 b0_2 = some r) : Go.PM.Good Try.prog T0 95 [.one (.ptr 0 0), .one (.sl false 3 a1)] [(71, [.sl false 5 b0_0, .int .i64 b0_1, .int .u64 b0_2])] (zq61.sig.ret r) (zq61.sig.bs r) :=
  good_fn tabOk0 mixed0 zq61.sig (zq61.E N) Try.func95 (by kernel_rfl) (by kernel_rfl) 19 0 1 [] 224 false [] [(false, [.any])] (by kernel_rfl) rfl rfl ((zq61.g.run N a1 b0_0 b0_1 b0_2).trans h)
def zq61.ent (N : Nat) : Ent Try.prog T0 := mkEnt 95 [(false, [.any]), (false, [.ro 3])] zq61.sig (fun t => zq61.g N t.2.1 t.2.2.1 t.2.2.2.1 t.2.2.2.2) (fun t r h => zq61.good N t.2.1 t.2.2.1 t.2.2.2.1 t.2.2.2.2 r h)
/-! ### zq64 -/
abbrev zq64.R : Type := Bool × List Int × Int × Int
abbrev zq64.sig : Sig := ⟨[(false, 1), (false, 1)], [(71, 3)], [.ptr 0 0, .int .i64, .sl false 5, .int .i64, .int .u64], [(false, 1)], [(71, 3)], [.bool, .sl false 5, .int .i64, .int .u64]⟩
def zq64.C : Cfg D0 := ⟨Try.prog, T0, 19, 0, 9, 1, [], 96, false, []⟩
def zq64.E (N : Nat) : List (Ent Try.prog T0) := [zq65.ent N]
def zq64.O (N : Nat) : Orc D0 zq64.R := orcOf (zq64.E N)
def zq64.K0 : Ex → St D0 → Option zq64.R := exitK zq64.C Try.f54.results.toList [(false, [.any])] (decOut zq64.sig)
def zq64.c1 : Code := codeAt (Try.f54.body.getD .skip) []
def zq64.o0 (N : Nat) (a1 : Int) (b0_0 : List Int) (b0_1 : Int) (b0_2 : Int) : Option zq64.R :=
 (zq65.g N a1 b0_0 b0_1 b0_2).bind fun r1 =>
 some ((r1.1 == 0), r1.2.1, r1.2.2.1, r1.2.2.2)
theorem zq64.o0.run (N : Nat) (a1 : Int) (b0_0 : List Int) (b0_1 : Int) (b0_2 : Int) : runC zq64.C (zq64.O N) N zq64.c1 1 (st0 [.one (.ptr 0 0), .one (.int .i64 a1)] [(71, [.sl false 5 b0_0, .int .i64 b0_1, .int .u64 b0_2])] : St D0) zq64.K0 = zq64.o0 N a1 b0_0 b0_1 b0_2 := by kernel_rfl
def zq64.g (N : Nat) (a1 : Int) (b0_0 : List Int) (b0_1 : Int) (b0_2 : Int) : Option zq64.R := zq64.o0 N a1 b0_0 b0_1 b0_2
theorem zq64.g.run (N : Nat) (a1 : Int) (b0_0 : List Int) (b0_1 : Int) (b0_2 : Int) : runC zq64.C (zq64.O N) N zq64.c1 1 (st0 [.one (.ptr 0 0), .one (.int .i64 a1)] [(71, [.sl false 5 b0_0, .int .i64 b0_1, .int .u64 b0_2])] : St D0) zq64.K0 = zq64.g N a1 b0_0 b0_1 b0_2 := by
  exact (zq64.o0.run N a1 b0_0 b0_1 b0_2).trans rfl
theorem zq64.good (N : Nat) (a1 : Int) (b0_0 : List Int) (b0_1 : Int) (b0_2 : Int) (r : zq64.R) (h : zq64.g N a1 b0_0 b0_1 b0_2 = some r) : Go.PM.Good Try.prog T0 54 [.one (.ptr 0 0), .one (.int .i64 a1)] [(71, [.sl false 5 b0_0, .int .i64 b0_1, .int .u64 b0_2])] (zq64.sig.ret r) (zq64.sig.bs r) :=
  good_fn tabOk0 mixed0 zq64.sig (zq64.E N) Try.func54 (by kernel_rfl) (by kernel_rfl) 19 0 1 [] 96 false [] [(false, [.any])] (by kernel_rfl) rfl rfl ((zq64.g.run N a1 b0_0 b0_1 b0_2).trans h)
def zq64.ent (N : Nat) : Ent Try.prog T0 := mkEnt 54 [(false, [.any]), (false, [.any])] zq64.sig (fun t => zq64.g N t.2.1 t.2.2.1 t.2.2.2.1 t.2.2.2.2) (fun t r h => zq64.good N t.2.1 t.2.2.1 t.2.2.2.1 t.2.2.2.2 r h)
/-! ### zq35 -/
abbrev zq35.R : Type := Bool
abbrev zq35.sig : Sig := ⟨[(false, 1), (false, 1)], [], [.sl false 25, .sl false 25], [(false, 1)], [], [.bool]⟩
def zq35.C : Cfg D0 := ⟨Try.prog, T0, 16806963, 0, 26, 0, [(58, [0, 1, 12, 13], [])], 3344704, false, []⟩
def zq35.E (N : Nat) : List (Ent Try.prog T0) := []
def zq35.O (N : Nat) : Orc D0 zq35.R := orcOf (zq35.E N)
def zq35.K0 : Ex → St D0 → Option zq35.R := exitK zq35.C Try.f25.results.toList [(false, [.any])] (decOut zq35.sig)
def zq35.c1 : Code := codeAt (Try.f25.body.getD .skip) []
def zq35.c2 : Code := codeAt (Try.f25.body.getD .skip) [false]
def zq35.c6 : Code := codeAt (Try.f25.body.getD .skip) [true, false]
def zq35.c15 : Code := codeAt (Try.f25.body.getD .skip) [true, true, true]
def zq35.c28 : Code := codeAt (Try.f25.body.getD .skip) [true, true, false, false]
def zq35.c116 : Code := codeAt (Try.f25.body.getD .skip) [true, true, false, true, false, false]
def zq35.K116 (N : Nat) (Kn58 : St D0 → Option zq35.R) : Ex → St D0 → Option zq35.R := ((fun up => (onN (fun s => zq35.C.tidy 58 s ((onN Kn58 up) .normal)) (onN Kn58 up))) (blockK 0 (onN (fun s => zq35.C.tidy 14 s (fun s' => runC zq35.C (zq35.O N) N zq35.c15 15 s' zq35.K0)) zq35.K0)))
def zq35.o1 (N : Nat) (v0 : List S25) (v1 : List S25) (v2 : Int) (v3 : Int) (c1 : (List S25) → (List S25) → Int → Int → Option zq35.R) : Option zq35.R :=
 bif (decide (v3 < v2)) then
  bif (decide (0 ≤ v3)) then
   bif (decide (v3 < (v0.length : Int))) then
    (v0[(v3 : Int).toNat]?).bind fun x1 =>
    bif (decide (0 ≤ v3)) then
     bif (decide (v3 < (v1.length : Int))) then
      (v1[(v3 : Int).toNat]?).bind fun x2 =>
      bif (!((x1.f0 == x2.f0) && ((x1.f1 == x2.f1) && true))) then
       some (false)
      else
      c1 v0 v1 v2 (w64 (v3 + 1))
     else
     none
    else
    none
   else
   none
  else
  none
 else
 some (true)
theorem zq35.o1.run (N : Nat) (Kn58 : St D0 → Option zq35.R) (v0 : List S25) (v1 : List S25) (v2 : Int) (v3 : Int) : runC zq35.C (zq35.O N) N zq35.c116 116 (mkSt [(0, .one (.sl false 25 v0)), (1, .one (.sl false 25 v1)), (12, .one (.int .i64 v2)), (13, .one (.int .i64 v3))] [] : St D0) ((fun up => (onN (fun s => zq35.C.tidy 58 s ((onN Kn58 up) .normal)) (onN Kn58 up))) (blockK 0 (onN (fun s => zq35.C.tidy 14 s (fun s' => runC zq35.C (zq35.O N) N zq35.c15 15 s' zq35.K0)) zq35.K0))) = zq35.o1 N v0 v1 v2 v3 ((fun w0 w1 w2 w3 => Kn58 (mkSt [(0, .one (.sl false 25 w0)), (1, .one (.sl false 25 w1)), (12, .one (.int .i64 w2)), (13, .one (.int .i64 w3))] [] : St D0))) := by kernel_rfl
def zq35.d1 (N : Nat) (v0 : List S25) (v1 : List S25) (v2 : Int) (v3 : Int) (c1 : (List S25) → (List S25) → Int → Int → Option zq35.R) : Option zq35.R := zq35.o1 N v0 v1 v2 v3 c1
theorem zq35.d1.run (N : Nat) (Kn58 : St D0 → Option zq35.R) (v0 : List S25) (v1 : List S25) (v2 : Int) (v3 : Int) : runC zq35.C (zq35.O N) N zq35.c116 116 (mkSt [(0, .one (.sl false 25 v0)), (1, .one (.sl false 25 v1)), (12, .one (.int .i64 v2)), (13, .one (.int .i64 v3))] [] : St D0) (zq35.K116 N Kn58) = zq35.d1 N v0 v1 v2 v3 ((fun w0 w1 w2 w3 => Kn58 (mkSt [(0, .one (.sl false 25 w0)), (1, .one (.sl false 25 w1)), (12, .one (.int .i64 w2)), (13, .one (.int .i64 w3))] [] : St D0))) := by
  exact (zq35.o1.run N Kn58 v0 v1 v2 v3).trans rfl
def zq35.K58 (N : Nat) : Ex → St D0 → Option zq35.R := (blockK 0 (onN (fun s => zq35.C.tidy 14 s (fun s' => runC zq35.C (zq35.O N) N zq35.c15 15 s' zq35.K0)) zq35.K0))
def zq35.l1 (N : Nat) : Nat → (List S25) → (List S25) → Int → Int → Option zq35.R
  | 0, _, _, _, _ => none
  | n + 1, v0, v1, v2, v3 => zq35.d1 N v0 v1 v2 v3 ((fun w0 w1 w2 w3 => zq35.l1 N n w0 w1 w2 w3))
theorem zq35.loop58 (N : Nat) : ∀ n, (∀ (v0 : List S25) (v1 : List S25) (v2 : Int) (v3 : Int), iter (loopF zq35.C (zq35.O N) N zq35.c116 58) n (mkSt [(0, .one (.sl false 25 v0)), (1, .one (.sl false 25 v1)), (12, .one (.int .i64 v2)), (13, .one (.int .i64 v3))] [] : St D0) (zq35.K58 N) = zq35.l1 N n v0 v1 v2 v3)
  | 0 => (fun v0 v1 v2 v3 => rfl)
  | n + 1 => (fun v0 v1 v2 v3 => (zq35.d1.run N (fun s => iter (loopF zq35.C (zq35.O N) N zq35.c116 58) n s (zq35.K58 N)) v0 v1 v2 v3).trans (show _ = zq35.d1 N v0 v1 v2 v3 ((fun w0 w1 w2 w3 => zq35.l1 N n w0 w1 w2 w3)) from (congr rfl (funext fun w0 => funext fun w1 => funext fun w2 => funext fun w3 => (zq35.loop58 N n) w0 w1 w2 w3))))
def zq35.o0 (N : Nat) (a0 : List S25) (a1 : List S25) (c1 : (List S25) → (List S25) → Int → Int → Option zq35.R) : Option zq35.R :=
 bif ((a0.length : Int) != (a1.length : Int)) then
  some (false)
 else
 c1 a0 a1 (a0.length : Int) 0
theorem zq35.o0.run (N : Nat) (H116 : Code) (a0 : List S25) (a1 : List S25) : runC zq35.C (zq35.O N) N (.seq zq35.c2 (.seq zq35.c6 (.seq (.seq zq35.c28 (.block 0 (.loop H116))) zq35.c15))) 1 (st0 [.one (.sl false 25 a0), .one (.sl false 25 a1)] [] : St D0) zq35.K0 = zq35.o0 N a0 a1 ((fun w0 w1 w2 w3 => iter (loopF zq35.C (zq35.O N) N H116 58) N (mkSt [(0, .one (.sl false 25 w0)), (1, .one (.sl false 25 w1)), (12, .one (.int .i64 w2)), (13, .one (.int .i64 w3))] [] : St D0) (blockK 0 (onN (fun s => zq35.C.tidy 14 s (fun s' => runC zq35.C (zq35.O N) N zq35.c15 15 s' zq35.K0)) zq35.K0)))) := by kernel_rfl
def zq35.g (N : Nat) (a0 : List S25) (a1 : List S25) : Option zq35.R := zq35.o0 N a0 a1 ((fun w0 w1 w2 w3 => zq35.l1 N N w0 w1 w2 w3))
theorem zq35.c1_0 : zq35.c1 = (.seq zq35.c2 (.seq zq35.c6 (.seq (.seq zq35.c28 (.block 0 (.loop zq35.c116))) zq35.c15))) := by kernel_rfl
theorem zq35.g.run (N : Nat) (a0 : List S25) (a1 : List S25) : runC zq35.C (zq35.O N) N zq35.c1 1 (st0 [.one (.sl false 25 a0), .one (.sl false 25 a1)] [] : St D0) zq35.K0 = zq35.g N a0 a1 := by
  rw [zq35.c1_0]; unfold zq35.g; exact (zq35.o0.run N zq35.c116 a0 a1).trans (congr rfl (funext fun w0 => funext fun w1 => funext fun w2 => funext fun w3 => (zq35.loop58 N N) w0 w1 w2 w3))
theorem zq35.good (N : Nat) (a0 : List S25) (a1 : List S25) (r : zq35.R) (h : zq35.g N a0 a1 = some r) : Go.PM.Good Try.prog T0 25 [.one (.sl false 25 a0), .one (.sl false 25 a1)] [] (zq35.sig.ret r) (zq35.sig.bs r) :=
  good_fn tabOk0 mixed0 zq35.sig (zq35.E N) Try.func25 (by kernel_rfl) (by kernel_rfl) 16806963 0 0 [(58, [0, 1, 12, 13], [])] 3344704 false [] [(false, [.any])] (by kernel_rfl) rfl rfl ((zq35.g.run N a0 a1).trans h)
def zq35.ent (N : Nat) : Ent Try.prog T0 := mkEnt 25 [(false, [.ro 25]), (false, [.ro 25])] zq35.sig (fun t => zq35.g N t.1 t.2) (fun t r h => zq35.good N t.1 t.2 r h)
/-! ### zq34 -/
abbrev zq34.R : Type := Bool
abbrev zq34.sig : Sig := ⟨[(false, 1)], [], [.sl false 25], [(false, 1)], [], [.bool]⟩
def zq34.C : Cfg D0 := ⟨Try.prog, T0, 17179869325, 0, 35, 0, [(26, [0, 3], [])], 415436080, false, []⟩
def zq34.E (N : Nat) : List (Ent Try.prog T0) := []
def zq34.O (N : Nat) : Orc D0 zq34.R := orcOf (zq34.E N)
def zq34.K0 : Ex → St D0 → Option zq34.R := exitK zq34.C Try.f17.results.toList [(false, [.any])] (decOut zq34.sig)
def zq34.c1 : Code := codeAt (Try.f17.body.getD .skip) []
def zq34.c2 : Code := codeAt (Try.f17.body.getD .skip) [false]
def zq34.c7 : Code := codeAt (Try.f17.body.getD .skip) [true, true]
def zq34.c12 : Code := codeAt (Try.f17.body.getD .skip) [true, false, false]
def zq34.c52 : Code := codeAt (Try.f17.body.getD .skip) [true, false, true, false, false]
def zq34.K52 (N : Nat) (Kn26 : St D0 → Option zq34.R) : Ex → St D0 → Option zq34.R := ((fun up => (onN (fun s => zq34.C.tidy 26 s ((onN Kn26 up) .normal)) (onN Kn26 up))) (blockK 0 (onN (fun s => zq34.C.tidy 6 s (fun s' => runC zq34.C (zq34.O N) N zq34.c7 7 s' zq34.K0)) zq34.K0)))
def zq34.o1 (N : Nat) (v0 : List S25) (v1 : Int) (c1 : (List S25) → Int → Option zq34.R) : Option zq34.R :=
 bif (decide (v1 < (v0.length : Int))) then
  bif (decide (0 ≤ (w64 (v1 - 1)))) then
   bif (decide ((w64 (v1 - 1)) < (v0.length : Int))) then
    (v0[((w64 (v1 - 1)) : Int).toNat]?).bind fun x1 =>
    bif (decide (0 ≤ v1)) then
     bif (decide (v1 < (v0.length : Int))) then
      (v0[(v1 : Int).toNat]?).bind fun x2 =>
      bif (decide (0 ≤ v1)) then
       bif (decide (v1 < (v0.length : Int))) then
        (v0[(v1 : Int).toNat]?).bind fun x3 =>
        bif (decide (0 ≤ (w64 (v1 - 1)))) then
         bif (decide ((w64 (v1 - 1)) < (v0.length : Int))) then
          (v0[((w64 (v1 - 1)) : Int).toNat]?).bind fun x4 =>
          bif (decide ((w64 (x1.f0 * x2.f1)) ≥ (w64 (x3.f0 * x4.f1)))) then
           some (false)
          else
          c1 v0 (w64 (v1 + 1))
         else
         none
        else
        none
       else
       none
      else
      none
     else
     none
    else
    none
   else
   none
  else
  none
 else
 some (true)
theorem zq34.o1.run (N : Nat) (Kn26 : St D0 → Option zq34.R) (v0 : List S25) (v1 : Int) : runC zq34.C (zq34.O N) N zq34.c52 52 (mkSt [(0, .one (.sl false 25 v0)), (3, .one (.int .i64 v1))] [] : St D0) ((fun up => (onN (fun s => zq34.C.tidy 26 s ((onN Kn26 up) .normal)) (onN Kn26 up))) (blockK 0 (onN (fun s => zq34.C.tidy 6 s (fun s' => runC zq34.C (zq34.O N) N zq34.c7 7 s' zq34.K0)) zq34.K0))) = zq34.o1 N v0 v1 ((fun w0 w1 => Kn26 (mkSt [(0, .one (.sl false 25 w0)), (3, .one (.int .i64 w1))] [] : St D0))) := by kernel_rfl
def zq34.d1 (N : Nat) (v0 : List S25) (v1 : Int) (c1 : (List S25) → Int → Option zq34.R) : Option zq34.R := zq34.o1 N v0 v1 c1
theorem zq34.d1.run (N : Nat) (Kn26 : St D0 → Option zq34.R) (v0 : List S25) (v1 : Int) : runC zq34.C (zq34.O N) N zq34.c52 52 (mkSt [(0, .one (.sl false 25 v0)), (3, .one (.int .i64 v1))] [] : St D0) (zq34.K52 N Kn26) = zq34.d1 N v0 v1 ((fun w0 w1 => Kn26 (mkSt [(0, .one (.sl false 25 w0)), (3, .one (.int .i64 w1))] [] : St D0))) := by
  exact (zq34.o1.run N Kn26 v0 v1).trans rfl
def zq34.K26 (N : Nat) : Ex → St D0 → Option zq34.R := (blockK 0 (onN (fun s => zq34.C.tidy 6 s (fun s' => runC zq34.C (zq34.O N) N zq34.c7 7 s' zq34.K0)) zq34.K0))
def zq34.l1 (N : Nat) : Nat → (List S25) → Int → Option zq34.R
  | 0, _, _ => none
  | n + 1, v0, v1 => zq34.d1 N v0 v1 ((fun w0 w1 => zq34.l1 N n w0 w1))
theorem zq34.loop26 (N : Nat) : ∀ n, (∀ (v0 : List S25) (v1 : Int), iter (loopF zq34.C (zq34.O N) N zq34.c52 26) n (mkSt [(0, .one (.sl false 25 v0)), (3, .one (.int .i64 v1))] [] : St D0) (zq34.K26 N) = zq34.l1 N n v0 v1)
  | 0 => (fun v0 v1 => rfl)
  | n + 1 => (fun v0 v1 => (zq34.d1.run N (fun s => iter (loopF zq34.C (zq34.O N) N zq34.c52 26) n s (zq34.K26 N)) v0 v1).trans (show _ = zq34.d1 N v0 v1 ((fun w0 w1 => zq34.l1 N n w0 w1)) from (congr rfl (funext fun w0 => funext fun w1 => (zq34.loop26 N n) w0 w1))))
def zq34.o0 (N : Nat) (a0 : List S25) (c1 : (List S25) → Int → Option zq34.R) : Option zq34.R :=
 c1 a0 1
theorem zq34.o0.run (N : Nat) (H52 : Code) (a0 : List S25) : runC zq34.C (zq34.O N) N (.seq zq34.c2 (.seq (.seq zq34.c12 (.block 0 (.loop H52))) zq34.c7)) 1 (st0 [.one (.sl false 25 a0)] [] : St D0) zq34.K0 = zq34.o0 N a0 ((fun w0 w1 => iter (loopF zq34.C (zq34.O N) N H52 26) N (mkSt [(0, .one (.sl false 25 w0)), (3, .one (.int .i64 w1))] [] : St D0) (blockK 0 (onN (fun s => zq34.C.tidy 6 s (fun s' => runC zq34.C (zq34.O N) N zq34.c7 7 s' zq34.K0)) zq34.K0)))) := by kernel_rfl
def zq34.g (N : Nat) (a0 : List S25) : Option zq34.R := zq34.o0 N a0 ((fun w0 w1 => zq34.l1 N N w0 w1))
theorem zq34.c1_0 : zq34.c1 = (.seq zq34.c2 (.seq (.seq zq34.c12 (.block 0 (.loop zq34.c52))) zq34.c7)) := by kernel_rfl
theorem zq34.g.run (N : Nat) (a0 : List S25) : runC zq34.C (zq34.O N) N zq34.c1 1 (st0 [.one (.sl false 25 a0)] [] : St D0) zq34.K0 = zq34.g N a0 := by
  rw [zq34.c1_0]; unfold zq34.g; exact (zq34.o0.run N zq34.c52 a0).trans (congr rfl (funext fun w0 => funext fun w1 => (zq34.loop26 N N) w0 w1))
theorem zq34.good (N : Nat) (a0 : List S25) (r : zq34.R) (h : zq34.g N a0 = some r) : Go.PM.Good Try.prog T0 17 [.one (.sl false 25 a0)] [] (zq34.sig.ret r) (zq34.sig.bs r) :=
  good_fn tabOk0 mixed0 zq34.sig (zq34.E N) Try.func17 (by kernel_rfl) (by kernel_rfl) 17179869325 0 0 [(26, [0, 3], [])] 415436080 false [] [(false, [.any])] (by kernel_rfl) rfl rfl ((zq34.g.run N a0).trans h)
def zq34.ent (N : Nat) : Ent Try.prog T0 := mkEnt 17 [(false, [.ro 25])] zq34.sig (fun t => zq34.g N t) (fun t r h => zq34.good N t r h)
/-! ### zq67 -/
abbrev zq67.R : Type := Int × Int × List Int × Int × Int
abbrev zq67.sig : Sig := ⟨[(false, 1)], [(71, 3)], [.ptr 0 0, .sl false 5, .int .i64, .int .u64], [(true, 2)], [(71, 3)], [.int .i64, .int .i64, .sl false 5, .int .i64, .int .u64]⟩
def zq67.C : Cfg D0 := ⟨Try.prog, T0, 61, 0, 24, 1, [], 722688, false, []⟩
def zq67.E (N : Nat) : List (Ent Try.prog T0) := [zq65.ent N, zq58.ent N]
def zq67.O (N : Nat) : Orc D0 zq67.R := orcOf (zq67.E N)
def zq67.K0 : Ex → St D0 → Option zq67.R := exitK zq67.C Try.f97.results.toList [(true, [.any, .any])] (decOut zq67.sig)
def zq67.c1 : Code := codeAt (Try.f97.body.getD .skip) []
def zq67.o0 (N : Nat) (b0_0 : List Int) (b0_1 : Int) (b0_2 : Int) : Option zq67.R :=
 (zq65.g N (([1, 2, 3, 4, 6, 8, 11, 12, 13, 24, 60, 143, 720, 719, 7, 5] : List Int).length : Int) b0_0 b0_1 b0_2).bind fun r1 =>
 bif (decide (0 ≤ r1.1)) then
  bif (decide (r1.1 < (([1, 2, 3, 4, 6, 8, 11, 12, 13, 24, 60, 143, 720, 719, 7, 5] : List Int).length : Int))) then
   (([1, 2, 3, 4, 6, 8, 11, 12, 13, 24, 60, 143, 720, 719, 7, 5] : List Int)[(r1.1 : Int).toNat]?).bind fun x2 =>
   (zq65.g N x2 r1.2.1 r1.2.2.1 r1.2.2.2).bind fun r3 =>
   (zq58.g N r3.1 x2).bind fun r4 =>
   some (r4.1, r4.2.1, r3.2.1, r3.2.2.1, r3.2.2.2)
  else
  none
 else
 none
theorem zq67.o0.run (N : Nat) (b0_0 : List Int) (b0_1 : Int) (b0_2 : Int) : runC zq67.C (zq67.O N) N zq67.c1 1 (st0 [.one (.ptr 0 0)] [(71, [.sl false 5 b0_0, .int .i64 b0_1, .int .u64 b0_2])] : St D0) zq67.K0 = zq67.o0 N b0_0 b0_1 b0_2 := by kernel_rfl
def zq67.g (N : Nat) (b0_0 : List Int) (b0_1 : Int) (b0_2 : Int) : Option zq67.R := zq67.o0 N b0_0 b0_1 b0_2
theorem zq67.g.run (N : Nat) (b0_0 : List Int) (b0_1 : Int) (b0_2 : Int) : runC zq67.C (zq67.O N) N zq67.c1 1 (st0 [.one (.ptr 0 0)] [(71, [.sl false 5 b0_0, .int .i64 b0_1, .int .u64 b0_2])] : St D0) zq67.K0 = zq67.g N b0_0 b0_1 b0_2 := by
  exact (zq67.o0.run N b0_0 b0_1 b0_2).trans rfl
theorem zq67.good (N : Nat) (b0_0 : List Int) (b0_1 : Int) (b0_2 : Int) (r : zq67.R) (h : zq67.g N b0_0 b0_1 b0_2 = some r) : Go.PM.Good Try.prog T0 97 [.one (.ptr 0 0)] [(71, [.sl false 5 b0_0, .int .i64 b0_1, .int .u64 b0_2])] (zq67.sig.ret r) (zq67.sig.bs r) :=
  good_fn tabOk0 mixed0 zq67.sig (zq67.E N) Try.func97 (by kernel_rfl) (by kernel_rfl) 61 0 1 [] 722688 false [] [(true, [.any, .any])] (by kernel_rfl) rfl rfl ((zq67.g.run N b0_0 b0_1 b0_2).trans h)
def zq67.ent (N : Nat) : Ent Try.prog T0 := mkEnt 97 [(false, [.any])] zq67.sig (fun t => zq67.g N t.2.1 t.2.2.1 t.2.2.2) (fun t r h => zq67.good N t.2.1 t.2.2.1 t.2.2.2 r h)
/-! ### zq68 -/
abbrev zq68.R : Type := Int × Int × List Int × Int × Int
abbrev zq68.sig : Sig := ⟨[(false, 1)], [(71, 3)], [.ptr 0 0, .sl false 5, .int .i64, .int .u64], [(true, 2)], [(71, 3)], [.int .i64, .int .i64, .sl false 5, .int .i64, .int .u64]⟩
def zq68.C : Cfg D0 := ⟨Try.prog, T0, 1065013, 0, 28, 1, [], 71369864, false, []⟩
def zq68.E (N : Nat) : List (Ent Try.prog T0) := [zq65.ent N, zq61.ent N, zq67.ent N]
def zq68.O (N : Nat) : Orc D0 zq68.R := orcOf (zq68.E N)
def zq68.K0 : Ex → St D0 → Option zq68.R := exitK zq68.C Try.f55.results.toList [(true, [.any, .any])] (decOut zq68.sig)
def zq68.c1 : Code := codeAt (Try.f55.body.getD .skip) []
def zq68.o0 (N : Nat) (b0_0 : List Int) (b0_1 : Int) (b0_2 : Int) : Option zq68.R :=
 (zq65.g N 16 b0_0 b0_1 b0_2).bind fun r1 =>
 bif (r1.1 == 0) then
  (zq61.g N ([(-1), 0, 2, 5, 4611686018427387904] : List Int) r1.2.1 r1.2.2.1 r1.2.2.2).bind fun r2 =>
  (zq61.g N ([0, 1, 2, 4, 1000000, 1000001, (-3)] : List Int) r2.2.1 r2.2.2.1 r2.2.2.2).bind fun r3 =>
  some (r2.1, r3.1, r3.2.1, r3.2.2.1, r3.2.2.2)
 else
 bif (r1.1 == 1) then
  (zq61.g N ([1, 999999, 7] : List Int) r1.2.1 r1.2.2.1 r1.2.2.2).bind fun r4 =>
  some (r4.1, 1000000, r4.2.1, r4.2.2.1, r4.2.2.2)
 else
 bif (r1.1 == 2) then
  (zq65.g N 900000 r1.2.1 r1.2.2.1 r1.2.2.2).bind fun r5 =>
  some ((w64 (1 + r5.1)), 999983, r5.2.1, r5.2.2.1, r5.2.2.2)
 else
 (zq67.g N r1.2.1 r1.2.2.1 r1.2.2.2).bind fun r6 =>
 some (r6.1, r6.2.1, r6.2.2.1, r6.2.2.2.1, r6.2.2.2.2)
theorem zq68.o0.run (N : Nat) (b0_0 : List Int) (b0_1 : Int) (b0_2 : Int) : runC zq68.C (zq68.O N) N zq68.c1 1 (st0 [.one (.ptr 0 0)] [(71, [.sl false 5 b0_0, .int .i64 b0_1, .int .u64 b0_2])] : St D0) zq68.K0 = zq68.o0 N b0_0 b0_1 b0_2 := by kernel_rfl
def zq68.g (N : Nat) (b0_0 : List Int) (b0_1 : Int) (b0_2 : Int) : Option zq68.R := zq68.o0 N b0_0 b0_1 b0_2
theorem zq68.g.run (N : Nat) (b0_0 : List Int) (b0_1 : Int) (b0_2 : Int) : runC zq68.C (zq68.O N) N zq68.c1 1 (st0 [.one (.ptr 0 0)] [(71, [.sl false 5 b0_0, .int .i64 b0_1, .int .u64 b0_2])] : St D0) zq68.K0 = zq68.g N b0_0 b0_1 b0_2 := by
  exact (zq68.o0.run N b0_0 b0_1 b0_2).trans rfl
theorem zq68.good (N : Nat) (b0_0 : List Int) (b0_1 : Int) (b0_2 : Int) (r : zq68.R) (h : zq68.g N b0_0 b0_1 b0_2 = some r) : Go.PM.Good Try.prog T0 55 [.one (.ptr 0 0)] [(71, [.sl false 5 b0_0, .int .i64 b0_1, .int .u64 b0_2])] (zq68.sig.ret r) (zq68.sig.bs r) :=
  good_fn tabOk0 mixed0 zq68.sig (zq68.E N) Try.func55 (by kernel_rfl) (by kernel_rfl) 1065013 0 1 [] 71369864 false [] [(true, [.any, .any])] (by kernel_rfl) rfl rfl ((zq68.g.run N b0_0 b0_1 b0_2).trans h)
def zq68.ent (N : Nat) : Ent Try.prog T0 := mkEnt 55 [(false, [.any])] zq68.sig (fun t => zq68.g N t.2.1 t.2.2.1 t.2.2.2) (fun t r h => zq68.good N t.2.1 t.2.2.1 t.2.2.2 r h)
/-! ### zq62 -/
abbrev zq62.R : Type := Int × List Int × Int × Int
abbrev zq62.sig : Sig := ⟨[(false, 1)], [(71, 3)], [.ptr 0 0, .sl false 5, .int .i64, .int .u64], [(false, 1)], [(71, 3)], [.int .i64, .sl false 5, .int .i64, .int .u64]⟩
def zq62.C : Cfg D0 := ⟨Try.prog, T0, 5, 0, 6, 1, [], 8, false, []⟩
def zq62.E (N : Nat) : List (Ent Try.prog T0) := [zq61.ent N]
def zq62.O (N : Nat) : Orc D0 zq62.R := orcOf (zq62.E N)
def zq62.K0 : Ex → St D0 → Option zq62.R := exitK zq62.C Try.f52.results.toList [(false, [.any])] (decOut zq62.sig)
def zq62.c1 : Code := codeAt (Try.f52.body.getD .skip) []
def zq62.o0 (N : Nat) (b0_0 : List Int) (b0_1 : Int) (b0_2 : Int) : Option zq62.R :=
 (zq61.g N ([12, 24, 10, 12, 24, 6, 2, 3, 5, 12, 1, 25, 0] : List Int) b0_0 b0_1 b0_2).bind fun r1 =>
 some (r1.1, r1.2.1, r1.2.2.1, r1.2.2.2)
theorem zq62.o0.run (N : Nat) (b0_0 : List Int) (b0_1 : Int) (b0_2 : Int) : runC zq62.C (zq62.O N) N zq62.c1 1 (st0 [.one (.ptr 0 0)] [(71, [.sl false 5 b0_0, .int .i64 b0_1, .int .u64 b0_2])] : St D0) zq62.K0 = zq62.o0 N b0_0 b0_1 b0_2 := by kernel_rfl
def zq62.g (N : Nat) (b0_0 : List Int) (b0_1 : Int) (b0_2 : Int) : Option zq62.R := zq62.o0 N b0_0 b0_1 b0_2
theorem zq62.g.run (N : Nat) (b0_0 : List Int) (b0_1 : Int) (b0_2 : Int) : runC zq62.C (zq62.O N) N zq62.c1 1 (st0 [.one (.ptr 0 0)] [(71, [.sl false 5 b0_0, .int .i64 b0_1, .int .u64 b0_2])] : St D0) zq62.K0 = zq62.g N b0_0 b0_1 b0_2 := by
  exact (zq62.o0.run N b0_0 b0_1 b0_2).trans rfl
theorem zq62.good (N : Nat) (b0_0 : List Int) (b0_1 : Int) (b0_2 : Int) (r : zq62.R) (h : zq62.g N b0_0 b0_1 b0_2 = some r) : Go.PM.Good Try.prog T0 52 [.one (.ptr 0 0)] [(71, [.sl false 5 b0_0, .int .i64 b0_1, .int .u64 b0_2])] (zq62.sig.ret r) (zq62.sig.bs r) :=
  good_fn tabOk0 mixed0 zq62.sig (zq62.E N) Try.func52 (by kernel_rfl) (by kernel_rfl) 5 0 1 [] 8 false [] [(false, [.any])] (by kernel_rfl) rfl rfl ((zq62.g.run N b0_0 b0_1 b0_2).trans h)
def zq62.ent (N : Nat) : Ent Try.prog T0 := mkEnt 52 [(false, [.any])] zq62.sig (fun t => zq62.g N t.2.1 t.2.2.1 t.2.2.2) (fun t r h => zq62.good N t.2.1 t.2.2.1 t.2.2.2 r h)
/-! ### zq76 -/
abbrev zq76.R : Type := List S25
abbrev zq76.sig : Sig := ⟨[(false, 1), (false, 1)], [], [.int .i64, .int .i64], [(false, 1)], [], [.sl true 25]⟩
def zq76.C : Cfg D0 := ⟨Try.prog, T0, 16627, 0, 28, 0, [(58, [0, 1, 5, 6], [])], 826368, false, []⟩
def zq76.E (N : Nat) : List (Ent Try.prog T0) := [zq58.ent N]
def zq76.O (N : Nat) : Orc D0 zq76.R := orcOf (zq76.E N)
def zq76.K0 : Ex → St D0 → Option zq76.R := exitK zq76.C Try.f73.results.toList [(false, [.own 25])] (decOut zq76.sig)
def zq76.c1 : Code := codeAt (Try.f73.body.getD .skip) []
def zq76.c2 : Code := codeAt (Try.f73.body.getD .skip) [false]
def zq76.c6 : Code := codeAt (Try.f73.body.getD .skip) [true, false]
def zq76.c15 : Code := codeAt (Try.f73.body.getD .skip) [true, true, true]
def zq76.c28 : Code := codeAt (Try.f73.body.getD .skip) [true, true, false, false]
def zq76.c116 : Code := codeAt (Try.f73.body.getD .skip) [true, true, false, true, false, false]
def zq76.K116 (N : Nat) (Kn58 : St D0 → Option zq76.R) : Ex → St D0 → Option zq76.R := ((fun up => (onN (fun s => zq76.C.tidy 58 s ((onN Kn58 up) .normal)) (onN Kn58 up))) (blockK 0 (onN (fun s => zq76.C.tidy 14 s (fun s' => runC zq76.C (zq76.O N) N zq76.c15 15 s' zq76.K0)) zq76.K0)))
def zq76.o1 (N : Nat) (v0 : Int) (v1 : Int) (v2 : Int) (c2 : Int → Int → (List S25) → Int → Option zq76.R) : Option zq76.R :=
 bif (decide (v2 < (w64 (v0 + v1)))) then
  (zq58.g N v2 v1).bind fun r1 =>
  bif (Nat.blt (([] : List S25).length + ([(⟨r1.1, r1.2.1⟩ : S25)] : List S25).length) 8796093022208) then
   c2 v0 v1 (([] : List S25) ++ ([(⟨r1.1, r1.2.1⟩ : S25)] : List S25)) (w64 (v2 + 1))
  else
  none
 else
 some (([] : List S25))
theorem zq76.o1.run (N : Nat) (Kn58 : St D0 → Option zq76.R) (v0 : Int) (v1 : Int) (v2 : Int) : runC zq76.C (zq76.O N) N zq76.c116 116 (mkSt [(0, .one (.int .i64 v0)), (1, .one (.int .i64 v1)), (5, .one (.nl)), (6, .one (.int .i64 v2))] [] : St D0) ((fun up => (onN (fun s => zq76.C.tidy 58 s ((onN Kn58 up) .normal)) (onN Kn58 up))) (blockK 0 (onN (fun s => zq76.C.tidy 14 s (fun s' => runC zq76.C (zq76.O N) N zq76.c15 15 s' zq76.K0)) zq76.K0))) = zq76.o1 N v0 v1 v2 ((fun w0 w1 w2 w3 => Kn58 (mkSt [(0, .one (.int .i64 w0)), (1, .one (.int .i64 w1)), (5, .one (.sl true 25 w2)), (6, .one (.int .i64 w3))] [] : St D0))) := by kernel_rfl
def zq76.d1 (N : Nat) (v0 : Int) (v1 : Int) (v2 : Int) (c2 : Int → Int → (List S25) → Int → Option zq76.R) : Option zq76.R := zq76.o1 N v0 v1 v2 c2
theorem zq76.d1.run (N : Nat) (Kn58 : St D0 → Option zq76.R) (v0 : Int) (v1 : Int) (v2 : Int) : runC zq76.C (zq76.O N) N zq76.c116 116 (mkSt [(0, .one (.int .i64 v0)), (1, .one (.int .i64 v1)), (5, .one (.nl)), (6, .one (.int .i64 v2))] [] : St D0) (zq76.K116 N Kn58) = zq76.d1 N v0 v1 v2 ((fun w0 w1 w2 w3 => Kn58 (mkSt [(0, .one (.int .i64 w0)), (1, .one (.int .i64 w1)), (5, .one (.sl true 25 w2)), (6, .one (.int .i64 w3))] [] : St D0))) := by
  exact (zq76.o1.run N Kn58 v0 v1 v2).trans rfl
def zq76.o2 (N : Nat) (v0 : Int) (v1 : Int) (v2 : List S25) (v3 : Int) (c2 : Int → Int → (List S25) → Int → Option zq76.R) : Option zq76.R :=
 bif (decide (v3 < (w64 (v0 + v1)))) then
  (zq58.g N v3 v1).bind fun r1 =>
  bif (Nat.blt (v2.length + ([(⟨r1.1, r1.2.1⟩ : S25)] : List S25).length) 8796093022208) then
   c2 v0 v1 (v2 ++ ([(⟨r1.1, r1.2.1⟩ : S25)] : List S25)) (w64 (v3 + 1))
  else
  none
 else
 some (v2)
theorem zq76.o2.run (N : Nat) (Kn58 : St D0 → Option zq76.R) (v0 : Int) (v1 : Int) (v2 : List S25) (v3 : Int) : runC zq76.C (zq76.O N) N zq76.c116 116 (mkSt [(0, .one (.int .i64 v0)), (1, .one (.int .i64 v1)), (5, .one (.sl true 25 v2)), (6, .one (.int .i64 v3))] [] : St D0) ((fun up => (onN (fun s => zq76.C.tidy 58 s ((onN Kn58 up) .normal)) (onN Kn58 up))) (blockK 0 (onN (fun s => zq76.C.tidy 14 s (fun s' => runC zq76.C (zq76.O N) N zq76.c15 15 s' zq76.K0)) zq76.K0))) = zq76.o2 N v0 v1 v2 v3 ((fun w0 w1 w2 w3 => Kn58 (mkSt [(0, .one (.int .i64 w0)), (1, .one (.int .i64 w1)), (5, .one (.sl true 25 w2)), (6, .one (.int .i64 w3))] [] : St D0))) := by kernel_rfl
def zq76.d2 (N : Nat) (v0 : Int) (v1 : Int) (v2 : List S25) (v3 : Int) (c2 : Int → Int → (List S25) → Int → Option zq76.R) : Option zq76.R := zq76.o2 N v0 v1 v2 v3 c2
theorem zq76.d2.run (N : Nat) (Kn58 : St D0 → Option zq76.R) (v0 : Int) (v1 : Int) (v2 : List S25) (v3 : Int) : runC zq76.C (zq76.O N) N zq76.c116 116 (mkSt [(0, .one (.int .i64 v0)), (1, .one (.int .i64 v1)), (5, .one (.sl true 25 v2)), (6, .one (.int .i64 v3))] [] : St D0) (zq76.K116 N Kn58) = zq76.d2 N v0 v1 v2 v3 ((fun w0 w1 w2 w3 => Kn58 (mkSt [(0, .one (.int .i64 w0)), (1, .one (.int .i64 w1)), (5, .one (.sl true 25 w2)), (6, .one (.int .i64 w3))] [] : St D0))) := by
  exact (zq76.o2.run N Kn58 v0 v1 v2 v3).trans rfl
def zq76.K58 (N : Nat) : Ex → St D0 → Option zq76.R := (blockK 0 (onN (fun s => zq76.C.tidy 14 s (fun s' => runC zq76.C (zq76.O N) N zq76.c15 15 s' zq76.K0)) zq76.K0))
mutual
def zq76.l1 (N : Nat) : Nat → Int → Int → Int → Option zq76.R
  | 0, _, _, _ => none
  | n + 1, v0, v1, v2 => zq76.d1 N v0 v1 v2 ((fun w0 w1 w2 w3 => zq76.l2 N n w0 w1 w2 w3))
def zq76.l2 (N : Nat) : Nat → Int → Int → (List S25) → Int → Option zq76.R
  | 0, _, _, _, _ => none
  | n + 1, v0, v1, v2, v3 => zq76.d2 N v0 v1 v2 v3 ((fun w0 w1 w2 w3 => zq76.l2 N n w0 w1 w2 w3))
end
theorem zq76.loop58 (N : Nat) : ∀ n, (∀ (v0 : Int) (v1 : Int) (v2 : Int), iter (loopF zq76.C (zq76.O N) N zq76.c116 58) n (mkSt [(0, .one (.int .i64 v0)), (1, .one (.int .i64 v1)), (5, .one (.nl)), (6, .one (.int .i64 v2))] [] : St D0) (zq76.K58 N) = zq76.l1 N n v0 v1 v2) ∧ (∀ (v0 : Int) (v1 : Int) (v2 : List S25) (v3 : Int), iter (loopF zq76.C (zq76.O N) N zq76.c116 58) n (mkSt [(0, .one (.int .i64 v0)), (1, .one (.int .i64 v1)), (5, .one (.sl true 25 v2)), (6, .one (.int .i64 v3))] [] : St D0) (zq76.K58 N) = zq76.l2 N n v0 v1 v2 v3)
  | 0 => ⟨(fun v0 v1 v2 => rfl), (fun v0 v1 v2 v3 => rfl)⟩
  | n + 1 => ⟨(fun v0 v1 v2 => (zq76.d1.run N (fun s => iter (loopF zq76.C (zq76.O N) N zq76.c116 58) n s (zq76.K58 N)) v0 v1 v2).trans (show _ = zq76.d1 N v0 v1 v2 ((fun w0 w1 w2 w3 => zq76.l2 N n w0 w1 w2 w3)) from (congr rfl (funext fun w0 => funext fun w1 => funext fun w2 => funext fun w3 => (zq76.loop58 N n).2 w0 w1 w2 w3)))), (fun v0 v1 v2 v3 => (zq76.d2.run N (fun s => iter (loopF zq76.C (zq76.O N) N zq76.c116 58) n s (zq76.K58 N)) v0 v1 v2 v3).trans (show _ = zq76.d2 N v0 v1 v2 v3 ((fun w0 w1 w2 w3 => zq76.l2 N n w0 w1 w2 w3)) from (congr rfl (funext fun w0 => funext fun w1 => funext fun w2 => funext fun w3 => (zq76.loop58 N n).2 w0 w1 w2 w3))))⟩
def zq76.o0 (N : Nat) (a0 : Int) (a1 : Int) (c1 : Int → Int → Int → Option zq76.R) : Option zq76.R :=
 c1 a0 a1 a0
theorem zq76.o0.run (N : Nat) (H116 : Code) (a0 : Int) (a1 : Int) : runC zq76.C (zq76.O N) N (.seq zq76.c2 (.seq zq76.c6 (.seq (.seq zq76.c28 (.block 0 (.loop H116))) zq76.c15))) 1 (st0 [.one (.int .i64 a0), .one (.int .i64 a1)] [] : St D0) zq76.K0 = zq76.o0 N a0 a1 ((fun w0 w1 w2 => iter (loopF zq76.C (zq76.O N) N H116 58) N (mkSt [(0, .one (.int .i64 w0)), (1, .one (.int .i64 w1)), (5, .one (.nl)), (6, .one (.int .i64 w2))] [] : St D0) (blockK 0 (onN (fun s => zq76.C.tidy 14 s (fun s' => runC zq76.C (zq76.O N) N zq76.c15 15 s' zq76.K0)) zq76.K0)))) := by kernel_rfl
def zq76.g (N : Nat) (a0 : Int) (a1 : Int) : Option zq76.R := zq76.o0 N a0 a1 ((fun w0 w1 w2 => zq76.l1 N N w0 w1 w2))
theorem zq76.c1_0 : zq76.c1 = (.seq zq76.c2 (.seq zq76.c6 (.seq (.seq zq76.c28 (.block 0 (.loop zq76.c116))) zq76.c15))) := by kernel_rfl
theorem zq76.g.run (N : Nat) (a0 : Int) (a1 : Int) : runC zq76.C (zq76.O N) N zq76.c1 1 (st0 [.one (.int .i64 a0), .one (.int .i64 a1)] [] : St D0) zq76.K0 = zq76.g N a0 a1 := by
  rw [zq76.c1_0]; unfold zq76.g; exact (zq76.o0.run N zq76.c116 a0 a1).trans (congr rfl (funext fun w0 => funext fun w1 => funext fun w2 => (zq76.loop58 N N).1 w0 w1 w2))
theorem zq76.good (N : Nat) (a0 : Int) (a1 : Int) (r : zq76.R) (h : zq76.g N a0 a1 = some r) : Go.PM.Good Try.prog T0 73 [.one (.int .i64 a0), .one (.int .i64 a1)] [] (zq76.sig.ret r) (zq76.sig.bs r) :=
  good_fn tabOk0 mixed0 zq76.sig (zq76.E N) Try.func73 (by kernel_rfl) (by kernel_rfl) 16627 0 0 [(58, [0, 1, 5, 6], [])] 826368 false [] [(false, [.own 25])] (by kernel_rfl) rfl rfl ((zq76.g.run N a0 a1).trans h)
def zq76.ent (N : Nat) : Ent Try.prog T0 := mkEnt 73 [(false, [.any]), (false, [.any])] zq76.sig (fun t => zq76.g N t.1 t.2) (fun t r h => zq76.good N t.1 t.2 r h)
/-! ### zq11 -/
abbrev zq11.R : Type := Int × Int × Int × Int × Bool
abbrev zq11.sig : Sig := ⟨[(false, 1), (true, 2)], [], [.int .i64, .int .i64, .int .i64], [(true, 4), (false, 1)], [], [.int .i64, .int .i64, .int .i64, .int .i64, .bool]⟩
def zq11.C : Cfg D0 := ⟨Try.prog, T0, 571, 0, 16, 0, [], 8256, false, []⟩
def zq11.E (N : Nat) : List (Ent Try.prog T0) := [zq25.ent N, zq17.ent N]
def zq11.O (N : Nat) : Orc D0 zq11.R := orcOf (zq11.E N)
def zq11.K0 : Ex → St D0 → Option zq11.R := exitK zq11.C Try.f9.results.toList [(true, [.any, .any, .any, .any]), (false, [.any])] (decOut zq11.sig)
def zq11.c1 : Code := codeAt (Try.f9.body.getD .skip) []
def zq11.o0 (N : Nat) (a0 : Int) (a1_0 : Int) (a1_1 : Int) : Option zq11.R :=
 (zq25.g N a0 a1_0 a1_1).bind fun r1 =>
 bif (!r1) then
  some (0, 0, 0, 0, false)
 else
 (zq17.g N a1_0 a1_1 a0).bind fun r2 =>
 some (a1_0, a1_1, r2.1, r2.2, true)
theorem zq11.o0.run (N : Nat) (a0 : Int) (a1_0 : Int) (a1_1 : Int) : runC zq11.C (zq11.O N) N zq11.c1 1 (st0 [.one (.int .i64 a0), .agg [.int .i64 a1_0, .int .i64 a1_1]] [] : St D0) zq11.K0 = zq11.o0 N a0 a1_0 a1_1 := by kernel_rfl
def zq11.g (N : Nat) (a0 : Int) (a1_0 : Int) (a1_1 : Int) : Option zq11.R := zq11.o0 N a0 a1_0 a1_1
theorem zq11.g.run (N : Nat) (a0 : Int) (a1_0 : Int) (a1_1 : Int) : runC zq11.C (zq11.O N) N zq11.c1 1 (st0 [.one (.int .i64 a0), .agg [.int .i64 a1_0, .int .i64 a1_1]] [] : St D0) zq11.K0 = zq11.g N a0 a1_0 a1_1 := by
  exact (zq11.o0.run N a0 a1_0 a1_1).trans rfl
theorem zq11.good (N : Nat) (a0 : Int) (a1_0 : Int) (a1_1 : Int) (r : zq11.R) (h : zq11.g N a0 a1_0 a1_1 = some r) : Go.PM.Good Try.prog T0 9 [.one (.int .i64 a0), .agg [.int .i64 a1_0, .int .i64 a1_1]] [] (zq11.sig.ret r) (zq11.sig.bs r) :=
  good_fn tabOk0 mixed0 zq11.sig (zq11.E N) Try.func9 (by kernel_rfl) (by kernel_rfl) 571 0 0 [] 8256 false [] [(true, [.any, .any, .any, .any]), (false, [.any])] (by kernel_rfl) rfl rfl ((zq11.g.run N a0 a1_0 a1_1).trans h)
def zq11.ent (N : Nat) : Ent Try.prog T0 := mkEnt 9 [(false, [.any]), (true, [.any, .any])] zq11.sig (fun t => zq11.g N t.1 t.2.1 t.2.2) (fun t r h => zq11.good N t.1 t.2.1 t.2.2 r h)
/-! ### zq6 -/
abbrev zq6.R : Type := Bool
abbrev zq6.sig : Sig := ⟨[(true, 4)], [], [.int .i64, .int .i64, .int .i64, .int .i64], [(false, 1)], [], [.bool]⟩
def zq6.C : Cfg D0 := ⟨Try.prog, T0, 7, 0, 9, 0, [], 0, false, []⟩
def zq6.E (N : Nat) : List (Ent Try.prog T0) := [zq18.ent N]
def zq6.O (N : Nat) : Orc D0 zq6.R := orcOf (zq6.E N)
def zq6.K0 : Ex → St D0 → Option zq6.R := exitK zq6.C Try.f15.results.toList [(false, [.any])] (decOut zq6.sig)
def zq6.c1 : Code := codeAt (Try.f15.body.getD .skip) []
def zq6.o0 (N : Nat) (a0_0 : Int) (a0_1 : Int) (a0_2 : Int) (a0_3 : Int) : Option zq6.R :=
 (zq18.g N ([(⟨a0_0, a0_1⟩ : S25), (⟨a0_2, a0_3⟩ : S25)] : List S25)).bind fun r1 =>
 some (r1)
theorem zq6.o0.run (N : Nat) (a0_0 : Int) (a0_1 : Int) (a0_2 : Int) (a0_3 : Int) : runC zq6.C (zq6.O N) N zq6.c1 1 (st0 [.agg [.int .i64 a0_0, .int .i64 a0_1, .int .i64 a0_2, .int .i64 a0_3]] [] : St D0) zq6.K0 = zq6.o0 N a0_0 a0_1 a0_2 a0_3 := by kernel_rfl
def zq6.g (N : Nat) (a0_0 : Int) (a0_1 : Int) (a0_2 : Int) (a0_3 : Int) : Option zq6.R := zq6.o0 N a0_0 a0_1 a0_2 a0_3
theorem zq6.g.run (N : Nat) (a0_0 : Int) (a0_1 : Int) (a0_2 : Int) (a0_3 : Int) : runC zq6.C (zq6.O N) N zq6.c1 1 (st0 [.agg [.int .i64 a0_0, .int .i64 a0_1, .int .i64 a0_2, .int .i64 a0_3]] [] : St D0) zq6.K0 = zq6.g N a0_0 a0_1 a0_2 a0_3 := by
  exact (zq6.o0.run N a0_0 a0_1 a0_2 a0_3).trans rfl
theorem zq6.good (N : Nat) (a0_0 : Int) (a0_1 : Int) (a0_2 : Int) (a0_3 : Int) (r : zq6.R) (h : zq6.g N a0_0 a0_1 a0_2 a0_3 = some r) : Go.PM.Good Try.prog T0 15 [.agg [.int .i64 a0_0, .int .i64 a0_1, .int .i64 a0_2, .int .i64 a0_3]] [] (zq6.sig.ret r) (zq6.sig.bs r) :=
  good_fn tabOk0 mixed0 zq6.sig (zq6.E N) Try.func15 (by kernel_rfl) (by kernel_rfl) 7 0 0 [] 0 false [] [(false, [.any])] (by kernel_rfl) rfl rfl ((zq6.g.run N a0_0 a0_1 a0_2 a0_3).trans h)
def zq6.ent (N : Nat) : Ent Try.prog T0 := mkEnt 15 [(true, [.any, .any, .any, .any])] zq6.sig (fun t => zq6.g N t.1 t.2.1 t.2.2.1 t.2.2.2) (fun t r h => zq6.good N t.1 t.2.1 t.2.2.1 t.2.2.2 r h)
/-! ### zq24 -/
abbrev zq24.R : Type := Bool
abbrev zq24.sig : Sig := ⟨[(false, 1), (true, 4)], [], [.int .i64, .int .i64, .int .i64, .int .i64, .int .i64], [(false, 1)], [], [.bool]⟩
def zq24.C : Cfg D0 := ⟨Try.prog, T0, 27, 0, 11, 0, [], 32, false, []⟩
def zq24.E (N : Nat) : List (Ent Try.prog T0) := [zq23.ent N, zq6.ent N]
def zq24.O (N : Nat) : Orc D0 zq24.R := orcOf (zq24.E N)
def zq24.K0 : Ex → St D0 → Option zq24.R := exitK zq24.C Try.f66.results.toList [(false, [.any])] (decOut zq24.sig)
def zq24.c1 : Code := codeAt (Try.f66.body.getD .skip) []
def zq24.o0 (N : Nat) (a0 : Int) (a1_0 : Int) (a1_1 : Int) (a1_2 : Int) (a1_3 : Int) : Option zq24.R :=
 (zq23.g N a0).bind fun r1 =>
 bif r1 then
  (zq6.g N a1_0 a1_1 a1_2 a1_3).bind fun r2 =>
  some (r2)
 else
 some (false)
theorem zq24.o0.run (N : Nat) (a0 : Int) (a1_0 : Int) (a1_1 : Int) (a1_2 : Int) (a1_3 : Int) : runC zq24.C (zq24.O N) N zq24.c1 1 (st0 [.one (.int .i64 a0), .agg [.int .i64 a1_0, .int .i64 a1_1, .int .i64 a1_2, .int .i64 a1_3]] [] : St D0) zq24.K0 = zq24.o0 N a0 a1_0 a1_1 a1_2 a1_3 := by kernel_rfl
def zq24.g (N : Nat) (a0 : Int) (a1_0 : Int) (a1_1 : Int) (a1_2 : Int) (a1_3 : Int) : Option zq24.R := zq24.o0 N a0 a1_0 a1_1 a1_2 a1_3
theorem zq24.g.run (N : Nat) (a0 : Int) (a1_0 : Int) (a1_1 : Int) (a1_2 : Int) (a1_3 : Int) : runC zq24.C (zq24.O N) N zq24.c1 1 (st0 [.one (.int .i64 a0), .agg [.int .i64 a1_0, .int .i64 a1_1, .int .i64 a1_2, .int .i64 a1_3]] [] : St D0) zq24.K0 = zq24.g N a0 a1_0 a1_1 a1_2 a1_3 := by
  exact (zq24.o0.run N a0 a1_0 a1_1 a1_2 a1_3).trans rfl
theorem zq24.good (N : Nat) (a0 : Int) (a1_0 : Int) (a1_1 : Int) (a1_2 : Int) (a1_3 : Int) (r : zq24.R) (h : zq24.g N a0 a1_0 a1_1 a1_2 a1_3 = some r) : Go.PM.Good Try.prog T0 66 [.one (.int .i64 a0), .agg [.int .i64 a1_0, .int .i64 a1_1, .int .i64 a1_2, .int .i64 a1_3]] [] (zq24.sig.ret r) (zq24.sig.bs r) :=
  good_fn tabOk0 mixed0 zq24.sig (zq24.E N) Try.func66 (by kernel_rfl) (by kernel_rfl) 27 0 0 [] 32 false [] [(false, [.any])] (by kernel_rfl) rfl rfl ((zq24.g.run N a0 a1_0 a1_1 a1_2 a1_3).trans h)
def zq24.ent (N : Nat) : Ent Try.prog T0 := mkEnt 66 [(false, [.any]), (true, [.any, .any, .any, .any])] zq24.sig (fun t => zq24.g N t.1 t.2.1 t.2.2.1 t.2.2.2.1 t.2.2.2.2) (fun t r h => zq24.good N t.1 t.2.1 t.2.2.1 t.2.2.2.1 t.2.2.2.2 r h)
/-! ### zq26 -/
abbrev zq26.R : Type := Bool
abbrev zq26.sig : Sig := ⟨[(false, 1), (true, 4)], [], [.int .i64, .int .i64, .int .i64, .int .i64, .int .i64], [(false, 1)], [], [.bool]⟩
def zq26.C : Cfg D0 := ⟨Try.prog, T0, 27, 0, 12, 0, [], 128, false, []⟩
def zq26.E (N : Nat) : List (Ent Try.prog T0) := [zq17.ent N]
def zq26.O (N : Nat) : Orc D0 zq26.R := orcOf (zq26.E N)
def zq26.K0 : Ex → St D0 → Option zq26.R := exitK zq26.C Try.f67.results.toList [(false, [.any])] (decOut zq26.sig)
def zq26.c1 : Code := codeAt (Try.f67.body.getD .skip) []
def zq26.o0 (N : Nat) (a0 : Int) (a1_0 : Int) (a1_1 : Int) (a1_2 : Int) (a1_3 : Int) : Option zq26.R :=
 (zq17.g N a1_0 a1_1 a0).bind fun r1 =>
 some (((r1.1 == a1_2) && ((r1.2 == a1_3) && true)))
theorem zq26.o0.run (N : Nat) (a0 : Int) (a1_0 : Int) (a1_1 : Int) (a1_2 : Int) (a1_3 : Int) : runC zq26.C (zq26.O N) N zq26.c1 1 (st0 [.one (.int .i64 a0), .agg [.int .i64 a1_0, .int .i64 a1_1, .int .i64 a1_2, .int .i64 a1_3]] [] : St D0) zq26.K0 = zq26.o0 N a0 a1_0 a1_1 a1_2 a1_3 := by kernel_rfl
def zq26.g (N : Nat) (a0 : Int) (a1_0 : Int) (a1_1 : Int) (a1_2 : Int) (a1_3 : Int) : Option zq26.R := zq26.o0 N a0 a1_0 a1_1 a1_2 a1_3
theorem zq26.g.run (N : Nat) (a0 : Int) (a1_0 : Int) (a1_1 : Int) (a1_2 : Int) (a1_3 : Int) : runC zq26.C (zq26.O N) N zq26.c1 1 (st0 [.one (.int .i64 a0), .agg [.int .i64 a1_0, .int .i64 a1_1, .int .i64 a1_2, .int .i64 a1_3]] [] : St D0) zq26.K0 = zq26.g N a0 a1_0 a1_1 a1_2 a1_3 := by
  exact (zq26.o0.run N a0 a1_0 a1_1 a1_2 a1_3).trans rfl
theorem zq26.good (N : Nat) (a0 : Int) (a1_0 : Int) (a1_1 : Int) (a1_2 : Int) (a1_3 : Int) (r : zq26.R) (h : zq26.g N a0 a1_0 a1_1 a1_2 a1_3 = some r) : Go.PM.Good Try.prog T0 67 [.one (.int .i64 a0), .agg [.int .i64 a1_0, .int .i64 a1_1, .int .i64 a1_2, .int .i64 a1_3]] [] (zq26.sig.ret r) (zq26.sig.bs r) :=
  good_fn tabOk0 mixed0 zq26.sig (zq26.E N) Try.func67 (by kernel_rfl) (by kernel_rfl) 27 0 0 [] 128 false [] [(false, [.any])] (by kernel_rfl) rfl rfl ((zq26.g.run N a0 a1_0 a1_1 a1_2 a1_3).trans h)
def zq26.ent (N : Nat) : Ent Try.prog T0 := mkEnt 67 [(false, [.any]), (true, [.any, .any, .any, .any])] zq26.sig (fun t => zq26.g N t.1 t.2.1 t.2.2.1 t.2.2.2.1 t.2.2.2.2) (fun t r h => zq26.good N t.1 t.2.1 t.2.2.1 t.2.2.2.1 t.2.2.2.2 r h)
/-! ### zq13 -/
abbrev zq13.R : Type := Int × Int × Bool
abbrev zq13.sig : Sig := ⟨[(false, 1), (true, 4)], [], [.int .i64, .int .i64, .int .i64, .int .i64, .int .i64], [(true, 2), (false, 1)], [], [.int .i64, .int .i64, .bool]⟩
def zq13.C : Cfg D0 := ⟨Try.prog, T0, 32827, 0, 19, 0, [(12, [3, 4, 15], [3, 4])], 2112, false, []⟩
def zq13.E (N : Nat) : List (Ent Try.prog T0) := [zq24.ent N, zq26.ent N]
def zq13.O (N : Nat) : Orc D0 zq13.R := orcOf (zq13.E N)
def zq13.K0 : Ex → St D0 → Option zq13.R := exitK zq13.C Try.f12.results.toList [(true, [.any, .any]), (false, [.any])] (decOut zq13.sig)
def zq13.c1 : Code := codeAt (Try.f12.body.getD .skip) []
def zq13.c2 : Code := codeAt (Try.f12.body.getD .skip) [false]
def zq13.c7 : Code := codeAt (Try.f12.body.getD .skip) [true, true]
def zq13.c12 : Code := codeAt (Try.f12.body.getD .skip) [true, false, false]
def zq13.c13 : Code := codeAt (Try.f12.body.getD .skip) [true, false, true]
def zq13.K13 (N : Nat) : Ex → St D0 → Option zq13.R := (onN (fun s => zq13.C.tidy 6 s (fun s' => runC zq13.C (zq13.O N) N zq13.c7 7 s' zq13.K0)) zq13.K0)
def zq13.o1 (N : Nat) (v0 : Bool) (v1 : Int) (v2 : Int) (v3 : Int) (v4 : Int) (v5 : Int) (v6 : Int) : Option zq13.R :=
 bif v0 then
  some (0, 0, false)
 else
 some (v1, v2, true)
theorem zq13.o1.run (N : Nat) (v0 : Bool) (v1 : Int) (v2 : Int) (v3 : Int) (v4 : Int) (v5 : Int) (v6 : Int) : runC zq13.C (zq13.O N) N zq13.c13 13 (mkSt [(3, .one (.ptr 3 0)), (4, .one (.ptr 4 0)), (15, .one (.bool v0))] [(3, some (31, [.int .i64 v1, .int .i64 v2, .int .i64 v3, .int .i64 v4])), (4, some (25, [.int .i64 v5, .int .i64 v6]))] : St D0) (onN (fun s => zq13.C.tidy 6 s (fun s' => runC zq13.C (zq13.O N) N zq13.c7 7 s' zq13.K0)) zq13.K0) = zq13.o1 N v0 v1 v2 v3 v4 v5 v6 := by kernel_rfl
def zq13.d1 (N : Nat) (v0 : Bool) (v1 : Int) (v2 : Int) (v3 : Int) (v4 : Int) (v5 : Int) (v6 : Int) : Option zq13.R := zq13.o1 N v0 v1 v2 v3 v4 v5 v6
theorem zq13.d1.run (N : Nat) (v0 : Bool) (v1 : Int) (v2 : Int) (v3 : Int) (v4 : Int) (v5 : Int) (v6 : Int) : runC zq13.C (zq13.O N) N zq13.c13 13 (mkSt [(3, .one (.ptr 3 0)), (4, .one (.ptr 4 0)), (15, .one (.bool v0))] [(3, some (31, [.int .i64 v1, .int .i64 v2, .int .i64 v3, .int .i64 v4])), (4, some (25, [.int .i64 v5, .int .i64 v6]))] : St D0) (zq13.K13 N) = zq13.d1 N v0 v1 v2 v3 v4 v5 v6 := by
  exact (zq13.o1.run N v0 v1 v2 v3 v4 v5 v6).trans rfl
def zq13.o0 (N : Nat) (a0 : Int) (a1_0 : Int) (a1_1 : Int) (a1_2 : Int) (a1_3 : Int) (c1 : Bool → Int → Int → Int → Int → Int → Int → Option zq13.R) : Option zq13.R :=
 (zq24.g N a0 a1_0 a1_1 a1_2 a1_3).bind fun r1 =>
 bif (!r1) then
  c1 true a1_0 a1_1 a1_2 a1_3 0 0
 else
 (zq26.g N a0 a1_0 a1_1 a1_2 a1_3).bind fun r2 =>
 c1 (!r2) a1_0 a1_1 a1_2 a1_3 0 0
theorem zq13.o0.run (N : Nat) (H13 : Code) (a0 : Int) (a1_0 : Int) (a1_1 : Int) (a1_2 : Int) (a1_3 : Int) : runC zq13.C (zq13.O N) N (.seq zq13.c2 (.seq (.seq zq13.c12 H13) zq13.c7)) 1 (st0 [.one (.int .i64 a0), .agg [.int .i64 a1_0, .int .i64 a1_1, .int .i64 a1_2, .int .i64 a1_3]] [] : St D0) zq13.K0 = zq13.o0 N a0 a1_0 a1_1 a1_2 a1_3 ((fun w0 w1 w2 w3 w4 w5 w6 => runC zq13.C (zq13.O N) N H13 13 (mkSt [(3, .one (.ptr 3 0)), (4, .one (.ptr 4 0)), (15, .one (.bool w0))] [(3, some (31, [.int .i64 w1, .int .i64 w2, .int .i64 w3, .int .i64 w4])), (4, some (25, [.int .i64 w5, .int .i64 w6]))] : St D0) (onN (fun s => zq13.C.tidy 6 s (fun s' => runC zq13.C (zq13.O N) N zq13.c7 7 s' zq13.K0)) zq13.K0))) := by kernel_rfl
def zq13.g (N : Nat) (a0 : Int) (a1_0 : Int) (a1_1 : Int) (a1_2 : Int) (a1_3 : Int) : Option zq13.R := zq13.o0 N a0 a1_0 a1_1 a1_2 a1_3 ((fun w0 w1 w2 w3 w4 w5 w6 => zq13.d1 N w0 w1 w2 w3 w4 w5 w6))
theorem zq13.c1_0 : zq13.c1 = (.seq zq13.c2 (.seq (.seq zq13.c12 zq13.c13) zq13.c7)) := by kernel_rfl
theorem zq13.g.run (N : Nat) (a0 : Int) (a1_0 : Int) (a1_1 : Int) (a1_2 : Int) (a1_3 : Int) : runC zq13.C (zq13.O N) N zq13.c1 1 (st0 [.one (.int .i64 a0), .agg [.int .i64 a1_0, .int .i64 a1_1, .int .i64 a1_2, .int .i64 a1_3]] [] : St D0) zq13.K0 = zq13.g N a0 a1_0 a1_1 a1_2 a1_3 := by
  rw [zq13.c1_0]; unfold zq13.g; exact (zq13.o0.run N zq13.c13 a0 a1_0 a1_1 a1_2 a1_3).trans (congr rfl (funext fun w0 => funext fun w1 => funext fun w2 => funext fun w3 => funext fun w4 => funext fun w5 => funext fun w6 => zq13.d1.run N w0 w1 w2 w3 w4 w5 w6))
theorem zq13.good (N : Nat) (a0 : Int) (a1_0 : Int) (a1_1 : Int) (a1_2 : Int) (a1_3 : Int) (r : zq13.R) (h : zq13.g N a0 a1_0 a1_1 a1_2 a1_3 = some r) : Go.PM.Good Try.prog T0 12 [.one (.int .i64 a0), .agg [.int .i64 a1_0, .int .i64 a1_1, .int .i64 a1_2, .int .i64 a1_3]] [] (zq13.sig.ret r) (zq13.sig.bs r) :=
  good_fn tabOk0 mixed0 zq13.sig (zq13.E N) Try.func12 (by kernel_rfl) (by kernel_rfl) 32827 0 0 [(12, [3, 4, 15], [3, 4])] 2112 false [] [(true, [.any, .any]), (false, [.any])] (by kernel_rfl) rfl rfl ((zq13.g.run N a0 a1_0 a1_1 a1_2 a1_3).trans h)
def zq13.ent (N : Nat) : Ent Try.prog T0 := mkEnt 12 [(false, [.any]), (true, [.any, .any, .any, .any])] zq13.sig (fun t => zq13.g N t.1 t.2.1 t.2.2.1 t.2.2.2.1 t.2.2.2.2) (fun t r h => zq13.good N t.1 t.2.1 t.2.2.1 t.2.2.2.1 t.2.2.2.2 r h)
/-! ### zq12 -/
abbrev zq12.R : Type := Int × Int × Int × Int
abbrev zq12.sig : Sig := ⟨[(true, 4)], [], [.int .i64, .int .i64, .int .i64, .int .i64], [(true, 4)], [], [.int .i64, .int .i64, .int .i64, .int .i64]⟩
def zq12.C : Cfg D0 := ⟨Try.prog, T0, 7, 0, 8, 0, [], 0, false, []⟩
def zq12.E (N : Nat) : List (Ent Try.prog T0) := []
def zq12.O (N : Nat) : Orc D0 zq12.R := orcOf (zq12.E N)
def zq12.K0 : Ex → St D0 → Option zq12.R := exitK zq12.C Try.f58.results.toList [(true, [.any, .any, .any, .any])] (decOut zq12.sig)
def zq12.c1 : Code := codeAt (Try.f58.body.getD .skip) []
def zq12.o0 (N : Nat) (a0_0 : Int) (a0_1 : Int) (a0_2 : Int) (a0_3 : Int) : Option zq12.R :=
 some (a0_2, a0_3, a0_0, a0_1)
theorem zq12.o0.run (N : Nat) (a0_0 : Int) (a0_1 : Int) (a0_2 : Int) (a0_3 : Int) : runC zq12.C (zq12.O N) N zq12.c1 1 (st0 [.agg [.int .i64 a0_0, .int .i64 a0_1, .int .i64 a0_2, .int .i64 a0_3]] [] : St D0) zq12.K0 = zq12.o0 N a0_0 a0_1 a0_2 a0_3 := by kernel_rfl
def zq12.g (N : Nat) (a0_0 : Int) (a0_1 : Int) (a0_2 : Int) (a0_3 : Int) : Option zq12.R := zq12.o0 N a0_0 a0_1 a0_2 a0_3
theorem zq12.g.run (N : Nat) (a0_0 : Int) (a0_1 : Int) (a0_2 : Int) (a0_3 : Int) : runC zq12.C (zq12.O N) N zq12.c1 1 (st0 [.agg [.int .i64 a0_0, .int .i64 a0_1, .int .i64 a0_2, .int .i64 a0_3]] [] : St D0) zq12.K0 = zq12.g N a0_0 a0_1 a0_2 a0_3 := by
  exact (zq12.o0.run N a0_0 a0_1 a0_2 a0_3).trans rfl
theorem zq12.good (N : Nat) (a0_0 : Int) (a0_1 : Int) (a0_2 : Int) (a0_3 : Int) (r : zq12.R) (h : zq12.g N a0_0 a0_1 a0_2 a0_3 = some r) : Go.PM.Good Try.prog T0 58 [.agg [.int .i64 a0_0, .int .i64 a0_1, .int .i64 a0_2, .int .i64 a0_3]] [] (zq12.sig.ret r) (zq12.sig.bs r) :=
  good_fn tabOk0 mixed0 zq12.sig (zq12.E N) Try.func58 (by kernel_rfl) (by kernel_rfl) 7 0 0 [] 0 false [] [(true, [.any, .any, .any, .any])] (by kernel_rfl) rfl rfl ((zq12.g.run N a0_0 a0_1 a0_2 a0_3).trans h)
def zq12.ent (N : Nat) : Ent Try.prog T0 := mkEnt 58 [(true, [.any, .any, .any, .any])] zq12.sig (fun t => zq12.g N t.1 t.2.1 t.2.2.1 t.2.2.2) (fun t r h => zq12.good N t.1 t.2.1 t.2.2.1 t.2.2.2 r h)
/-! ### zq5 -/
abbrev zq5.R : Type := Int × Int × Bool
abbrev zq5.sig : Sig := ⟨[(false, 1), (true, 2)], [], [.int .i64, .int .i64, .int .i64], [(true, 2), (false, 1)], [], [.int .i64, .int .i64, .bool]⟩
def zq5.C : Cfg D0 := ⟨Try.prog, T0, 33019, 0, 23, 0, [], 147968, false, []⟩
def zq5.E (N : Nat) : List (Ent Try.prog T0) := [zq11.ent N, zq12.ent N, zq13.ent N]
def zq5.O (N : Nat) : Orc D0 zq5.R := orcOf (zq5.E N)
def zq5.K0 : Ex → St D0 → Option zq5.R := exitK zq5.C Try.f7.results.toList [(true, [.any, .any]), (false, [.any])] (decOut zq5.sig)
def zq5.c1 : Code := codeAt (Try.f7.body.getD .skip) []
def zq5.o0 (N : Nat) (a0 : Int) (a1_0 : Int) (a1_1 : Int) : Option zq5.R :=
 (zq11.g N a0 a1_0 a1_1).bind fun r1 =>
 bif (!r1.2.2.2.2) then
  some (0, 0, false)
 else
 (zq12.g N r1.1 r1.2.1 r1.2.2.1 r1.2.2.2.1).bind fun r2 =>
 (zq13.g N a0 r2.1 r2.2.1 r2.2.2.1 r2.2.2.2).bind fun r3 =>
 some (r3.1, r3.2.1, r3.2.2)
theorem zq5.o0.run (N : Nat) (a0 : Int) (a1_0 : Int) (a1_1 : Int) : runC zq5.C (zq5.O N) N zq5.c1 1 (st0 [.one (.int .i64 a0), .agg [.int .i64 a1_0, .int .i64 a1_1]] [] : St D0) zq5.K0 = zq5.o0 N a0 a1_0 a1_1 := by kernel_rfl
def zq5.g (N : Nat) (a0 : Int) (a1_0 : Int) (a1_1 : Int) : Option zq5.R := zq5.o0 N a0 a1_0 a1_1
theorem zq5.g.run (N : Nat) (a0 : Int) (a1_0 : Int) (a1_1 : Int) : runC zq5.C (zq5.O N) N zq5.c1 1 (st0 [.one (.int .i64 a0), .agg [.int .i64 a1_0, .int .i64 a1_1]] [] : St D0) zq5.K0 = zq5.g N a0 a1_0 a1_1 := by
  exact (zq5.o0.run N a0 a1_0 a1_1).trans rfl
theorem zq5.good (N : Nat) (a0 : Int) (a1_0 : Int) (a1_1 : Int) (r : zq5.R) (h : zq5.g N a0 a1_0 a1_1 = some r) : Go.PM.Good Try.prog T0 7 [.one (.int .i64 a0), .agg [.int .i64 a1_0, .int .i64 a1_1]] [] (zq5.sig.ret r) (zq5.sig.bs r) :=
  good_fn tabOk0 mixed0 zq5.sig (zq5.E N) Try.func7 (by kernel_rfl) (by kernel_rfl) 33019 0 0 [] 147968 false [] [(true, [.any, .any]), (false, [.any])] (by kernel_rfl) rfl rfl ((zq5.g.run N a0 a1_0 a1_1).trans h)
def zq5.ent (N : Nat) : Ent Try.prog T0 := mkEnt 7 [(false, [.any]), (true, [.any, .any])] zq5.sig (fun t => zq5.g N t.1 t.2.1 t.2.2) (fun t r h => zq5.good N t.1 t.2.1 t.2.2 r h)
/-! ### zq75 -/
abbrev zq75.R : Type := Int × Int × Int × Int
abbrev zq75.sig : Sig := ⟨[(false, 1), (true, 2)], [], [.int .i64, .int .i64, .int .i64], [(true, 4)], [], [.int .i64, .int .i64, .int .i64, .int .i64]⟩
def zq75.C : Cfg D0 := ⟨Try.prog, T0, 27, 0, 10, 0, [], 128, false, []⟩
def zq75.E (N : Nat) : List (Ent Try.prog T0) := [zq60.ent N]
def zq75.O (N : Nat) : Orc D0 zq75.R := orcOf (zq75.E N)
def zq75.K0 : Ex → St D0 → Option zq75.R := exitK zq75.C Try.f62.results.toList [(true, [.any, .any, .any, .any])] (decOut zq75.sig)
def zq75.c1 : Code := codeAt (Try.f62.body.getD .skip) []
def zq75.o0 (N : Nat) (a0 : Int) (a1_0 : Int) (a1_1 : Int) : Option zq75.R :=
 (zq60.g N a1_0 a1_1 a0).bind fun r1 =>
 some (a1_0, a1_1, r1.1, r1.2)
theorem zq75.o0.run (N : Nat) (a0 : Int) (a1_0 : Int) (a1_1 : Int) : runC zq75.C (zq75.O N) N zq75.c1 1 (st0 [.one (.int .i64 a0), .agg [.int .i64 a1_0, .int .i64 a1_1]] [] : St D0) zq75.K0 = zq75.o0 N a0 a1_0 a1_1 := by kernel_rfl
def zq75.g (N : Nat) (a0 : Int) (a1_0 : Int) (a1_1 : Int) : Option zq75.R := zq75.o0 N a0 a1_0 a1_1
theorem zq75.g.run (N : Nat) (a0 : Int) (a1_0 : Int) (a1_1 : Int) : runC zq75.C (zq75.O N) N zq75.c1 1 (st0 [.one (.int .i64 a0), .agg [.int .i64 a1_0, .int .i64 a1_1]] [] : St D0) zq75.K0 = zq75.g N a0 a1_0 a1_1 := by
  exact (zq75.o0.run N a0 a1_0 a1_1).trans rfl
theorem zq75.good (N : Nat) (a0 : Int) (a1_0 : Int) (a1_1 : Int) (r : zq75.R) (h : zq75.g N a0 a1_0 a1_1 = some r) : Go.PM.Good Try.prog T0 62 [.one (.int .i64 a0), .agg [.int .i64 a1_0, .int .i64 a1_1]] [] (zq75.sig.ret r) (zq75.sig.bs r) :=
  good_fn tabOk0 mixed0 zq75.sig (zq75.E N) Try.func62 (by kernel_rfl) (by kernel_rfl) 27 0 0 [] 128 false [] [(true, [.any, .any, .any, .any])] (by kernel_rfl) rfl rfl ((zq75.g.run N a0 a1_0 a1_1).trans h)
def zq75.ent (N : Nat) : Ent Try.prog T0 := mkEnt 62 [(false, [.any]), (true, [.any, .any])] zq75.sig (fun t => zq75.g N t.1 t.2.1 t.2.2) (fun t r h => zq75.good N t.1 t.2.1 t.2.2 r h)
/-! ### zq72 -/
abbrev zq72.R : Type := Int × Int × Int × Int
abbrev zq72.sig : Sig := ⟨[(true, 4)], [], [.int .i64, .int .i64, .int .i64, .int .i64], [(true, 4)], [], [.int .i64, .int .i64, .int .i64, .int .i64]⟩
def zq72.C : Cfg D0 := ⟨Try.prog, T0, 7, 0, 8, 0, [], 0, false, []⟩
def zq72.E (N : Nat) : List (Ent Try.prog T0) := []
def zq72.O (N : Nat) : Orc D0 zq72.R := orcOf (zq72.E N)
def zq72.K0 : Ex → St D0 → Option zq72.R := exitK zq72.C Try.f61.results.toList [(true, [.any, .any, .any, .any])] (decOut zq72.sig)
def zq72.c1 : Code := codeAt (Try.f61.body.getD .skip) []
def zq72.o0 (N : Nat) (a0_0 : Int) (a0_1 : Int) (a0_2 : Int) (a0_3 : Int) : Option zq72.R :=
 some (a0_2, a0_3, a0_0, a0_1)
theorem zq72.o0.run (N : Nat) (a0_0 : Int) (a0_1 : Int) (a0_2 : Int) (a0_3 : Int) : runC zq72.C (zq72.O N) N zq72.c1 1 (st0 [.agg [.int .i64 a0_0, .int .i64 a0_1, .int .i64 a0_2, .int .i64 a0_3]] [] : St D0) zq72.K0 = zq72.o0 N a0_0 a0_1 a0_2 a0_3 := by kernel_rfl
def zq72.g (N : Nat) (a0_0 : Int) (a0_1 : Int) (a0_2 : Int) (a0_3 : Int) : Option zq72.R := zq72.o0 N a0_0 a0_1 a0_2 a0_3
theorem zq72.g.run (N : Nat) (a0_0 : Int) (a0_1 : Int) (a0_2 : Int) (a0_3 : Int) : runC zq72.C (zq72.O N) N zq72.c1 1 (st0 [.agg [.int .i64 a0_0, .int .i64 a0_1, .int .i64 a0_2, .int .i64 a0_3]] [] : St D0) zq72.K0 = zq72.g N a0_0 a0_1 a0_2 a0_3 := by
  exact (zq72.o0.run N a0_0 a0_1 a0_2 a0_3).trans rfl
theorem zq72.good (N : Nat) (a0_0 : Int) (a0_1 : Int) (a0_2 : Int) (a0_3 : Int) (r : zq72.R) (h : zq72.g N a0_0 a0_1 a0_2 a0_3 = some r) : Go.PM.Good Try.prog T0 61 [.agg [.int .i64 a0_0, .int .i64 a0_1, .int .i64 a0_2, .int .i64 a0_3]] [] (zq72.sig.ret r) (zq72.sig.bs r) :=
  good_fn tabOk0 mixed0 zq72.sig (zq72.E N) Try.func61 (by kernel_rfl) (by kernel_rfl) 7 0 0 [] 0 false [] [(true, [.any, .any, .any, .any])] (by kernel_rfl) rfl rfl ((zq72.g.run N a0_0 a0_1 a0_2 a0_3).trans h)
def zq72.ent (N : Nat) : Ent Try.prog T0 := mkEnt 61 [(true, [.any, .any, .any, .any])] zq72.sig (fun t => zq72.g N t.1 t.2.1 t.2.2.1 t.2.2.2) (fun t r h => zq72.good N t.1 t.2.1 t.2.2.1 t.2.2.2 r h)
/-! ### zq78 -/
abbrev zq78.R : Type := Bool
abbrev zq78.sig : Sig := ⟨[(false, 1), (true, 4)], [], [.int .i64, .int .i64, .int .i64, .int .i64, .int .i64], [(false, 1)], [], [.bool]⟩
def zq78.C : Cfg D0 := ⟨Try.prog, T0, 27, 0, 12, 0, [], 128, false, []⟩
def zq78.E (N : Nat) : List (Ent Try.prog T0) := [zq60.ent N]
def zq78.O (N : Nat) : Orc D0 zq78.R := orcOf (zq78.E N)
def zq78.K0 : Ex → St D0 → Option zq78.R := exitK zq78.C Try.f60.results.toList [(false, [.any])] (decOut zq78.sig)
def zq78.c1 : Code := codeAt (Try.f60.body.getD .skip) []
def zq78.o0 (N : Nat) (a0 : Int) (a1_0 : Int) (a1_1 : Int) (a1_2 : Int) (a1_3 : Int) : Option zq78.R :=
 (zq60.g N a1_0 a1_1 a0).bind fun r1 =>
 some (((r1.1 == a1_2) && ((r1.2 == a1_3) && true)))
theorem zq78.o0.run (N : Nat) (a0 : Int) (a1_0 : Int) (a1_1 : Int) (a1_2 : Int) (a1_3 : Int) : runC zq78.C (zq78.O N) N zq78.c1 1 (st0 [.one (.int .i64 a0), .agg [.int .i64 a1_0, .int .i64 a1_1, .int .i64 a1_2, .int .i64 a1_3]] [] : St D0) zq78.K0 = zq78.o0 N a0 a1_0 a1_1 a1_2 a1_3 := by kernel_rfl
def zq78.g (N : Nat) (a0 : Int) (a1_0 : Int) (a1_1 : Int) (a1_2 : Int) (a1_3 : Int) : Option zq78.R := zq78.o0 N a0 a1_0 a1_1 a1_2 a1_3
theorem zq78.g.run (N : Nat) (a0 : Int) (a1_0 : Int) (a1_1 : Int) (a1_2 : Int) (a1_3 : Int) : runC zq78.C (zq78.O N) N zq78.c1 1 (st0 [.one (.int .i64 a0), .agg [.int .i64 a1_0, .int .i64 a1_1, .int .i64 a1_2, .int .i64 a1_3]] [] : St D0) zq78.K0 = zq78.g N a0 a1_0 a1_1 a1_2 a1_3 := by
  exact (zq78.o0.run N a0 a1_0 a1_1 a1_2 a1_3).trans rfl
theorem zq78.good (N : Nat) (a0 : Int) (a1_0 : Int) (a1_1 : Int) (a1_2 : Int) (a1_3 : Int) (r : zq78.R) (h : zq78.g N a0 a1_0 a1_1 a1_2 a1_3 = some r) : Go.PM.Good Try.prog T0 60 [.one (.int .i64 a0), .agg [.int .i64 a1_0, .int .i64 a1_1, .int .i64 a1_2, .int .i64 a1_3]] [] (zq78.sig.ret r) (zq78.sig.bs r) :=
  good_fn tabOk0 mixed0 zq78.sig (zq78.E N) Try.func60 (by kernel_rfl) (by kernel_rfl) 27 0 0 [] 128 false [] [(false, [.any])] (by kernel_rfl) rfl rfl ((zq78.g.run N a0 a1_0 a1_1 a1_2 a1_3).trans h)
def zq78.ent (N : Nat) : Ent Try.prog T0 := mkEnt 60 [(false, [.any]), (true, [.any, .any, .any, .any])] zq78.sig (fun t => zq78.g N t.1 t.2.1 t.2.2.1 t.2.2.2.1 t.2.2.2.2) (fun t r h => zq78.good N t.1 t.2.1 t.2.2.1 t.2.2.2.1 t.2.2.2.2 r h)
/-! ### zq46 -/
abbrev zq46.R : Type := Int × Int × Bool
abbrev zq46.sig : Sig := ⟨[(false, 1), (true, 2)], [], [.int .i64, .int .i64, .int .i64], [(true, 2), (false, 1)], [], [.int .i64, .int .i64, .bool]⟩
def zq46.C : Cfg D0 := ⟨Try.prog, T0, 262203, 0, 23, 0, [(12, [0, 3, 4, 18], [3, 4])], 2103360, false, []⟩
def zq46.E (N : Nat) : List (Ent Try.prog T0) := [zq53.ent N, zq75.ent N, zq72.ent N, zq78.ent N, zq60.ent N]
def zq46.O (N : Nat) : Orc D0 zq46.R := orcOf (zq46.E N)
def zq46.K0 : Ex → St D0 → Option zq46.R := exitK zq46.C Try.f8.results.toList [(true, [.any, .any]), (false, [.any])] (decOut zq46.sig)
def zq46.c1 : Code := codeAt (Try.f8.body.getD .skip) []
def zq46.c2 : Code := codeAt (Try.f8.body.getD .skip) [false]
def zq46.c7 : Code := codeAt (Try.f8.body.getD .skip) [true, true]
def zq46.c12 : Code := codeAt (Try.f8.body.getD .skip) [true, false, false]
def zq46.c13 : Code := codeAt (Try.f8.body.getD .skip) [true, false, true]
def zq46.K13 (N : Nat) : Ex → St D0 → Option zq46.R := (onN (fun s => zq46.C.tidy 6 s (fun s' => runC zq46.C (zq46.O N) N zq46.c7 7 s' zq46.K0)) zq46.K0)
def zq46.o1 (N : Nat) (v0 : Int) (v1 : Bool) (v2 : Int) (v3 : Int) (v4 : Int) (v5 : Int) : Option zq46.R :=
 bif v1 then
  some (0, 0, false)
 else
 (zq60.g N v2 v3 v0).bind fun r1 =>
 some (r1.1, r1.2, true)
theorem zq46.o1.run (N : Nat) (v0 : Int) (v1 : Bool) (v2 : Int) (v3 : Int) (v4 : Int) (v5 : Int) : runC zq46.C (zq46.O N) N zq46.c13 13 (mkSt [(0, .one (.int .i64 v0)), (3, .one (.ptr 3 0)), (4, .one (.ptr 4 0)), (18, .one (.bool v1))] [(3, some (25, [.int .i64 v2, .int .i64 v3])), (4, some (25, [.int .i64 v4, .int .i64 v5]))] : St D0) (onN (fun s => zq46.C.tidy 6 s (fun s' => runC zq46.C (zq46.O N) N zq46.c7 7 s' zq46.K0)) zq46.K0) = zq46.o1 N v0 v1 v2 v3 v4 v5 := by kernel_rfl
def zq46.d1 (N : Nat) (v0 : Int) (v1 : Bool) (v2 : Int) (v3 : Int) (v4 : Int) (v5 : Int) : Option zq46.R := zq46.o1 N v0 v1 v2 v3 v4 v5
theorem zq46.d1.run (N : Nat) (v0 : Int) (v1 : Bool) (v2 : Int) (v3 : Int) (v4 : Int) (v5 : Int) : runC zq46.C (zq46.O N) N zq46.c13 13 (mkSt [(0, .one (.int .i64 v0)), (3, .one (.ptr 3 0)), (4, .one (.ptr 4 0)), (18, .one (.bool v1))] [(3, some (25, [.int .i64 v2, .int .i64 v3])), (4, some (25, [.int .i64 v4, .int .i64 v5]))] : St D0) (zq46.K13 N) = zq46.d1 N v0 v1 v2 v3 v4 v5 := by
  exact (zq46.o1.run N v0 v1 v2 v3 v4 v5).trans rfl
def zq46.o0 (N : Nat) (a0 : Int) (a1_0 : Int) (a1_1 : Int) (c1 : Int → Bool → Int → Int → Int → Int → Option zq46.R) : Option zq46.R :=
 (zq53.g N a0 a1_0 a1_1).bind fun r1 =>
 bif (!r1) then
  c1 a0 true a1_0 a1_1 0 0
 else
 (zq75.g N a0 a1_0 a1_1).bind fun r2 =>
 (zq72.g N r2.1 r2.2.1 r2.2.2.1 r2.2.2.2).bind fun r3 =>
 (zq78.g N a0 r3.1 r3.2.1 r3.2.2.1 r3.2.2.2).bind fun r4 =>
 c1 a0 (!r4) a1_0 a1_1 0 0
theorem zq46.o0.run (N : Nat) (H13 : Code) (a0 : Int) (a1_0 : Int) (a1_1 : Int) : runC zq46.C (zq46.O N) N (.seq zq46.c2 (.seq (.seq zq46.c12 H13) zq46.c7)) 1 (st0 [.one (.int .i64 a0), .agg [.int .i64 a1_0, .int .i64 a1_1]] [] : St D0) zq46.K0 = zq46.o0 N a0 a1_0 a1_1 ((fun w0 w1 w2 w3 w4 w5 => runC zq46.C (zq46.O N) N H13 13 (mkSt [(0, .one (.int .i64 w0)), (3, .one (.ptr 3 0)), (4, .one (.ptr 4 0)), (18, .one (.bool w1))] [(3, some (25, [.int .i64 w2, .int .i64 w3])), (4, some (25, [.int .i64 w4, .int .i64 w5]))] : St D0) (onN (fun s => zq46.C.tidy 6 s (fun s' => runC zq46.C (zq46.O N) N zq46.c7 7 s' zq46.K0)) zq46.K0))) := by kernel_rfl
def zq46.g (N : Nat) (a0 : Int) (a1_0 : Int) (a1_1 : Int) : Option zq46.R := zq46.o0 N a0 a1_0 a1_1 ((fun w0 w1 w2 w3 w4 w5 => zq46.d1 N w0 w1 w2 w3 w4 w5))
theorem zq46.c1_0 : zq46.c1 = (.seq zq46.c2 (.seq (.seq zq46.c12 zq46.c13) zq46.c7)) := by kernel_rfl
theorem zq46.g.run (N : Nat) (a0 : Int) (a1_0 : Int) (a1_1 : Int) : runC zq46.C (zq46.O N) N zq46.c1 1 (st0 [.one (.int .i64 a0), .agg [.int .i64 a1_0, .int .i64 a1_1]] [] : St D0) zq46.K0 = zq46.g N a0 a1_0 a1_1 := by
  rw [zq46.c1_0]; unfold zq46.g; exact (zq46.o0.run N zq46.c13 a0 a1_0 a1_1).trans (congr rfl (funext fun w0 => funext fun w1 => funext fun w2 => funext fun w3 => funext fun w4 => funext fun w5 => zq46.d1.run N w0 w1 w2 w3 w4 w5))
theorem zq46.good (N : Nat) (a0 : Int) (a1_0 : Int) (a1_1 : Int) (r : zq46.R) (h : zq46.g N a0 a1_0 a1_1 = some r) : Go.PM.Good Try.prog T0 8 [.one (.int .i64 a0), .agg [.int .i64 a1_0, .int .i64 a1_1]] [] (zq46.sig.ret r) (zq46.sig.bs r) :=
  good_fn tabOk0 mixed0 zq46.sig (zq46.E N) Try.func8 (by kernel_rfl) (by kernel_rfl) 262203 0 0 [(12, [0, 3, 4, 18], [3, 4])] 2103360 false [] [(true, [.any, .any]), (false, [.any])] (by kernel_rfl) rfl rfl ((zq46.g.run N a0 a1_0 a1_1).trans h)
def zq46.ent (N : Nat) : Ent Try.prog T0 := mkEnt 8 [(false, [.any]), (true, [.any, .any])] zq46.sig (fun t => zq46.g N t.1 t.2.1 t.2.2) (fun t r h => zq46.good N t.1 t.2.1 t.2.2 r h)
/-! ### zq50 -/
abbrev zq50.R : Type := Int × Int × Int × Int × Bool
abbrev zq50.sig : Sig := ⟨[(false, 1), (true, 2)], [], [.int .i64, .int .i64, .int .i64], [(true, 4), (false, 1)], [], [.int .i64, .int .i64, .int .i64, .int .i64, .bool]⟩
def zq50.C : Cfg D0 := ⟨Try.prog, T0, 571, 0, 14, 0, [], 2112, false, []⟩
def zq50.E (N : Nat) : List (Ent Try.prog T0) := [zq53.ent N, zq75.ent N]
def zq50.O (N : Nat) : Orc D0 zq50.R := orcOf (zq50.E N)
def zq50.K0 : Ex → St D0 → Option zq50.R := exitK zq50.C Try.f10.results.toList [(true, [.any, .any, .any, .any]), (false, [.any])] (decOut zq50.sig)
def zq50.c1 : Code := codeAt (Try.f10.body.getD .skip) []
def zq50.o0 (N : Nat) (a0 : Int) (a1_0 : Int) (a1_1 : Int) : Option zq50.R :=
 (zq53.g N a0 a1_0 a1_1).bind fun r1 =>
 bif (!r1) then
  some (0, 0, 0, 0, false)
 else
 (zq75.g N a0 a1_0 a1_1).bind fun r2 =>
 some (r2.1, r2.2.1, r2.2.2.1, r2.2.2.2, true)
theorem zq50.o0.run (N : Nat) (a0 : Int) (a1_0 : Int) (a1_1 : Int) : runC zq50.C (zq50.O N) N zq50.c1 1 (st0 [.one (.int .i64 a0), .agg [.int .i64 a1_0, .int .i64 a1_1]] [] : St D0) zq50.K0 = zq50.o0 N a0 a1_0 a1_1 := by kernel_rfl
def zq50.g (N : Nat) (a0 : Int) (a1_0 : Int) (a1_1 : Int) : Option zq50.R := zq50.o0 N a0 a1_0 a1_1
theorem zq50.g.run (N : Nat) (a0 : Int) (a1_0 : Int) (a1_1 : Int) : runC zq50.C (zq50.O N) N zq50.c1 1 (st0 [.one (.int .i64 a0), .agg [.int .i64 a1_0, .int .i64 a1_1]] [] : St D0) zq50.K0 = zq50.g N a0 a1_0 a1_1 := by
  exact (zq50.o0.run N a0 a1_0 a1_1).trans rfl
theorem zq50.good (N : Nat) (a0 : Int) (a1_0 : Int) (a1_1 : Int) (r : zq50.R) (h : zq50.g N a0 a1_0 a1_1 = some r) : Go.PM.Good Try.prog T0 10 [.one (.int .i64 a0), .agg [.int .i64 a1_0, .int .i64 a1_1]] [] (zq50.sig.ret r) (zq50.sig.bs r) :=
  good_fn tabOk0 mixed0 zq50.sig (zq50.E N) Try.func10 (by kernel_rfl) (by kernel_rfl) 571 0 0 [] 2112 false [] [(true, [.any, .any, .any, .any]), (false, [.any])] (by kernel_rfl) rfl rfl ((zq50.g.run N a0 a1_0 a1_1).trans h)
def zq50.ent (N : Nat) : Ent Try.prog T0 := mkEnt 10 [(false, [.any]), (true, [.any, .any])] zq50.sig (fun t => zq50.g N t.1 t.2.1 t.2.2) (fun t r h => zq50.good N t.1 t.2.1 t.2.2 r h)
/-! ### zq7 -/
abbrev zq7.R : Type := Bool × Bool
abbrev zq7.sig : Sig := ⟨[(false, 1), (true, 4)], [], [.int .i64, .int .i64, .int .i64, .int .i64, .int .i64], [(false, 1), (false, 1)], [], [.bool, .bool]⟩
def zq7.C : Cfg D0 := ⟨Try.prog, T0, 59, 0, 17, 0, [], 17472, false, []⟩
def zq7.E (N : Nat) : List (Ent Try.prog T0) := [zq24.ent N, zq26.ent N]
def zq7.O (N : Nat) : Orc D0 zq7.R := orcOf (zq7.E N)
def zq7.K0 : Ex → St D0 → Option zq7.R := exitK zq7.C Try.f11.results.toList [(false, [.any]), (false, [.any])] (decOut zq7.sig)
def zq7.c1 : Code := codeAt (Try.f11.body.getD .skip) []
def zq7.o0 (N : Nat) (a0 : Int) (a1_0 : Int) (a1_1 : Int) (a1_2 : Int) (a1_3 : Int) : Option zq7.R :=
 (zq24.g N a0 a1_0 a1_1 a1_2 a1_3).bind fun r1 =>
 bif r1 then
  (zq26.g N a0 a1_0 a1_1 a1_2 a1_3).bind fun r2 =>
  (zq24.g N a0 a1_0 a1_1 a1_2 a1_3).bind fun r3 =>
  some (r2, r3)
 else
 (zq24.g N a0 a1_0 a1_1 a1_2 a1_3).bind fun r4 =>
 some (false, r4)
theorem zq7.o0.run (N : Nat) (a0 : Int) (a1_0 : Int) (a1_1 : Int) (a1_2 : Int) (a1_3 : Int) : runC zq7.C (zq7.O N) N zq7.c1 1 (st0 [.one (.int .i64 a0), .agg [.int .i64 a1_0, .int .i64 a1_1, .int .i64 a1_2, .int .i64 a1_3]] [] : St D0) zq7.K0 = zq7.o0 N a0 a1_0 a1_1 a1_2 a1_3 := by kernel_rfl
def zq7.g (N : Nat) (a0 : Int) (a1_0 : Int) (a1_1 : Int) (a1_2 : Int) (a1_3 : Int) : Option zq7.R := zq7.o0 N a0 a1_0 a1_1 a1_2 a1_3
theorem zq7.g.run (N : Nat) (a0 : Int) (a1_0 : Int) (a1_1 : Int) (a1_2 : Int) (a1_3 : Int) : runC zq7.C (zq7.O N) N zq7.c1 1 (st0 [.one (.int .i64 a0), .agg [.int .i64 a1_0, .int .i64 a1_1, .int .i64 a1_2, .int .i64 a1_3]] [] : St D0) zq7.K0 = zq7.g N a0 a1_0 a1_1 a1_2 a1_3 := by
  exact (zq7.o0.run N a0 a1_0 a1_1 a1_2 a1_3).trans rfl
theorem zq7.good (N : Nat) (a0 : Int) (a1_0 : Int) (a1_1 : Int) (a1_2 : Int) (a1_3 : Int) (r : zq7.R) (h : zq7.g N a0 a1_0 a1_1 a1_2 a1_3 = some r) : Go.PM.Good Try.prog T0 11 [.one (.int .i64 a0), .agg [.int .i64 a1_0, .int .i64 a1_1, .int .i64 a1_2, .int .i64 a1_3]] [] (zq7.sig.ret r) (zq7.sig.bs r) :=
  good_fn tabOk0 mixed0 zq7.sig (zq7.E N) Try.func11 (by kernel_rfl) (by kernel_rfl) 59 0 0 [] 17472 false [] [(false, [.any]), (false, [.any])] (by kernel_rfl) rfl rfl ((zq7.g.run N a0 a1_0 a1_1 a1_2 a1_3).trans h)
def zq7.ent (N : Nat) : Ent Try.prog T0 := mkEnt 11 [(false, [.any]), (true, [.any, .any, .any, .any])] zq7.sig (fun t => zq7.g N t.1 t.2.1 t.2.2.1 t.2.2.2.1 t.2.2.2.2) (fun t r h => zq7.good N t.1 t.2.1 t.2.2.1 t.2.2.2.1 t.2.2.2.2 r h)
/-! ### zq4 -/
abbrev zq4.R : Type := Int × Int × Int × Int × Bool
abbrev zq4.sig : Sig := ⟨[(true, 4)], [], [.int .i64, .int .i64, .int .i64, .int .i64], [(true, 4), (false, 1)], [], [.int .i64, .int .i64, .int .i64, .int .i64, .bool]⟩
def zq4.C : Cfg D0 := ⟨Try.prog, T0, 79, 0, 10, 0, [], 0, false, []⟩
def zq4.E (N : Nat) : List (Ent Try.prog T0) := [zq6.ent N, zq12.ent N]
def zq4.O (N : Nat) : Orc D0 zq4.R := orcOf (zq4.E N)
def zq4.K0 : Ex → St D0 → Option zq4.R := exitK zq4.C Try.f13.results.toList [(true, [.any, .any, .any, .any]), (false, [.any])] (decOut zq4.sig)
def zq4.c1 : Code := codeAt (Try.f13.body.getD .skip) []
def zq4.o0 (N : Nat) (a0_0 : Int) (a0_1 : Int) (a0_2 : Int) (a0_3 : Int) : Option zq4.R :=
 (zq6.g N a0_0 a0_1 a0_2 a0_3).bind fun r1 =>
 bif (!r1) then
  some (0, 0, 0, 0, false)
 else
 (zq12.g N a0_0 a0_1 a0_2 a0_3).bind fun r2 =>
 some (r2.1, r2.2.1, r2.2.2.1, r2.2.2.2, true)
theorem zq4.o0.run (N : Nat) (a0_0 : Int) (a0_1 : Int) (a0_2 : Int) (a0_3 : Int) : runC zq4.C (zq4.O N) N zq4.c1 1 (st0 [.agg [.int .i64 a0_0, .int .i64 a0_1, .int .i64 a0_2, .int .i64 a0_3]] [] : St D0) zq4.K0 = zq4.o0 N a0_0 a0_1 a0_2 a0_3 := by kernel_rfl
def zq4.g (N : Nat) (a0_0 : Int) (a0_1 : Int) (a0_2 : Int) (a0_3 : Int) : Option zq4.R := zq4.o0 N a0_0 a0_1 a0_2 a0_3
theorem zq4.g.run (N : Nat) (a0_0 : Int) (a0_1 : Int) (a0_2 : Int) (a0_3 : Int) : runC zq4.C (zq4.O N) N zq4.c1 1 (st0 [.agg [.int .i64 a0_0, .int .i64 a0_1, .int .i64 a0_2, .int .i64 a0_3]] [] : St D0) zq4.K0 = zq4.g N a0_0 a0_1 a0_2 a0_3 := by
  exact (zq4.o0.run N a0_0 a0_1 a0_2 a0_3).trans rfl
theorem zq4.good (N : Nat) (a0_0 : Int) (a0_1 : Int) (a0_2 : Int) (a0_3 : Int) (r : zq4.R) (h : zq4.g N a0_0 a0_1 a0_2 a0_3 = some r) : Go.PM.Good Try.prog T0 13 [.agg [.int .i64 a0_0, .int .i64 a0_1, .int .i64 a0_2, .int .i64 a0_3]] [] (zq4.sig.ret r) (zq4.sig.bs r) :=
  good_fn tabOk0 mixed0 zq4.sig (zq4.E N) Try.func13 (by kernel_rfl) (by kernel_rfl) 79 0 0 [] 0 false [] [(true, [.any, .any, .any, .any]), (false, [.any])] (by kernel_rfl) rfl rfl ((zq4.g.run N a0_0 a0_1 a0_2 a0_3).trans h)
def zq4.ent (N : Nat) : Ent Try.prog T0 := mkEnt 13 [(true, [.any, .any, .any, .any])] zq4.sig (fun t => zq4.g N t.1 t.2.1 t.2.2.1 t.2.2.2) (fun t r h => zq4.good N t.1 t.2.1 t.2.2.1 t.2.2.2 r h)
end Go.Proofs.Ytehbhinaopdkeaa.M
namespace Go.Proofs.Ytehbhinaopdkeaa.M
open Go Go.PM Go.Proofs.Ytehbhinaopdkeaa.P
set_option linter.unusedVariables false
set_option maxRecDepth 100000
open Go.RowKit Go.Lib
/-! ### zq36 -/
abbrev zq36.R : Type := List S25
abbrev zq36.sig : Sig := ⟨[(false, 1)], [], [.sl false 25], [(false, 1)], [], [.sl true 25]⟩
set_option maxHeartbeats 2000000 in
set_option maxRecDepth 100000 in
theorem zq36.walk (ad : Addr) (n c : Nat) (news : List Value) (w : World) (hl : news.length = n * 2) (hn : n ≤ maxLen) (hbig : n * 16 ≤ 140737488355328) (hc : ∀ j u, news[j]? = some u → w.cell? (ad.add j) = some u) (h1 : ∀ u ∈ news, u.oneCell' = true) :
    Calls Try.prog 101 #[.slice (some ad) n c] w fun e w' => ∃ v', e = .returned v' ∧ w'.ownsRow w.heap.size 25 2 v' n news ∧ Go.RowKit.Below w.heap.size w w' := by
  have q22 : ∀ (w : World) (a : Option Addr) (n c n' c' : Nat), (binOp .eql 38 (.slice a n c) (.slice none n' c')).run Try.prog w = .ok (.bool a.isNone) w := fun w a n c n' c' => Lib.run_eql_slice_nil w _ _ a n c n' c' Try.underlying38
  have u22 : ∀ w, Sem.run Try.prog (underlying 38) w = .ok (TypeDesc.slice 25) w := run_underlying Try.underlying38
  have A : Aside (∀ j u, news[j]? = some u → w.cell? (ad.add j) = some u) := hc
  clear hc
  have HI : (Try.prog.info? 25).map (fun i => (i.zero, i.size, i.bytes)) = some (some (.agg #[(.int .i64 0), (.int .i64 0)]), 2, 16) := by kernel_rfl
  obtain ⟨i0, hi, hz0, hz1, hz2⟩ := info_parts HI
  go_enter Try.func101, Try.ntmps101
  go_wp2_with (at_builtin; refine wpList_append_own _ rfl _ _ 38 rfl w.heap.size 25 i0 _ 2 16 Try.underlying38 hi hz0 hz1 hz2 rfl (by decide) _ _ _ rfl (World.ownsRow_made w #[] 0 (Nat.le_refl _) (Nat.zero_le _) (by simp)) ad n c news rfl ?qc1 ?qc2 ?qc3 ?qc4 ?qc5 ?qc6 ?_)
  case qc1 => exact hl
  case qc2 =>
    intro j u hj
    exact Lib.cell?_alloc_some _ (A.out j u hj)
  case qc3 => exact h1
  case qc4 => rw [Nat.zero_add]; exact hn
  case qc5 => rw [Nat.zero_add]; exact hbig
  case qc6 => simp
  intro v' w1 hown hgrow hnil
  go_wp2
  go_ret
  exact ⟨v', rfl, by simpa using hown, ((Below.refl _ w).alloc (Nat.le_refl _) _).grown hgrow (by simp) (by intro k hk; simp [Value.ownBlock] at hk; omega)⟩
set_option maxHeartbeats 1000000 in
theorem zq36.walk0 (n c : Nat) (w : World) : Calls Try.prog 101 #[.slice none n c] w fun e w' => e = .returned (.slice none 0 0) ∧ w' = w := by
  have q22 : ∀ (w : World) (a : Option Addr) (n c n' c' : Nat), (binOp .eql 38 (.slice a n c) (.slice none n' c')).run Try.prog w = .ok (.bool a.isNone) w := fun w a n c n' c' => Lib.run_eql_slice_nil w _ _ a n c n' c' Try.underlying38
  go_enter Try.func101, Try.ntmps101
  go_wp2
  go_ret
  exact ⟨rfl, rfl⟩

def zq36.g (N : Nat) (a0 : List S25) : Option zq36.R := bif Nat.ble (a0.length * 16) 140737488355328 then some a0 else none
theorem zq36.good (N : Nat) (a0 : List S25) (r : zq36.R) (h : zq36.g N a0 = some r) : Go.PM.Good Try.prog T0 101 [.one (.sl false 25 a0)] [] (zq36.sig.ret r) (zq36.sig.bs r) := by
  unfold zq36.g at h
  obtain ⟨h1, h2⟩ := bif_some h
  cases Option.some.inj h2
  exact good_clone tabOk0 25 16 ⟨_, Try.func101, by kernel_rfl, rfl⟩ (by show 0 < 2; omega) (by omega) (fun ad n c news w h1 h2 h3 h4 h5 => zq36.walk ad n c news w h1 h2 h3 h4 h5) zq36.walk0 a0 (Nat.le_of_ble_eq_true h1)
def zq36.ent (N : Nat) : Ent Try.prog T0 := mkEnt 101 [(false, [.ro 25])] zq36.sig (fun t => zq36.g N t) (fun t r h => zq36.good N t r h)
end Go.Proofs.Ytehbhinaopdkeaa.M
namespace Go.Proofs.Ytehbhinaopdkeaa.M
open Go Go.PM Go.Proofs.Ytehbhinaopdkeaa.P
set_option linter.unusedVariables false
set_option maxRecDepth 100000
open Go.RowKit Go.Lib Go.Sort Go.Proofs
/-! ### zq29 -/
abbrev zq29.R : Type := List S25
abbrev zq29.sig : Sig := ⟨[(false, 1)], [], [.sl false 25], [(false, 1)], [], [.sl true 25]⟩
instance zq29.inh0 : Inhabited S25 := ⟨⟨0, 0⟩⟩
instance zq29.inh : Inhabited (D0 25) := zq29.inh0
def zq29.enc (x : S25) : List Value := [.int .i64 x.f0, .int .i64 x.f1]
def zq29.cf (x y : S25) : Int := Lib.compareInt (w64 (x.f0 * y.f1)) (w64 (y.f0 * x.f1))
set_option maxHeartbeats 1000000 in
theorem zq29.cmp0 (a b c d x y r : Int) (hx : wrap64 (a * d) = x) (hy : wrap64 (c * b) = y) (W : World) (HC : ∀ W, Calls Try.prog 113 #[.int .i64 x, .int .i64 y] W fun e w' => e = .returned (.int .i64 r) ∧ w' = W) : Calls Try.prog 86 #[.agg #[.int .i64 a, .int .i64 b], .agg #[.int .i64 c, .int .i64 d]] W fun e w' => e = .returned (.int .i64 r) ∧ ∃ q os', w' = grow (W.drewN q) os' := by
  go_enter Try.func86, Try.ntmps86
  go_wp2_with (go_at_call 113; rw [hx, hy]; refine (HC _).mono ?_; rintro e w' ⟨rfl, rfl⟩)
  go_ret
  exact ⟨rfl, 0, _, by rw [alloc_eq_grow, alloc_eq_grow, grow_grow]; rfl⟩
theorem zq29.wr (x : Int) : wrap64 x = w64 x := by unfold wrap64; exact (IntKind.wrap_i64 x).symm
theorem zq29.cmp (x y : S25) (W : World) : Calls Try.prog 86 #[.agg (zq29.enc x).toArray, .agg (zq29.enc y).toArray] W fun e w' => e = .returned (.int .i64 (zq29.cf x y)) ∧ ∃ q os', w' = grow (W.drewN q) os' :=
  zq29.cmp0 x.f0 x.f1 y.f0 y.f1 _ _ _ (zq29.wr _) (zq29.wr _) W fun W => Try.cmp_Compare_int (w64 (x.f0 * y.f1)) (w64 (y.f0 * x.f1)) W
theorem zq29.kc : KC (D := D0) T0 25 (fun x : D0 25 => zq29.enc x) 2 := by
  refine ⟨by omega, rfl, fun _ => rfl, ?_, ?_⟩
  · intro C x j l h
    have h : ([.int .i64 (x : S25).f0, .int .i64 (x : S25).f1] : List (LV D0))[j]? = some l := h
    match j, h with
    | 0, h => cases h; exact .int ..
    | 1, h => cases h; exact .int ..
  · intro C x j l v h hr
    have h : ([.int .i64 (x : S25).f0, .int .i64 (x : S25).f1] : List (LV D0))[j]? = some l := h
    match j, h with
    | 0, h => cases h; cases hr; rfl
    | 1, h => cases h; cases hr; rfl
def zq29.c2 (x y : S25) : List S25 := bif (y.f0 == x.f0 && y.f1 == x.f1) then [x] else [x, y]
def zq29.i2 (x y : S25) : List S25 := bif decide (zq29.cf y x < 0) then [y, x] else [x, y]
def zq29.s2 : List S25 → List S25
  | [x, y] => bif decide (zq29.cf y x < 0) then zq29.c2 y x else zq29.c2 x y
  | xs => xs
theorem zq29.ins1 (x : D0 25) : insertionSort (ltOf zq29.cf) #[x] 0 1 = #[x] := by
  unfold insertionSort insOuter
  simp
theorem zq29.ins2 (x y : D0 25) : insertionSort (ltOf zq29.cf) #[x, y] 0 2 = (zq29.i2 x y).toArray := by
  unfold insertionSort insOuter
  rw [if_pos (by omega)]
  unfold insOuter
  rw [if_neg (by omega)]
  unfold insInner insInner zq29.i2 ltOf
  by_cases h : zq29.cf y x < 0
  · simp [h, swp]
  · simp [h]
set_option maxHeartbeats 1000000 in
/-- sorted: copied, sorted, each once -/
theorem zq29.join (A : Option Addr) (n c : Nat) (w : World) (G1 G2 G3 : Value → World → Prop)
    (H1 : Calls Try.prog 101 #[.slice A n c] w fun e w1 => ∃ v, e = .returned v ∧ G1 v w1)
    (H2 : ∀ v w1, G1 v w1 → Calls Try.prog 85 #[v, .func (.func 86) #[] #[]] w1 fun e w2 => e = .returned (.tuple #[]) ∧ G2 v w2)
    (H3 : ∀ v w2, G2 v w2 → Calls Try.prog 102 #[v] w2 fun e w3 => ∃ u, e = .returned u ∧ G3 u w3) :
    Calls Try.prog 68 #[.slice A n c] w fun e w' => ∃ u, e = .returned u ∧ G3 u w' := by
  go_enter Try.func68, Try.ntmps68
  go_wp2_with (first | (go_at_call 101; refine H1.mono ?_; rintro e w1 ⟨v, rfl, hg1⟩) | (go_at_call 85; refine (H2 _ _ hg1).mono ?_; rintro e w2 ⟨rfl, hg2⟩) | (go_at_call 102; refine (H3 _ _ hg2).mono ?_; rintro e w3 ⟨u, rfl, hg3⟩))
  go_ret
  exact ⟨u, rfl, hg3⟩
/-- a row of turns -/
structure zq29.Row (w : World) (v : Value) (n : Nat) (xs : List S25) (W : World) : Prop where
  row : ∃ g cp cur, v = .slice (some ⟨g, 0, none⟩) n cp ∧ W.heap[g]? = some (.cells cur 25 (0, 0)) ∧ cur.size = cp * 2 ∧ n ≤ cp ∧ cp ≤ maxLen ∧ w.heap.size ≤ g ∧ ∀ C, RowAt (D := D0) T0 C 25 xs cur
  below : Below w.heap.size w W
theorem zq29.own {w W : World} {v : Value} {n : Nat} {xs : List S25} {L : List Value} (hn : xs.length = n + 1) (hr : ∀ C, RowOf (D := D0) T0 C 25 xs L) (h : W.ownsRow w.heap.size 25 2 v (n + 1) L) (hB : Below w.heap.size w W) : zq29.Row w v (n + 1) xs W := by
  obtain ⟨hl, h | ⟨g, cap, cur, hv, hg, hw, h1, h2, h3, h4⟩⟩ := h
  · omega
  · refine ⟨⟨g, cap, cur, hv, hw, h3, h1, h2, hg, fun C => ⟨?_, fun i x j l hi hl => ?_⟩⟩, hB⟩
    · rw [hn, h3]; show (n + 1) * 2 ≤ cap * 2; omega
    · obtain ⟨u, k1, k2⟩ := (hr C).2 i x j l hi hl
      refine ⟨u, ?_, k2⟩
      rw [← h4, List.getElem?_take] at k1
      split at k1
      · simpa using k1
      · cases k1
theorem zq29.sortRow {w W : World} {v : Value} {n : Nat} {xs ys : List S25} (hn : xs.length = n) (hn1 : 1 ≤ n) (h12 : n ≤ 12) (hy : insertionSort (ltOf zq29.cf) (xs.toArray : Array (D0 25)) 0 n = ys.toArray) (hl : ys.length = n) (h : zq29.Row w v n xs W) :
    Calls Try.prog 85 #[v, .func (.func 86) #[] #[]] W fun e w2 => e = .returned (.tuple #[]) ∧ zq29.Row w v n ys w2 := by
  obtain ⟨⟨g, cp, cur, rfl, hw, hs, hc, hm, hg, hr⟩, hB⟩ := h
  have hgW : g < W.heap.size := (Array.getElem?_eq_some_iff.1 hw).1
  have hH := zq29.kc.holds (xs := xs) tabOk0 (hr fun _ _ => none) hw
  have eg : ∀ args w, (callFunc 86 args).run Try.prog w = .ok (.enter 86 args) w := enters_of Try.func86 (by kernel_rfl) rfl
  have hcall := AnyQ.slices_SortFunc_small Try.sortL 2 Try.isAgg25 Try.sizeOf25 (fun x : D0 25 => zq29.enc x) (fun _ => rfl) (fun x v hv => by simp [zq29.enc] at hv; rcases hv with rfl | rfl <;> rfl) zq29.cf 86 #[] g 0 cp xs.toArray W eg (fun _ _ _ _ x y => zq29.cmp x y _) hH hgW (by simpa [hn] using h12)
    (fun n W h => (Try.bits_Len n W (by omega) (by omega)).mono fun _ _ ⟨he, hw⟩ => ⟨⟨_, he⟩, hw⟩)
  have hsz : xs.toArray.size = n := by simpa using hn
  rw [hsz, hy] at hcall
  change Calls Try.prog 85 _ _ _ at hcall
  refine hcall.mono ?_
  rintro e w2 ⟨rfl, m, os, rfl⟩
  obtain ⟨cur', k1, k2, k3, k4, k5⟩ := world_rowK (ys := ys) tabOk0 zq29.kc hw (by rw [hl, hs]; show n * 2 ≤ cp * 2; omega) m os
  refine ⟨rfl, ⟨g, cp, cur', rfl, k1, by rw [k2, hs], hc, hm, hg, k3⟩, hB.trans ⟨rfl, rfl, rfl, k5, fun j hj => ?_⟩⟩
  exact k4 j (by have := hB.size; omega) (by omega)
theorem zq29.eqP (a b c d : Int) (w : World) : Sem.run Try.prog (binOp .eql 25 (.agg #[.int .i64 a, .int .i64 b]) (.agg #[.int .i64 c, .int .i64 d])) w = .ok (.bool (a == c && b == d)) w := by
  have u3 := Try.underlying3
  have a3 := Try.isAgg3
  have z3 := Try.sizeOf3
  have hS : Try.prog.underlying 25 = some (.struct (Try.prog.fieldsOf 25)) := by kernel_rfl
  have hp : Try.prog.stoodInHeld 25 = false := by kernel_rfl
  rw [run_eql_struct, show (10000 : Nat) = 9999 + 1 from rfl, run_equalIn_agg w 9999 25 _ _ hS hp]
  simp only [Program.fieldsOf, Try.underlying25]
  go_simp
  by_cases h1 : a = c <;> by_cases h2 : b = d <;> simp [h1, h2]
theorem zq29.grd : GuardAt Try.prog 25 (fun x : S25 => .agg #[.int .i64 x.f0, .int .i64 x.f1]) := GuardAt.agg _ (by kernel_rfl)
set_option maxHeartbeats 4000000 in
/-- two turns that are the same -/
theorem zq29.cptS (g cap : Nat) (a b : Int) (w : World) (hc : 2 ≤ cap) (h0 : w.cell? ⟨g, 0, none⟩ = some (.int .i64 a)) (h1 : w.cell? ⟨g, 1, none⟩ = some (.int .i64 b)) (h2 : w.cell? ⟨g, 2, none⟩ = some (.int .i64 a)) (h3 : w.cell? ⟨g, 3, none⟩ = some (.int .i64 b)) (hf : ∀ i, w.frozen? ⟨g, i, none⟩ = false) :
    Calls Try.prog 102 #[.slice (some ⟨g, 0, none⟩) 2 cap] w fun e w' => e = .returned (.slice (some ⟨g, 0, none⟩) 1 cap) ∧ ∃ q, w' = (w.drewN q).setCells g 2 [.int .i64 0, .int .i64 0] := by
  have mixed : Try.prog.follows .mixedOrders = true := mixed0
  have hcl : ∀ q ty c, (Builtin.clear_ #[38] ty #[.slice (some ⟨g, 2, none⟩) 1 c]).run Try.prog (w.drewN q) = .ok (.tuple #[]) ((w.drewN q).setCells g 2 [.int .i64 0, .int .i64 0]) := by
    intro q ty c
    have HI : (Try.prog.info? 25).map (fun i => (i.zero, i.size, i.bytes)) = some (some (.agg #[(.int .i64 0), (.int .i64 0)]), 2, 16) := by kernel_rfl
    obtain ⟨i0, hi0, hz0, hz1, hz2⟩ := info_parts HI
    refine clear1 (w.drewN q) 38 25 ty (.agg #[(.int .i64 0), (.int .i64 0)]) Try.underlying38 (fun W => by simp [zeroValue, typeInfo, hi0, hz0, Result.andThen]) (by simp [Value.cells, Value.oneCell']) g 2 c (fun j hj => ?_) (fun j hj => by exact hf _)
    rw [World.cell?_drewN]
    match j, hj with
    | 0, _ => rw [h2]; rfl
    | 1, _ => rw [h3]; rfl
  have u38 := Try.underlying38
  have aE := Try.isAgg25
  have zE := Try.sizeOf25
  have u3 := Try.underlying3
  have he := zq29.eqP a b a b
  simp only [beq_self_eq_true, Bool.and_self] at he
  have hg : ∀ (op : BinOp) (p q : Operand) (x y : S25) (w : World), Sem.run Try.prog (eqGuard op 25 p q (.agg #[.int .i64 x.f0, .int .i64 x.f1]) (.agg #[.int .i64 y.f0, .int .i64 y.f1])) w = .ok () w := zq29.grd
  have hg := fun op p q => hg op p q ⟨a, b⟩ ⟨a, b⟩
  dsimp only at hg
  have hw0 : IntKind.wrap .i64 0 = 0 := by decide
  have hw2 : IntKind.wrap .i64 2 = 2 := by decide
  go_enter Try.func102, Try.ntmps102
  go_wp2
  refine wp_loop_rounds 1 ?_
  rw [rounds_succ]
  go_wp2_with fail
  go_quiet_o (fail)
  go_wp2
  refine wp_loop_rounds 1 ?_
  rw [rounds_succ]
  go_wp2
  go_ret
  exact ⟨rfl, nq, rfl⟩
set_option maxHeartbeats 4000000 in
/-- two turns that are not -/
theorem zq29.cptN (g cap : Nat) (a b c d : Int) (w : World) (hn : (c == a && d == b) = false) (h0 : w.cell? ⟨g, 0, none⟩ = some (.int .i64 a)) (h1 : w.cell? ⟨g, 1, none⟩ = some (.int .i64 b)) (h2 : w.cell? ⟨g, 2, none⟩ = some (.int .i64 c)) (h3 : w.cell? ⟨g, 3, none⟩ = some (.int .i64 d)) :
    Calls Try.prog 102 #[.slice (some ⟨g, 0, none⟩) 2 cap] w fun e w' => e = .returned (.slice (some ⟨g, 0, none⟩) 2 cap) ∧ ∃ q, w' = w.drewN q := by
  have mixed : Try.prog.follows .mixedOrders = true := mixed0
  have u38 := Try.underlying38
  have aE := Try.isAgg25
  have zE := Try.sizeOf25
  have u3 := Try.underlying3
  have he := zq29.eqP c d a b
  rw [hn] at he
  have hg : ∀ (op : BinOp) (p q : Operand) (x y : S25) (w : World), Sem.run Try.prog (eqGuard op 25 p q (.agg #[.int .i64 x.f0, .int .i64 x.f1]) (.agg #[.int .i64 y.f0, .int .i64 y.f1])) w = .ok () w := zq29.grd
  have hg := fun op p q => hg op p q ⟨c, d⟩ ⟨a, b⟩
  dsimp only at hg
  have hw0 : IntKind.wrap .i64 0 = 0 := by decide
  have hw2 : IntKind.wrap .i64 2 = 2 := by decide
  clear hn
  go_enter Try.func102, Try.ntmps102
  go_wp2
  refine wp_loop_rounds 2 ?_
  rw [rounds_succ]
  go_wp2_with fail
  go_quiet_o (fail)
  go_wp2
  rw [rounds_succ]
  go_wp2
  go_ret
  exact ⟨rfl, nq, rfl⟩
set_option maxHeartbeats 1000000 in
theorem zq29.cpt0 (a : Option Addr) (cap : Nat) (w : World) :
    Calls Try.prog 102 #[.slice a 0 cap] w fun e w' => e = .returned (.slice a 0 cap) ∧ w' = w := by
  go_enter Try.func102, Try.ntmps102
  go_wp2
  go_ret
  exact ⟨rfl, rfl⟩
set_option maxHeartbeats 1000000 in
theorem zq29.cpt1 (a : Option Addr) (cap : Nat) (w : World) :
    Calls Try.prog 102 #[.slice a 1 cap] w fun e w' => e = .returned (.slice a 1 cap) ∧ w' = w := by
  go_enter Try.func102, Try.ntmps102
  go_wp2
  go_ret
  exact ⟨rfl, rfl⟩

/-- what sorted leaves -/
def zq29.Out (w : World) (ys : List S25) (u : Value) (W : World) : Prop := W.ownsRow w.heap.size 25 2 u ys.length (ys.flatMap zq29.enc) ∧ Below w.heap.size w W
theorem zq29.four {cur : Array Value} {cp : Nat} (x y : S25) (hs : cur.size = cp * 2) (hc : 2 ≤ cp) (hr : ∀ C, RowAt (D := D0) T0 C 25 ([x, y] : List S25) cur) : cur.toList.take 4 = [.int .i64 x.f0, .int .i64 x.f1, .int .i64 y.f0, .int .i64 y.f1] := by
  have h0 := zq29.kc.get (xs := [x, y]) tabOk0 (hr fun _ _ => none) (i := 0) (c := 0) (x := x) rfl (by omega)
  have h1 := zq29.kc.get (xs := [x, y]) tabOk0 (hr fun _ _ => none) (i := 0) (c := 1) (x := x) rfl (by omega)
  have h2 := zq29.kc.get (xs := [x, y]) tabOk0 (hr fun _ _ => none) (i := 1) (c := 0) (x := y) rfl (by omega)
  have h3 := zq29.kc.get (xs := [x, y]) tabOk0 (hr fun _ _ => none) (i := 1) (c := 1) (x := y) rfl (by omega)
  apply List.ext_getElem?
  intro i
  rw [List.getElem?_take]
  match i with
  | 0 => simpa [zq29.enc] using h0
  | 1 => simpa [zq29.enc] using h1
  | 2 => simpa [zq29.enc] using h2
  | 3 => simpa [zq29.enc] using h3
  | i + 4 => rw [if_neg (by omega)]; rfl
theorem zq29.cptRow {w W : World} {v : Value} (x y : S25) (h : zq29.Row w v 2 [x, y] W) :
    Calls Try.prog 102 #[v] W fun e w3 => ∃ u, e = .returned u ∧ zq29.Out w (zq29.c2 x y) u w3 := by
  obtain ⟨⟨g, cp, cur, rfl, hw, hs, hc, hm, hg, hr⟩, hB⟩ := h
  have h4 := zq29.four x y hs hc hr
  have hz : ∀ i, i < 4 → cur[i]? = (cur.toList.take 4)[i]? := fun i hi => by rw [List.getElem?_take, if_pos hi]; simp
  have k0 : W.cell? ⟨g, 0, none⟩ = some (.int .i64 x.f0) := by rw [blkc hw, hz 0 (by omega), h4]; rfl
  have k1 : W.cell? ⟨g, 1, none⟩ = some (.int .i64 x.f1) := by rw [blkc hw, hz 1 (by omega), h4]; rfl
  have k2 : W.cell? ⟨g, 2, none⟩ = some (.int .i64 y.f0) := by rw [blkc hw, hz 2 (by omega), h4]; rfl
  have k3 : W.cell? ⟨g, 3, none⟩ = some (.int .i64 y.f1) := by rw [blkc hw, hz 3 (by omega), h4]; rfl
  cases he : (y.f0 == x.f0 && y.f1 == x.f1) with
  | true =>
    have e := he
    simp only [Bool.and_eq_true, beq_iff_eq] at e
    rw [e.1] at k2
    rw [e.2] at k3
    refine (zq29.cptS g cp x.f0 x.f1 W hc k0 k1 k2 k3 (fun i => blkf hw i)).mono ?_
    rintro e w3 ⟨rfl, q, rfl⟩
    obtain ⟨cur', q1, q2, q3⟩ := setCells_list (g := g) (e := 25) [.int .i64 0, .int .i64 0] 2 (W.drewN q) cur hw (by show 4 ≤ cur.size; omega)
    have hE : zq29.c2 x y = [x] := by unfold zq29.c2; rw [he]; rfl
    refine ⟨_, rfl, ?_, belowc hg _ _ _ (hB.trans ⟨rfl, rfl, rfl, Nat.le_refl _, fun _ _ => rfl⟩)⟩
    rw [hE]
    refine ⟨rfl, .inr ⟨g, cp, cur', rfl, hg, q1, by show 1 ≤ cp; omega, hm, by rw [q2, hs], ?_⟩⟩
    have h2 : cur.toList.take 2 = zq29.enc x := by
      have := congrArg (List.take 2) h4
      rw [List.take_take] at this
      exact this
    rw [q3, h2]
    rfl
  | false =>
    refine (zq29.cptN g cp x.f0 x.f1 y.f0 y.f1 W he k0 k1 k2 k3).mono ?_
    rintro e w3 ⟨rfl, q, rfl⟩
    have hE : zq29.c2 x y = [x, y] := by unfold zq29.c2; rw [he]; rfl
    refine ⟨_, rfl, ?_, hB.trans ⟨rfl, rfl, rfl, Nat.le_refl _, fun _ _ => rfl⟩⟩
    rw [hE]
    exact ⟨rfl, .inr ⟨g, cp, cur, rfl, hg, hw, hc, hm, hs, h4⟩⟩
theorem zq29.cptRow1 {w W : World} {v : Value} (x : S25) (h : zq29.Row w v 1 [x] W) :
    Calls Try.prog 102 #[v] W fun e w3 => ∃ u, e = .returned u ∧ zq29.Out w [x] u w3 := by
  obtain ⟨⟨g, cp, cur, rfl, hw, hs, hc, hm, hg, hr⟩, hB⟩ := h
  have h0 := zq29.kc.get (xs := [x]) tabOk0 (hr fun _ _ => none) (i := 0) (c := 0) (x := x) rfl (by omega)
  have h1 := zq29.kc.get (xs := [x]) tabOk0 (hr fun _ _ => none) (i := 0) (c := 1) (x := x) rfl (by omega)
  refine (zq29.cpt1 _ cp W).mono ?_
  rintro e w3 ⟨rfl, rfl⟩
  refine ⟨_, rfl, ⟨rfl, .inr ⟨g, cp, cur, rfl, hg, hw, hc, hm, hs, ?_⟩⟩, hB⟩
  apply List.ext_getElem?
  intro i
  rw [List.getElem?_take]
  match i with
  | 0 => simpa [zq29.enc] using h0
  | 1 => simpa [zq29.enc] using h1
  | i + 2 => rw [if_neg (by show ¬ i + 2 < 1 * 2; omega)]; rfl
theorem zq29.rowOf (ys : List S25) (C : Nat → Nat → Option Value) : RowOf (D := D0) T0 C 25 ys (ys.flatMap zq29.enc) := by
  induction ys with
  | nil => exact RowOf.nil ..
  | cons y ys ih =>
    refine RowOf.append (D := D0) (e := 25) (xs := [y]) (ys := ys) tabOk0 (L := zq29.enc y) (M := ys.flatMap zq29.enc) ⟨rfl, fun i x j l hi hl => ?_⟩ ih
    match i, hi with
    | 0, hi =>
      cases hi
      have hj : j < 2 := by
        have := (List.getElem?_eq_some_iff.1 hl).1
        rw [(tabOk0).out_len] at this
        exact this
      exact ⟨(zq29.enc y)[j]!, by match j, hj with | 0, _ => rfl | 1, _ => rfl, zq29.kc.rep C y j l hl⟩
theorem zq29.len2 (xs : List S25) (h : xs.length ≤ 2) : xs = [] ∨ (∃ x, xs = [x]) ∨ ∃ x y, xs = [x, y] := by
  match xs, h with
  | [], _ => exact .inl rfl
  | [x], _ => exact .inr (.inl ⟨x, rfl⟩)
  | [x, y], _ => exact .inr (.inr ⟨x, y, rfl⟩)
theorem zq29.walk0 (A : Option Addr) (c : Nat) (w : World) : Calls Try.prog 68 #[.slice A 0 c] w fun e w' => ∃ u, e = .returned u ∧ zq29.Out w [] u w' := by
  refine zq29.join A 0 c w (fun v w1 => zq29.Out w [] v w1) (fun v w1 => zq29.Out w [] v w1) _ ?_ ?_ ?_
  · cases A with
    | none => exact (zq36.walk0 0 c w).mono fun e w1 ⟨he, hw⟩ => ⟨_, he, hw ▸ ⟨⟨rfl, .inl ⟨rfl, rfl⟩⟩, Below.refl _ _⟩⟩
    | some ad => exact (zq36.walk ad 0 c [] w rfl (by unfold maxLen; omega) (by omega) (fun j u h => by simp at h) (fun u h => by simp at h)).mono fun e w1 ⟨v, he, h1, h2⟩ => ⟨v, he, h1, h2⟩
  · rintro v w1 ⟨⟨hl, h⟩, hB⟩
    obtain ⟨p, cp, rfl⟩ : ∃ p cp, v = .slice p 0 cp := by
      rcases h with ⟨rfl, _⟩ | ⟨g, cp, _, rfl, _⟩
      · exact ⟨_, _, rfl⟩
      · exact ⟨_, _, rfl⟩
    refine (AnyF.slices_SortFunc_none Try.sortL p cp (.func (.func 86) #[] #[]) w1).mono ?_
    rintro e w2 ⟨rfl, rfl⟩
    exact ⟨rfl, ⟨hl, h⟩, hB⟩
  · rintro v w1 ⟨⟨hl, h⟩, hB⟩
    obtain ⟨p, cp, rfl⟩ : ∃ p cp, v = .slice p 0 cp := by
      rcases h with ⟨rfl, _⟩ | ⟨g, cp, _, rfl, _⟩
      · exact ⟨_, _, rfl⟩
      · exact ⟨_, _, rfl⟩
    refine (zq29.cpt0 p cp w1).mono ?_
    rintro e w2 ⟨rfl, rfl⟩
    exact ⟨_, rfl, ⟨hl, h⟩, hB⟩
theorem zq29.good0 (xs : List S25) (hx : xs.length ≤ 2) : Go.PM.Good Try.prog T0 68 [.one (.sl false 25 xs)] [] (.one (.sl true 25 (zq29.s2 xs))) [] := by
  refine good_rowC tabOk0 25 ⟨_, Try.func68, by kernel_rfl, rfl⟩ (by show 0 < 2; omega) [] xs (zq29.s2 xs) (fun _ => (zq29.s2 xs).flatMap zq29.enc) (fun C L _ => zq29.rowOf _ C) ?_
  intro A c L w hl hc hA hcell h1 ⟨C0, hrow⟩
  have hrow' : ∀ C, RowOf (D := D0) T0 C 25 xs L := fun C => zq29.kc.rowOf (ys := xs) tabOk0 hl (fun i c y hi hc => zq29.kc.flat tabOk0 hrow i c y hi hc) C
  rcases zq29.len2 xs hx with rfl | ⟨x, rfl⟩ | ⟨x, y, rfl⟩
  · exact (zq29.walk0 A c w).mono fun e w' ⟨u, h1, h2, h3⟩ => ⟨u, h1, h2, h3⟩
  · cases A with
    | none => cases hA rfl
    | some ad =>
      refine (zq29.join (some ad) 1 c w (fun v W => zq29.Row w v 1 [x] W) (fun v W => zq29.Row w v 1 [x] W) (fun u W => zq29.Out w [x] u W) ?_ ?_ ?_).mono fun e w' ⟨u, h1, h2, h3⟩ => ⟨u, h1, h2, h3⟩
      · exact (zq36.walk ad 1 c L w hl (by unfold maxLen; omega) (by omega) (hcell ad rfl) h1).mono fun e w1 ⟨v, he, k1, k2⟩ => ⟨v, he, zq29.own (n := 0) rfl hrow' k1 k2⟩
      · exact fun v W h => zq29.sortRow rfl (by omega) (by omega) (zq29.ins1 x) rfl h
      · exact fun v W h => zq29.cptRow1 x h
  · cases A with
    | none => cases hA rfl
    | some ad =>
      have hE : zq29.s2 [x, y] = bif decide (zq29.cf y x < 0) then zq29.c2 y x else zq29.c2 x y := rfl
      refine (zq29.join (some ad) 2 c w (fun v W => zq29.Row w v 2 [x, y] W) (fun v W => zq29.Row w v 2 (zq29.i2 x y) W) (fun u W => zq29.Out w (zq29.s2 [x, y]) u W) ?_ ?_ ?_).mono fun e w' ⟨u, h1, h2, h3⟩ => ⟨u, h1, h2, h3⟩
      · exact (zq36.walk ad 2 c L w hl (by unfold maxLen; omega) (by omega) (hcell ad rfl) h1).mono fun e w1 ⟨v, he, k1, k2⟩ => ⟨v, he, zq29.own (n := 1) rfl hrow' k1 k2⟩
      · exact fun v W h => zq29.sortRow rfl (by omega) (by omega) (zq29.ins2 x y) (by unfold zq29.i2; cases decide (zq29.cf y x < 0) <;> rfl) h
      · intro v W h
        rw [hE]
        unfold zq29.i2 at h
        cases hd : decide (zq29.cf y x < 0) with
        | true => rw [hd] at h; exact zq29.cptRow y x h
        | false => rw [hd] at h; exact zq29.cptRow x y h
def zq29.g (N : Nat) (a0 : List S25) : Option zq29.R := bif Nat.ble a0.length 2 then some (zq29.s2 a0) else none
theorem zq29.good (N : Nat) (a0 : List S25) (r : zq29.R) (h : zq29.g N a0 = some r) : Go.PM.Good Try.prog T0 68 [.one (.sl false 25 a0)] [] (zq29.sig.ret r) (zq29.sig.bs r) := by
  unfold zq29.g at h
  obtain ⟨h1, h2⟩ := bif_some h
  cases Option.some.inj h2
  exact zq29.good0 a0 (Nat.le_of_ble_eq_true h1)
def zq29.ent (N : Nat) : Ent Try.prog T0 := mkEnt 68 [(false, [.ro 25])] zq29.sig (fun t => zq29.g N t) (fun t r h => zq29.good N t r h)

end Go.Proofs.Ytehbhinaopdkeaa.M
namespace Go.Proofs.Ytehbhinaopdkeaa.M
open Go Go.PM Go.Proofs.Ytehbhinaopdkeaa.P
set_option linter.unusedVariables false
set_option maxRecDepth 100000
/-! ### zq14 -/
abbrev zq14.R : Type := List S25 × Bool
abbrev zq14.sig : Sig := ⟨[(false, 1), (true, 4)], [], [.int .i64, .int .i64, .int .i64, .int .i64, .int .i64], [(false, 1), (false, 1)], [], [.sl true 25, .bool]⟩
def zq14.C : Cfg D0 := ⟨Try.prog, T0, 8406139, 0, 31, 0, [(30, [0, 3, 6], [3]), (62, [6], [])], 537923712, false, []⟩
def zq14.E (N : Nat) : List (Ent Try.prog T0) := [zq24.ent N, zq26.ent N, zq12.ent N, zq29.ent N]
def zq14.O (N : Nat) : Orc D0 zq14.R := orcOf (zq14.E N)
def zq14.K0 : Ex → St D0 → Option zq14.R := exitK zq14.C Try.f14.results.toList [(false, [.own 25]), (false, [.any])] (decOut zq14.sig)
def zq14.c1 : Code := codeAt (Try.f14.body.getD .skip) []
def zq14.c2 : Code := codeAt (Try.f14.body.getD .skip) [false]
def zq14.c6 : Code := codeAt (Try.f14.body.getD .skip) [true, false]
def zq14.c14 : Code := codeAt (Try.f14.body.getD .skip) [true, true, false]
def zq14.c30 : Code := codeAt (Try.f14.body.getD .skip) [true, true, true, false]
def zq14.c31 : Code := codeAt (Try.f14.body.getD .skip) [true, true, true, true]
def zq14.c62 : Code := codeAt (Try.f14.body.getD .skip) [true, true, true, true, false]
def zq14.c63 : Code := codeAt (Try.f14.body.getD .skip) [true, true, true, true, true]
def zq14.K63 (N : Nat) : Ex → St D0 → Option zq14.R := zq14.K0
def zq14.o2 (N : Nat) (v0 : List S25) : Option zq14.R :=
 (zq29.g N v0).bind fun r1 =>
 some (r1, true)
theorem zq14.o2.run (N : Nat) (v0 : List S25) : runC zq14.C (zq14.O N) N zq14.c63 63 (mkSt [(6, .one (.sl true 25 v0))] [] : St D0) zq14.K0 = zq14.o2 N v0 := by kernel_rfl
def zq14.d2 (N : Nat) (v0 : List S25) : Option zq14.R := zq14.o2 N v0
theorem zq14.d2.run (N : Nat) (v0 : List S25) : runC zq14.C (zq14.O N) N zq14.c63 63 (mkSt [(6, .one (.sl true 25 v0))] [] : St D0) (zq14.K63 N) = zq14.d2 N v0 := by
  exact (zq14.o2.run N v0).trans rfl
def zq14.K31 (N : Nat) : Ex → St D0 → Option zq14.R := zq14.K0
def zq14.o1 (N : Nat) (v0 : Int) (v1 : List S25) (v2 : Int) (v3 : Int) (v4 : Int) (v5 : Int) (c2 : (List S25) → Option zq14.R) : Option zq14.R :=
 (zq12.g N v2 v3 v4 v5).bind fun r1 =>
 (zq26.g N v0 r1.1 r1.2.1 r1.2.2.1 r1.2.2.2).bind fun r2 =>
 bif r2 then
  bif (Nat.blt (v1.length + ([(⟨v4, v5⟩ : S25)] : List S25).length) 8796093022208) then
   c2 (v1 ++ ([(⟨v4, v5⟩ : S25)] : List S25))
  else
  none
 else
 c2 v1
theorem zq14.o1.run (N : Nat) (H63 : Code) (v0 : Int) (v1 : List S25) (v2 : Int) (v3 : Int) (v4 : Int) (v5 : Int) : runC zq14.C (zq14.O N) N (.seq zq14.c62 H63) 31 (mkSt [(0, .one (.int .i64 v0)), (3, .one (.ptr 3 0)), (6, .one (.sl true 25 v1))] [(3, some (31, [.int .i64 v2, .int .i64 v3, .int .i64 v4, .int .i64 v5]))] : St D0) zq14.K0 = zq14.o1 N v0 v1 v2 v3 v4 v5 ((fun w0 => runC zq14.C (zq14.O N) N H63 63 (mkSt [(6, .one (.sl true 25 w0))] [] : St D0) zq14.K0)) := by kernel_rfl
def zq14.d1 (N : Nat) (v0 : Int) (v1 : List S25) (v2 : Int) (v3 : Int) (v4 : Int) (v5 : Int) : Option zq14.R := zq14.o1 N v0 v1 v2 v3 v4 v5 ((fun w0 => zq14.d2 N w0))
theorem zq14.c31_1 : zq14.c31 = (.seq zq14.c62 zq14.c63) := by kernel_rfl
theorem zq14.d1.run (N : Nat) (v0 : Int) (v1 : List S25) (v2 : Int) (v3 : Int) (v4 : Int) (v5 : Int) : runC zq14.C (zq14.O N) N zq14.c31 31 (mkSt [(0, .one (.int .i64 v0)), (3, .one (.ptr 3 0)), (6, .one (.sl true 25 v1))] [(3, some (31, [.int .i64 v2, .int .i64 v3, .int .i64 v4, .int .i64 v5]))] : St D0) (zq14.K31 N) = zq14.d1 N v0 v1 v2 v3 v4 v5 := by
  rw [zq14.c31_1]; unfold zq14.d1; exact (zq14.o1.run N zq14.c63 v0 v1 v2 v3 v4 v5).trans (congr rfl (funext fun w0 => zq14.d2.run N w0))
def zq14.o0 (N : Nat) (a0 : Int) (a1_0 : Int) (a1_1 : Int) (a1_2 : Int) (a1_3 : Int) (c1 : Int → (List S25) → Int → Int → Int → Int → Option zq14.R) : Option zq14.R :=
 (zq24.g N a0 a1_0 a1_1 a1_2 a1_3).bind fun r1 =>
 bif (!r1) then
  some (([] : List S25), false)
 else
 (zq26.g N a0 a1_0 a1_1 a1_2 a1_3).bind fun r2 =>
 bif r2 then
  bif (Nat.blt (([] : List S25).length + ([(⟨a1_0, a1_1⟩ : S25)] : List S25).length) 8796093022208) then
   c1 a0 (([] : List S25) ++ ([(⟨a1_0, a1_1⟩ : S25)] : List S25)) a1_0 a1_1 a1_2 a1_3
  else
  none
 else
 c1 a0 ([] : List S25) a1_0 a1_1 a1_2 a1_3
theorem zq14.o0.run (N : Nat) (H31 : Code) (a0 : Int) (a1_0 : Int) (a1_1 : Int) (a1_2 : Int) (a1_3 : Int) : runC zq14.C (zq14.O N) N (.seq zq14.c2 (.seq zq14.c6 (.seq zq14.c14 (.seq zq14.c30 H31)))) 1 (st0 [.one (.int .i64 a0), .agg [.int .i64 a1_0, .int .i64 a1_1, .int .i64 a1_2, .int .i64 a1_3]] [] : St D0) zq14.K0 = zq14.o0 N a0 a1_0 a1_1 a1_2 a1_3 ((fun w0 w1 w2 w3 w4 w5 => runC zq14.C (zq14.O N) N H31 31 (mkSt [(0, .one (.int .i64 w0)), (3, .one (.ptr 3 0)), (6, .one (.sl true 25 w1))] [(3, some (31, [.int .i64 w2, .int .i64 w3, .int .i64 w4, .int .i64 w5]))] : St D0) zq14.K0)) := by kernel_rfl
def zq14.g (N : Nat) (a0 : Int) (a1_0 : Int) (a1_1 : Int) (a1_2 : Int) (a1_3 : Int) : Option zq14.R := zq14.o0 N a0 a1_0 a1_1 a1_2 a1_3 ((fun w0 w1 w2 w3 w4 w5 => zq14.d1 N w0 w1 w2 w3 w4 w5))
theorem zq14.c1_0 : zq14.c1 = (.seq zq14.c2 (.seq zq14.c6 (.seq zq14.c14 (.seq zq14.c30 zq14.c31)))) := by kernel_rfl
theorem zq14.g.run (N : Nat) (a0 : Int) (a1_0 : Int) (a1_1 : Int) (a1_2 : Int) (a1_3 : Int) : runC zq14.C (zq14.O N) N zq14.c1 1 (st0 [.one (.int .i64 a0), .agg [.int .i64 a1_0, .int .i64 a1_1, .int .i64 a1_2, .int .i64 a1_3]] [] : St D0) zq14.K0 = zq14.g N a0 a1_0 a1_1 a1_2 a1_3 := by
  rw [zq14.c1_0]; unfold zq14.g; exact (zq14.o0.run N zq14.c31 a0 a1_0 a1_1 a1_2 a1_3).trans (congr rfl (funext fun w0 => funext fun w1 => funext fun w2 => funext fun w3 => funext fun w4 => funext fun w5 => zq14.d1.run N w0 w1 w2 w3 w4 w5))
theorem zq14.good (N : Nat) (a0 : Int) (a1_0 : Int) (a1_1 : Int) (a1_2 : Int) (a1_3 : Int) (r : zq14.R) (h : zq14.g N a0 a1_0 a1_1 a1_2 a1_3 = some r) : Go.PM.Good Try.prog T0 14 [.one (.int .i64 a0), .agg [.int .i64 a1_0, .int .i64 a1_1, .int .i64 a1_2, .int .i64 a1_3]] [] (zq14.sig.ret r) (zq14.sig.bs r) :=
  good_fn tabOk0 mixed0 zq14.sig (zq14.E N) Try.func14 (by kernel_rfl) (by kernel_rfl) 8406139 0 0 [(30, [0, 3, 6], [3]), (62, [6], [])] 537923712 false [] [(false, [.own 25]), (false, [.any])] (by kernel_rfl) rfl rfl ((zq14.g.run N a0 a1_0 a1_1 a1_2 a1_3).trans h)
def zq14.ent (N : Nat) : Ent Try.prog T0 := mkEnt 14 [(false, [.any]), (true, [.any, .any, .any, .any])] zq14.sig (fun t => zq14.g N t.1 t.2.1 t.2.2.1 t.2.2.2.1 t.2.2.2.2) (fun t r h => zq14.good N t.1 t.2.1 t.2.2.1 t.2.2.2.1 t.2.2.2.2 r h)
/-! ### zq73 -/
abbrev zq73.R : Type := Bool
abbrev zq73.sig : Sig := ⟨[(true, 4)], [], [.int .i64, .int .i64, .int .i64, .int .i64], [(false, 1)], [], [.bool]⟩
def zq73.C : Cfg D0 := ⟨Try.prog, T0, 7, 0, 11, 0, [], 0, false, []⟩
def zq73.E (N : Nat) : List (Ent Try.prog T0) := [zq56.ent N]
def zq73.O (N : Nat) : Orc D0 zq73.R := orcOf (zq73.E N)
def zq73.K0 : Ex → St D0 → Option zq73.R := exitK zq73.C Try.f79.results.toList [(false, [.any])] (decOut zq73.sig)
def zq73.c1 : Code := codeAt (Try.f79.body.getD .skip) []
def zq73.o0 (N : Nat) (a0_0 : Int) (a0_1 : Int) (a0_2 : Int) (a0_3 : Int) : Option zq73.R :=
 (zq56.g N a0_0 a0_1).bind fun r1 =>
 bif r1 then
  (zq56.g N a0_2 a0_3).bind fun r2 =>
  some (r2)
 else
 some (false)
theorem zq73.o0.run (N : Nat) (a0_0 : Int) (a0_1 : Int) (a0_2 : Int) (a0_3 : Int) : runC zq73.C (zq73.O N) N zq73.c1 1 (st0 [.agg [.int .i64 a0_0, .int .i64 a0_1, .int .i64 a0_2, .int .i64 a0_3]] [] : St D0) zq73.K0 = zq73.o0 N a0_0 a0_1 a0_2 a0_3 := by kernel_rfl
def zq73.g (N : Nat) (a0_0 : Int) (a0_1 : Int) (a0_2 : Int) (a0_3 : Int) : Option zq73.R := zq73.o0 N a0_0 a0_1 a0_2 a0_3
theorem zq73.g.run (N : Nat) (a0_0 : Int) (a0_1 : Int) (a0_2 : Int) (a0_3 : Int) : runC zq73.C (zq73.O N) N zq73.c1 1 (st0 [.agg [.int .i64 a0_0, .int .i64 a0_1, .int .i64 a0_2, .int .i64 a0_3]] [] : St D0) zq73.K0 = zq73.g N a0_0 a0_1 a0_2 a0_3 := by
  exact (zq73.o0.run N a0_0 a0_1 a0_2 a0_3).trans rfl
theorem zq73.good (N : Nat) (a0_0 : Int) (a0_1 : Int) (a0_2 : Int) (a0_3 : Int) (r : zq73.R) (h : zq73.g N a0_0 a0_1 a0_2 a0_3 = some r) : Go.PM.Good Try.prog T0 79 [.agg [.int .i64 a0_0, .int .i64 a0_1, .int .i64 a0_2, .int .i64 a0_3]] [] (zq73.sig.ret r) (zq73.sig.bs r) :=
  good_fn tabOk0 mixed0 zq73.sig (zq73.E N) Try.func79 (by kernel_rfl) (by kernel_rfl) 7 0 0 [] 0 false [] [(false, [.any])] (by kernel_rfl) rfl rfl ((zq73.g.run N a0_0 a0_1 a0_2 a0_3).trans h)
def zq73.ent (N : Nat) : Ent Try.prog T0 := mkEnt 79 [(true, [.any, .any, .any, .any])] zq73.sig (fun t => zq73.g N t.1 t.2.1 t.2.2.1 t.2.2.2) (fun t r h => zq73.good N t.1 t.2.1 t.2.2.1 t.2.2.2 r h)
/-! ### zq71 -/
abbrev zq71.R : Type := Bool
abbrev zq71.sig : Sig := ⟨[(false, 1), (true, 4)], [], [.int .i64, .int .i64, .int .i64, .int .i64, .int .i64], [(false, 1)], [], [.bool]⟩
def zq71.C : Cfg D0 := ⟨Try.prog, T0, 27, 0, 11, 0, [], 32, false, []⟩
def zq71.E (N : Nat) : List (Ent Try.prog T0) := [zq57.ent N, zq73.ent N]
def zq71.O (N : Nat) : Orc D0 zq71.R := orcOf (zq71.E N)
def zq71.K0 : Ex → St D0 → Option zq71.R := exitK zq71.C Try.f77.results.toList [(false, [.any])] (decOut zq71.sig)
def zq71.c1 : Code := codeAt (Try.f77.body.getD .skip) []
def zq71.o0 (N : Nat) (a0 : Int) (a1_0 : Int) (a1_1 : Int) (a1_2 : Int) (a1_3 : Int) : Option zq71.R :=
 (zq57.g N a0).bind fun r1 =>
 bif r1 then
  (zq73.g N a1_0 a1_1 a1_2 a1_3).bind fun r2 =>
  some (r2)
 else
 some (false)
theorem zq71.o0.run (N : Nat) (a0 : Int) (a1_0 : Int) (a1_1 : Int) (a1_2 : Int) (a1_3 : Int) : runC zq71.C (zq71.O N) N zq71.c1 1 (st0 [.one (.int .i64 a0), .agg [.int .i64 a1_0, .int .i64 a1_1, .int .i64 a1_2, .int .i64 a1_3]] [] : St D0) zq71.K0 = zq71.o0 N a0 a1_0 a1_1 a1_2 a1_3 := by kernel_rfl
def zq71.g (N : Nat) (a0 : Int) (a1_0 : Int) (a1_1 : Int) (a1_2 : Int) (a1_3 : Int) : Option zq71.R := zq71.o0 N a0 a1_0 a1_1 a1_2 a1_3
theorem zq71.g.run (N : Nat) (a0 : Int) (a1_0 : Int) (a1_1 : Int) (a1_2 : Int) (a1_3 : Int) : runC zq71.C (zq71.O N) N zq71.c1 1 (st0 [.one (.int .i64 a0), .agg [.int .i64 a1_0, .int .i64 a1_1, .int .i64 a1_2, .int .i64 a1_3]] [] : St D0) zq71.K0 = zq71.g N a0 a1_0 a1_1 a1_2 a1_3 := by
  exact (zq71.o0.run N a0 a1_0 a1_1 a1_2 a1_3).trans rfl
theorem zq71.good (N : Nat) (a0 : Int) (a1_0 : Int) (a1_1 : Int) (a1_2 : Int) (a1_3 : Int) (r : zq71.R) (h : zq71.g N a0 a1_0 a1_1 a1_2 a1_3 = some r) : Go.PM.Good Try.prog T0 77 [.one (.int .i64 a0), .agg [.int .i64 a1_0, .int .i64 a1_1, .int .i64 a1_2, .int .i64 a1_3]] [] (zq71.sig.ret r) (zq71.sig.bs r) :=
  good_fn tabOk0 mixed0 zq71.sig (zq71.E N) Try.func77 (by kernel_rfl) (by kernel_rfl) 27 0 0 [] 32 false [] [(false, [.any])] (by kernel_rfl) rfl rfl ((zq71.g.run N a0 a1_0 a1_1 a1_2 a1_3).trans h)
def zq71.ent (N : Nat) : Ent Try.prog T0 := mkEnt 77 [(false, [.any]), (true, [.any, .any, .any, .any])] zq71.sig (fun t => zq71.g N t.1 t.2.1 t.2.2.1 t.2.2.2.1 t.2.2.2.2) (fun t r h => zq71.good N t.1 t.2.1 t.2.2.1 t.2.2.2.1 t.2.2.2.2 r h)
end Go.Proofs.Ytehbhinaopdkeaa.M
end
