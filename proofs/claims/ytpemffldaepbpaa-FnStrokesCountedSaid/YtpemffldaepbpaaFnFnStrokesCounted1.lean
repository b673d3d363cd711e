/- What the program's functions compute, walked by the machine (part 1). No conditions but those stated. -/
import Derived.Test.YtpemffldaepbpaaPm2
import Derived.Test.YtpemffldaepbpaaProg
namespace Go.Proofs.Ytpemffldaepbpaa.M
open Go Go.PM
set_option linter.unusedVariables false
set_option maxRecDepth 100000
end Go.Proofs.Ytpemffldaepbpaa.M
namespace Go.Proofs.Ytpemffldaepbpaa.P
end Go.Proofs.Ytpemffldaepbpaa.P
namespace Go.Proofs.Ytpemffldaepbpaa.M
open Go Go.PM Go.Proofs.Ytpemffldaepbpaa.P
abbrev D0 : TypeId → Type
  | 3 => Int
  | 5 => Int
  | _ => Unit
def T0 : Tab D0 where
  size := fun e => match e with
    | 3 => 1
    | 5 => 1
    | _ => 0
  out := fun e x => match e, x with
    | 3, x => [.int .i64 x]
    | 5, x => [.int .u8 x]
    | _, _ => []
  inn := fun e ls => match e, ls with
    | 3, [.int .i64 x0] => some x0
    | 5, [.int .u8 x0] => some x0
    | _, _ => none
theorem tabOk0 : TabOk T0 where
  out_len := by
    intro e x
    simp only [T0]
    split <;> first | rfl | (split <;> first | rfl | (rename_i h _ _ _ _; exact absurd HEq.rfl (fun h' => h _ rfl h')) | simp_all)
  inn_ok := by
    intro e ls x h C blk vs hF
    simp only [T0] at h
    split at h <;> first | (cases h; done) | (simp only [Option.some.injEq] at h; subst h; exact tab_inn hF rfl)
theorem mixed0 : Go.Proofs.Try.prog.follows .mixedOrders = true := by kernel_rfl
end Go.Proofs.Ytpemffldaepbpaa.M

namespace Go.Proofs.Ytpemffldaepbpaa.M
open Go Go.PM Go.Proofs.Ytpemffldaepbpaa.P
set_option linter.unusedVariables false
set_option maxRecDepth 100000
/-! ### impl_within -/
abbrev impl_within.R : Type := Bool
abbrev impl_within.sig : Sig := ⟨[(false, 1), (false, 1), (false, 1)], [], [.int .i64, .int .i64, .int .i64], [(false, 1)], [], [.bool]⟩
noncomputable def impl_within.C : Cfg D0 := ⟨Go.Proofs.Try.prog, T0, 71, 0, 15, 0, []⟩
noncomputable def impl_within.E (N : Nat) : List (Ent Go.Proofs.Try.prog T0) := []
noncomputable def impl_within.O (N : Nat) : Orc D0 impl_within.R := orcOf (impl_within.E N)
noncomputable def impl_within.K0 : Ex → St D0 → Option impl_within.R := exitK impl_within.C Go.Proofs.Try.f57.results.toList [(false, [.any])] (decOut impl_within.sig)
noncomputable def impl_within.c1 : Code := codeAt (Go.Proofs.Try.f57.body.getD .skip) []
noncomputable def impl_within.o0 (N : Nat) (a0 : Int) (a1 : Int) (a2 : Int) : Option impl_within.R :=
 bif (decide (a0 ≥ a1)) then
  some ((decide (a0 ≤ a2)))
 else
 some (false)
theorem impl_within.o0.run (N : Nat) (a0 : Int) (a1 : Int) (a2 : Int) : runC impl_within.C (impl_within.O N) N impl_within.c1 1 (st0 [.one (.int .i64 a0), .one (.int .i64 a1), .one (.int .i64 a2)] [] : St D0) impl_within.K0 = impl_within.o0 N a0 a1 a2 := by kernel_rfl
noncomputable def impl_within.g (N : Nat) (a0 : Int) (a1 : Int) (a2 : Int) : Option impl_within.R := impl_within.o0 N a0 a1 a2
theorem impl_within.g.run (N : Nat) (a0 : Int) (a1 : Int) (a2 : Int) : runC impl_within.C (impl_within.O N) N impl_within.c1 1 (st0 [.one (.int .i64 a0), .one (.int .i64 a1), .one (.int .i64 a2)] [] : St D0) impl_within.K0 = impl_within.g N a0 a1 a2 := by
  exact (impl_within.o0.run N a0 a1 a2).trans rfl
theorem impl_within.good (N : Nat) (a0 : Int) (a1 : Int) (a2 : Int) (r : impl_within.R) (h : impl_within.g N a0 a1 a2 = some r) : Go.PM.Good Go.Proofs.Try.prog T0 57 [.one (.int .i64 a0), .one (.int .i64 a1), .one (.int .i64 a2)] [] (impl_within.sig.ret r) (impl_within.sig.bs r) :=
  good_fn tabOk0 mixed0 impl_within.sig (impl_within.E N) Go.Proofs.Try.func57 (by kernel_rfl) (by kernel_rfl) 71 0 0 [] [(false, [.any])] (by kernel_rfl) rfl ((impl_within.g.run N a0 a1 a2).trans h)
noncomputable def impl_within.ent (N : Nat) : Ent Go.Proofs.Try.prog T0 := mkEnt 57 [(false, [.any]), (false, [.any]), (false, [.any])] impl_within.sig (fun t => impl_within.g N t.1 t.2.1 t.2.2) (fun t r h => impl_within.good N t.1 t.2.1 t.2.2 r h)
end Go.Proofs.Ytpemffldaepbpaa.M

namespace Go.Proofs.Ytpemffldaepbpaa.M
open Go Go.PM Go.Proofs.Ytpemffldaepbpaa.P
set_option linter.unusedVariables false
set_option maxRecDepth 100000
/-! ### impl_isDial -/
abbrev impl_isDial.R : Type := Bool
abbrev impl_isDial.sig : Sig := ⟨[(false, 1)], [], [.int .i64], [(false, 1)], [], [.bool]⟩
noncomputable def impl_isDial.C : Cfg D0 := ⟨Go.Proofs.Try.prog, T0, 5, 0, 5, 0, []⟩
noncomputable def impl_isDial.E (N : Nat) : List (Ent Go.Proofs.Try.prog T0) := [impl_within.ent N]
noncomputable def impl_isDial.O (N : Nat) : Orc D0 impl_isDial.R := orcOf (impl_isDial.E N)
noncomputable def impl_isDial.K0 : Ex → St D0 → Option impl_isDial.R := exitK impl_isDial.C Go.Proofs.Try.f66.results.toList [(false, [.any])] (decOut impl_isDial.sig)
noncomputable def impl_isDial.c1 : Code := codeAt (Go.Proofs.Try.f66.body.getD .skip) []
noncomputable def impl_isDial.o0 (N : Nat) (a0 : Int) : Option impl_isDial.R :=
 (impl_within.g N a0 2 24).bind fun r1 =>
 some (r1)
theorem impl_isDial.o0.run (N : Nat) (a0 : Int) : runC impl_isDial.C (impl_isDial.O N) N impl_isDial.c1 1 (st0 [.one (.int .i64 a0)] [] : St D0) impl_isDial.K0 = impl_isDial.o0 N a0 := by kernel_rfl
noncomputable def impl_isDial.g (N : Nat) (a0 : Int) : Option impl_isDial.R := impl_isDial.o0 N a0
theorem impl_isDial.g.run (N : Nat) (a0 : Int) : runC impl_isDial.C (impl_isDial.O N) N impl_isDial.c1 1 (st0 [.one (.int .i64 a0)] [] : St D0) impl_isDial.K0 = impl_isDial.g N a0 := by
  exact (impl_isDial.o0.run N a0).trans rfl
theorem impl_isDial.good (N : Nat) (a0 : Int) (r : impl_isDial.R) (h : impl_isDial.g N a0 = some r) : Go.PM.Good Go.Proofs.Try.prog T0 66 [.one (.int .i64 a0)] [] (impl_isDial.sig.ret r) (impl_isDial.sig.bs r) :=
  good_fn tabOk0 mixed0 impl_isDial.sig (impl_isDial.E N) Go.Proofs.Try.func66 (by kernel_rfl) (by kernel_rfl) 5 0 0 [] [(false, [.any])] (by kernel_rfl) rfl ((impl_isDial.g.run N a0).trans h)
noncomputable def impl_isDial.ent (N : Nat) : Ent Go.Proofs.Try.prog T0 := mkEnt 66 [(false, [.any])] impl_isDial.sig (fun t => impl_isDial.g N t) (fun t r h => impl_isDial.good N t r h)
end Go.Proofs.Ytpemffldaepbpaa.M

namespace Go.Proofs.Ytpemffldaepbpaa.M
open Go Go.PM Go.Proofs.Ytpemffldaepbpaa.P
set_option linter.unusedVariables false
set_option maxRecDepth 100000
/-! ### impl_isHalf -/
abbrev impl_isHalf.R : Type := Bool
abbrev impl_isHalf.sig : Sig := ⟨[(false, 1), (false, 1)], [], [.int .i64, .int .i64], [(false, 1)], [], [.bool]⟩
noncomputable def impl_isHalf.C : Cfg D0 := ⟨Go.Proofs.Try.prog, T0, 19, 0, 14, 0, []⟩
noncomputable def impl_isHalf.E (N : Nat) : List (Ent Go.Proofs.Try.prog T0) := [impl_isDial.ent N, impl_within.ent N]
noncomputable def impl_isHalf.O (N : Nat) : Orc D0 impl_isHalf.R := orcOf (impl_isHalf.E N)
noncomputable def impl_isHalf.K0 : Ex → St D0 → Option impl_isHalf.R := exitK impl_isHalf.C Go.Proofs.Try.f56.results.toList [(false, [.any])] (decOut impl_isHalf.sig)
noncomputable def impl_isHalf.c1 : Code := codeAt (Go.Proofs.Try.f56.body.getD .skip) []
noncomputable def impl_isHalf.o0 (N : Nat) (a0 : Int) (a1 : Int) : Option impl_isHalf.R :=
 (impl_isDial.g N a0).bind fun r1 =>
 bif r1 then
  (impl_within.g N a1 0 (w64 ((w64 (2 * a0)) - 1))).bind fun r2 =>
  some (r2)
 else
 some (false)
theorem impl_isHalf.o0.run (N : Nat) (a0 : Int) (a1 : Int) : runC impl_isHalf.C (impl_isHalf.O N) N impl_isHalf.c1 1 (st0 [.one (.int .i64 a0), .one (.int .i64 a1)] [] : St D0) impl_isHalf.K0 = impl_isHalf.o0 N a0 a1 := by kernel_rfl
noncomputable def impl_isHalf.g (N : Nat) (a0 : Int) (a1 : Int) : Option impl_isHalf.R := impl_isHalf.o0 N a0 a1
theorem impl_isHalf.g.run (N : Nat) (a0 : Int) (a1 : Int) : runC impl_isHalf.C (impl_isHalf.O N) N impl_isHalf.c1 1 (st0 [.one (.int .i64 a0), .one (.int .i64 a1)] [] : St D0) impl_isHalf.K0 = impl_isHalf.g N a0 a1 := by
  exact (impl_isHalf.o0.run N a0 a1).trans rfl
theorem impl_isHalf.good (N : Nat) (a0 : Int) (a1 : Int) (r : impl_isHalf.R) (h : impl_isHalf.g N a0 a1 = some r) : Go.PM.Good Go.Proofs.Try.prog T0 56 [.one (.int .i64 a0), .one (.int .i64 a1)] [] (impl_isHalf.sig.ret r) (impl_isHalf.sig.bs r) :=
  good_fn tabOk0 mixed0 impl_isHalf.sig (impl_isHalf.E N) Go.Proofs.Try.func56 (by kernel_rfl) (by kernel_rfl) 19 0 0 [] [(false, [.any])] (by kernel_rfl) rfl ((impl_isHalf.g.run N a0 a1).trans h)
noncomputable def impl_isHalf.ent (N : Nat) : Ent Go.Proofs.Try.prog T0 := mkEnt 56 [(false, [.any]), (false, [.any])] impl_isHalf.sig (fun t => impl_isHalf.g N t.1 t.2) (fun t r h => impl_isHalf.good N t.1 t.2 r h)
end Go.Proofs.Ytpemffldaepbpaa.M

namespace Go.Proofs.Ytpemffldaepbpaa.M
open Go Go.PM Go.Proofs.Ytpemffldaepbpaa.P
set_option linter.unusedVariables false
set_option maxRecDepth 100000
/-! ### impl_strokes -/
abbrev impl_strokes.R : Type := Int
abbrev impl_strokes.sig : Sig := ⟨[(false, 1), (false, 1)], [], [.int .i64, .int .i64], [(false, 1)], [], [.int .i64]⟩
noncomputable def impl_strokes.C : Cfg D0 := ⟨Go.Proofs.Try.prog, T0, 8723, 0, 19, 0, []⟩
noncomputable def impl_strokes.E (N : Nat) : List (Ent Go.Proofs.Try.prog T0) := []
noncomputable def impl_strokes.O (N : Nat) : Orc D0 impl_strokes.R := orcOf (impl_strokes.E N)
noncomputable def impl_strokes.K0 : Ex → St D0 → Option impl_strokes.R := exitK impl_strokes.C Go.Proofs.Try.f58.results.toList [(false, [.any])] (decOut impl_strokes.sig)
noncomputable def impl_strokes.c1 : Code := codeAt (Go.Proofs.Try.f58.body.getD .skip) []
noncomputable def impl_strokes.o0 (N : Nat) (a0 : Int) (a1 : Int) : Option impl_strokes.R :=
 bif ((w64 (2 * a0)) == 0) then
  none
 else
 bif ((Int.tmod a1 (w64 (2 * a0))) == 0) then
  some (a0)
 else
 bif ((Int.tmod (Int.tmod a1 (w64 (2 * a0))) 2) == 1) then
  some (1)
 else
 some ((w64 (Int.tdiv (Int.tmod a1 (w64 (2 * a0))) 2)))
theorem impl_strokes.o0.run (N : Nat) (a0 : Int) (a1 : Int) : runC impl_strokes.C (impl_strokes.O N) N impl_strokes.c1 1 (st0 [.one (.int .i64 a0), .one (.int .i64 a1)] [] : St D0) impl_strokes.K0 = impl_strokes.o0 N a0 a1 := by kernel_rfl
noncomputable def impl_strokes.g (N : Nat) (a0 : Int) (a1 : Int) : Option impl_strokes.R := impl_strokes.o0 N a0 a1
theorem impl_strokes.g.run (N : Nat) (a0 : Int) (a1 : Int) : runC impl_strokes.C (impl_strokes.O N) N impl_strokes.c1 1 (st0 [.one (.int .i64 a0), .one (.int .i64 a1)] [] : St D0) impl_strokes.K0 = impl_strokes.g N a0 a1 := by
  exact (impl_strokes.o0.run N a0 a1).trans rfl
theorem impl_strokes.good (N : Nat) (a0 : Int) (a1 : Int) (r : impl_strokes.R) (h : impl_strokes.g N a0 a1 = some r) : Go.PM.Good Go.Proofs.Try.prog T0 58 [.one (.int .i64 a0), .one (.int .i64 a1)] [] (impl_strokes.sig.ret r) (impl_strokes.sig.bs r) :=
  good_fn tabOk0 mixed0 impl_strokes.sig (impl_strokes.E N) Go.Proofs.Try.func58 (by kernel_rfl) (by kernel_rfl) 8723 0 0 [] [(false, [.any])] (by kernel_rfl) rfl ((impl_strokes.g.run N a0 a1).trans h)
noncomputable def impl_strokes.ent (N : Nat) : Ent Go.Proofs.Try.prog T0 := mkEnt 58 [(false, [.any]), (false, [.any])] impl_strokes.sig (fun t => impl_strokes.g N t.1 t.2) (fun t r h => impl_strokes.good N t.1 t.2 r h)
end Go.Proofs.Ytpemffldaepbpaa.M

namespace Go.Proofs.Ytpemffldaepbpaa.M
open Go Go.PM Go.Proofs.Ytpemffldaepbpaa.P
set_option linter.unusedVariables false
set_option maxRecDepth 100000
/-! ### impl_ofTurn -/
abbrev impl_ofTurn.R : Type := Int
abbrev impl_ofTurn.sig : Sig := ⟨[(false, 1)], [], [.int .i64], [(false, 1)], [], [.int .i64]⟩
noncomputable def impl_ofTurn.C : Cfg D0 := ⟨Go.Proofs.Try.prog, T0, 5, 0, 10, 0, []⟩
noncomputable def impl_ofTurn.E (N : Nat) : List (Ent Go.Proofs.Try.prog T0) := []
noncomputable def impl_ofTurn.O (N : Nat) : Orc D0 impl_ofTurn.R := orcOf (impl_ofTurn.E N)
noncomputable def impl_ofTurn.K0 : Ex → St D0 → Option impl_ofTurn.R := exitK impl_ofTurn.C Go.Proofs.Try.f71.results.toList [(false, [.any])] (decOut impl_ofTurn.sig)
noncomputable def impl_ofTurn.c1 : Code := codeAt (Go.Proofs.Try.f71.body.getD .skip) []
noncomputable def impl_ofTurn.o0 (N : Nat) (a0 : Int) : Option impl_ofTurn.R :=
 some ((w64 ((w64 (Int.tdiv (w64 (a0 * (w64 (a0 + 1)))) 2)) + a0)))
theorem impl_ofTurn.o0.run (N : Nat) (a0 : Int) : runC impl_ofTurn.C (impl_ofTurn.O N) N impl_ofTurn.c1 1 (st0 [.one (.int .i64 a0)] [] : St D0) impl_ofTurn.K0 = impl_ofTurn.o0 N a0 := by kernel_rfl
noncomputable def impl_ofTurn.g (N : Nat) (a0 : Int) : Option impl_ofTurn.R := impl_ofTurn.o0 N a0
theorem impl_ofTurn.g.run (N : Nat) (a0 : Int) : runC impl_ofTurn.C (impl_ofTurn.O N) N impl_ofTurn.c1 1 (st0 [.one (.int .i64 a0)] [] : St D0) impl_ofTurn.K0 = impl_ofTurn.g N a0 := by
  exact (impl_ofTurn.o0.run N a0).trans rfl
theorem impl_ofTurn.good (N : Nat) (a0 : Int) (r : impl_ofTurn.R) (h : impl_ofTurn.g N a0 = some r) : Go.PM.Good Go.Proofs.Try.prog T0 71 [.one (.int .i64 a0)] [] (impl_ofTurn.sig.ret r) (impl_ofTurn.sig.bs r) :=
  good_fn tabOk0 mixed0 impl_ofTurn.sig (impl_ofTurn.E N) Go.Proofs.Try.func71 (by kernel_rfl) (by kernel_rfl) 5 0 0 [] [(false, [.any])] (by kernel_rfl) rfl ((impl_ofTurn.g.run N a0).trans h)
noncomputable def impl_ofTurn.ent (N : Nat) : Ent Go.Proofs.Try.prog T0 := mkEnt 71 [(false, [.any])] impl_ofTurn.sig (fun t => impl_ofTurn.g N t) (fun t r h => impl_ofTurn.good N t r h)
end Go.Proofs.Ytpemffldaepbpaa.M

namespace Go.Proofs.Ytpemffldaepbpaa.M
open Go Go.PM Go.Proofs.Ytpemffldaepbpaa.P
set_option linter.unusedVariables false
set_option maxRecDepth 100000
/-! ### impl_before -/
abbrev impl_before.R : Type := Int
abbrev impl_before.sig : Sig := ⟨[(false, 1), (false, 1)], [], [.int .i64, .int .i64], [(false, 1)], [], [.int .i64]⟩
noncomputable def impl_before.C : Cfg D0 := ⟨Go.Proofs.Try.prog, T0, 917619, 0, 28, 0, [(58, [0, 5, 17, 18], [])]⟩
noncomputable def impl_before.E (N : Nat) : List (Ent Go.Proofs.Try.prog T0) := [impl_ofTurn.ent N, impl_strokes.ent N]
noncomputable def impl_before.O (N : Nat) : Orc D0 impl_before.R := orcOf (impl_before.E N)
noncomputable def impl_before.K0 : Ex → St D0 → Option impl_before.R := exitK impl_before.C Go.Proofs.Try.f67.results.toList [(false, [.any])] (decOut impl_before.sig)
noncomputable def impl_before.c1 : Code := codeAt (Go.Proofs.Try.f67.body.getD .skip) []
noncomputable def impl_before.c2 : Code := codeAt (Go.Proofs.Try.f67.body.getD .skip) [false]
noncomputable def impl_before.c6 : Code := codeAt (Go.Proofs.Try.f67.body.getD .skip) [true, false]
noncomputable def impl_before.c15 : Code := codeAt (Go.Proofs.Try.f67.body.getD .skip) [true, true, true]
noncomputable def impl_before.c28 : Code := codeAt (Go.Proofs.Try.f67.body.getD .skip) [true, true, false, false]
noncomputable def impl_before.c116 : Code := codeAt (Go.Proofs.Try.f67.body.getD .skip) [true, true, false, true, false, false]
noncomputable def impl_before.K116 (N : Nat) (Kn58 : St D0 → Option impl_before.R) : Ex → St D0 → Option impl_before.R := (onN (fun s => impl_before.C.tidy 58 s ((onN Kn58 (blockK 0 (onN (fun s => impl_before.C.tidy 14 s (fun s' => runC impl_before.C (impl_before.O N) N impl_before.c15 15 s' impl_before.K0)) impl_before.K0))) .normal)) (onN Kn58 (blockK 0 (onN (fun s => impl_before.C.tidy 14 s (fun s' => runC impl_before.C (impl_before.O N) N impl_before.c15 15 s' impl_before.K0)) impl_before.K0))))
noncomputable def impl_before.o1 (N : Nat) (v0 : Int) (v1 : Int) (v2 : Int) (v3 : Int) (c1 : Int → Int → Int → Int → Option impl_before.R) : Option impl_before.R :=
 bif (decide (v3 < v2)) then
  (impl_strokes.g N v0 v3).bind fun r1 =>
  c1 v0 (w64 (v1 + r1)) v2 (w64 (v3 + 1))
 else
 some (v1)
theorem impl_before.o1.run (N : Nat) (Kn58 : St D0 → Option impl_before.R) (v0 : Int) (v1 : Int) (v2 : Int) (v3 : Int) : runC impl_before.C (impl_before.O N) N impl_before.c116 116 (mkSt [(0, .one (.int .i64 v0)), (5, .one (.int .i64 v1)), (17, .one (.int .i64 v2)), (18, .one (.int .i64 v3))] [] : St D0) (onN (fun s => impl_before.C.tidy 58 s ((onN Kn58 (blockK 0 (onN (fun s => impl_before.C.tidy 14 s (fun s' => runC impl_before.C (impl_before.O N) N impl_before.c15 15 s' impl_before.K0)) impl_before.K0))) .normal)) (onN Kn58 (blockK 0 (onN (fun s => impl_before.C.tidy 14 s (fun s' => runC impl_before.C (impl_before.O N) N impl_before.c15 15 s' impl_before.K0)) impl_before.K0)))) = impl_before.o1 N v0 v1 v2 v3 ((fun w0 w1 w2 w3 => Kn58 (mkSt [(0, .one (.int .i64 w0)), (5, .one (.int .i64 w1)), (17, .one (.int .i64 w2)), (18, .one (.int .i64 w3))] [] : St D0))) := by kernel_rfl
noncomputable def impl_before.d1 (N : Nat) (v0 : Int) (v1 : Int) (v2 : Int) (v3 : Int) (c1 : Int → Int → Int → Int → Option impl_before.R) : Option impl_before.R := impl_before.o1 N v0 v1 v2 v3 c1
theorem impl_before.d1.run (N : Nat) (Kn58 : St D0 → Option impl_before.R) (v0 : Int) (v1 : Int) (v2 : Int) (v3 : Int) : runC impl_before.C (impl_before.O N) N impl_before.c116 116 (mkSt [(0, .one (.int .i64 v0)), (5, .one (.int .i64 v1)), (17, .one (.int .i64 v2)), (18, .one (.int .i64 v3))] [] : St D0) (impl_before.K116 N Kn58) = impl_before.d1 N v0 v1 v2 v3 ((fun w0 w1 w2 w3 => Kn58 (mkSt [(0, .one (.int .i64 w0)), (5, .one (.int .i64 w1)), (17, .one (.int .i64 w2)), (18, .one (.int .i64 w3))] [] : St D0))) := by
  exact (impl_before.o1.run N Kn58 v0 v1 v2 v3).trans rfl
noncomputable def impl_before.K58 (N : Nat) : Ex → St D0 → Option impl_before.R := (blockK 0 (onN (fun s => impl_before.C.tidy 14 s (fun s' => runC impl_before.C (impl_before.O N) N impl_before.c15 15 s' impl_before.K0)) impl_before.K0))
noncomputable def impl_before.l1 (N : Nat) : Nat → Int → Int → Int → Int → Option impl_before.R
  | 0, _, _, _, _ => none
  | n + 1, v0, v1, v2, v3 => impl_before.d1 N v0 v1 v2 v3 ((fun w0 w1 w2 w3 => impl_before.l1 N n w0 w1 w2 w3))
theorem impl_before.loop58 (N : Nat) : ∀ n, (∀ (v0 : Int) (v1 : Int) (v2 : Int) (v3 : Int), iter (loopF impl_before.C (impl_before.O N) N impl_before.c116 58) n (mkSt [(0, .one (.int .i64 v0)), (5, .one (.int .i64 v1)), (17, .one (.int .i64 v2)), (18, .one (.int .i64 v3))] [] : St D0) (impl_before.K58 N) = impl_before.l1 N n v0 v1 v2 v3)
  | 0 => (fun v0 v1 v2 v3 => rfl)
  | n + 1 => (fun v0 v1 v2 v3 => (impl_before.d1.run N (fun s => iter (loopF impl_before.C (impl_before.O N) N impl_before.c116 58) n s (impl_before.K58 N)) v0 v1 v2 v3).trans (show _ = impl_before.d1 N v0 v1 v2 v3 ((fun w0 w1 w2 w3 => impl_before.l1 N n w0 w1 w2 w3)) from (congr rfl (funext fun w0 => funext fun w1 => funext fun w2 => funext fun w3 => (impl_before.loop58 N n) w0 w1 w2 w3))))
noncomputable def impl_before.o0 (N : Nat) (a0 : Int) (a1 : Int) (c1 : Int → Int → Int → Int → Option impl_before.R) : Option impl_before.R :=
 bif ((w64 (2 * a0)) == 0) then
  none
 else
 (impl_ofTurn.g N a0).bind fun r1 =>
 bif ((w64 (2 * a0)) == 0) then
  none
 else
 c1 a0 (w64 ((w64 (Int.tdiv a1 (w64 (2 * a0)))) * r1)) (Int.tmod a1 (w64 (2 * a0))) 0
theorem impl_before.o0.run (N : Nat) (H116 : Code) (a0 : Int) (a1 : Int) : runC impl_before.C (impl_before.O N) N (.seq impl_before.c2 (.seq impl_before.c6 (.seq (.seq impl_before.c28 (.block 0 (.loop H116))) impl_before.c15))) 1 (st0 [.one (.int .i64 a0), .one (.int .i64 a1)] [] : St D0) impl_before.K0 = impl_before.o0 N a0 a1 ((fun w0 w1 w2 w3 => iter (loopF impl_before.C (impl_before.O N) N H116 58) N (mkSt [(0, .one (.int .i64 w0)), (5, .one (.int .i64 w1)), (17, .one (.int .i64 w2)), (18, .one (.int .i64 w3))] [] : St D0) (blockK 0 (onN (fun s => impl_before.C.tidy 14 s (fun s' => runC impl_before.C (impl_before.O N) N impl_before.c15 15 s' impl_before.K0)) impl_before.K0)))) := by kernel_rfl
noncomputable def impl_before.g (N : Nat) (a0 : Int) (a1 : Int) : Option impl_before.R := impl_before.o0 N a0 a1 ((fun w0 w1 w2 w3 => impl_before.l1 N N w0 w1 w2 w3))
theorem impl_before.c1_0 : impl_before.c1 = (.seq impl_before.c2 (.seq impl_before.c6 (.seq (.seq impl_before.c28 (.block 0 (.loop impl_before.c116))) impl_before.c15))) := by kernel_rfl
theorem impl_before.g.run (N : Nat) (a0 : Int) (a1 : Int) : runC impl_before.C (impl_before.O N) N impl_before.c1 1 (st0 [.one (.int .i64 a0), .one (.int .i64 a1)] [] : St D0) impl_before.K0 = impl_before.g N a0 a1 := by
  rw [impl_before.c1_0]; unfold impl_before.g; exact (impl_before.o0.run N impl_before.c116 a0 a1).trans (congr rfl (funext fun w0 => funext fun w1 => funext fun w2 => funext fun w3 => (impl_before.loop58 N N) w0 w1 w2 w3))
theorem impl_before.good (N : Nat) (a0 : Int) (a1 : Int) (r : impl_before.R) (h : impl_before.g N a0 a1 = some r) : Go.PM.Good Go.Proofs.Try.prog T0 67 [.one (.int .i64 a0), .one (.int .i64 a1)] [] (impl_before.sig.ret r) (impl_before.sig.bs r) :=
  good_fn tabOk0 mixed0 impl_before.sig (impl_before.E N) Go.Proofs.Try.func67 (by kernel_rfl) (by kernel_rfl) 917619 0 0 [(58, [0, 5, 17, 18], [])] [(false, [.any])] (by kernel_rfl) rfl ((impl_before.g.run N a0 a1).trans h)
noncomputable def impl_before.ent (N : Nat) : Ent Go.Proofs.Try.prog T0 := mkEnt 67 [(false, [.any]), (false, [.any])] impl_before.sig (fun t => impl_before.g N t.1 t.2) (fun t r h => impl_before.good N t.1 t.2 r h)
end Go.Proofs.Ytpemffldaepbpaa.M

namespace Go.Proofs.Ytpemffldaepbpaa.M
open Go Go.PM Go.Proofs.Ytpemffldaepbpaa.P
set_option linter.unusedVariables false
set_option maxRecDepth 100000
/-! ### impl_heardFrom -/
abbrev impl_heardFrom.R : Type := List Int
abbrev impl_heardFrom.sig : Sig := ⟨[(false, 1), (false, 1), (false, 1)], [], [.int .i64, .int .i64, .int .i64], [(false, 1)], [], [.sl true 3]⟩
noncomputable def impl_heardFrom.C : Cfg D0 := ⟨Go.Proofs.Try.prog, T0, 7623, 0, 24, 0, [(58, [0, 1, 7, 10, 11], [])]⟩
noncomputable def impl_heardFrom.E (N : Nat) : List (Ent Go.Proofs.Try.prog T0) := [impl_strokes.ent N]
noncomputable def impl_heardFrom.O (N : Nat) : Orc D0 impl_heardFrom.R := orcOf (impl_heardFrom.E N)
noncomputable def impl_heardFrom.K0 : Ex → St D0 → Option impl_heardFrom.R := exitK impl_heardFrom.C Go.Proofs.Try.f63.results.toList [(false, [.own 3])] (decOut impl_heardFrom.sig)
noncomputable def impl_heardFrom.c1 : Code := codeAt (Go.Proofs.Try.f63.body.getD .skip) []
noncomputable def impl_heardFrom.c2 : Code := codeAt (Go.Proofs.Try.f63.body.getD .skip) [false]
noncomputable def impl_heardFrom.c6 : Code := codeAt (Go.Proofs.Try.f63.body.getD .skip) [true, false]
noncomputable def impl_heardFrom.c15 : Code := codeAt (Go.Proofs.Try.f63.body.getD .skip) [true, true, true]
noncomputable def impl_heardFrom.c28 : Code := codeAt (Go.Proofs.Try.f63.body.getD .skip) [true, true, false, false]
noncomputable def impl_heardFrom.c116 : Code := codeAt (Go.Proofs.Try.f63.body.getD .skip) [true, true, false, true, false, false]
noncomputable def impl_heardFrom.K116 (N : Nat) (Kn58 : St D0 → Option impl_heardFrom.R) : Ex → St D0 → Option impl_heardFrom.R := (onN (fun s => impl_heardFrom.C.tidy 58 s ((onN Kn58 (blockK 0 (onN (fun s => impl_heardFrom.C.tidy 14 s (fun s' => runC impl_heardFrom.C (impl_heardFrom.O N) N impl_heardFrom.c15 15 s' impl_heardFrom.K0)) impl_heardFrom.K0))) .normal)) (onN Kn58 (blockK 0 (onN (fun s => impl_heardFrom.C.tidy 14 s (fun s' => runC impl_heardFrom.C (impl_heardFrom.O N) N impl_heardFrom.c15 15 s' impl_heardFrom.K0)) impl_heardFrom.K0))))
noncomputable def impl_heardFrom.o1 (N : Nat) (v0 : Int) (v1 : Int) (v2 : List Int) (v3 : Int) (v4 : Int) (c1 : Int → Int → (List Int) → Int → Int → Option impl_heardFrom.R) : Option impl_heardFrom.R :=
 bif (decide (v4 < v3)) then
  (impl_strokes.g N v0 (w64 (v1 + v4))).bind fun r1 =>
  bif (Nat.blt (v2.length + ([r1] : List Int).length) 17592186044416) then
   c1 v0 v1 (v2 ++ ([r1] : List Int)) v3 (w64 (v4 + 1))
  else
  none
 else
 some (v2)
theorem impl_heardFrom.o1.run (N : Nat) (Kn58 : St D0 → Option impl_heardFrom.R) (v0 : Int) (v1 : Int) (v2 : List Int) (v3 : Int) (v4 : Int) : runC impl_heardFrom.C (impl_heardFrom.O N) N impl_heardFrom.c116 116 (mkSt [(0, .one (.int .i64 v0)), (1, .one (.int .i64 v1)), (7, .one (.sl true 3 v2)), (10, .one (.int .i64 v3)), (11, .one (.int .i64 v4))] [] : St D0) (onN (fun s => impl_heardFrom.C.tidy 58 s ((onN Kn58 (blockK 0 (onN (fun s => impl_heardFrom.C.tidy 14 s (fun s' => runC impl_heardFrom.C (impl_heardFrom.O N) N impl_heardFrom.c15 15 s' impl_heardFrom.K0)) impl_heardFrom.K0))) .normal)) (onN Kn58 (blockK 0 (onN (fun s => impl_heardFrom.C.tidy 14 s (fun s' => runC impl_heardFrom.C (impl_heardFrom.O N) N impl_heardFrom.c15 15 s' impl_heardFrom.K0)) impl_heardFrom.K0)))) = impl_heardFrom.o1 N v0 v1 v2 v3 v4 ((fun w0 w1 w2 w3 w4 => Kn58 (mkSt [(0, .one (.int .i64 w0)), (1, .one (.int .i64 w1)), (7, .one (.sl true 3 w2)), (10, .one (.int .i64 w3)), (11, .one (.int .i64 w4))] [] : St D0))) := by kernel_rfl
noncomputable def impl_heardFrom.d1 (N : Nat) (v0 : Int) (v1 : Int) (v2 : List Int) (v3 : Int) (v4 : Int) (c1 : Int → Int → (List Int) → Int → Int → Option impl_heardFrom.R) : Option impl_heardFrom.R := impl_heardFrom.o1 N v0 v1 v2 v3 v4 c1
theorem impl_heardFrom.d1.run (N : Nat) (Kn58 : St D0 → Option impl_heardFrom.R) (v0 : Int) (v1 : Int) (v2 : List Int) (v3 : Int) (v4 : Int) : runC impl_heardFrom.C (impl_heardFrom.O N) N impl_heardFrom.c116 116 (mkSt [(0, .one (.int .i64 v0)), (1, .one (.int .i64 v1)), (7, .one (.sl true 3 v2)), (10, .one (.int .i64 v3)), (11, .one (.int .i64 v4))] [] : St D0) (impl_heardFrom.K116 N Kn58) = impl_heardFrom.d1 N v0 v1 v2 v3 v4 ((fun w0 w1 w2 w3 w4 => Kn58 (mkSt [(0, .one (.int .i64 w0)), (1, .one (.int .i64 w1)), (7, .one (.sl true 3 w2)), (10, .one (.int .i64 w3)), (11, .one (.int .i64 w4))] [] : St D0))) := by
  exact (impl_heardFrom.o1.run N Kn58 v0 v1 v2 v3 v4).trans rfl
noncomputable def impl_heardFrom.K58 (N : Nat) : Ex → St D0 → Option impl_heardFrom.R := (blockK 0 (onN (fun s => impl_heardFrom.C.tidy 14 s (fun s' => runC impl_heardFrom.C (impl_heardFrom.O N) N impl_heardFrom.c15 15 s' impl_heardFrom.K0)) impl_heardFrom.K0))
noncomputable def impl_heardFrom.l1 (N : Nat) : Nat → Int → Int → (List Int) → Int → Int → Option impl_heardFrom.R
  | 0, _, _, _, _, _ => none
  | n + 1, v0, v1, v2, v3, v4 => impl_heardFrom.d1 N v0 v1 v2 v3 v4 ((fun w0 w1 w2 w3 w4 => impl_heardFrom.l1 N n w0 w1 w2 w3 w4))
theorem impl_heardFrom.loop58 (N : Nat) : ∀ n, (∀ (v0 : Int) (v1 : Int) (v2 : List Int) (v3 : Int) (v4 : Int), iter (loopF impl_heardFrom.C (impl_heardFrom.O N) N impl_heardFrom.c116 58) n (mkSt [(0, .one (.int .i64 v0)), (1, .one (.int .i64 v1)), (7, .one (.sl true 3 v2)), (10, .one (.int .i64 v3)), (11, .one (.int .i64 v4))] [] : St D0) (impl_heardFrom.K58 N) = impl_heardFrom.l1 N n v0 v1 v2 v3 v4)
  | 0 => (fun v0 v1 v2 v3 v4 => rfl)
  | n + 1 => (fun v0 v1 v2 v3 v4 => (impl_heardFrom.d1.run N (fun s => iter (loopF impl_heardFrom.C (impl_heardFrom.O N) N impl_heardFrom.c116 58) n s (impl_heardFrom.K58 N)) v0 v1 v2 v3 v4).trans (show _ = impl_heardFrom.d1 N v0 v1 v2 v3 v4 ((fun w0 w1 w2 w3 w4 => impl_heardFrom.l1 N n w0 w1 w2 w3 w4)) from (congr rfl (funext fun w0 => funext fun w1 => funext fun w2 => funext fun w3 => funext fun w4 => (impl_heardFrom.loop58 N n) w0 w1 w2 w3 w4))))
noncomputable def impl_heardFrom.o0 (N : Nat) (a0 : Int) (a1 : Int) (a2 : Int) (c1 : Int → Int → (List Int) → Int → Int → Option impl_heardFrom.R) : Option impl_heardFrom.R :=
 c1 a0 a1 ([] : List Int) a2 0
theorem impl_heardFrom.o0.run (N : Nat) (H116 : Code) (a0 : Int) (a1 : Int) (a2 : Int) : runC impl_heardFrom.C (impl_heardFrom.O N) N (.seq impl_heardFrom.c2 (.seq impl_heardFrom.c6 (.seq (.seq impl_heardFrom.c28 (.block 0 (.loop H116))) impl_heardFrom.c15))) 1 (st0 [.one (.int .i64 a0), .one (.int .i64 a1), .one (.int .i64 a2)] [] : St D0) impl_heardFrom.K0 = impl_heardFrom.o0 N a0 a1 a2 ((fun w0 w1 w2 w3 w4 => iter (loopF impl_heardFrom.C (impl_heardFrom.O N) N H116 58) N (mkSt [(0, .one (.int .i64 w0)), (1, .one (.int .i64 w1)), (7, .one (.sl true 3 w2)), (10, .one (.int .i64 w3)), (11, .one (.int .i64 w4))] [] : St D0) (blockK 0 (onN (fun s => impl_heardFrom.C.tidy 14 s (fun s' => runC impl_heardFrom.C (impl_heardFrom.O N) N impl_heardFrom.c15 15 s' impl_heardFrom.K0)) impl_heardFrom.K0)))) := by kernel_rfl
noncomputable def impl_heardFrom.g (N : Nat) (a0 : Int) (a1 : Int) (a2 : Int) : Option impl_heardFrom.R := impl_heardFrom.o0 N a0 a1 a2 ((fun w0 w1 w2 w3 w4 => impl_heardFrom.l1 N N w0 w1 w2 w3 w4))
theorem impl_heardFrom.c1_0 : impl_heardFrom.c1 = (.seq impl_heardFrom.c2 (.seq impl_heardFrom.c6 (.seq (.seq impl_heardFrom.c28 (.block 0 (.loop impl_heardFrom.c116))) impl_heardFrom.c15))) := by kernel_rfl
theorem impl_heardFrom.g.run (N : Nat) (a0 : Int) (a1 : Int) (a2 : Int) : runC impl_heardFrom.C (impl_heardFrom.O N) N impl_heardFrom.c1 1 (st0 [.one (.int .i64 a0), .one (.int .i64 a1), .one (.int .i64 a2)] [] : St D0) impl_heardFrom.K0 = impl_heardFrom.g N a0 a1 a2 := by
  rw [impl_heardFrom.c1_0]; unfold impl_heardFrom.g; exact (impl_heardFrom.o0.run N impl_heardFrom.c116 a0 a1 a2).trans (congr rfl (funext fun w0 => funext fun w1 => funext fun w2 => funext fun w3 => funext fun w4 => (impl_heardFrom.loop58 N N) w0 w1 w2 w3 w4))
theorem impl_heardFrom.good (N : Nat) (a0 : Int) (a1 : Int) (a2 : Int) (r : impl_heardFrom.R) (h : impl_heardFrom.g N a0 a1 a2 = some r) : Go.PM.Good Go.Proofs.Try.prog T0 63 [.one (.int .i64 a0), .one (.int .i64 a1), .one (.int .i64 a2)] [] (impl_heardFrom.sig.ret r) (impl_heardFrom.sig.bs r) :=
  good_fn tabOk0 mixed0 impl_heardFrom.sig (impl_heardFrom.E N) Go.Proofs.Try.func63 (by kernel_rfl) (by kernel_rfl) 7623 0 0 [(58, [0, 1, 7, 10, 11], [])] [(false, [.own 3])] (by kernel_rfl) rfl ((impl_heardFrom.g.run N a0 a1 a2).trans h)
noncomputable def impl_heardFrom.ent (N : Nat) : Ent Go.Proofs.Try.prog T0 := mkEnt 63 [(false, [.any]), (false, [.any]), (false, [.any])] impl_heardFrom.sig (fun t => impl_heardFrom.g N t.1 t.2.1 t.2.2) (fun t r h => impl_heardFrom.good N t.1 t.2.1 t.2.2 r h)
end Go.Proofs.Ytpemffldaepbpaa.M

namespace Go.Proofs.Ytpemffldaepbpaa.M
open Go Go.PM Go.Proofs.Ytpemffldaepbpaa.P
set_option linter.unusedVariables false
set_option maxRecDepth 100000
/-! ### impl_HeardFrom -/
abbrev impl_HeardFrom.R : Type := List Int × Bool
abbrev impl_HeardFrom.sig : Sig := ⟨[(false, 1), (false, 1), (false, 1)], [], [.int .i64, .int .i64, .int .i64], [(false, 1), (false, 1)], [], [.sl true 3, .bool]⟩
noncomputable def impl_HeardFrom.C : Cfg D0 := ⟨Go.Proofs.Try.prog, T0, 65735, 0, 21, 0, [(12, [0, 1, 2, 16], [])]⟩
noncomputable def impl_HeardFrom.E (N : Nat) : List (Ent Go.Proofs.Try.prog T0) := [impl_isHalf.ent N, impl_within.ent N, impl_heardFrom.ent N]
noncomputable def impl_HeardFrom.O (N : Nat) : Orc D0 impl_HeardFrom.R := orcOf (impl_HeardFrom.E N)
noncomputable def impl_HeardFrom.K0 : Ex → St D0 → Option impl_HeardFrom.R := exitK impl_HeardFrom.C Go.Proofs.Try.f11.results.toList [(false, [.own 3]), (false, [.any])] (decOut impl_HeardFrom.sig)
noncomputable def impl_HeardFrom.c1 : Code := codeAt (Go.Proofs.Try.f11.body.getD .skip) []
noncomputable def impl_HeardFrom.c2 : Code := codeAt (Go.Proofs.Try.f11.body.getD .skip) [false]
noncomputable def impl_HeardFrom.c7 : Code := codeAt (Go.Proofs.Try.f11.body.getD .skip) [true, true]
noncomputable def impl_HeardFrom.c12 : Code := codeAt (Go.Proofs.Try.f11.body.getD .skip) [true, false, false]
noncomputable def impl_HeardFrom.c13 : Code := codeAt (Go.Proofs.Try.f11.body.getD .skip) [true, false, true]
noncomputable def impl_HeardFrom.K13 (N : Nat) : Ex → St D0 → Option impl_HeardFrom.R := (onN (fun s => impl_HeardFrom.C.tidy 6 s (fun s' => runC impl_HeardFrom.C (impl_HeardFrom.O N) N impl_HeardFrom.c7 7 s' impl_HeardFrom.K0)) impl_HeardFrom.K0)
noncomputable def impl_HeardFrom.o1 (N : Nat) (v0 : Int) (v1 : Int) (v2 : Int) (v3 : Bool) : Option impl_HeardFrom.R :=
 bif v3 then
  some (([] : List Int), false)
 else
 (impl_heardFrom.g N v0 v1 v2).bind fun r1 =>
 some (r1, true)
theorem impl_HeardFrom.o1.run (N : Nat) (v0 : Int) (v1 : Int) (v2 : Int) (v3 : Bool) : runC impl_HeardFrom.C (impl_HeardFrom.O N) N impl_HeardFrom.c13 13 (mkSt [(0, .one (.int .i64 v0)), (1, .one (.int .i64 v1)), (2, .one (.int .i64 v2)), (16, .one (.bool v3))] [] : St D0) (onN (fun s => impl_HeardFrom.C.tidy 6 s (fun s' => runC impl_HeardFrom.C (impl_HeardFrom.O N) N impl_HeardFrom.c7 7 s' impl_HeardFrom.K0)) impl_HeardFrom.K0) = impl_HeardFrom.o1 N v0 v1 v2 v3 := by kernel_rfl
noncomputable def impl_HeardFrom.d1 (N : Nat) (v0 : Int) (v1 : Int) (v2 : Int) (v3 : Bool) : Option impl_HeardFrom.R := impl_HeardFrom.o1 N v0 v1 v2 v3
theorem impl_HeardFrom.d1.run (N : Nat) (v0 : Int) (v1 : Int) (v2 : Int) (v3 : Bool) : runC impl_HeardFrom.C (impl_HeardFrom.O N) N impl_HeardFrom.c13 13 (mkSt [(0, .one (.int .i64 v0)), (1, .one (.int .i64 v1)), (2, .one (.int .i64 v2)), (16, .one (.bool v3))] [] : St D0) (impl_HeardFrom.K13 N) = impl_HeardFrom.d1 N v0 v1 v2 v3 := by
  exact (impl_HeardFrom.o1.run N v0 v1 v2 v3).trans rfl
noncomputable def impl_HeardFrom.o0 (N : Nat) (a0 : Int) (a1 : Int) (a2 : Int) (c1 : Int → Int → Int → Bool → Option impl_HeardFrom.R) : Option impl_HeardFrom.R :=
 (impl_isHalf.g N a0 a1).bind fun r1 =>
 bif (!r1) then
  c1 a0 a1 a2 true
 else
 (impl_within.g N a2 1 60).bind fun r2 =>
 c1 a0 a1 a2 (!r2)
theorem impl_HeardFrom.o0.run (N : Nat) (H13 : Code) (a0 : Int) (a1 : Int) (a2 : Int) : runC impl_HeardFrom.C (impl_HeardFrom.O N) N (.seq impl_HeardFrom.c2 (.seq (.seq impl_HeardFrom.c12 H13) impl_HeardFrom.c7)) 1 (st0 [.one (.int .i64 a0), .one (.int .i64 a1), .one (.int .i64 a2)] [] : St D0) impl_HeardFrom.K0 = impl_HeardFrom.o0 N a0 a1 a2 ((fun w0 w1 w2 w3 => runC impl_HeardFrom.C (impl_HeardFrom.O N) N H13 13 (mkSt [(0, .one (.int .i64 w0)), (1, .one (.int .i64 w1)), (2, .one (.int .i64 w2)), (16, .one (.bool w3))] [] : St D0) (onN (fun s => impl_HeardFrom.C.tidy 6 s (fun s' => runC impl_HeardFrom.C (impl_HeardFrom.O N) N impl_HeardFrom.c7 7 s' impl_HeardFrom.K0)) impl_HeardFrom.K0))) := by kernel_rfl
noncomputable def impl_HeardFrom.B6 (N : Nat) : St D0 → Option impl_HeardFrom.R := fun s' => runC impl_HeardFrom.C (impl_HeardFrom.O N) N impl_HeardFrom.c13 13 s' (impl_HeardFrom.K13 N)
noncomputable def impl_HeardFrom.g (N : Nat) (a0 : Int) (a1 : Int) (a2 : Int) : Option impl_HeardFrom.R := impl_HeardFrom.o0 N a0 a1 a2 ((fun w0 w1 w2 w3 => impl_HeardFrom.d1 N w0 w1 w2 w3))
theorem impl_HeardFrom.c1_0 : impl_HeardFrom.c1 = (.seq impl_HeardFrom.c2 (.seq (.seq impl_HeardFrom.c12 impl_HeardFrom.c13) impl_HeardFrom.c7)) := by kernel_rfl
theorem impl_HeardFrom.g.run (N : Nat) (a0 : Int) (a1 : Int) (a2 : Int) : runC impl_HeardFrom.C (impl_HeardFrom.O N) N impl_HeardFrom.c1 1 (st0 [.one (.int .i64 a0), .one (.int .i64 a1), .one (.int .i64 a2)] [] : St D0) impl_HeardFrom.K0 = impl_HeardFrom.g N a0 a1 a2 := by
  rw [impl_HeardFrom.c1_0]; unfold impl_HeardFrom.g; exact (impl_HeardFrom.o0.run N impl_HeardFrom.c13 a0 a1 a2).trans (congr rfl (funext fun w0 => funext fun w1 => funext fun w2 => funext fun w3 => impl_HeardFrom.d1.run N w0 w1 w2 w3))
theorem impl_HeardFrom.good (N : Nat) (a0 : Int) (a1 : Int) (a2 : Int) (r : impl_HeardFrom.R) (h : impl_HeardFrom.g N a0 a1 a2 = some r) : Go.PM.Good Go.Proofs.Try.prog T0 11 [.one (.int .i64 a0), .one (.int .i64 a1), .one (.int .i64 a2)] [] (impl_HeardFrom.sig.ret r) (impl_HeardFrom.sig.bs r) :=
  good_fn tabOk0 mixed0 impl_HeardFrom.sig (impl_HeardFrom.E N) Go.Proofs.Try.func11 (by kernel_rfl) (by kernel_rfl) 65735 0 0 [(12, [0, 1, 2, 16], [])] [(false, [.own 3]), (false, [.any])] (by kernel_rfl) rfl ((impl_HeardFrom.g.run N a0 a1 a2).trans h)
noncomputable def impl_HeardFrom.ent (N : Nat) : Ent Go.Proofs.Try.prog T0 := mkEnt 11 [(false, [.any]), (false, [.any]), (false, [.any])] impl_HeardFrom.sig (fun t => impl_HeardFrom.g N t.1 t.2.1 t.2.2) (fun t r h => impl_HeardFrom.good N t.1 t.2.1 t.2.2 r h)
end Go.Proofs.Ytpemffldaepbpaa.M

namespace Go.Proofs.Ytpemffldaepbpaa.M
open Go Go.PM Go.Proofs.Ytpemffldaepbpaa.P
set_option linter.unusedVariables false
set_option maxRecDepth 100000
/-! ### impl_StrokesAt -/
abbrev impl_StrokesAt.R : Type := Int × Bool
abbrev impl_StrokesAt.sig : Sig := ⟨[(false, 1), (false, 1)], [], [.int .i64, .int .i64], [(false, 1), (false, 1)], [], [.int .i64, .bool]⟩
noncomputable def impl_StrokesAt.C : Cfg D0 := ⟨Go.Proofs.Try.prog, T0, 563, 0, 13, 0, []⟩
noncomputable def impl_StrokesAt.E (N : Nat) : List (Ent Go.Proofs.Try.prog T0) := [impl_isHalf.ent N, impl_strokes.ent N]
noncomputable def impl_StrokesAt.O (N : Nat) : Orc D0 impl_StrokesAt.R := orcOf (impl_StrokesAt.E N)
noncomputable def impl_StrokesAt.K0 : Ex → St D0 → Option impl_StrokesAt.R := exitK impl_StrokesAt.C Go.Proofs.Try.f17.results.toList [(false, [.any]), (false, [.any])] (decOut impl_StrokesAt.sig)
noncomputable def impl_StrokesAt.c1 : Code := codeAt (Go.Proofs.Try.f17.body.getD .skip) []
noncomputable def impl_StrokesAt.o0 (N : Nat) (a0 : Int) (a1 : Int) : Option impl_StrokesAt.R :=
 (impl_isHalf.g N a0 a1).bind fun r1 =>
 bif (!r1) then
  some (0, false)
 else
 (impl_strokes.g N a0 a1).bind fun r2 =>
 some (r2, true)
theorem impl_StrokesAt.o0.run (N : Nat) (a0 : Int) (a1 : Int) : runC impl_StrokesAt.C (impl_StrokesAt.O N) N impl_StrokesAt.c1 1 (st0 [.one (.int .i64 a0), .one (.int .i64 a1)] [] : St D0) impl_StrokesAt.K0 = impl_StrokesAt.o0 N a0 a1 := by kernel_rfl
noncomputable def impl_StrokesAt.g (N : Nat) (a0 : Int) (a1 : Int) : Option impl_StrokesAt.R := impl_StrokesAt.o0 N a0 a1
theorem impl_StrokesAt.g.run (N : Nat) (a0 : Int) (a1 : Int) : runC impl_StrokesAt.C (impl_StrokesAt.O N) N impl_StrokesAt.c1 1 (st0 [.one (.int .i64 a0), .one (.int .i64 a1)] [] : St D0) impl_StrokesAt.K0 = impl_StrokesAt.g N a0 a1 := by
  exact (impl_StrokesAt.o0.run N a0 a1).trans rfl
theorem impl_StrokesAt.good (N : Nat) (a0 : Int) (a1 : Int) (r : impl_StrokesAt.R) (h : impl_StrokesAt.g N a0 a1 = some r) : Go.PM.Good Go.Proofs.Try.prog T0 17 [.one (.int .i64 a0), .one (.int .i64 a1)] [] (impl_StrokesAt.sig.ret r) (impl_StrokesAt.sig.bs r) :=
  good_fn tabOk0 mixed0 impl_StrokesAt.sig (impl_StrokesAt.E N) Go.Proofs.Try.func17 (by kernel_rfl) (by kernel_rfl) 563 0 0 [] [(false, [.any]), (false, [.any])] (by kernel_rfl) rfl ((impl_StrokesAt.g.run N a0 a1).trans h)
noncomputable def impl_StrokesAt.ent (N : Nat) : Ent Go.Proofs.Try.prog T0 := mkEnt 17 [(false, [.any]), (false, [.any])] impl_StrokesAt.sig (fun t => impl_StrokesAt.g N t.1 t.2) (fun t r h => impl_StrokesAt.good N t.1 t.2 r h)
end Go.Proofs.Ytpemffldaepbpaa.M

namespace Go.Proofs.Ytpemffldaepbpaa.M
open Go Go.PM Go.Proofs.Ytpemffldaepbpaa.P
set_option linter.unusedVariables false
set_option maxRecDepth 100000
/-! ### impl_StrokesBetween -/
abbrev impl_StrokesBetween.R : Type := Int × Bool
abbrev impl_StrokesBetween.sig : Sig := ⟨[(false, 1), (false, 1), (false, 1)], [], [.int .i64, .int .i64, .int .i64], [(false, 1), (false, 1)], [], [.int .i64, .bool]⟩
noncomputable def impl_StrokesBetween.C : Cfg D0 := ⟨Go.Proofs.Try.prog, T0, 1048775, 0, 30, 0, [(12, [0, 1, 2, 20], [])]⟩
noncomputable def impl_StrokesBetween.E (N : Nat) : List (Ent Go.Proofs.Try.prog T0) := [impl_isDial.ent N, impl_within.ent N, impl_before.ent N]
noncomputable def impl_StrokesBetween.O (N : Nat) : Orc D0 impl_StrokesBetween.R := orcOf (impl_StrokesBetween.E N)
noncomputable def impl_StrokesBetween.K0 : Ex → St D0 → Option impl_StrokesBetween.R := exitK impl_StrokesBetween.C Go.Proofs.Try.f20.results.toList [(false, [.any]), (false, [.any])] (decOut impl_StrokesBetween.sig)
noncomputable def impl_StrokesBetween.c1 : Code := codeAt (Go.Proofs.Try.f20.body.getD .skip) []
noncomputable def impl_StrokesBetween.c2 : Code := codeAt (Go.Proofs.Try.f20.body.getD .skip) [false]
noncomputable def impl_StrokesBetween.c7 : Code := codeAt (Go.Proofs.Try.f20.body.getD .skip) [true, true]
noncomputable def impl_StrokesBetween.c12 : Code := codeAt (Go.Proofs.Try.f20.body.getD .skip) [true, false, false]
noncomputable def impl_StrokesBetween.c13 : Code := codeAt (Go.Proofs.Try.f20.body.getD .skip) [true, false, true]
noncomputable def impl_StrokesBetween.K13 (N : Nat) : Ex → St D0 → Option impl_StrokesBetween.R := (onN (fun s => impl_StrokesBetween.C.tidy 6 s (fun s' => runC impl_StrokesBetween.C (impl_StrokesBetween.O N) N impl_StrokesBetween.c7 7 s' impl_StrokesBetween.K0)) impl_StrokesBetween.K0)
noncomputable def impl_StrokesBetween.o1 (N : Nat) (v0 : Int) (v1 : Int) (v2 : Int) (v3 : Bool) : Option impl_StrokesBetween.R :=
 bif v3 then
  some (0, false)
 else
 (impl_before.g N v0 (w64 (v2 + 1))).bind fun r1 =>
 (impl_before.g N v0 v1).bind fun r2 =>
 some ((if (w64 (r1 - r2)) > 0 then (w64 (r1 - r2)) else 0), true)
theorem impl_StrokesBetween.o1.run (N : Nat) (v0 : Int) (v1 : Int) (v2 : Int) (v3 : Bool) : runC impl_StrokesBetween.C (impl_StrokesBetween.O N) N impl_StrokesBetween.c13 13 (mkSt [(0, .one (.int .i64 v0)), (1, .one (.int .i64 v1)), (2, .one (.int .i64 v2)), (20, .one (.bool v3))] [] : St D0) (onN (fun s => impl_StrokesBetween.C.tidy 6 s (fun s' => runC impl_StrokesBetween.C (impl_StrokesBetween.O N) N impl_StrokesBetween.c7 7 s' impl_StrokesBetween.K0)) impl_StrokesBetween.K0) = impl_StrokesBetween.o1 N v0 v1 v2 v3 := by kernel_rfl
noncomputable def impl_StrokesBetween.d1 (N : Nat) (v0 : Int) (v1 : Int) (v2 : Int) (v3 : Bool) : Option impl_StrokesBetween.R := impl_StrokesBetween.o1 N v0 v1 v2 v3
theorem impl_StrokesBetween.d1.run (N : Nat) (v0 : Int) (v1 : Int) (v2 : Int) (v3 : Bool) : runC impl_StrokesBetween.C (impl_StrokesBetween.O N) N impl_StrokesBetween.c13 13 (mkSt [(0, .one (.int .i64 v0)), (1, .one (.int .i64 v1)), (2, .one (.int .i64 v2)), (20, .one (.bool v3))] [] : St D0) (impl_StrokesBetween.K13 N) = impl_StrokesBetween.d1 N v0 v1 v2 v3 := by
  exact (impl_StrokesBetween.o1.run N v0 v1 v2 v3).trans rfl
noncomputable def impl_StrokesBetween.o0 (N : Nat) (a0 : Int) (a1 : Int) (a2 : Int) (c1 : Int → Int → Int → Bool → Option impl_StrokesBetween.R) : Option impl_StrokesBetween.R :=
 (impl_isDial.g N a0).bind fun r1 =>
 bif (!r1) then
  c1 a0 a1 a2 true
 else
 (impl_within.g N a1 0 1000000).bind fun r2 =>
 bif (!r2) then
  c1 a0 a1 a2 true
 else
 (impl_within.g N a2 0 1000000).bind fun r3 =>
 c1 a0 a1 a2 (!r3)
theorem impl_StrokesBetween.o0.run (N : Nat) (H13 : Code) (a0 : Int) (a1 : Int) (a2 : Int) : runC impl_StrokesBetween.C (impl_StrokesBetween.O N) N (.seq impl_StrokesBetween.c2 (.seq (.seq impl_StrokesBetween.c12 H13) impl_StrokesBetween.c7)) 1 (st0 [.one (.int .i64 a0), .one (.int .i64 a1), .one (.int .i64 a2)] [] : St D0) impl_StrokesBetween.K0 = impl_StrokesBetween.o0 N a0 a1 a2 ((fun w0 w1 w2 w3 => runC impl_StrokesBetween.C (impl_StrokesBetween.O N) N H13 13 (mkSt [(0, .one (.int .i64 w0)), (1, .one (.int .i64 w1)), (2, .one (.int .i64 w2)), (20, .one (.bool w3))] [] : St D0) (onN (fun s => impl_StrokesBetween.C.tidy 6 s (fun s' => runC impl_StrokesBetween.C (impl_StrokesBetween.O N) N impl_StrokesBetween.c7 7 s' impl_StrokesBetween.K0)) impl_StrokesBetween.K0))) := by kernel_rfl
noncomputable def impl_StrokesBetween.B6 (N : Nat) : St D0 → Option impl_StrokesBetween.R := fun s' => runC impl_StrokesBetween.C (impl_StrokesBetween.O N) N impl_StrokesBetween.c13 13 s' (impl_StrokesBetween.K13 N)
noncomputable def impl_StrokesBetween.g (N : Nat) (a0 : Int) (a1 : Int) (a2 : Int) : Option impl_StrokesBetween.R := impl_StrokesBetween.o0 N a0 a1 a2 ((fun w0 w1 w2 w3 => impl_StrokesBetween.d1 N w0 w1 w2 w3))
theorem impl_StrokesBetween.c1_0 : impl_StrokesBetween.c1 = (.seq impl_StrokesBetween.c2 (.seq (.seq impl_StrokesBetween.c12 impl_StrokesBetween.c13) impl_StrokesBetween.c7)) := by kernel_rfl
theorem impl_StrokesBetween.g.run (N : Nat) (a0 : Int) (a1 : Int) (a2 : Int) : runC impl_StrokesBetween.C (impl_StrokesBetween.O N) N impl_StrokesBetween.c1 1 (st0 [.one (.int .i64 a0), .one (.int .i64 a1), .one (.int .i64 a2)] [] : St D0) impl_StrokesBetween.K0 = impl_StrokesBetween.g N a0 a1 a2 := by
  rw [impl_StrokesBetween.c1_0]; unfold impl_StrokesBetween.g; exact (impl_StrokesBetween.o0.run N impl_StrokesBetween.c13 a0 a1 a2).trans (congr rfl (funext fun w0 => funext fun w1 => funext fun w2 => funext fun w3 => impl_StrokesBetween.d1.run N w0 w1 w2 w3))
theorem impl_StrokesBetween.good (N : Nat) (a0 : Int) (a1 : Int) (a2 : Int) (r : impl_StrokesBetween.R) (h : impl_StrokesBetween.g N a0 a1 a2 = some r) : Go.PM.Good Go.Proofs.Try.prog T0 20 [.one (.int .i64 a0), .one (.int .i64 a1), .one (.int .i64 a2)] [] (impl_StrokesBetween.sig.ret r) (impl_StrokesBetween.sig.bs r) :=
  good_fn tabOk0 mixed0 impl_StrokesBetween.sig (impl_StrokesBetween.E N) Go.Proofs.Try.func20 (by kernel_rfl) (by kernel_rfl) 1048775 0 0 [(12, [0, 1, 2, 20], [])] [(false, [.any]), (false, [.any])] (by kernel_rfl) rfl ((impl_StrokesBetween.g.run N a0 a1 a2).trans h)
noncomputable def impl_StrokesBetween.ent (N : Nat) : Ent Go.Proofs.Try.prog T0 := mkEnt 20 [(false, [.any]), (false, [.any]), (false, [.any])] impl_StrokesBetween.sig (fun t => impl_StrokesBetween.g N t.1 t.2.1 t.2.2) (fun t r h => impl_StrokesBetween.good N t.1 t.2.1 t.2.2 r h)
end Go.Proofs.Ytpemffldaepbpaa.M

namespace Go.Proofs.Ytpemffldaepbpaa.M
open Go Go.PM Go.Proofs.Ytpemffldaepbpaa.P
set_option linter.unusedVariables false
set_option maxRecDepth 100000
/-! ### spec_l1In -/
abbrev spec_l1In.R : Type := Bool
abbrev spec_l1In.sig : Sig := ⟨[(false, 1), (false, 1), (false, 1)], [], [.int .i64, .int .i64, .int .i64], [(false, 1)], [], [.bool]⟩
noncomputable def spec_l1In.C : Cfg D0 := ⟨Go.Proofs.Try.prog, T0, 71, 0, 15, 0, []⟩
noncomputable def spec_l1In.E (N : Nat) : List (Ent Go.Proofs.Try.prog T0) := []
noncomputable def spec_l1In.O (N : Nat) : Orc D0 spec_l1In.R := orcOf (spec_l1In.E N)
noncomputable def spec_l1In.K0 : Ex → St D0 → Option spec_l1In.R := exitK spec_l1In.C Go.Proofs.Try.f60.results.toList [(false, [.any])] (decOut spec_l1In.sig)
noncomputable def spec_l1In.c1 : Code := codeAt (Go.Proofs.Try.f60.body.getD .skip) []
noncomputable def spec_l1In.o0 (N : Nat) (a0 : Int) (a1 : Int) (a2 : Int) : Option spec_l1In.R :=
 bif (decide (a0 ≥ a1)) then
  some ((decide (a0 ≤ a2)))
 else
 some (false)
theorem spec_l1In.o0.run (N : Nat) (a0 : Int) (a1 : Int) (a2 : Int) : runC spec_l1In.C (spec_l1In.O N) N spec_l1In.c1 1 (st0 [.one (.int .i64 a0), .one (.int .i64 a1), .one (.int .i64 a2)] [] : St D0) spec_l1In.K0 = spec_l1In.o0 N a0 a1 a2 := by kernel_rfl
noncomputable def spec_l1In.g (N : Nat) (a0 : Int) (a1 : Int) (a2 : Int) : Option spec_l1In.R := spec_l1In.o0 N a0 a1 a2
theorem spec_l1In.g.run (N : Nat) (a0 : Int) (a1 : Int) (a2 : Int) : runC spec_l1In.C (spec_l1In.O N) N spec_l1In.c1 1 (st0 [.one (.int .i64 a0), .one (.int .i64 a1), .one (.int .i64 a2)] [] : St D0) spec_l1In.K0 = spec_l1In.g N a0 a1 a2 := by
  exact (spec_l1In.o0.run N a0 a1 a2).trans rfl
theorem spec_l1In.good (N : Nat) (a0 : Int) (a1 : Int) (a2 : Int) (r : spec_l1In.R) (h : spec_l1In.g N a0 a1 a2 = some r) : Go.PM.Good Go.Proofs.Try.prog T0 60 [.one (.int .i64 a0), .one (.int .i64 a1), .one (.int .i64 a2)] [] (spec_l1In.sig.ret r) (spec_l1In.sig.bs r) :=
  good_fn tabOk0 mixed0 spec_l1In.sig (spec_l1In.E N) Go.Proofs.Try.func60 (by kernel_rfl) (by kernel_rfl) 71 0 0 [] [(false, [.any])] (by kernel_rfl) rfl ((spec_l1In.g.run N a0 a1 a2).trans h)
noncomputable def spec_l1In.ent (N : Nat) : Ent Go.Proofs.Try.prog T0 := mkEnt 60 [(false, [.any]), (false, [.any]), (false, [.any])] spec_l1In.sig (fun t => spec_l1In.g N t.1 t.2.1 t.2.2) (fun t r h => spec_l1In.good N t.1 t.2.1 t.2.2 r h)
end Go.Proofs.Ytpemffldaepbpaa.M

namespace Go.Proofs.Ytpemffldaepbpaa.M
open Go Go.PM Go.Proofs.Ytpemffldaepbpaa.P
set_option linter.unusedVariables false
set_option maxRecDepth 100000
/-! ### spec_diHours -/
abbrev spec_diHours.R : Type := Bool
abbrev spec_diHours.sig : Sig := ⟨[(false, 1)], [], [.int .i64], [(false, 1)], [], [.bool]⟩
noncomputable def spec_diHours.C : Cfg D0 := ⟨Go.Proofs.Try.prog, T0, 5, 0, 5, 0, []⟩
noncomputable def spec_diHours.E (N : Nat) : List (Ent Go.Proofs.Try.prog T0) := [spec_l1In.ent N]
noncomputable def spec_diHours.O (N : Nat) : Orc D0 spec_diHours.R := orcOf (spec_diHours.E N)
noncomputable def spec_diHours.K0 : Ex → St D0 → Option spec_diHours.R := exitK spec_diHours.C Go.Proofs.Try.f68.results.toList [(false, [.any])] (decOut spec_diHours.sig)
noncomputable def spec_diHours.c1 : Code := codeAt (Go.Proofs.Try.f68.body.getD .skip) []
noncomputable def spec_diHours.o0 (N : Nat) (a0 : Int) : Option spec_diHours.R :=
 (spec_l1In.g N a0 2 24).bind fun r1 =>
 some (r1)
theorem spec_diHours.o0.run (N : Nat) (a0 : Int) : runC spec_diHours.C (spec_diHours.O N) N spec_diHours.c1 1 (st0 [.one (.int .i64 a0)] [] : St D0) spec_diHours.K0 = spec_diHours.o0 N a0 := by kernel_rfl
noncomputable def spec_diHours.g (N : Nat) (a0 : Int) : Option spec_diHours.R := spec_diHours.o0 N a0
theorem spec_diHours.g.run (N : Nat) (a0 : Int) : runC spec_diHours.C (spec_diHours.O N) N spec_diHours.c1 1 (st0 [.one (.int .i64 a0)] [] : St D0) spec_diHours.K0 = spec_diHours.g N a0 := by
  exact (spec_diHours.o0.run N a0).trans rfl
theorem spec_diHours.good (N : Nat) (a0 : Int) (r : spec_diHours.R) (h : spec_diHours.g N a0 = some r) : Go.PM.Good Go.Proofs.Try.prog T0 68 [.one (.int .i64 a0)] [] (spec_diHours.sig.ret r) (spec_diHours.sig.bs r) :=
  good_fn tabOk0 mixed0 spec_diHours.sig (spec_diHours.E N) Go.Proofs.Try.func68 (by kernel_rfl) (by kernel_rfl) 5 0 0 [] [(false, [.any])] (by kernel_rfl) rfl ((spec_diHours.g.run N a0).trans h)
noncomputable def spec_diHours.ent (N : Nat) : Ent Go.Proofs.Try.prog T0 := mkEnt 68 [(false, [.any])] spec_diHours.sig (fun t => spec_diHours.g N t) (fun t r h => spec_diHours.good N t r h)
end Go.Proofs.Ytpemffldaepbpaa.M

namespace Go.Proofs.Ytpemffldaepbpaa.M
open Go Go.PM Go.Proofs.Ytpemffldaepbpaa.P
set_option linter.unusedVariables false
set_option maxRecDepth 100000
/-! ### spec_stHalf -/
abbrev spec_stHalf.R : Type := Bool
abbrev spec_stHalf.sig : Sig := ⟨[(false, 1), (false, 1)], [], [.int .i64, .int .i64], [(false, 1)], [], [.bool]⟩
noncomputable def spec_stHalf.C : Cfg D0 := ⟨Go.Proofs.Try.prog, T0, 19, 0, 14, 0, []⟩
noncomputable def spec_stHalf.E (N : Nat) : List (Ent Go.Proofs.Try.prog T0) := [spec_diHours.ent N, spec_l1In.ent N]
noncomputable def spec_stHalf.O (N : Nat) : Orc D0 spec_stHalf.R := orcOf (spec_stHalf.E N)
noncomputable def spec_stHalf.K0 : Ex → St D0 → Option spec_stHalf.R := exitK spec_stHalf.C Go.Proofs.Try.f59.results.toList [(false, [.any])] (decOut spec_stHalf.sig)
noncomputable def spec_stHalf.c1 : Code := codeAt (Go.Proofs.Try.f59.body.getD .skip) []
noncomputable def spec_stHalf.o0 (N : Nat) (a0 : Int) (a1 : Int) : Option spec_stHalf.R :=
 (spec_diHours.g N a0).bind fun r1 =>
 bif r1 then
  (spec_l1In.g N a1 0 (w64 ((w64 (2 * a0)) - 1))).bind fun r2 =>
  some (r2)
 else
 some (false)
theorem spec_stHalf.o0.run (N : Nat) (a0 : Int) (a1 : Int) : runC spec_stHalf.C (spec_stHalf.O N) N spec_stHalf.c1 1 (st0 [.one (.int .i64 a0), .one (.int .i64 a1)] [] : St D0) spec_stHalf.K0 = spec_stHalf.o0 N a0 a1 := by kernel_rfl
noncomputable def spec_stHalf.g (N : Nat) (a0 : Int) (a1 : Int) : Option spec_stHalf.R := spec_stHalf.o0 N a0 a1
theorem spec_stHalf.g.run (N : Nat) (a0 : Int) (a1 : Int) : runC spec_stHalf.C (spec_stHalf.O N) N spec_stHalf.c1 1 (st0 [.one (.int .i64 a0), .one (.int .i64 a1)] [] : St D0) spec_stHalf.K0 = spec_stHalf.g N a0 a1 := by
  exact (spec_stHalf.o0.run N a0 a1).trans rfl
theorem spec_stHalf.good (N : Nat) (a0 : Int) (a1 : Int) (r : spec_stHalf.R) (h : spec_stHalf.g N a0 a1 = some r) : Go.PM.Good Go.Proofs.Try.prog T0 59 [.one (.int .i64 a0), .one (.int .i64 a1)] [] (spec_stHalf.sig.ret r) (spec_stHalf.sig.bs r) :=
  good_fn tabOk0 mixed0 spec_stHalf.sig (spec_stHalf.E N) Go.Proofs.Try.func59 (by kernel_rfl) (by kernel_rfl) 19 0 0 [] [(false, [.any])] (by kernel_rfl) rfl ((spec_stHalf.g.run N a0 a1).trans h)
noncomputable def spec_stHalf.ent (N : Nat) : Ent Go.Proofs.Try.prog T0 := mkEnt 59 [(false, [.any]), (false, [.any])] spec_stHalf.sig (fun t => spec_stHalf.g N t.1 t.2) (fun t r h => spec_stHalf.good N t.1 t.2 r h)
end Go.Proofs.Ytpemffldaepbpaa.M

namespace Go.Proofs.Ytpemffldaepbpaa.M
open Go Go.PM Go.Proofs.Ytpemffldaepbpaa.P
set_option linter.unusedVariables false
set_option maxRecDepth 100000
/-! ### spec_stAt -/
abbrev spec_stAt.R : Type := Int
abbrev spec_stAt.sig : Sig := ⟨[(false, 1), (false, 1)], [], [.int .i64, .int .i64], [(false, 1)], [], [.int .i64]⟩
noncomputable def spec_stAt.C : Cfg D0 := ⟨Go.Proofs.Try.prog, T0, 563, 0, 15, 0, []⟩
noncomputable def spec_stAt.E (N : Nat) : List (Ent Go.Proofs.Try.prog T0) := []
noncomputable def spec_stAt.O (N : Nat) : Orc D0 spec_stAt.R := orcOf (spec_stAt.E N)
noncomputable def spec_stAt.K0 : Ex → St D0 → Option spec_stAt.R := exitK spec_stAt.C Go.Proofs.Try.f61.results.toList [(false, [.any])] (decOut spec_stAt.sig)
noncomputable def spec_stAt.c1 : Code := codeAt (Go.Proofs.Try.f61.body.getD .skip) []
noncomputable def spec_stAt.o0 (N : Nat) (a0 : Int) (a1 : Int) : Option spec_stAt.R :=
 bif ((Int.tmod a1 2) == 1) then
  some (1)
 else
 bif (a1 == 0) then
  some (a0)
 else
 some ((w64 (Int.tdiv a1 2)))
theorem spec_stAt.o0.run (N : Nat) (a0 : Int) (a1 : Int) : runC spec_stAt.C (spec_stAt.O N) N spec_stAt.c1 1 (st0 [.one (.int .i64 a0), .one (.int .i64 a1)] [] : St D0) spec_stAt.K0 = spec_stAt.o0 N a0 a1 := by kernel_rfl
noncomputable def spec_stAt.g (N : Nat) (a0 : Int) (a1 : Int) : Option spec_stAt.R := spec_stAt.o0 N a0 a1
theorem spec_stAt.g.run (N : Nat) (a0 : Int) (a1 : Int) : runC spec_stAt.C (spec_stAt.O N) N spec_stAt.c1 1 (st0 [.one (.int .i64 a0), .one (.int .i64 a1)] [] : St D0) spec_stAt.K0 = spec_stAt.g N a0 a1 := by
  exact (spec_stAt.o0.run N a0 a1).trans rfl
theorem spec_stAt.good (N : Nat) (a0 : Int) (a1 : Int) (r : spec_stAt.R) (h : spec_stAt.g N a0 a1 = some r) : Go.PM.Good Go.Proofs.Try.prog T0 61 [.one (.int .i64 a0), .one (.int .i64 a1)] [] (spec_stAt.sig.ret r) (spec_stAt.sig.bs r) :=
  good_fn tabOk0 mixed0 spec_stAt.sig (spec_stAt.E N) Go.Proofs.Try.func61 (by kernel_rfl) (by kernel_rfl) 563 0 0 [] [(false, [.any])] (by kernel_rfl) rfl ((spec_stAt.g.run N a0 a1).trans h)
noncomputable def spec_stAt.ent (N : Nat) : Ent Go.Proofs.Try.prog T0 := mkEnt 61 [(false, [.any]), (false, [.any])] spec_stAt.sig (fun t => spec_stAt.g N t.1 t.2) (fun t r h => spec_stAt.good N t.1 t.2 r h)
end Go.Proofs.Ytpemffldaepbpaa.M

namespace Go.Proofs.Ytpemffldaepbpaa.M
open Go Go.PM Go.Proofs.Ytpemffldaepbpaa.P
set_option linter.unusedVariables false
set_option maxRecDepth 100000
/-! ### spec_stFrom -/
abbrev spec_stFrom.R : Type := List Int
abbrev spec_stFrom.sig : Sig := ⟨[(false, 1), (false, 1), (false, 1)], [], [.int .i64, .int .i64, .int .i64], [(false, 1)], [], [.sl true 3]⟩
noncomputable def spec_stFrom.C : Cfg D0 := ⟨Go.Proofs.Try.prog, T0, 2503, 0, 26, 0, [(58, [0, 1, 2, 7, 8], [])]⟩
noncomputable def spec_stFrom.E (N : Nat) : List (Ent Go.Proofs.Try.prog T0) := [spec_stAt.ent N]
noncomputable def spec_stFrom.O (N : Nat) : Orc D0 spec_stFrom.R := orcOf (spec_stFrom.E N)
noncomputable def spec_stFrom.K0 : Ex → St D0 → Option spec_stFrom.R := exitK spec_stFrom.C Go.Proofs.Try.f64.results.toList [(false, [.own 3])] (decOut spec_stFrom.sig)
noncomputable def spec_stFrom.c1 : Code := codeAt (Go.Proofs.Try.f64.body.getD .skip) []
noncomputable def spec_stFrom.c2 : Code := codeAt (Go.Proofs.Try.f64.body.getD .skip) [false]
noncomputable def spec_stFrom.c6 : Code := codeAt (Go.Proofs.Try.f64.body.getD .skip) [true, false]
noncomputable def spec_stFrom.c15 : Code := codeAt (Go.Proofs.Try.f64.body.getD .skip) [true, true, true]
noncomputable def spec_stFrom.c28 : Code := codeAt (Go.Proofs.Try.f64.body.getD .skip) [true, true, false, false]
noncomputable def spec_stFrom.c116 : Code := codeAt (Go.Proofs.Try.f64.body.getD .skip) [true, true, false, true, false, false]
noncomputable def spec_stFrom.K116 (N : Nat) (Kn58 : St D0 → Option spec_stFrom.R) : Ex → St D0 → Option spec_stFrom.R := (onN (fun s => spec_stFrom.C.tidy 58 s ((onN Kn58 (blockK 0 (onN (fun s => spec_stFrom.C.tidy 14 s (fun s' => runC spec_stFrom.C (spec_stFrom.O N) N spec_stFrom.c15 15 s' spec_stFrom.K0)) spec_stFrom.K0))) .normal)) (onN Kn58 (blockK 0 (onN (fun s => spec_stFrom.C.tidy 14 s (fun s' => runC spec_stFrom.C (spec_stFrom.O N) N spec_stFrom.c15 15 s' spec_stFrom.K0)) spec_stFrom.K0))))
noncomputable def spec_stFrom.o1 (N : Nat) (v0 : Int) (v1 : Int) (v2 : Int) (v3 : Int) (c2 : Int → Int → Int → (List Int) → Int → Option spec_stFrom.R) : Option spec_stFrom.R :=
 bif (decide (v3 < v2)) then
  bif ((w64 (2 * v0)) == 0) then
   none
  else
  (spec_stAt.g N v0 (Int.tmod (w64 (v1 + v3)) (w64 (2 * v0)))).bind fun r1 =>
  bif (Nat.blt (([] : List Int).length + ([r1] : List Int).length) 17592186044416) then
   c2 v0 v1 v2 (([] : List Int) ++ ([r1] : List Int)) (w64 (v3 + 1))
  else
  none
 else
 some (([] : List Int))
theorem spec_stFrom.o1.run (N : Nat) (Kn58 : St D0 → Option spec_stFrom.R) (v0 : Int) (v1 : Int) (v2 : Int) (v3 : Int) : runC spec_stFrom.C (spec_stFrom.O N) N spec_stFrom.c116 116 (mkSt [(0, .one (.int .i64 v0)), (1, .one (.int .i64 v1)), (2, .one (.int .i64 v2)), (7, .one (.nl)), (8, .one (.int .i64 v3))] [] : St D0) (onN (fun s => spec_stFrom.C.tidy 58 s ((onN Kn58 (blockK 0 (onN (fun s => spec_stFrom.C.tidy 14 s (fun s' => runC spec_stFrom.C (spec_stFrom.O N) N spec_stFrom.c15 15 s' spec_stFrom.K0)) spec_stFrom.K0))) .normal)) (onN Kn58 (blockK 0 (onN (fun s => spec_stFrom.C.tidy 14 s (fun s' => runC spec_stFrom.C (spec_stFrom.O N) N spec_stFrom.c15 15 s' spec_stFrom.K0)) spec_stFrom.K0)))) = spec_stFrom.o1 N v0 v1 v2 v3 ((fun w0 w1 w2 w3 w4 => Kn58 (mkSt [(0, .one (.int .i64 w0)), (1, .one (.int .i64 w1)), (2, .one (.int .i64 w2)), (7, .one (.sl true 3 w3)), (8, .one (.int .i64 w4))] [] : St D0))) := by kernel_rfl
noncomputable def spec_stFrom.d1 (N : Nat) (v0 : Int) (v1 : Int) (v2 : Int) (v3 : Int) (c2 : Int → Int → Int → (List Int) → Int → Option spec_stFrom.R) : Option spec_stFrom.R := spec_stFrom.o1 N v0 v1 v2 v3 c2
theorem spec_stFrom.d1.run (N : Nat) (Kn58 : St D0 → Option spec_stFrom.R) (v0 : Int) (v1 : Int) (v2 : Int) (v3 : Int) : runC spec_stFrom.C (spec_stFrom.O N) N spec_stFrom.c116 116 (mkSt [(0, .one (.int .i64 v0)), (1, .one (.int .i64 v1)), (2, .one (.int .i64 v2)), (7, .one (.nl)), (8, .one (.int .i64 v3))] [] : St D0) (spec_stFrom.K116 N Kn58) = spec_stFrom.d1 N v0 v1 v2 v3 ((fun w0 w1 w2 w3 w4 => Kn58 (mkSt [(0, .one (.int .i64 w0)), (1, .one (.int .i64 w1)), (2, .one (.int .i64 w2)), (7, .one (.sl true 3 w3)), (8, .one (.int .i64 w4))] [] : St D0))) := by
  exact (spec_stFrom.o1.run N Kn58 v0 v1 v2 v3).trans rfl
noncomputable def spec_stFrom.o2 (N : Nat) (v0 : Int) (v1 : Int) (v2 : Int) (v3 : List Int) (v4 : Int) (c2 : Int → Int → Int → (List Int) → Int → Option spec_stFrom.R) : Option spec_stFrom.R :=
 bif (decide (v4 < v2)) then
  bif ((w64 (2 * v0)) == 0) then
   none
  else
  (spec_stAt.g N v0 (Int.tmod (w64 (v1 + v4)) (w64 (2 * v0)))).bind fun r1 =>
  bif (Nat.blt (v3.length + ([r1] : List Int).length) 17592186044416) then
   c2 v0 v1 v2 (v3 ++ ([r1] : List Int)) (w64 (v4 + 1))
  else
  none
 else
 some (v3)
theorem spec_stFrom.o2.run (N : Nat) (Kn58 : St D0 → Option spec_stFrom.R) (v0 : Int) (v1 : Int) (v2 : Int) (v3 : List Int) (v4 : Int) : runC spec_stFrom.C (spec_stFrom.O N) N spec_stFrom.c116 116 (mkSt [(0, .one (.int .i64 v0)), (1, .one (.int .i64 v1)), (2, .one (.int .i64 v2)), (7, .one (.sl true 3 v3)), (8, .one (.int .i64 v4))] [] : St D0) (onN (fun s => spec_stFrom.C.tidy 58 s ((onN Kn58 (blockK 0 (onN (fun s => spec_stFrom.C.tidy 14 s (fun s' => runC spec_stFrom.C (spec_stFrom.O N) N spec_stFrom.c15 15 s' spec_stFrom.K0)) spec_stFrom.K0))) .normal)) (onN Kn58 (blockK 0 (onN (fun s => spec_stFrom.C.tidy 14 s (fun s' => runC spec_stFrom.C (spec_stFrom.O N) N spec_stFrom.c15 15 s' spec_stFrom.K0)) spec_stFrom.K0)))) = spec_stFrom.o2 N v0 v1 v2 v3 v4 ((fun w0 w1 w2 w3 w4 => Kn58 (mkSt [(0, .one (.int .i64 w0)), (1, .one (.int .i64 w1)), (2, .one (.int .i64 w2)), (7, .one (.sl true 3 w3)), (8, .one (.int .i64 w4))] [] : St D0))) := by kernel_rfl
noncomputable def spec_stFrom.d2 (N : Nat) (v0 : Int) (v1 : Int) (v2 : Int) (v3 : List Int) (v4 : Int) (c2 : Int → Int → Int → (List Int) → Int → Option spec_stFrom.R) : Option spec_stFrom.R := spec_stFrom.o2 N v0 v1 v2 v3 v4 c2
theorem spec_stFrom.d2.run (N : Nat) (Kn58 : St D0 → Option spec_stFrom.R) (v0 : Int) (v1 : Int) (v2 : Int) (v3 : List Int) (v4 : Int) : runC spec_stFrom.C (spec_stFrom.O N) N spec_stFrom.c116 116 (mkSt [(0, .one (.int .i64 v0)), (1, .one (.int .i64 v1)), (2, .one (.int .i64 v2)), (7, .one (.sl true 3 v3)), (8, .one (.int .i64 v4))] [] : St D0) (spec_stFrom.K116 N Kn58) = spec_stFrom.d2 N v0 v1 v2 v3 v4 ((fun w0 w1 w2 w3 w4 => Kn58 (mkSt [(0, .one (.int .i64 w0)), (1, .one (.int .i64 w1)), (2, .one (.int .i64 w2)), (7, .one (.sl true 3 w3)), (8, .one (.int .i64 w4))] [] : St D0))) := by
  exact (spec_stFrom.o2.run N Kn58 v0 v1 v2 v3 v4).trans rfl
noncomputable def spec_stFrom.K58 (N : Nat) : Ex → St D0 → Option spec_stFrom.R := (blockK 0 (onN (fun s => spec_stFrom.C.tidy 14 s (fun s' => runC spec_stFrom.C (spec_stFrom.O N) N spec_stFrom.c15 15 s' spec_stFrom.K0)) spec_stFrom.K0))
mutual
noncomputable def spec_stFrom.l1 (N : Nat) : Nat → Int → Int → Int → Int → Option spec_stFrom.R
  | 0, _, _, _, _ => none
  | n + 1, v0, v1, v2, v3 => spec_stFrom.d1 N v0 v1 v2 v3 ((fun w0 w1 w2 w3 w4 => spec_stFrom.l2 N n w0 w1 w2 w3 w4))
noncomputable def spec_stFrom.l2 (N : Nat) : Nat → Int → Int → Int → (List Int) → Int → Option spec_stFrom.R
  | 0, _, _, _, _, _ => none
  | n + 1, v0, v1, v2, v3, v4 => spec_stFrom.d2 N v0 v1 v2 v3 v4 ((fun w0 w1 w2 w3 w4 => spec_stFrom.l2 N n w0 w1 w2 w3 w4))
end
theorem spec_stFrom.loop58 (N : Nat) : ∀ n, (∀ (v0 : Int) (v1 : Int) (v2 : Int) (v3 : Int), iter (loopF spec_stFrom.C (spec_stFrom.O N) N spec_stFrom.c116 58) n (mkSt [(0, .one (.int .i64 v0)), (1, .one (.int .i64 v1)), (2, .one (.int .i64 v2)), (7, .one (.nl)), (8, .one (.int .i64 v3))] [] : St D0) (spec_stFrom.K58 N) = spec_stFrom.l1 N n v0 v1 v2 v3) ∧ (∀ (v0 : Int) (v1 : Int) (v2 : Int) (v3 : List Int) (v4 : Int), iter (loopF spec_stFrom.C (spec_stFrom.O N) N spec_stFrom.c116 58) n (mkSt [(0, .one (.int .i64 v0)), (1, .one (.int .i64 v1)), (2, .one (.int .i64 v2)), (7, .one (.sl true 3 v3)), (8, .one (.int .i64 v4))] [] : St D0) (spec_stFrom.K58 N) = spec_stFrom.l2 N n v0 v1 v2 v3 v4)
  | 0 => ⟨(fun v0 v1 v2 v3 => rfl), (fun v0 v1 v2 v3 v4 => rfl)⟩
  | n + 1 => ⟨(fun v0 v1 v2 v3 => (spec_stFrom.d1.run N (fun s => iter (loopF spec_stFrom.C (spec_stFrom.O N) N spec_stFrom.c116 58) n s (spec_stFrom.K58 N)) v0 v1 v2 v3).trans (show _ = spec_stFrom.d1 N v0 v1 v2 v3 ((fun w0 w1 w2 w3 w4 => spec_stFrom.l2 N n w0 w1 w2 w3 w4)) from (congr rfl (funext fun w0 => funext fun w1 => funext fun w2 => funext fun w3 => funext fun w4 => (spec_stFrom.loop58 N n).2 w0 w1 w2 w3 w4)))), (fun v0 v1 v2 v3 v4 => (spec_stFrom.d2.run N (fun s => iter (loopF spec_stFrom.C (spec_stFrom.O N) N spec_stFrom.c116 58) n s (spec_stFrom.K58 N)) v0 v1 v2 v3 v4).trans (show _ = spec_stFrom.d2 N v0 v1 v2 v3 v4 ((fun w0 w1 w2 w3 w4 => spec_stFrom.l2 N n w0 w1 w2 w3 w4)) from (congr rfl (funext fun w0 => funext fun w1 => funext fun w2 => funext fun w3 => funext fun w4 => (spec_stFrom.loop58 N n).2 w0 w1 w2 w3 w4))))⟩
noncomputable def spec_stFrom.o0 (N : Nat) (a0 : Int) (a1 : Int) (a2 : Int) (c1 : Int → Int → Int → Int → Option spec_stFrom.R) : Option spec_stFrom.R :=
 c1 a0 a1 a2 0
theorem spec_stFrom.o0.run (N : Nat) (H116 : Code) (a0 : Int) (a1 : Int) (a2 : Int) : runC spec_stFrom.C (spec_stFrom.O N) N (.seq spec_stFrom.c2 (.seq spec_stFrom.c6 (.seq (.seq spec_stFrom.c28 (.block 0 (.loop H116))) spec_stFrom.c15))) 1 (st0 [.one (.int .i64 a0), .one (.int .i64 a1), .one (.int .i64 a2)] [] : St D0) spec_stFrom.K0 = spec_stFrom.o0 N a0 a1 a2 ((fun w0 w1 w2 w3 => iter (loopF spec_stFrom.C (spec_stFrom.O N) N H116 58) N (mkSt [(0, .one (.int .i64 w0)), (1, .one (.int .i64 w1)), (2, .one (.int .i64 w2)), (7, .one (.nl)), (8, .one (.int .i64 w3))] [] : St D0) (blockK 0 (onN (fun s => spec_stFrom.C.tidy 14 s (fun s' => runC spec_stFrom.C (spec_stFrom.O N) N spec_stFrom.c15 15 s' spec_stFrom.K0)) spec_stFrom.K0)))) := by kernel_rfl
noncomputable def spec_stFrom.g (N : Nat) (a0 : Int) (a1 : Int) (a2 : Int) : Option spec_stFrom.R := spec_stFrom.o0 N a0 a1 a2 ((fun w0 w1 w2 w3 => spec_stFrom.l1 N N w0 w1 w2 w3))
theorem spec_stFrom.c1_0 : spec_stFrom.c1 = (.seq spec_stFrom.c2 (.seq spec_stFrom.c6 (.seq (.seq spec_stFrom.c28 (.block 0 (.loop spec_stFrom.c116))) spec_stFrom.c15))) := by kernel_rfl
theorem spec_stFrom.g.run (N : Nat) (a0 : Int) (a1 : Int) (a2 : Int) : runC spec_stFrom.C (spec_stFrom.O N) N spec_stFrom.c1 1 (st0 [.one (.int .i64 a0), .one (.int .i64 a1), .one (.int .i64 a2)] [] : St D0) spec_stFrom.K0 = spec_stFrom.g N a0 a1 a2 := by
  rw [spec_stFrom.c1_0]; unfold spec_stFrom.g; exact (spec_stFrom.o0.run N spec_stFrom.c116 a0 a1 a2).trans (congr rfl (funext fun w0 => funext fun w1 => funext fun w2 => funext fun w3 => (spec_stFrom.loop58 N N).1 w0 w1 w2 w3))
theorem spec_stFrom.good (N : Nat) (a0 : Int) (a1 : Int) (a2 : Int) (r : spec_stFrom.R) (h : spec_stFrom.g N a0 a1 a2 = some r) : Go.PM.Good Go.Proofs.Try.prog T0 64 [.one (.int .i64 a0), .one (.int .i64 a1), .one (.int .i64 a2)] [] (spec_stFrom.sig.ret r) (spec_stFrom.sig.bs r) :=
  good_fn tabOk0 mixed0 spec_stFrom.sig (spec_stFrom.E N) Go.Proofs.Try.func64 (by kernel_rfl) (by kernel_rfl) 2503 0 0 [(58, [0, 1, 2, 7, 8], [])] [(false, [.own 3])] (by kernel_rfl) rfl ((spec_stFrom.g.run N a0 a1 a2).trans h)
noncomputable def spec_stFrom.ent (N : Nat) : Ent Go.Proofs.Try.prog T0 := mkEnt 64 [(false, [.any]), (false, [.any]), (false, [.any])] spec_stFrom.sig (fun t => spec_stFrom.g N t.1 t.2.1 t.2.2) (fun t r h => spec_stFrom.good N t.1 t.2.1 t.2.2 r h)
end Go.Proofs.Ytpemffldaepbpaa.M

namespace Go.Proofs.Ytpemffldaepbpaa.M
open Go Go.PM Go.Proofs.Ytpemffldaepbpaa.P
set_option linter.unusedVariables false
set_option maxRecDepth 100000
/-! ### spec_HeardFrom -/
abbrev spec_HeardFrom.R : Type := List Int × Bool
abbrev spec_HeardFrom.sig : Sig := ⟨[(false, 1), (false, 1), (false, 1)], [], [.int .i64, .int .i64, .int .i64], [(false, 1), (false, 1)], [], [.sl true 3, .bool]⟩
noncomputable def spec_HeardFrom.C : Cfg D0 := ⟨Go.Proofs.Try.prog, T0, 65735, 0, 21, 0, [(12, [0, 1, 2, 16], [])]⟩
noncomputable def spec_HeardFrom.E (N : Nat) : List (Ent Go.Proofs.Try.prog T0) := [spec_stHalf.ent N, spec_l1In.ent N, spec_stFrom.ent N]
noncomputable def spec_HeardFrom.O (N : Nat) : Orc D0 spec_HeardFrom.R := orcOf (spec_HeardFrom.E N)
noncomputable def spec_HeardFrom.K0 : Ex → St D0 → Option spec_HeardFrom.R := exitK spec_HeardFrom.C Go.Proofs.Try.f12.results.toList [(false, [.own 3]), (false, [.any])] (decOut spec_HeardFrom.sig)
noncomputable def spec_HeardFrom.c1 : Code := codeAt (Go.Proofs.Try.f12.body.getD .skip) []
noncomputable def spec_HeardFrom.c2 : Code := codeAt (Go.Proofs.Try.f12.body.getD .skip) [false]
noncomputable def spec_HeardFrom.c7 : Code := codeAt (Go.Proofs.Try.f12.body.getD .skip) [true, true]
noncomputable def spec_HeardFrom.c12 : Code := codeAt (Go.Proofs.Try.f12.body.getD .skip) [true, false, false]
noncomputable def spec_HeardFrom.c13 : Code := codeAt (Go.Proofs.Try.f12.body.getD .skip) [true, false, true]
noncomputable def spec_HeardFrom.K13 (N : Nat) : Ex → St D0 → Option spec_HeardFrom.R := (onN (fun s => spec_HeardFrom.C.tidy 6 s (fun s' => runC spec_HeardFrom.C (spec_HeardFrom.O N) N spec_HeardFrom.c7 7 s' spec_HeardFrom.K0)) spec_HeardFrom.K0)
noncomputable def spec_HeardFrom.o1 (N : Nat) (v0 : Int) (v1 : Int) (v2 : Int) (v3 : Bool) : Option spec_HeardFrom.R :=
 bif v3 then
  some (([] : List Int), false)
 else
 (spec_stFrom.g N v0 v1 v2).bind fun r1 =>
 some (r1, true)
theorem spec_HeardFrom.o1.run (N : Nat) (v0 : Int) (v1 : Int) (v2 : Int) (v3 : Bool) : runC spec_HeardFrom.C (spec_HeardFrom.O N) N spec_HeardFrom.c13 13 (mkSt [(0, .one (.int .i64 v0)), (1, .one (.int .i64 v1)), (2, .one (.int .i64 v2)), (16, .one (.bool v3))] [] : St D0) (onN (fun s => spec_HeardFrom.C.tidy 6 s (fun s' => runC spec_HeardFrom.C (spec_HeardFrom.O N) N spec_HeardFrom.c7 7 s' spec_HeardFrom.K0)) spec_HeardFrom.K0) = spec_HeardFrom.o1 N v0 v1 v2 v3 := by kernel_rfl
noncomputable def spec_HeardFrom.d1 (N : Nat) (v0 : Int) (v1 : Int) (v2 : Int) (v3 : Bool) : Option spec_HeardFrom.R := spec_HeardFrom.o1 N v0 v1 v2 v3
theorem spec_HeardFrom.d1.run (N : Nat) (v0 : Int) (v1 : Int) (v2 : Int) (v3 : Bool) : runC spec_HeardFrom.C (spec_HeardFrom.O N) N spec_HeardFrom.c13 13 (mkSt [(0, .one (.int .i64 v0)), (1, .one (.int .i64 v1)), (2, .one (.int .i64 v2)), (16, .one (.bool v3))] [] : St D0) (spec_HeardFrom.K13 N) = spec_HeardFrom.d1 N v0 v1 v2 v3 := by
  exact (spec_HeardFrom.o1.run N v0 v1 v2 v3).trans rfl
noncomputable def spec_HeardFrom.o0 (N : Nat) (a0 : Int) (a1 : Int) (a2 : Int) (c1 : Int → Int → Int → Bool → Option spec_HeardFrom.R) : Option spec_HeardFrom.R :=
 (spec_stHalf.g N a0 a1).bind fun r1 =>
 bif (!r1) then
  c1 a0 a1 a2 true
 else
 (spec_l1In.g N a2 1 60).bind fun r2 =>
 c1 a0 a1 a2 (!r2)
theorem spec_HeardFrom.o0.run (N : Nat) (H13 : Code) (a0 : Int) (a1 : Int) (a2 : Int) : runC spec_HeardFrom.C (spec_HeardFrom.O N) N (.seq spec_HeardFrom.c2 (.seq (.seq spec_HeardFrom.c12 H13) spec_HeardFrom.c7)) 1 (st0 [.one (.int .i64 a0), .one (.int .i64 a1), .one (.int .i64 a2)] [] : St D0) spec_HeardFrom.K0 = spec_HeardFrom.o0 N a0 a1 a2 ((fun w0 w1 w2 w3 => runC spec_HeardFrom.C (spec_HeardFrom.O N) N H13 13 (mkSt [(0, .one (.int .i64 w0)), (1, .one (.int .i64 w1)), (2, .one (.int .i64 w2)), (16, .one (.bool w3))] [] : St D0) (onN (fun s => spec_HeardFrom.C.tidy 6 s (fun s' => runC spec_HeardFrom.C (spec_HeardFrom.O N) N spec_HeardFrom.c7 7 s' spec_HeardFrom.K0)) spec_HeardFrom.K0))) := by kernel_rfl
noncomputable def spec_HeardFrom.B6 (N : Nat) : St D0 → Option spec_HeardFrom.R := fun s' => runC spec_HeardFrom.C (spec_HeardFrom.O N) N spec_HeardFrom.c13 13 s' (spec_HeardFrom.K13 N)
noncomputable def spec_HeardFrom.g (N : Nat) (a0 : Int) (a1 : Int) (a2 : Int) : Option spec_HeardFrom.R := spec_HeardFrom.o0 N a0 a1 a2 ((fun w0 w1 w2 w3 => spec_HeardFrom.d1 N w0 w1 w2 w3))
theorem spec_HeardFrom.c1_0 : spec_HeardFrom.c1 = (.seq spec_HeardFrom.c2 (.seq (.seq spec_HeardFrom.c12 spec_HeardFrom.c13) spec_HeardFrom.c7)) := by kernel_rfl
theorem spec_HeardFrom.g.run (N : Nat) (a0 : Int) (a1 : Int) (a2 : Int) : runC spec_HeardFrom.C (spec_HeardFrom.O N) N spec_HeardFrom.c1 1 (st0 [.one (.int .i64 a0), .one (.int .i64 a1), .one (.int .i64 a2)] [] : St D0) spec_HeardFrom.K0 = spec_HeardFrom.g N a0 a1 a2 := by
  rw [spec_HeardFrom.c1_0]; unfold spec_HeardFrom.g; exact (spec_HeardFrom.o0.run N spec_HeardFrom.c13 a0 a1 a2).trans (congr rfl (funext fun w0 => funext fun w1 => funext fun w2 => funext fun w3 => spec_HeardFrom.d1.run N w0 w1 w2 w3))
theorem spec_HeardFrom.good (N : Nat) (a0 : Int) (a1 : Int) (a2 : Int) (r : spec_HeardFrom.R) (h : spec_HeardFrom.g N a0 a1 a2 = some r) : Go.PM.Good Go.Proofs.Try.prog T0 12 [.one (.int .i64 a0), .one (.int .i64 a1), .one (.int .i64 a2)] [] (spec_HeardFrom.sig.ret r) (spec_HeardFrom.sig.bs r) :=
  good_fn tabOk0 mixed0 spec_HeardFrom.sig (spec_HeardFrom.E N) Go.Proofs.Try.func12 (by kernel_rfl) (by kernel_rfl) 65735 0 0 [(12, [0, 1, 2, 16], [])] [(false, [.own 3]), (false, [.any])] (by kernel_rfl) rfl ((spec_HeardFrom.g.run N a0 a1 a2).trans h)
noncomputable def spec_HeardFrom.ent (N : Nat) : Ent Go.Proofs.Try.prog T0 := mkEnt 12 [(false, [.any]), (false, [.any]), (false, [.any])] spec_HeardFrom.sig (fun t => spec_HeardFrom.g N t.1 t.2.1 t.2.2) (fun t r h => spec_HeardFrom.good N t.1 t.2.1 t.2.2 r h)
end Go.Proofs.Ytpemffldaepbpaa.M

namespace Go.Proofs.Ytpemffldaepbpaa.M
open Go Go.PM Go.Proofs.Ytpemffldaepbpaa.P
set_option linter.unusedVariables false
set_option maxRecDepth 100000
/-! ### spec_StrokesAt -/
abbrev spec_StrokesAt.R : Type := Int × Bool
abbrev spec_StrokesAt.sig : Sig := ⟨[(false, 1), (false, 1)], [], [.int .i64, .int .i64], [(false, 1), (false, 1)], [], [.int .i64, .bool]⟩
noncomputable def spec_StrokesAt.C : Cfg D0 := ⟨Go.Proofs.Try.prog, T0, 563, 0, 13, 0, []⟩
noncomputable def spec_StrokesAt.E (N : Nat) : List (Ent Go.Proofs.Try.prog T0) := [spec_stHalf.ent N, spec_stAt.ent N]
noncomputable def spec_StrokesAt.O (N : Nat) : Orc D0 spec_StrokesAt.R := orcOf (spec_StrokesAt.E N)
noncomputable def spec_StrokesAt.K0 : Ex → St D0 → Option spec_StrokesAt.R := exitK spec_StrokesAt.C Go.Proofs.Try.f18.results.toList [(false, [.any]), (false, [.any])] (decOut spec_StrokesAt.sig)
noncomputable def spec_StrokesAt.c1 : Code := codeAt (Go.Proofs.Try.f18.body.getD .skip) []
noncomputable def spec_StrokesAt.o0 (N : Nat) (a0 : Int) (a1 : Int) : Option spec_StrokesAt.R :=
 (spec_stHalf.g N a0 a1).bind fun r1 =>
 bif (!r1) then
  some (0, false)
 else
 (spec_stAt.g N a0 a1).bind fun r2 =>
 some (r2, true)
theorem spec_StrokesAt.o0.run (N : Nat) (a0 : Int) (a1 : Int) : runC spec_StrokesAt.C (spec_StrokesAt.O N) N spec_StrokesAt.c1 1 (st0 [.one (.int .i64 a0), .one (.int .i64 a1)] [] : St D0) spec_StrokesAt.K0 = spec_StrokesAt.o0 N a0 a1 := by kernel_rfl
noncomputable def spec_StrokesAt.g (N : Nat) (a0 : Int) (a1 : Int) : Option spec_StrokesAt.R := spec_StrokesAt.o0 N a0 a1
theorem spec_StrokesAt.g.run (N : Nat) (a0 : Int) (a1 : Int) : runC spec_StrokesAt.C (spec_StrokesAt.O N) N spec_StrokesAt.c1 1 (st0 [.one (.int .i64 a0), .one (.int .i64 a1)] [] : St D0) spec_StrokesAt.K0 = spec_StrokesAt.g N a0 a1 := by
  exact (spec_StrokesAt.o0.run N a0 a1).trans rfl
theorem spec_StrokesAt.good (N : Nat) (a0 : Int) (a1 : Int) (r : spec_StrokesAt.R) (h : spec_StrokesAt.g N a0 a1 = some r) : Go.PM.Good Go.Proofs.Try.prog T0 18 [.one (.int .i64 a0), .one (.int .i64 a1)] [] (spec_StrokesAt.sig.ret r) (spec_StrokesAt.sig.bs r) :=
  good_fn tabOk0 mixed0 spec_StrokesAt.sig (spec_StrokesAt.E N) Go.Proofs.Try.func18 (by kernel_rfl) (by kernel_rfl) 563 0 0 [] [(false, [.any]), (false, [.any])] (by kernel_rfl) rfl ((spec_StrokesAt.g.run N a0 a1).trans h)
noncomputable def spec_StrokesAt.ent (N : Nat) : Ent Go.Proofs.Try.prog T0 := mkEnt 18 [(false, [.any]), (false, [.any])] spec_StrokesAt.sig (fun t => spec_StrokesAt.g N t.1 t.2) (fun t r h => spec_StrokesAt.good N t.1 t.2 r h)
end Go.Proofs.Ytpemffldaepbpaa.M

namespace Go.Proofs.Ytpemffldaepbpaa.M
open Go Go.PM Go.Proofs.Ytpemffldaepbpaa.P
set_option linter.unusedVariables false
set_option maxRecDepth 100000
/-! ### laws_kSame -/
abbrev laws_kSame.R : Type := Bool
abbrev laws_kSame.sig : Sig := ⟨[(false, 1), (false, 1)], [], [.sl false 3, .sl false 3], [(false, 1)], [], [.bool]⟩
noncomputable def laws_kSame.C : Cfg D0 := ⟨Go.Proofs.Try.prog, T0, 16806963, 0, 26, 0, [(58, [0, 1, 12, 13], [])]⟩
noncomputable def laws_kSame.E (N : Nat) : List (Ent Go.Proofs.Try.prog T0) := []
noncomputable def laws_kSame.O (N : Nat) : Orc D0 laws_kSame.R := orcOf (laws_kSame.E N)
noncomputable def laws_kSame.K0 : Ex → St D0 → Option laws_kSame.R := exitK laws_kSame.C Go.Proofs.Try.f19.results.toList [(false, [.any])] (decOut laws_kSame.sig)
noncomputable def laws_kSame.c1 : Code := codeAt (Go.Proofs.Try.f19.body.getD .skip) []
noncomputable def laws_kSame.c2 : Code := codeAt (Go.Proofs.Try.f19.body.getD .skip) [false]
noncomputable def laws_kSame.c6 : Code := codeAt (Go.Proofs.Try.f19.body.getD .skip) [true, false]
noncomputable def laws_kSame.c15 : Code := codeAt (Go.Proofs.Try.f19.body.getD .skip) [true, true, true]
noncomputable def laws_kSame.c28 : Code := codeAt (Go.Proofs.Try.f19.body.getD .skip) [true, true, false, false]
noncomputable def laws_kSame.c116 : Code := codeAt (Go.Proofs.Try.f19.body.getD .skip) [true, true, false, true, false, false]
noncomputable def laws_kSame.K116 (N : Nat) (Kn58 : St D0 → Option laws_kSame.R) : Ex → St D0 → Option laws_kSame.R := (onN (fun s => laws_kSame.C.tidy 58 s ((onN Kn58 (blockK 0 (onN (fun s => laws_kSame.C.tidy 14 s (fun s' => runC laws_kSame.C (laws_kSame.O N) N laws_kSame.c15 15 s' laws_kSame.K0)) laws_kSame.K0))) .normal)) (onN Kn58 (blockK 0 (onN (fun s => laws_kSame.C.tidy 14 s (fun s' => runC laws_kSame.C (laws_kSame.O N) N laws_kSame.c15 15 s' laws_kSame.K0)) laws_kSame.K0))))
noncomputable def laws_kSame.o1 (N : Nat) (v0 : List Int) (v1 : List Int) (v2 : Int) (v3 : Int) (c1 : (List Int) → (List Int) → Int → Int → Option laws_kSame.R) : Option laws_kSame.R :=
 bif (decide (v3 < v2)) then
  bif (decide (0 ≤ v3)) then
   bif (decide (v3 < (v0.length : Int))) then
    (v0[(v3 : Int).toNat]?).bind fun x1 =>
    bif (decide (0 ≤ v3)) then
     bif (decide (v3 < (v1.length : Int))) then
      (v1[(v3 : Int).toNat]?).bind fun x2 =>
      bif (x1 != x2) then
       some (false)
      else
      c1 v0 v1 v2 (w64 (v3 + 1))
     else
     none
    else
    none
   else
   none
  else
  none
 else
 some (true)
theorem laws_kSame.o1.run (N : Nat) (Kn58 : St D0 → Option laws_kSame.R) (v0 : List Int) (v1 : List Int) (v2 : Int) (v3 : Int) : runC laws_kSame.C (laws_kSame.O N) N laws_kSame.c116 116 (mkSt [(0, .one (.sl false 3 v0)), (1, .one (.sl false 3 v1)), (12, .one (.int .i64 v2)), (13, .one (.int .i64 v3))] [] : St D0) (onN (fun s => laws_kSame.C.tidy 58 s ((onN Kn58 (blockK 0 (onN (fun s => laws_kSame.C.tidy 14 s (fun s' => runC laws_kSame.C (laws_kSame.O N) N laws_kSame.c15 15 s' laws_kSame.K0)) laws_kSame.K0))) .normal)) (onN Kn58 (blockK 0 (onN (fun s => laws_kSame.C.tidy 14 s (fun s' => runC laws_kSame.C (laws_kSame.O N) N laws_kSame.c15 15 s' laws_kSame.K0)) laws_kSame.K0)))) = laws_kSame.o1 N v0 v1 v2 v3 ((fun w0 w1 w2 w3 => Kn58 (mkSt [(0, .one (.sl false 3 w0)), (1, .one (.sl false 3 w1)), (12, .one (.int .i64 w2)), (13, .one (.int .i64 w3))] [] : St D0))) := by kernel_rfl
noncomputable def laws_kSame.d1 (N : Nat) (v0 : List Int) (v1 : List Int) (v2 : Int) (v3 : Int) (c1 : (List Int) → (List Int) → Int → Int → Option laws_kSame.R) : Option laws_kSame.R := laws_kSame.o1 N v0 v1 v2 v3 c1
theorem laws_kSame.d1.run (N : Nat) (Kn58 : St D0 → Option laws_kSame.R) (v0 : List Int) (v1 : List Int) (v2 : Int) (v3 : Int) : runC laws_kSame.C (laws_kSame.O N) N laws_kSame.c116 116 (mkSt [(0, .one (.sl false 3 v0)), (1, .one (.sl false 3 v1)), (12, .one (.int .i64 v2)), (13, .one (.int .i64 v3))] [] : St D0) (laws_kSame.K116 N Kn58) = laws_kSame.d1 N v0 v1 v2 v3 ((fun w0 w1 w2 w3 => Kn58 (mkSt [(0, .one (.sl false 3 w0)), (1, .one (.sl false 3 w1)), (12, .one (.int .i64 w2)), (13, .one (.int .i64 w3))] [] : St D0))) := by
  exact (laws_kSame.o1.run N Kn58 v0 v1 v2 v3).trans rfl
noncomputable def laws_kSame.K58 (N : Nat) : Ex → St D0 → Option laws_kSame.R := (blockK 0 (onN (fun s => laws_kSame.C.tidy 14 s (fun s' => runC laws_kSame.C (laws_kSame.O N) N laws_kSame.c15 15 s' laws_kSame.K0)) laws_kSame.K0))
noncomputable def laws_kSame.l1 (N : Nat) : Nat → (List Int) → (List Int) → Int → Int → Option laws_kSame.R
  | 0, _, _, _, _ => none
  | n + 1, v0, v1, v2, v3 => laws_kSame.d1 N v0 v1 v2 v3 ((fun w0 w1 w2 w3 => laws_kSame.l1 N n w0 w1 w2 w3))
theorem laws_kSame.loop58 (N : Nat) : ∀ n, (∀ (v0 : List Int) (v1 : List Int) (v2 : Int) (v3 : Int), iter (loopF laws_kSame.C (laws_kSame.O N) N laws_kSame.c116 58) n (mkSt [(0, .one (.sl false 3 v0)), (1, .one (.sl false 3 v1)), (12, .one (.int .i64 v2)), (13, .one (.int .i64 v3))] [] : St D0) (laws_kSame.K58 N) = laws_kSame.l1 N n v0 v1 v2 v3)
  | 0 => (fun v0 v1 v2 v3 => rfl)
  | n + 1 => (fun v0 v1 v2 v3 => (laws_kSame.d1.run N (fun s => iter (loopF laws_kSame.C (laws_kSame.O N) N laws_kSame.c116 58) n s (laws_kSame.K58 N)) v0 v1 v2 v3).trans (show _ = laws_kSame.d1 N v0 v1 v2 v3 ((fun w0 w1 w2 w3 => laws_kSame.l1 N n w0 w1 w2 w3)) from (congr rfl (funext fun w0 => funext fun w1 => funext fun w2 => funext fun w3 => (laws_kSame.loop58 N n) w0 w1 w2 w3))))
noncomputable def laws_kSame.o0 (N : Nat) (a0 : List Int) (a1 : List Int) (c1 : (List Int) → (List Int) → Int → Int → Option laws_kSame.R) : Option laws_kSame.R :=
 bif ((a0.length : Int) != (a1.length : Int)) then
  some (false)
 else
 c1 a0 a1 (a0.length : Int) 0
theorem laws_kSame.o0.run (N : Nat) (H116 : Code) (a0 : List Int) (a1 : List Int) : runC laws_kSame.C (laws_kSame.O N) N (.seq laws_kSame.c2 (.seq laws_kSame.c6 (.seq (.seq laws_kSame.c28 (.block 0 (.loop H116))) laws_kSame.c15))) 1 (st0 [.one (.sl false 3 a0), .one (.sl false 3 a1)] [] : St D0) laws_kSame.K0 = laws_kSame.o0 N a0 a1 ((fun w0 w1 w2 w3 => iter (loopF laws_kSame.C (laws_kSame.O N) N H116 58) N (mkSt [(0, .one (.sl false 3 w0)), (1, .one (.sl false 3 w1)), (12, .one (.int .i64 w2)), (13, .one (.int .i64 w3))] [] : St D0) (blockK 0 (onN (fun s => laws_kSame.C.tidy 14 s (fun s' => runC laws_kSame.C (laws_kSame.O N) N laws_kSame.c15 15 s' laws_kSame.K0)) laws_kSame.K0)))) := by kernel_rfl
noncomputable def laws_kSame.g (N : Nat) (a0 : List Int) (a1 : List Int) : Option laws_kSame.R := laws_kSame.o0 N a0 a1 ((fun w0 w1 w2 w3 => laws_kSame.l1 N N w0 w1 w2 w3))
theorem laws_kSame.c1_0 : laws_kSame.c1 = (.seq laws_kSame.c2 (.seq laws_kSame.c6 (.seq (.seq laws_kSame.c28 (.block 0 (.loop laws_kSame.c116))) laws_kSame.c15))) := by kernel_rfl
theorem laws_kSame.g.run (N : Nat) (a0 : List Int) (a1 : List Int) : runC laws_kSame.C (laws_kSame.O N) N laws_kSame.c1 1 (st0 [.one (.sl false 3 a0), .one (.sl false 3 a1)] [] : St D0) laws_kSame.K0 = laws_kSame.g N a0 a1 := by
  rw [laws_kSame.c1_0]; unfold laws_kSame.g; exact (laws_kSame.o0.run N laws_kSame.c116 a0 a1).trans (congr rfl (funext fun w0 => funext fun w1 => funext fun w2 => funext fun w3 => (laws_kSame.loop58 N N) w0 w1 w2 w3))
theorem laws_kSame.good (N : Nat) (a0 : List Int) (a1 : List Int) (r : laws_kSame.R) (h : laws_kSame.g N a0 a1 = some r) : Go.PM.Good Go.Proofs.Try.prog T0 19 [.one (.sl false 3 a0), .one (.sl false 3 a1)] [] (laws_kSame.sig.ret r) (laws_kSame.sig.bs r) :=
  good_fn tabOk0 mixed0 laws_kSame.sig (laws_kSame.E N) Go.Proofs.Try.func19 (by kernel_rfl) (by kernel_rfl) 16806963 0 0 [(58, [0, 1, 12, 13], [])] [(false, [.any])] (by kernel_rfl) rfl ((laws_kSame.g.run N a0 a1).trans h)
noncomputable def laws_kSame.ent (N : Nat) : Ent Go.Proofs.Try.prog T0 := mkEnt 19 [(false, [.ro 3]), (false, [.ro 3])] laws_kSame.sig (fun t => laws_kSame.g N t.1 t.2) (fun t r h => laws_kSame.good N t.1 t.2 r h)
end Go.Proofs.Ytpemffldaepbpaa.M

namespace Go.Proofs.Ytpemffldaepbpaa.M
open Go Go.PM Go.Proofs.Ytpemffldaepbpaa.P
set_option linter.unusedVariables false
set_option maxRecDepth 100000
/-! ### spec_l1Cur_next -/
abbrev spec_l1Cur_next.R : Type := Int × List Int × Int × Int
abbrev spec_l1Cur_next.sig : Sig := ⟨[(false, 1)], [(50, 3)], [.ptr 0 0, .sl false 5, .int .i64, .int .u64], [(false, 1)], [(50, 3)], [.int .i64, .sl false 5, .int .i64, .int .u64]⟩
noncomputable def spec_l1Cur_next.C : Cfg D0 := ⟨Go.Proofs.Try.prog, T0, 9007199254749197, 0, 62, 1, [(14, [0, 3], [0])]⟩
noncomputable def spec_l1Cur_next.E (N : Nat) : List (Ent Go.Proofs.Try.prog T0) := []
noncomputable def spec_l1Cur_next.O (N : Nat) : Orc D0 spec_l1Cur_next.R := orcOf (spec_l1Cur_next.E N)
noncomputable def spec_l1Cur_next.K0 : Ex → St D0 → Option spec_l1Cur_next.R := exitK spec_l1Cur_next.C Go.Proofs.Try.f87.results.toList [(false, [.any])] (decOut spec_l1Cur_next.sig)
noncomputable def spec_l1Cur_next.c1 : Code := codeAt (Go.Proofs.Try.f87.body.getD .skip) []
noncomputable def spec_l1Cur_next.c2 : Code := codeAt (Go.Proofs.Try.f87.body.getD .skip) [false]
noncomputable def spec_l1Cur_next.c6 : Code := codeAt (Go.Proofs.Try.f87.body.getD .skip) [true, false]
noncomputable def spec_l1Cur_next.c14 : Code := codeAt (Go.Proofs.Try.f87.body.getD .skip) [true, true, false]
noncomputable def spec_l1Cur_next.c15 : Code := codeAt (Go.Proofs.Try.f87.body.getD .skip) [true, true, true]
noncomputable def spec_l1Cur_next.K15 (N : Nat) : Ex → St D0 → Option spec_l1Cur_next.R := spec_l1Cur_next.K0
noncomputable def spec_l1Cur_next.o1 (N : Nat) (v0 : Int) (v1 : List Int) (v2 : Int) (v3 : Int) : Option spec_l1Cur_next.R :=
 bif (decide ((w64 (v2 + 1)) ≤ (v1.length : Int))) then
  some (v0, v1, (w64 (v2 + 1)), ((IntKind.wrap .u64) (((IntKind.wrap .u64) (((IntKind.wrap .u64) (v3 * 6364136223846793005)) + ((IntKind.wrap .u64) v0))) + 1442695040888963407)))
 else
 some ((w64 (andK .u64 (shrK .u64 ((IntKind.wrap .u64) (((IntKind.wrap .u64) (((IntKind.wrap .u64) (v3 * 6364136223846793005)) + ((IntKind.wrap .u64) v0))) + 1442695040888963407)) 40) 255)), v1, (w64 (v2 + 1)), ((IntKind.wrap .u64) (((IntKind.wrap .u64) (((IntKind.wrap .u64) (v3 * 6364136223846793005)) + ((IntKind.wrap .u64) v0))) + 1442695040888963407)))
theorem spec_l1Cur_next.o1.run (N : Nat) (v0 : Int) (v1 : List Int) (v2 : Int) (v3 : Int) : runC spec_l1Cur_next.C (spec_l1Cur_next.O N) N spec_l1Cur_next.c15 15 (mkSt [(0, .one (.ptr 0 0)), (3, .one (.int .i64 v0))] [(0, some (50, [.sl false 5 v1, .int .i64 v2, .int .u64 v3]))] : St D0) spec_l1Cur_next.K0 = spec_l1Cur_next.o1 N v0 v1 v2 v3 := by kernel_rfl
noncomputable def spec_l1Cur_next.d1 (N : Nat) (v0 : Int) (v1 : List Int) (v2 : Int) (v3 : Int) : Option spec_l1Cur_next.R := spec_l1Cur_next.o1 N v0 v1 v2 v3
theorem spec_l1Cur_next.d1.run (N : Nat) (v0 : Int) (v1 : List Int) (v2 : Int) (v3 : Int) : runC spec_l1Cur_next.C (spec_l1Cur_next.O N) N spec_l1Cur_next.c15 15 (mkSt [(0, .one (.ptr 0 0)), (3, .one (.int .i64 v0))] [(0, some (50, [.sl false 5 v1, .int .i64 v2, .int .u64 v3]))] : St D0) (spec_l1Cur_next.K15 N) = spec_l1Cur_next.d1 N v0 v1 v2 v3 := by
  exact (spec_l1Cur_next.o1.run N v0 v1 v2 v3).trans rfl
noncomputable def spec_l1Cur_next.o0 (N : Nat) (b0_0 : List Int) (b0_1 : Int) (b0_2 : Int) (c1 : Int → (List Int) → Int → Int → Option spec_l1Cur_next.R) : Option spec_l1Cur_next.R :=
 bif (decide (b0_1 < (b0_0.length : Int))) then
  bif (decide (0 ≤ b0_1)) then
   bif (decide (b0_1 < (b0_0.length : Int))) then
    (b0_0[(b0_1 : Int).toNat]?).bind fun x1 =>
    c1 (w64 x1) b0_0 b0_1 b0_2
   else
   none
  else
  none
 else
 c1 0 b0_0 b0_1 b0_2
theorem spec_l1Cur_next.o0.run (N : Nat) (H15 : Code) (b0_0 : List Int) (b0_1 : Int) (b0_2 : Int) : runC spec_l1Cur_next.C (spec_l1Cur_next.O N) N (.seq spec_l1Cur_next.c2 (.seq spec_l1Cur_next.c6 (.seq spec_l1Cur_next.c14 H15))) 1 (st0 [.one (.ptr 0 0)] [(50, [.sl false 5 b0_0, .int .i64 b0_1, .int .u64 b0_2])] : St D0) spec_l1Cur_next.K0 = spec_l1Cur_next.o0 N b0_0 b0_1 b0_2 ((fun w0 w1 w2 w3 => runC spec_l1Cur_next.C (spec_l1Cur_next.O N) N H15 15 (mkSt [(0, .one (.ptr 0 0)), (3, .one (.int .i64 w0))] [(0, some (50, [.sl false 5 w1, .int .i64 w2, .int .u64 w3]))] : St D0) spec_l1Cur_next.K0)) := by kernel_rfl
noncomputable def spec_l1Cur_next.B7 (N : Nat) : St D0 → Option spec_l1Cur_next.R := fun s' => runC spec_l1Cur_next.C (spec_l1Cur_next.O N) N spec_l1Cur_next.c15 15 s' (spec_l1Cur_next.K15 N)
noncomputable def spec_l1Cur_next.g (N : Nat) (b0_0 : List Int) (b0_1 : Int) (b0_2 : Int) : Option spec_l1Cur_next.R := spec_l1Cur_next.o0 N b0_0 b0_1 b0_2 ((fun w0 w1 w2 w3 => spec_l1Cur_next.d1 N w0 w1 w2 w3))
theorem spec_l1Cur_next.c1_0 : spec_l1Cur_next.c1 = (.seq spec_l1Cur_next.c2 (.seq spec_l1Cur_next.c6 (.seq spec_l1Cur_next.c14 spec_l1Cur_next.c15))) := by kernel_rfl
theorem spec_l1Cur_next.g.run (N : Nat) (b0_0 : List Int) (b0_1 : Int) (b0_2 : Int) : runC spec_l1Cur_next.C (spec_l1Cur_next.O N) N spec_l1Cur_next.c1 1 (st0 [.one (.ptr 0 0)] [(50, [.sl false 5 b0_0, .int .i64 b0_1, .int .u64 b0_2])] : St D0) spec_l1Cur_next.K0 = spec_l1Cur_next.g N b0_0 b0_1 b0_2 := by
  rw [spec_l1Cur_next.c1_0]; unfold spec_l1Cur_next.g; exact (spec_l1Cur_next.o0.run N spec_l1Cur_next.c15 b0_0 b0_1 b0_2).trans (congr rfl (funext fun w0 => funext fun w1 => funext fun w2 => funext fun w3 => spec_l1Cur_next.d1.run N w0 w1 w2 w3))
theorem spec_l1Cur_next.good (N : Nat) (b0_0 : List Int) (b0_1 : Int) (b0_2 : Int) (r : spec_l1Cur_next.R) (h : spec_l1Cur_next.g N b0_0 b0_1 b0_2 = some r) : Go.PM.Good Go.Proofs.Try.prog T0 87 [.one (.ptr 0 0)] [(50, [.sl false 5 b0_0, .int .i64 b0_1, .int .u64 b0_2])] (spec_l1Cur_next.sig.ret r) (spec_l1Cur_next.sig.bs r) :=
  good_fn tabOk0 mixed0 spec_l1Cur_next.sig (spec_l1Cur_next.E N) Go.Proofs.Try.func87 (by kernel_rfl) (by kernel_rfl) 9007199254749197 0 1 [(14, [0, 3], [0])] [(false, [.any])] (by kernel_rfl) rfl ((spec_l1Cur_next.g.run N b0_0 b0_1 b0_2).trans h)
noncomputable def spec_l1Cur_next.ent (N : Nat) : Ent Go.Proofs.Try.prog T0 := mkEnt 87 [(false, [.any])] spec_l1Cur_next.sig (fun t => spec_l1Cur_next.g N t.2.1 t.2.2.1 t.2.2.2) (fun t r h => spec_l1Cur_next.good N t.2.1 t.2.2.1 t.2.2.2 r h)
end Go.Proofs.Ytpemffldaepbpaa.M

namespace Go.Proofs.Ytpemffldaepbpaa.M
open Go Go.PM Go.Proofs.Ytpemffldaepbpaa.P
set_option linter.unusedVariables false
set_option maxRecDepth 100000
/-! ### spec_l1Cur_pick -/
abbrev spec_l1Cur_pick.R : Type := Int × List Int × Int × Int
abbrev spec_l1Cur_pick.sig : Sig := ⟨[(false, 1), (false, 1)], [(50, 3)], [.ptr 0 0, .int .i64, .sl false 5, .int .i64, .int .u64], [(false, 1)], [(50, 3)], [.int .i64, .sl false 5, .int .i64, .int .u64]⟩
noncomputable def spec_l1Cur_pick.C : Cfg D0 := ⟨Go.Proofs.Try.prog, T0, 2227, 0, 20, 1, [(30, [1, 5], [0])]⟩
noncomputable def spec_l1Cur_pick.E (N : Nat) : List (Ent Go.Proofs.Try.prog T0) := [spec_l1Cur_next.ent N]
noncomputable def spec_l1Cur_pick.O (N : Nat) : Orc D0 spec_l1Cur_pick.R := orcOf (spec_l1Cur_pick.E N)
noncomputable def spec_l1Cur_pick.K0 : Ex → St D0 → Option spec_l1Cur_pick.R := exitK spec_l1Cur_pick.C Go.Proofs.Try.f53.results.toList [(false, [.any])] (decOut spec_l1Cur_pick.sig)
noncomputable def spec_l1Cur_pick.c1 : Code := codeAt (Go.Proofs.Try.f53.body.getD .skip) []
noncomputable def spec_l1Cur_pick.c2 : Code := codeAt (Go.Proofs.Try.f53.body.getD .skip) [false]
noncomputable def spec_l1Cur_pick.c6 : Code := codeAt (Go.Proofs.Try.f53.body.getD .skip) [true, false]
noncomputable def spec_l1Cur_pick.c14 : Code := codeAt (Go.Proofs.Try.f53.body.getD .skip) [true, true, false]
noncomputable def spec_l1Cur_pick.c30 : Code := codeAt (Go.Proofs.Try.f53.body.getD .skip) [true, true, true, false]
noncomputable def spec_l1Cur_pick.c31 : Code := codeAt (Go.Proofs.Try.f53.body.getD .skip) [true, true, true, true]
noncomputable def spec_l1Cur_pick.K31 (N : Nat) : Ex → St D0 → Option spec_l1Cur_pick.R := spec_l1Cur_pick.K0
noncomputable def spec_l1Cur_pick.o1 (N : Nat) (v0 : Int) (v1 : Int) (v2 : List Int) (v3 : Int) (v4 : Int) : Option spec_l1Cur_pick.R :=
 bif (v0 == 0) then
  none
 else
 some ((Int.tmod v1 v0), v2, v3, v4)
theorem spec_l1Cur_pick.o1.run (N : Nat) (v0 : Int) (v1 : Int) (v2 : List Int) (v3 : Int) (v4 : Int) : runC spec_l1Cur_pick.C (spec_l1Cur_pick.O N) N spec_l1Cur_pick.c31 31 (mkSt [(1, .one (.int .i64 v0)), (5, .one (.int .i64 v1))] [(0, some (50, [.sl false 5 v2, .int .i64 v3, .int .u64 v4]))] : St D0) spec_l1Cur_pick.K0 = spec_l1Cur_pick.o1 N v0 v1 v2 v3 v4 := by kernel_rfl
noncomputable def spec_l1Cur_pick.d1 (N : Nat) (v0 : Int) (v1 : Int) (v2 : List Int) (v3 : Int) (v4 : Int) : Option spec_l1Cur_pick.R := spec_l1Cur_pick.o1 N v0 v1 v2 v3 v4
theorem spec_l1Cur_pick.d1.run (N : Nat) (v0 : Int) (v1 : Int) (v2 : List Int) (v3 : Int) (v4 : Int) : runC spec_l1Cur_pick.C (spec_l1Cur_pick.O N) N spec_l1Cur_pick.c31 31 (mkSt [(1, .one (.int .i64 v0)), (5, .one (.int .i64 v1))] [(0, some (50, [.sl false 5 v2, .int .i64 v3, .int .u64 v4]))] : St D0) (spec_l1Cur_pick.K31 N) = spec_l1Cur_pick.d1 N v0 v1 v2 v3 v4 := by
  exact (spec_l1Cur_pick.o1.run N v0 v1 v2 v3 v4).trans rfl
noncomputable def spec_l1Cur_pick.o0 (N : Nat) (a1 : Int) (b0_0 : List Int) (b0_1 : Int) (b0_2 : Int) (c1 : Int → Int → (List Int) → Int → Int → Option spec_l1Cur_pick.R) : Option spec_l1Cur_pick.R :=
 bif (decide (a1 ≤ 1)) then
  some (0, b0_0, b0_1, b0_2)
 else
 (spec_l1Cur_next.g N b0_0 b0_1 b0_2).bind fun r1 =>
 bif (decide (a1 > 200)) then
  (spec_l1Cur_next.g N r1.2.1 r1.2.2.1 r1.2.2.2).bind fun r2 =>
  c1 a1 (w64 ((w64 (r1.1 * 256)) + r2.1)) r2.2.1 r2.2.2.1 r2.2.2.2
 else
 c1 a1 r1.1 r1.2.1 r1.2.2.1 r1.2.2.2
theorem spec_l1Cur_pick.o0.run (N : Nat) (H31 : Code) (a1 : Int) (b0_0 : List Int) (b0_1 : Int) (b0_2 : Int) : runC spec_l1Cur_pick.C (spec_l1Cur_pick.O N) N (.seq spec_l1Cur_pick.c2 (.seq spec_l1Cur_pick.c6 (.seq spec_l1Cur_pick.c14 (.seq spec_l1Cur_pick.c30 H31)))) 1 (st0 [.one (.ptr 0 0), .one (.int .i64 a1)] [(50, [.sl false 5 b0_0, .int .i64 b0_1, .int .u64 b0_2])] : St D0) spec_l1Cur_pick.K0 = spec_l1Cur_pick.o0 N a1 b0_0 b0_1 b0_2 ((fun w0 w1 w2 w3 w4 => runC spec_l1Cur_pick.C (spec_l1Cur_pick.O N) N H31 31 (mkSt [(1, .one (.int .i64 w0)), (5, .one (.int .i64 w1))] [(0, some (50, [.sl false 5 w2, .int .i64 w3, .int .u64 w4]))] : St D0) spec_l1Cur_pick.K0)) := by kernel_rfl
noncomputable def spec_l1Cur_pick.B15 (N : Nat) : St D0 → Option spec_l1Cur_pick.R := fun s' => runC spec_l1Cur_pick.C (spec_l1Cur_pick.O N) N spec_l1Cur_pick.c31 31 s' (spec_l1Cur_pick.K31 N)
noncomputable def spec_l1Cur_pick.g (N : Nat) (a1 : Int) (b0_0 : List Int) (b0_1 : Int) (b0_2 : Int) : Option spec_l1Cur_pick.R := spec_l1Cur_pick.o0 N a1 b0_0 b0_1 b0_2 ((fun w0 w1 w2 w3 w4 => spec_l1Cur_pick.d1 N w0 w1 w2 w3 w4))
theorem spec_l1Cur_pick.c1_0 : spec_l1Cur_pick.c1 = (.seq spec_l1Cur_pick.c2 (.seq spec_l1Cur_pick.c6 (.seq spec_l1Cur_pick.c14 (.seq spec_l1Cur_pick.c30 spec_l1Cur_pick.c31)))) := by kernel_rfl
theorem spec_l1Cur_pick.g.run (N : Nat) (a1 : Int) (b0_0 : List Int) (b0_1 : Int) (b0_2 : Int) : runC spec_l1Cur_pick.C (spec_l1Cur_pick.O N) N spec_l1Cur_pick.c1 1 (st0 [.one (.ptr 0 0), .one (.int .i64 a1)] [(50, [.sl false 5 b0_0, .int .i64 b0_1, .int .u64 b0_2])] : St D0) spec_l1Cur_pick.K0 = spec_l1Cur_pick.g N a1 b0_0 b0_1 b0_2 := by
  rw [spec_l1Cur_pick.c1_0]; unfold spec_l1Cur_pick.g; exact (spec_l1Cur_pick.o0.run N spec_l1Cur_pick.c31 a1 b0_0 b0_1 b0_2).trans (congr rfl (funext fun w0 => funext fun w1 => funext fun w2 => funext fun w3 => funext fun w4 => spec_l1Cur_pick.d1.run N w0 w1 w2 w3 w4))
theorem spec_l1Cur_pick.good (N : Nat) (a1 : Int) (b0_0 : List Int) (b0_1 : Int) (b0_2 : Int) (r : spec_l1Cur_pick.R) (h : spec_l1Cur_pick.g N a1 b0_0 b0_1 b0_2 = some r) : Go.PM.Good Go.Proofs.Try.prog T0 53 [.one (.ptr 0 0), .one (.int .i64 a1)] [(50, [.sl false 5 b0_0, .int .i64 b0_1, .int .u64 b0_2])] (spec_l1Cur_pick.sig.ret r) (spec_l1Cur_pick.sig.bs r) :=
  good_fn tabOk0 mixed0 spec_l1Cur_pick.sig (spec_l1Cur_pick.E N) Go.Proofs.Try.func53 (by kernel_rfl) (by kernel_rfl) 2227 0 1 [(30, [1, 5], [0])] [(false, [.any])] (by kernel_rfl) rfl ((spec_l1Cur_pick.g.run N a1 b0_0 b0_1 b0_2).trans h)
noncomputable def spec_l1Cur_pick.ent (N : Nat) : Ent Go.Proofs.Try.prog T0 := mkEnt 53 [(false, [.any]), (false, [.any])] spec_l1Cur_pick.sig (fun t => spec_l1Cur_pick.g N t.2.1 t.2.2.1 t.2.2.2.1 t.2.2.2.2) (fun t r h => spec_l1Cur_pick.good N t.2.1 t.2.2.1 t.2.2.2.1 t.2.2.2.2 r h)
end Go.Proofs.Ytpemffldaepbpaa.M

namespace Go.Proofs.Ytpemffldaepbpaa.M
open Go Go.PM Go.Proofs.Ytpemffldaepbpaa.P
set_option linter.unusedVariables false
set_option maxRecDepth 100000
/-! ### spec_l1Cur_among -/
abbrev spec_l1Cur_among.R : Type := Int × List Int × Int × Int
abbrev spec_l1Cur_among.sig : Sig := ⟨[(false, 1), (false, 1)], [(50, 3)], [.ptr 0 0, .sl false 3, .sl false 5, .int .i64, .int .u64], [(false, 1)], [(50, 3)], [.int .i64, .sl false 5, .int .i64, .int .u64]⟩
noncomputable def spec_l1Cur_among.C : Cfg D0 := ⟨Go.Proofs.Try.prog, T0, 19, 0, 12, 1, []⟩
noncomputable def spec_l1Cur_among.E (N : Nat) : List (Ent Go.Proofs.Try.prog T0) := [spec_l1Cur_pick.ent N]
noncomputable def spec_l1Cur_among.O (N : Nat) : Orc D0 spec_l1Cur_among.R := orcOf (spec_l1Cur_among.E N)
noncomputable def spec_l1Cur_among.K0 : Ex → St D0 → Option spec_l1Cur_among.R := exitK spec_l1Cur_among.C Go.Proofs.Try.f62.results.toList [(false, [.any])] (decOut spec_l1Cur_among.sig)
noncomputable def spec_l1Cur_among.c1 : Code := codeAt (Go.Proofs.Try.f62.body.getD .skip) []
noncomputable def spec_l1Cur_among.o0 (N : Nat) (a1 : List Int) (b0_0 : List Int) (b0_1 : Int) (b0_2 : Int) : Option spec_l1Cur_among.R :=
 (spec_l1Cur_pick.g N (a1.length : Int) b0_0 b0_1 b0_2).bind fun r1 =>
 bif (decide (0 ≤ r1.1)) then
  bif (decide (r1.1 < (a1.length : Int))) then
   (a1[(r1.1 : Int).toNat]?).bind fun x2 =>
   some (x2, r1.2.1, r1.2.2.1, r1.2.2.2)
  else
  none
 else
 none
theorem spec_l1Cur_among.o0.run (N : Nat) (a1 : List Int) (b0_0 : List Int) (b0_1 : Int) (b0_2 : Int) : runC spec_l1Cur_among.C (spec_l1Cur_among.O N) N spec_l1Cur_among.c1 1 (st0 [.one (.ptr 0 0), .one (.sl false 3 a1)] [(50, [.sl false 5 b0_0, .int .i64 b0_1, .int .u64 b0_2])] : St D0) spec_l1Cur_among.K0 = spec_l1Cur_among.o0 N a1 b0_0 b0_1 b0_2 := by kernel_rfl
noncomputable def spec_l1Cur_among.g (N : Nat) (a1 : List Int) (b0_0 : List Int) (b0_1 : Int) (b0_2 : Int) : Option spec_l1Cur_among.R := spec_l1Cur_among.o0 N a1 b0_0 b0_1 b0_2
theorem spec_l1Cur_among.g.run (N : Nat) (a1 : List Int) (b0_0 : List Int) (b0_1 : Int) (b0_2 : Int) : runC spec_l1Cur_among.C (spec_l1Cur_among.O N) N spec_l1Cur_among.c1 1 (st0 [.one (.ptr 0 0), .one (.sl false 3 a1)] [(50, [.sl false 5 b0_0, .int .i64 b0_1, .int .u64 b0_2])] : St D0) spec_l1Cur_among.K0 = spec_l1Cur_among.g N a1 b0_0 b0_1 b0_2 := by
  exact (spec_l1Cur_among.o0.run N a1 b0_0 b0_1 b0_2).trans rfl
theorem spec_l1Cur_among.good (N : Nat) (a1 : List Int) (b0_0 : List Int) (b0_1 : Int) (b0_2 : Int) (r : spec_l1Cur_among.R) (h : spec_l1Cur_among.g N a1 b0_0 b0_1 b0_2 = some r) : Go.PM.Good Go.Proofs.Try.prog T0 62 [.one (.ptr 0 0), .one (.sl false 3 a1)] [(50, [.sl false 5 b0_0, .int .i64 b0_1, .int .u64 b0_2])] (spec_l1Cur_among.sig.ret r) (spec_l1Cur_among.sig.bs r) :=
  good_fn tabOk0 mixed0 spec_l1Cur_among.sig (spec_l1Cur_among.E N) Go.Proofs.Try.func62 (by kernel_rfl) (by kernel_rfl) 19 0 1 [] [(false, [.any])] (by kernel_rfl) rfl ((spec_l1Cur_among.g.run N a1 b0_0 b0_1 b0_2).trans h)
noncomputable def spec_l1Cur_among.ent (N : Nat) : Ent Go.Proofs.Try.prog T0 := mkEnt 62 [(false, [.any]), (false, [.ro 3])] spec_l1Cur_among.sig (fun t => spec_l1Cur_among.g N t.2.1 t.2.2.1 t.2.2.2.1 t.2.2.2.2) (fun t r h => spec_l1Cur_among.good N t.2.1 t.2.2.1 t.2.2.2.1 t.2.2.2.2 r h)
end Go.Proofs.Ytpemffldaepbpaa.M

namespace Go.Proofs.Ytpemffldaepbpaa.M
open Go Go.PM Go.Proofs.Ytpemffldaepbpaa.P
set_option linter.unusedVariables false
set_option maxRecDepth 100000
/-! ### spec_l1Cur_one -/
abbrev spec_l1Cur_one.R : Type := Bool × List Int × Int × Int
abbrev spec_l1Cur_one.sig : Sig := ⟨[(false, 1), (false, 1)], [(50, 3)], [.ptr 0 0, .int .i64, .sl false 5, .int .i64, .int .u64], [(false, 1)], [(50, 3)], [.bool, .sl false 5, .int .i64, .int .u64]⟩
noncomputable def spec_l1Cur_one.C : Cfg D0 := ⟨Go.Proofs.Try.prog, T0, 19, 0, 9, 1, []⟩
noncomputable def spec_l1Cur_one.E (N : Nat) : List (Ent Go.Proofs.Try.prog T0) := [spec_l1Cur_pick.ent N]
noncomputable def spec_l1Cur_one.O (N : Nat) : Orc D0 spec_l1Cur_one.R := orcOf (spec_l1Cur_one.E N)
noncomputable def spec_l1Cur_one.K0 : Ex → St D0 → Option spec_l1Cur_one.R := exitK spec_l1Cur_one.C Go.Proofs.Try.f69.results.toList [(false, [.any])] (decOut spec_l1Cur_one.sig)
noncomputable def spec_l1Cur_one.c1 : Code := codeAt (Go.Proofs.Try.f69.body.getD .skip) []
noncomputable def spec_l1Cur_one.o0 (N : Nat) (a1 : Int) (b0_0 : List Int) (b0_1 : Int) (b0_2 : Int) : Option spec_l1Cur_one.R :=
 (spec_l1Cur_pick.g N a1 b0_0 b0_1 b0_2).bind fun r1 =>
 some ((r1.1 == 0), r1.2.1, r1.2.2.1, r1.2.2.2)
theorem spec_l1Cur_one.o0.run (N : Nat) (a1 : Int) (b0_0 : List Int) (b0_1 : Int) (b0_2 : Int) : runC spec_l1Cur_one.C (spec_l1Cur_one.O N) N spec_l1Cur_one.c1 1 (st0 [.one (.ptr 0 0), .one (.int .i64 a1)] [(50, [.sl false 5 b0_0, .int .i64 b0_1, .int .u64 b0_2])] : St D0) spec_l1Cur_one.K0 = spec_l1Cur_one.o0 N a1 b0_0 b0_1 b0_2 := by kernel_rfl
noncomputable def spec_l1Cur_one.g (N : Nat) (a1 : Int) (b0_0 : List Int) (b0_1 : Int) (b0_2 : Int) : Option spec_l1Cur_one.R := spec_l1Cur_one.o0 N a1 b0_0 b0_1 b0_2
theorem spec_l1Cur_one.g.run (N : Nat) (a1 : Int) (b0_0 : List Int) (b0_1 : Int) (b0_2 : Int) : runC spec_l1Cur_one.C (spec_l1Cur_one.O N) N spec_l1Cur_one.c1 1 (st0 [.one (.ptr 0 0), .one (.int .i64 a1)] [(50, [.sl false 5 b0_0, .int .i64 b0_1, .int .u64 b0_2])] : St D0) spec_l1Cur_one.K0 = spec_l1Cur_one.g N a1 b0_0 b0_1 b0_2 := by
  exact (spec_l1Cur_one.o0.run N a1 b0_0 b0_1 b0_2).trans rfl
theorem spec_l1Cur_one.good (N : Nat) (a1 : Int) (b0_0 : List Int) (b0_1 : Int) (b0_2 : Int) (r : spec_l1Cur_one.R) (h : spec_l1Cur_one.g N a1 b0_0 b0_1 b0_2 = some r) : Go.PM.Good Go.Proofs.Try.prog T0 69 [.one (.ptr 0 0), .one (.int .i64 a1)] [(50, [.sl false 5 b0_0, .int .i64 b0_1, .int .u64 b0_2])] (spec_l1Cur_one.sig.ret r) (spec_l1Cur_one.sig.bs r) :=
  good_fn tabOk0 mixed0 spec_l1Cur_one.sig (spec_l1Cur_one.E N) Go.Proofs.Try.func69 (by kernel_rfl) (by kernel_rfl) 19 0 1 [] [(false, [.any])] (by kernel_rfl) rfl ((spec_l1Cur_one.g.run N a1 b0_0 b0_1 b0_2).trans h)
noncomputable def spec_l1Cur_one.ent (N : Nat) : Ent Go.Proofs.Try.prog T0 := mkEnt 69 [(false, [.any]), (false, [.any])] spec_l1Cur_one.sig (fun t => spec_l1Cur_one.g N t.2.1 t.2.2.1 t.2.2.2.1 t.2.2.2.2) (fun t r h => spec_l1Cur_one.good N t.2.1 t.2.2.1 t.2.2.2.1 t.2.2.2.2 r h)
end Go.Proofs.Ytpemffldaepbpaa.M

namespace Go.Proofs.Ytpemffldaepbpaa.M
open Go Go.PM Go.Proofs.Ytpemffldaepbpaa.P
set_option linter.unusedVariables false
set_option maxRecDepth 100000
/-! ### spec_l1Cur_hours -/
abbrev spec_l1Cur_hours.R : Type := Int × List Int × Int × Int
abbrev spec_l1Cur_hours.sig : Sig := ⟨[(false, 1)], [(50, 3)], [.ptr 0 0, .sl false 5, .int .i64, .int .u64], [(false, 1)], [(50, 3)], [.int .i64, .sl false 5, .int .i64, .int .u64]⟩
noncomputable def spec_l1Cur_hours.C : Cfg D0 := ⟨Go.Proofs.Try.prog, T0, 5, 0, 6, 1, []⟩
noncomputable def spec_l1Cur_hours.E (N : Nat) : List (Ent Go.Proofs.Try.prog T0) := [spec_l1Cur_among.ent N]
noncomputable def spec_l1Cur_hours.O (N : Nat) : Orc D0 spec_l1Cur_hours.R := orcOf (spec_l1Cur_hours.E N)
noncomputable def spec_l1Cur_hours.K0 : Ex → St D0 → Option spec_l1Cur_hours.R := exitK spec_l1Cur_hours.C Go.Proofs.Try.f65.results.toList [(false, [.any])] (decOut spec_l1Cur_hours.sig)
noncomputable def spec_l1Cur_hours.c1 : Code := codeAt (Go.Proofs.Try.f65.body.getD .skip) []
noncomputable def spec_l1Cur_hours.o0 (N : Nat) (b0_0 : List Int) (b0_1 : Int) (b0_2 : Int) : Option spec_l1Cur_hours.R :=
 (spec_l1Cur_among.g N ([12, 24, 10, 12, 24, 6, 2, 3, 5, 12, 1, 25, 0] : List Int) b0_0 b0_1 b0_2).bind fun r1 =>
 some (r1.1, r1.2.1, r1.2.2.1, r1.2.2.2)
theorem spec_l1Cur_hours.o0.run (N : Nat) (b0_0 : List Int) (b0_1 : Int) (b0_2 : Int) : runC spec_l1Cur_hours.C (spec_l1Cur_hours.O N) N spec_l1Cur_hours.c1 1 (st0 [.one (.ptr 0 0)] [(50, [.sl false 5 b0_0, .int .i64 b0_1, .int .u64 b0_2])] : St D0) spec_l1Cur_hours.K0 = spec_l1Cur_hours.o0 N b0_0 b0_1 b0_2 := by kernel_rfl
noncomputable def spec_l1Cur_hours.g (N : Nat) (b0_0 : List Int) (b0_1 : Int) (b0_2 : Int) : Option spec_l1Cur_hours.R := spec_l1Cur_hours.o0 N b0_0 b0_1 b0_2
theorem spec_l1Cur_hours.g.run (N : Nat) (b0_0 : List Int) (b0_1 : Int) (b0_2 : Int) : runC spec_l1Cur_hours.C (spec_l1Cur_hours.O N) N spec_l1Cur_hours.c1 1 (st0 [.one (.ptr 0 0)] [(50, [.sl false 5 b0_0, .int .i64 b0_1, .int .u64 b0_2])] : St D0) spec_l1Cur_hours.K0 = spec_l1Cur_hours.g N b0_0 b0_1 b0_2 := by
  exact (spec_l1Cur_hours.o0.run N b0_0 b0_1 b0_2).trans rfl
theorem spec_l1Cur_hours.good (N : Nat) (b0_0 : List Int) (b0_1 : Int) (b0_2 : Int) (r : spec_l1Cur_hours.R) (h : spec_l1Cur_hours.g N b0_0 b0_1 b0_2 = some r) : Go.PM.Good Go.Proofs.Try.prog T0 65 [.one (.ptr 0 0)] [(50, [.sl false 5 b0_0, .int .i64 b0_1, .int .u64 b0_2])] (spec_l1Cur_hours.sig.ret r) (spec_l1Cur_hours.sig.bs r) :=
  good_fn tabOk0 mixed0 spec_l1Cur_hours.sig (spec_l1Cur_hours.E N) Go.Proofs.Try.func65 (by kernel_rfl) (by kernel_rfl) 5 0 1 [] [(false, [.any])] (by kernel_rfl) rfl ((spec_l1Cur_hours.g.run N b0_0 b0_1 b0_2).trans h)
noncomputable def spec_l1Cur_hours.ent (N : Nat) : Ent Go.Proofs.Try.prog T0 := mkEnt 65 [(false, [.any])] spec_l1Cur_hours.sig (fun t => spec_l1Cur_hours.g N t.2.1 t.2.2.1 t.2.2.2) (fun t r h => spec_l1Cur_hours.good N t.2.1 t.2.2.1 t.2.2.2 r h)
end Go.Proofs.Ytpemffldaepbpaa.M

namespace Go.Proofs.Ytpemffldaepbpaa.M
open Go Go.PM Go.Proofs.Ytpemffldaepbpaa.P
set_option linter.unusedVariables false
set_option maxRecDepth 100000
/-! ### spec_l1Least -/
abbrev spec_l1Least.R : Type := Int
abbrev spec_l1Least.sig : Sig := ⟨[(false, 1), (false, 1)], [], [.int .i64, .int .i64], [(false, 1)], [], [.int .i64]⟩
noncomputable def spec_l1Least.C : Cfg D0 := ⟨Go.Proofs.Try.prog, T0, 147, 0, 10, 0, []⟩
noncomputable def spec_l1Least.E (N : Nat) : List (Ent Go.Proofs.Try.prog T0) := []
noncomputable def spec_l1Least.O (N : Nat) : Orc D0 spec_l1Least.R := orcOf (spec_l1Least.E N)
noncomputable def spec_l1Least.K0 : Ex → St D0 → Option spec_l1Least.R := exitK spec_l1Least.C Go.Proofs.Try.f54.results.toList [(false, [.any])] (decOut spec_l1Least.sig)
noncomputable def spec_l1Least.c1 : Code := codeAt (Go.Proofs.Try.f54.body.getD .skip) []
noncomputable def spec_l1Least.o0 (N : Nat) (a0 : Int) (a1 : Int) : Option spec_l1Least.R :=
 bif (decide (a0 < a1)) then
  some (a0)
 else
 some (a1)
theorem spec_l1Least.o0.run (N : Nat) (a0 : Int) (a1 : Int) : runC spec_l1Least.C (spec_l1Least.O N) N spec_l1Least.c1 1 (st0 [.one (.int .i64 a0), .one (.int .i64 a1)] [] : St D0) spec_l1Least.K0 = spec_l1Least.o0 N a0 a1 := by kernel_rfl
noncomputable def spec_l1Least.g (N : Nat) (a0 : Int) (a1 : Int) : Option spec_l1Least.R := spec_l1Least.o0 N a0 a1
theorem spec_l1Least.g.run (N : Nat) (a0 : Int) (a1 : Int) : runC spec_l1Least.C (spec_l1Least.O N) N spec_l1Least.c1 1 (st0 [.one (.int .i64 a0), .one (.int .i64 a1)] [] : St D0) spec_l1Least.K0 = spec_l1Least.g N a0 a1 := by
  exact (spec_l1Least.o0.run N a0 a1).trans rfl
theorem spec_l1Least.good (N : Nat) (a0 : Int) (a1 : Int) (r : spec_l1Least.R) (h : spec_l1Least.g N a0 a1 = some r) : Go.PM.Good Go.Proofs.Try.prog T0 54 [.one (.int .i64 a0), .one (.int .i64 a1)] [] (spec_l1Least.sig.ret r) (spec_l1Least.sig.bs r) :=
  good_fn tabOk0 mixed0 spec_l1Least.sig (spec_l1Least.E N) Go.Proofs.Try.func54 (by kernel_rfl) (by kernel_rfl) 147 0 0 [] [(false, [.any])] (by kernel_rfl) rfl ((spec_l1Least.g.run N a0 a1).trans h)
noncomputable def spec_l1Least.ent (N : Nat) : Ent Go.Proofs.Try.prog T0 := mkEnt 54 [(false, [.any]), (false, [.any])] spec_l1Least.sig (fun t => spec_l1Least.g N t.1 t.2) (fun t r h => spec_l1Least.good N t.1 t.2 r h)
end Go.Proofs.Ytpemffldaepbpaa.M

namespace Go.Proofs.Ytpemffldaepbpaa.M
open Go Go.PM Go.Proofs.Ytpemffldaepbpaa.P
set_option linter.unusedVariables false
set_option maxRecDepth 100000
/-! ### spec_l1Most -/
abbrev spec_l1Most.R : Type := Int
abbrev spec_l1Most.sig : Sig := ⟨[(false, 1), (false, 1)], [], [.int .i64, .int .i64], [(false, 1)], [], [.int .i64]⟩
noncomputable def spec_l1Most.C : Cfg D0 := ⟨Go.Proofs.Try.prog, T0, 147, 0, 10, 0, []⟩
noncomputable def spec_l1Most.E (N : Nat) : List (Ent Go.Proofs.Try.prog T0) := []
noncomputable def spec_l1Most.O (N : Nat) : Orc D0 spec_l1Most.R := orcOf (spec_l1Most.E N)
noncomputable def spec_l1Most.K0 : Ex → St D0 → Option spec_l1Most.R := exitK spec_l1Most.C Go.Proofs.Try.f55.results.toList [(false, [.any])] (decOut spec_l1Most.sig)
noncomputable def spec_l1Most.c1 : Code := codeAt (Go.Proofs.Try.f55.body.getD .skip) []
noncomputable def spec_l1Most.o0 (N : Nat) (a0 : Int) (a1 : Int) : Option spec_l1Most.R :=
 bif (decide (a0 > a1)) then
  some (a0)
 else
 some (a1)
theorem spec_l1Most.o0.run (N : Nat) (a0 : Int) (a1 : Int) : runC spec_l1Most.C (spec_l1Most.O N) N spec_l1Most.c1 1 (st0 [.one (.int .i64 a0), .one (.int .i64 a1)] [] : St D0) spec_l1Most.K0 = spec_l1Most.o0 N a0 a1 := by kernel_rfl
noncomputable def spec_l1Most.g (N : Nat) (a0 : Int) (a1 : Int) : Option spec_l1Most.R := spec_l1Most.o0 N a0 a1
theorem spec_l1Most.g.run (N : Nat) (a0 : Int) (a1 : Int) : runC spec_l1Most.C (spec_l1Most.O N) N spec_l1Most.c1 1 (st0 [.one (.int .i64 a0), .one (.int .i64 a1)] [] : St D0) spec_l1Most.K0 = spec_l1Most.g N a0 a1 := by
  exact (spec_l1Most.o0.run N a0 a1).trans rfl
theorem spec_l1Most.good (N : Nat) (a0 : Int) (a1 : Int) (r : spec_l1Most.R) (h : spec_l1Most.g N a0 a1 = some r) : Go.PM.Good Go.Proofs.Try.prog T0 55 [.one (.int .i64 a0), .one (.int .i64 a1)] [] (spec_l1Most.sig.ret r) (spec_l1Most.sig.bs r) :=
  good_fn tabOk0 mixed0 spec_l1Most.sig (spec_l1Most.E N) Go.Proofs.Try.func55 (by kernel_rfl) (by kernel_rfl) 147 0 0 [] [(false, [.any])] (by kernel_rfl) rfl ((spec_l1Most.g.run N a0 a1).trans h)
noncomputable def spec_l1Most.ent (N : Nat) : Ent Go.Proofs.Try.prog T0 := mkEnt 55 [(false, [.any]), (false, [.any])] spec_l1Most.sig (fun t => spec_l1Most.g N t.1 t.2) (fun t r h => spec_l1Most.good N t.1 t.2 r h)
end Go.Proofs.Ytpemffldaepbpaa.M

namespace Go.Proofs.Ytpemffldaepbpaa.M
open Go Go.PM Go.Proofs.Ytpemffldaepbpaa.P
set_option linter.unusedVariables false
set_option maxRecDepth 100000
/-! ### spec_stTurn -/
abbrev spec_stTurn.R : Type := Int
abbrev spec_stTurn.sig : Sig := ⟨[(false, 1)], [], [.int .i64], [(false, 1)], [], [.int .i64]⟩
noncomputable def spec_stTurn.C : Cfg D0 := ⟨Go.Proofs.Try.prog, T0, 5, 0, 10, 0, []⟩
noncomputable def spec_stTurn.E (N : Nat) : List (Ent Go.Proofs.Try.prog T0) := []
noncomputable def spec_stTurn.O (N : Nat) : Orc D0 spec_stTurn.R := orcOf (spec_stTurn.E N)
noncomputable def spec_stTurn.K0 : Ex → St D0 → Option spec_stTurn.R := exitK spec_stTurn.C Go.Proofs.Try.f72.results.toList [(false, [.any])] (decOut spec_stTurn.sig)
noncomputable def spec_stTurn.c1 : Code := codeAt (Go.Proofs.Try.f72.body.getD .skip) []
noncomputable def spec_stTurn.o0 (N : Nat) (a0 : Int) : Option spec_stTurn.R :=
 some ((w64 ((w64 (Int.tdiv (w64 (a0 * (w64 (a0 + 1)))) 2)) + a0)))
theorem spec_stTurn.o0.run (N : Nat) (a0 : Int) : runC spec_stTurn.C (spec_stTurn.O N) N spec_stTurn.c1 1 (st0 [.one (.int .i64 a0)] [] : St D0) spec_stTurn.K0 = spec_stTurn.o0 N a0 := by kernel_rfl
noncomputable def spec_stTurn.g (N : Nat) (a0 : Int) : Option spec_stTurn.R := spec_stTurn.o0 N a0
theorem spec_stTurn.g.run (N : Nat) (a0 : Int) : runC spec_stTurn.C (spec_stTurn.O N) N spec_stTurn.c1 1 (st0 [.one (.int .i64 a0)] [] : St D0) spec_stTurn.K0 = spec_stTurn.g N a0 := by
  exact (spec_stTurn.o0.run N a0).trans rfl
theorem spec_stTurn.good (N : Nat) (a0 : Int) (r : spec_stTurn.R) (h : spec_stTurn.g N a0 = some r) : Go.PM.Good Go.Proofs.Try.prog T0 72 [.one (.int .i64 a0)] [] (spec_stTurn.sig.ret r) (spec_stTurn.sig.bs r) :=
  good_fn tabOk0 mixed0 spec_stTurn.sig (spec_stTurn.E N) Go.Proofs.Try.func72 (by kernel_rfl) (by kernel_rfl) 5 0 0 [] [(false, [.any])] (by kernel_rfl) rfl ((spec_stTurn.g.run N a0).trans h)
noncomputable def spec_stTurn.ent (N : Nat) : Ent Go.Proofs.Try.prog T0 := mkEnt 72 [(false, [.any])] spec_stTurn.sig (fun t => spec_stTurn.g N t) (fun t r h => spec_stTurn.good N t r h)
end Go.Proofs.Ytpemffldaepbpaa.M

namespace Go.Proofs.Ytpemffldaepbpaa.M
open Go Go.PM Go.Proofs.Ytpemffldaepbpaa.P
set_option linter.unusedVariables false
set_option maxRecDepth 100000
/-! ### spec_stUpTo -/
abbrev spec_stUpTo.R : Type := Int
abbrev spec_stUpTo.sig : Sig := ⟨[(false, 1), (false, 1)], [], [.int .i64, .int .i64], [(false, 1)], [], [.int .i64]⟩
noncomputable def spec_stUpTo.C : Cfg D0 := ⟨Go.Proofs.Try.prog, T0, 524403, 0, 28, 0, [(58, [0, 1, 5, 6], [])]⟩
noncomputable def spec_stUpTo.E (N : Nat) : List (Ent Go.Proofs.Try.prog T0) := [spec_stTurn.ent N, spec_stAt.ent N]
noncomputable def spec_stUpTo.O (N : Nat) : Orc D0 spec_stUpTo.R := orcOf (spec_stUpTo.E N)
noncomputable def spec_stUpTo.K0 : Ex → St D0 → Option spec_stUpTo.R := exitK spec_stUpTo.C Go.Proofs.Try.f70.results.toList [(false, [.any])] (decOut spec_stUpTo.sig)
noncomputable def spec_stUpTo.c1 : Code := codeAt (Go.Proofs.Try.f70.body.getD .skip) []
noncomputable def spec_stUpTo.c2 : Code := codeAt (Go.Proofs.Try.f70.body.getD .skip) [false]
noncomputable def spec_stUpTo.c6 : Code := codeAt (Go.Proofs.Try.f70.body.getD .skip) [true, false]
noncomputable def spec_stUpTo.c15 : Code := codeAt (Go.Proofs.Try.f70.body.getD .skip) [true, true, true]
noncomputable def spec_stUpTo.c28 : Code := codeAt (Go.Proofs.Try.f70.body.getD .skip) [true, true, false, false]
noncomputable def spec_stUpTo.c116 : Code := codeAt (Go.Proofs.Try.f70.body.getD .skip) [true, true, false, true, false, false]
noncomputable def spec_stUpTo.K116 (N : Nat) (Kn58 : St D0 → Option spec_stUpTo.R) : Ex → St D0 → Option spec_stUpTo.R := (onN (fun s => spec_stUpTo.C.tidy 58 s ((onN Kn58 (blockK 0 (onN (fun s => spec_stUpTo.C.tidy 14 s (fun s' => runC spec_stUpTo.C (spec_stUpTo.O N) N spec_stUpTo.c15 15 s' spec_stUpTo.K0)) spec_stUpTo.K0))) .normal)) (onN Kn58 (blockK 0 (onN (fun s => spec_stUpTo.C.tidy 14 s (fun s' => runC spec_stUpTo.C (spec_stUpTo.O N) N spec_stUpTo.c15 15 s' spec_stUpTo.K0)) spec_stUpTo.K0))))
noncomputable def spec_stUpTo.o1 (N : Nat) (v0 : Int) (v1 : Int) (v2 : Int) (v3 : Int) (c1 : Int → Int → Int → Int → Option spec_stUpTo.R) : Option spec_stUpTo.R :=
 bif ((w64 (2 * v0)) == 0) then
  none
 else
 bif (decide (v3 < (Int.tmod v1 (w64 (2 * v0))))) then
  (spec_stAt.g N v0 v3).bind fun r1 =>
  c1 v0 v1 (w64 (v2 + r1)) (w64 (v3 + 1))
 else
 some (v2)
theorem spec_stUpTo.o1.run (N : Nat) (Kn58 : St D0 → Option spec_stUpTo.R) (v0 : Int) (v1 : Int) (v2 : Int) (v3 : Int) : runC spec_stUpTo.C (spec_stUpTo.O N) N spec_stUpTo.c116 116 (mkSt [(0, .one (.int .i64 v0)), (1, .one (.int .i64 v1)), (5, .one (.int .i64 v2)), (6, .one (.int .i64 v3))] [] : St D0) (onN (fun s => spec_stUpTo.C.tidy 58 s ((onN Kn58 (blockK 0 (onN (fun s => spec_stUpTo.C.tidy 14 s (fun s' => runC spec_stUpTo.C (spec_stUpTo.O N) N spec_stUpTo.c15 15 s' spec_stUpTo.K0)) spec_stUpTo.K0))) .normal)) (onN Kn58 (blockK 0 (onN (fun s => spec_stUpTo.C.tidy 14 s (fun s' => runC spec_stUpTo.C (spec_stUpTo.O N) N spec_stUpTo.c15 15 s' spec_stUpTo.K0)) spec_stUpTo.K0)))) = spec_stUpTo.o1 N v0 v1 v2 v3 ((fun w0 w1 w2 w3 => Kn58 (mkSt [(0, .one (.int .i64 w0)), (1, .one (.int .i64 w1)), (5, .one (.int .i64 w2)), (6, .one (.int .i64 w3))] [] : St D0))) := by kernel_rfl
noncomputable def spec_stUpTo.d1 (N : Nat) (v0 : Int) (v1 : Int) (v2 : Int) (v3 : Int) (c1 : Int → Int → Int → Int → Option spec_stUpTo.R) : Option spec_stUpTo.R := spec_stUpTo.o1 N v0 v1 v2 v3 c1
theorem spec_stUpTo.d1.run (N : Nat) (Kn58 : St D0 → Option spec_stUpTo.R) (v0 : Int) (v1 : Int) (v2 : Int) (v3 : Int) : runC spec_stUpTo.C (spec_stUpTo.O N) N spec_stUpTo.c116 116 (mkSt [(0, .one (.int .i64 v0)), (1, .one (.int .i64 v1)), (5, .one (.int .i64 v2)), (6, .one (.int .i64 v3))] [] : St D0) (spec_stUpTo.K116 N Kn58) = spec_stUpTo.d1 N v0 v1 v2 v3 ((fun w0 w1 w2 w3 => Kn58 (mkSt [(0, .one (.int .i64 w0)), (1, .one (.int .i64 w1)), (5, .one (.int .i64 w2)), (6, .one (.int .i64 w3))] [] : St D0))) := by
  exact (spec_stUpTo.o1.run N Kn58 v0 v1 v2 v3).trans rfl
noncomputable def spec_stUpTo.K58 (N : Nat) : Ex → St D0 → Option spec_stUpTo.R := (blockK 0 (onN (fun s => spec_stUpTo.C.tidy 14 s (fun s' => runC spec_stUpTo.C (spec_stUpTo.O N) N spec_stUpTo.c15 15 s' spec_stUpTo.K0)) spec_stUpTo.K0))
noncomputable def spec_stUpTo.l1 (N : Nat) : Nat → Int → Int → Int → Int → Option spec_stUpTo.R
  | 0, _, _, _, _ => none
  | n + 1, v0, v1, v2, v3 => spec_stUpTo.d1 N v0 v1 v2 v3 ((fun w0 w1 w2 w3 => spec_stUpTo.l1 N n w0 w1 w2 w3))
theorem spec_stUpTo.loop58 (N : Nat) : ∀ n, (∀ (v0 : Int) (v1 : Int) (v2 : Int) (v3 : Int), iter (loopF spec_stUpTo.C (spec_stUpTo.O N) N spec_stUpTo.c116 58) n (mkSt [(0, .one (.int .i64 v0)), (1, .one (.int .i64 v1)), (5, .one (.int .i64 v2)), (6, .one (.int .i64 v3))] [] : St D0) (spec_stUpTo.K58 N) = spec_stUpTo.l1 N n v0 v1 v2 v3)
  | 0 => (fun v0 v1 v2 v3 => rfl)
  | n + 1 => (fun v0 v1 v2 v3 => (spec_stUpTo.d1.run N (fun s => iter (loopF spec_stUpTo.C (spec_stUpTo.O N) N spec_stUpTo.c116 58) n s (spec_stUpTo.K58 N)) v0 v1 v2 v3).trans (show _ = spec_stUpTo.d1 N v0 v1 v2 v3 ((fun w0 w1 w2 w3 => spec_stUpTo.l1 N n w0 w1 w2 w3)) from (congr rfl (funext fun w0 => funext fun w1 => funext fun w2 => funext fun w3 => (spec_stUpTo.loop58 N n) w0 w1 w2 w3))))
noncomputable def spec_stUpTo.o0 (N : Nat) (a0 : Int) (a1 : Int) (c1 : Int → Int → Int → Int → Option spec_stUpTo.R) : Option spec_stUpTo.R :=
 bif ((w64 (2 * a0)) == 0) then
  none
 else
 (spec_stTurn.g N a0).bind fun r1 =>
 c1 a0 a1 (w64 ((w64 (Int.tdiv a1 (w64 (2 * a0)))) * r1)) 0
theorem spec_stUpTo.o0.run (N : Nat) (H116 : Code) (a0 : Int) (a1 : Int) : runC spec_stUpTo.C (spec_stUpTo.O N) N (.seq spec_stUpTo.c2 (.seq spec_stUpTo.c6 (.seq (.seq spec_stUpTo.c28 (.block 0 (.loop H116))) spec_stUpTo.c15))) 1 (st0 [.one (.int .i64 a0), .one (.int .i64 a1)] [] : St D0) spec_stUpTo.K0 = spec_stUpTo.o0 N a0 a1 ((fun w0 w1 w2 w3 => iter (loopF spec_stUpTo.C (spec_stUpTo.O N) N H116 58) N (mkSt [(0, .one (.int .i64 w0)), (1, .one (.int .i64 w1)), (5, .one (.int .i64 w2)), (6, .one (.int .i64 w3))] [] : St D0) (blockK 0 (onN (fun s => spec_stUpTo.C.tidy 14 s (fun s' => runC spec_stUpTo.C (spec_stUpTo.O N) N spec_stUpTo.c15 15 s' spec_stUpTo.K0)) spec_stUpTo.K0)))) := by kernel_rfl
noncomputable def spec_stUpTo.g (N : Nat) (a0 : Int) (a1 : Int) : Option spec_stUpTo.R := spec_stUpTo.o0 N a0 a1 ((fun w0 w1 w2 w3 => spec_stUpTo.l1 N N w0 w1 w2 w3))
theorem spec_stUpTo.c1_0 : spec_stUpTo.c1 = (.seq spec_stUpTo.c2 (.seq spec_stUpTo.c6 (.seq (.seq spec_stUpTo.c28 (.block 0 (.loop spec_stUpTo.c116))) spec_stUpTo.c15))) := by kernel_rfl
theorem spec_stUpTo.g.run (N : Nat) (a0 : Int) (a1 : Int) : runC spec_stUpTo.C (spec_stUpTo.O N) N spec_stUpTo.c1 1 (st0 [.one (.int .i64 a0), .one (.int .i64 a1)] [] : St D0) spec_stUpTo.K0 = spec_stUpTo.g N a0 a1 := by
  rw [spec_stUpTo.c1_0]; unfold spec_stUpTo.g; exact (spec_stUpTo.o0.run N spec_stUpTo.c116 a0 a1).trans (congr rfl (funext fun w0 => funext fun w1 => funext fun w2 => funext fun w3 => (spec_stUpTo.loop58 N N) w0 w1 w2 w3))
theorem spec_stUpTo.good (N : Nat) (a0 : Int) (a1 : Int) (r : spec_stUpTo.R) (h : spec_stUpTo.g N a0 a1 = some r) : Go.PM.Good Go.Proofs.Try.prog T0 70 [.one (.int .i64 a0), .one (.int .i64 a1)] [] (spec_stUpTo.sig.ret r) (spec_stUpTo.sig.bs r) :=
  good_fn tabOk0 mixed0 spec_stUpTo.sig (spec_stUpTo.E N) Go.Proofs.Try.func70 (by kernel_rfl) (by kernel_rfl) 524403 0 0 [(58, [0, 1, 5, 6], [])] [(false, [.any])] (by kernel_rfl) rfl ((spec_stUpTo.g.run N a0 a1).trans h)
noncomputable def spec_stUpTo.ent (N : Nat) : Ent Go.Proofs.Try.prog T0 := mkEnt 70 [(false, [.any]), (false, [.any])] spec_stUpTo.sig (fun t => spec_stUpTo.g N t.1 t.2) (fun t r h => spec_stUpTo.good N t.1 t.2 r h)
end Go.Proofs.Ytpemffldaepbpaa.M

namespace Go.Proofs.Ytpemffldaepbpaa.M
open Go Go.PM Go.Proofs.Ytpemffldaepbpaa.P
set_option linter.unusedVariables false
set_option maxRecDepth 100000
/-! ### spec_StrokesBetween -/
abbrev spec_StrokesBetween.R : Type := Int × Bool
abbrev spec_StrokesBetween.sig : Sig := ⟨[(false, 1), (false, 1), (false, 1)], [], [.int .i64, .int .i64, .int .i64], [(false, 1), (false, 1)], [], [.int .i64, .bool]⟩
noncomputable def spec_StrokesBetween.C : Cfg D0 := ⟨Go.Proofs.Try.prog, T0, 9437383, 0, 32, 0, [(12, [0, 1, 2, 20], [])]⟩
noncomputable def spec_StrokesBetween.E (N : Nat) : List (Ent Go.Proofs.Try.prog T0) := [spec_diHours.ent N, spec_l1In.ent N, spec_stUpTo.ent N]
noncomputable def spec_StrokesBetween.O (N : Nat) : Orc D0 spec_StrokesBetween.R := orcOf (spec_StrokesBetween.E N)
noncomputable def spec_StrokesBetween.K0 : Ex → St D0 → Option spec_StrokesBetween.R := exitK spec_StrokesBetween.C Go.Proofs.Try.f22.results.toList [(false, [.any]), (false, [.any])] (decOut spec_StrokesBetween.sig)
noncomputable def spec_StrokesBetween.c1 : Code := codeAt (Go.Proofs.Try.f22.body.getD .skip) []
noncomputable def spec_StrokesBetween.c2 : Code := codeAt (Go.Proofs.Try.f22.body.getD .skip) [false]
noncomputable def spec_StrokesBetween.c7 : Code := codeAt (Go.Proofs.Try.f22.body.getD .skip) [true, true]
noncomputable def spec_StrokesBetween.c12 : Code := codeAt (Go.Proofs.Try.f22.body.getD .skip) [true, false, false]
noncomputable def spec_StrokesBetween.c13 : Code := codeAt (Go.Proofs.Try.f22.body.getD .skip) [true, false, true]
noncomputable def spec_StrokesBetween.K13 (N : Nat) : Ex → St D0 → Option spec_StrokesBetween.R := (onN (fun s => spec_StrokesBetween.C.tidy 6 s (fun s' => runC spec_StrokesBetween.C (spec_StrokesBetween.O N) N spec_StrokesBetween.c7 7 s' spec_StrokesBetween.K0)) spec_StrokesBetween.K0)
noncomputable def spec_StrokesBetween.o1 (N : Nat) (v0 : Int) (v1 : Int) (v2 : Int) (v3 : Bool) : Option spec_StrokesBetween.R :=
 bif v3 then
  some (0, false)
 else
 bif (decide (v2 < v1)) then
  some (0, true)
 else
 (spec_stUpTo.g N v0 (w64 (v2 + 1))).bind fun r1 =>
 (spec_stUpTo.g N v0 v1).bind fun r2 =>
 some ((w64 (r1 - r2)), true)
theorem spec_StrokesBetween.o1.run (N : Nat) (v0 : Int) (v1 : Int) (v2 : Int) (v3 : Bool) : runC spec_StrokesBetween.C (spec_StrokesBetween.O N) N spec_StrokesBetween.c13 13 (mkSt [(0, .one (.int .i64 v0)), (1, .one (.int .i64 v1)), (2, .one (.int .i64 v2)), (20, .one (.bool v3))] [] : St D0) (onN (fun s => spec_StrokesBetween.C.tidy 6 s (fun s' => runC spec_StrokesBetween.C (spec_StrokesBetween.O N) N spec_StrokesBetween.c7 7 s' spec_StrokesBetween.K0)) spec_StrokesBetween.K0) = spec_StrokesBetween.o1 N v0 v1 v2 v3 := by kernel_rfl
noncomputable def spec_StrokesBetween.d1 (N : Nat) (v0 : Int) (v1 : Int) (v2 : Int) (v3 : Bool) : Option spec_StrokesBetween.R := spec_StrokesBetween.o1 N v0 v1 v2 v3
theorem spec_StrokesBetween.d1.run (N : Nat) (v0 : Int) (v1 : Int) (v2 : Int) (v3 : Bool) : runC spec_StrokesBetween.C (spec_StrokesBetween.O N) N spec_StrokesBetween.c13 13 (mkSt [(0, .one (.int .i64 v0)), (1, .one (.int .i64 v1)), (2, .one (.int .i64 v2)), (20, .one (.bool v3))] [] : St D0) (spec_StrokesBetween.K13 N) = spec_StrokesBetween.d1 N v0 v1 v2 v3 := by
  exact (spec_StrokesBetween.o1.run N v0 v1 v2 v3).trans rfl
noncomputable def spec_StrokesBetween.o0 (N : Nat) (a0 : Int) (a1 : Int) (a2 : Int) (c1 : Int → Int → Int → Bool → Option spec_StrokesBetween.R) : Option spec_StrokesBetween.R :=
 (spec_diHours.g N a0).bind fun r1 =>
 bif (!r1) then
  c1 a0 a1 a2 true
 else
 (spec_l1In.g N a1 0 1000000).bind fun r2 =>
 bif (!r2) then
  c1 a0 a1 a2 true
 else
 (spec_l1In.g N a2 0 1000000).bind fun r3 =>
 c1 a0 a1 a2 (!r3)
theorem spec_StrokesBetween.o0.run (N : Nat) (H13 : Code) (a0 : Int) (a1 : Int) (a2 : Int) : runC spec_StrokesBetween.C (spec_StrokesBetween.O N) N (.seq spec_StrokesBetween.c2 (.seq (.seq spec_StrokesBetween.c12 H13) spec_StrokesBetween.c7)) 1 (st0 [.one (.int .i64 a0), .one (.int .i64 a1), .one (.int .i64 a2)] [] : St D0) spec_StrokesBetween.K0 = spec_StrokesBetween.o0 N a0 a1 a2 ((fun w0 w1 w2 w3 => runC spec_StrokesBetween.C (spec_StrokesBetween.O N) N H13 13 (mkSt [(0, .one (.int .i64 w0)), (1, .one (.int .i64 w1)), (2, .one (.int .i64 w2)), (20, .one (.bool w3))] [] : St D0) (onN (fun s => spec_StrokesBetween.C.tidy 6 s (fun s' => runC spec_StrokesBetween.C (spec_StrokesBetween.O N) N spec_StrokesBetween.c7 7 s' spec_StrokesBetween.K0)) spec_StrokesBetween.K0))) := by kernel_rfl
noncomputable def spec_StrokesBetween.B6 (N : Nat) : St D0 → Option spec_StrokesBetween.R := fun s' => runC spec_StrokesBetween.C (spec_StrokesBetween.O N) N spec_StrokesBetween.c13 13 s' (spec_StrokesBetween.K13 N)
noncomputable def spec_StrokesBetween.g (N : Nat) (a0 : Int) (a1 : Int) (a2 : Int) : Option spec_StrokesBetween.R := spec_StrokesBetween.o0 N a0 a1 a2 ((fun w0 w1 w2 w3 => spec_StrokesBetween.d1 N w0 w1 w2 w3))
theorem spec_StrokesBetween.c1_0 : spec_StrokesBetween.c1 = (.seq spec_StrokesBetween.c2 (.seq (.seq spec_StrokesBetween.c12 spec_StrokesBetween.c13) spec_StrokesBetween.c7)) := by kernel_rfl
theorem spec_StrokesBetween.g.run (N : Nat) (a0 : Int) (a1 : Int) (a2 : Int) : runC spec_StrokesBetween.C (spec_StrokesBetween.O N) N spec_StrokesBetween.c1 1 (st0 [.one (.int .i64 a0), .one (.int .i64 a1), .one (.int .i64 a2)] [] : St D0) spec_StrokesBetween.K0 = spec_StrokesBetween.g N a0 a1 a2 := by
  rw [spec_StrokesBetween.c1_0]; unfold spec_StrokesBetween.g; exact (spec_StrokesBetween.o0.run N spec_StrokesBetween.c13 a0 a1 a2).trans (congr rfl (funext fun w0 => funext fun w1 => funext fun w2 => funext fun w3 => spec_StrokesBetween.d1.run N w0 w1 w2 w3))
theorem spec_StrokesBetween.good (N : Nat) (a0 : Int) (a1 : Int) (a2 : Int) (r : spec_StrokesBetween.R) (h : spec_StrokesBetween.g N a0 a1 a2 = some r) : Go.PM.Good Go.Proofs.Try.prog T0 22 [.one (.int .i64 a0), .one (.int .i64 a1), .one (.int .i64 a2)] [] (spec_StrokesBetween.sig.ret r) (spec_StrokesBetween.sig.bs r) :=
  good_fn tabOk0 mixed0 spec_StrokesBetween.sig (spec_StrokesBetween.E N) Go.Proofs.Try.func22 (by kernel_rfl) (by kernel_rfl) 9437383 0 0 [(12, [0, 1, 2, 20], [])] [(false, [.any]), (false, [.any])] (by kernel_rfl) rfl ((spec_StrokesBetween.g.run N a0 a1 a2).trans h)
noncomputable def spec_StrokesBetween.ent (N : Nat) : Ent Go.Proofs.Try.prog T0 := mkEnt 22 [(false, [.any]), (false, [.any]), (false, [.any])] spec_StrokesBetween.sig (fun t => spec_StrokesBetween.g N t.1 t.2.1 t.2.2) (fun t r h => spec_StrokesBetween.good N t.1 t.2.1 t.2.2 r h)
end Go.Proofs.Ytpemffldaepbpaa.M

namespace Go.Proofs.Ytpemffldaepbpaa.M
open Go Go.PM Go.Proofs.Ytpemffldaepbpaa.P
set_option linter.unusedVariables false
set_option maxRecDepth 100000
/-! ### impl_StrokesOfTurn -/
abbrev impl_StrokesOfTurn.R : Type := Int × Bool
abbrev impl_StrokesOfTurn.sig : Sig := ⟨[(false, 1)], [], [.int .i64], [(false, 1), (false, 1)], [], [.int .i64, .bool]⟩
noncomputable def impl_StrokesOfTurn.C : Cfg D0 := ⟨Go.Proofs.Try.prog, T0, 77, 0, 9, 0, []⟩
noncomputable def impl_StrokesOfTurn.E (N : Nat) : List (Ent Go.Proofs.Try.prog T0) := [impl_isDial.ent N, impl_ofTurn.ent N]
noncomputable def impl_StrokesOfTurn.O (N : Nat) : Orc D0 impl_StrokesOfTurn.R := orcOf (impl_StrokesOfTurn.E N)
noncomputable def impl_StrokesOfTurn.K0 : Ex → St D0 → Option impl_StrokesOfTurn.R := exitK impl_StrokesOfTurn.C Go.Proofs.Try.f23.results.toList [(false, [.any]), (false, [.any])] (decOut impl_StrokesOfTurn.sig)
noncomputable def impl_StrokesOfTurn.c1 : Code := codeAt (Go.Proofs.Try.f23.body.getD .skip) []
noncomputable def impl_StrokesOfTurn.o0 (N : Nat) (a0 : Int) : Option impl_StrokesOfTurn.R :=
 (impl_isDial.g N a0).bind fun r1 =>
 bif (!r1) then
  some (0, false)
 else
 (impl_ofTurn.g N a0).bind fun r2 =>
 some (r2, true)
theorem impl_StrokesOfTurn.o0.run (N : Nat) (a0 : Int) : runC impl_StrokesOfTurn.C (impl_StrokesOfTurn.O N) N impl_StrokesOfTurn.c1 1 (st0 [.one (.int .i64 a0)] [] : St D0) impl_StrokesOfTurn.K0 = impl_StrokesOfTurn.o0 N a0 := by kernel_rfl
noncomputable def impl_StrokesOfTurn.g (N : Nat) (a0 : Int) : Option impl_StrokesOfTurn.R := impl_StrokesOfTurn.o0 N a0
theorem impl_StrokesOfTurn.g.run (N : Nat) (a0 : Int) : runC impl_StrokesOfTurn.C (impl_StrokesOfTurn.O N) N impl_StrokesOfTurn.c1 1 (st0 [.one (.int .i64 a0)] [] : St D0) impl_StrokesOfTurn.K0 = impl_StrokesOfTurn.g N a0 := by
  exact (impl_StrokesOfTurn.o0.run N a0).trans rfl
theorem impl_StrokesOfTurn.good (N : Nat) (a0 : Int) (r : impl_StrokesOfTurn.R) (h : impl_StrokesOfTurn.g N a0 = some r) : Go.PM.Good Go.Proofs.Try.prog T0 23 [.one (.int .i64 a0)] [] (impl_StrokesOfTurn.sig.ret r) (impl_StrokesOfTurn.sig.bs r) :=
  good_fn tabOk0 mixed0 impl_StrokesOfTurn.sig (impl_StrokesOfTurn.E N) Go.Proofs.Try.func23 (by kernel_rfl) (by kernel_rfl) 77 0 0 [] [(false, [.any]), (false, [.any])] (by kernel_rfl) rfl ((impl_StrokesOfTurn.g.run N a0).trans h)
noncomputable def impl_StrokesOfTurn.ent (N : Nat) : Ent Go.Proofs.Try.prog T0 := mkEnt 23 [(false, [.any])] impl_StrokesOfTurn.sig (fun t => impl_StrokesOfTurn.g N t) (fun t r h => impl_StrokesOfTurn.good N t r h)
end Go.Proofs.Ytpemffldaepbpaa.M

namespace Go.Proofs.Ytpemffldaepbpaa.M
open Go Go.PM Go.Proofs.Ytpemffldaepbpaa.P
set_option linter.unusedVariables false
set_option maxRecDepth 100000
/-! ### spec_StrokesOfTurn -/
abbrev spec_StrokesOfTurn.R : Type := Int × Bool
abbrev spec_StrokesOfTurn.sig : Sig := ⟨[(false, 1)], [], [.int .i64], [(false, 1), (false, 1)], [], [.int .i64, .bool]⟩
noncomputable def spec_StrokesOfTurn.C : Cfg D0 := ⟨Go.Proofs.Try.prog, T0, 77, 0, 9, 0, []⟩
noncomputable def spec_StrokesOfTurn.E (N : Nat) : List (Ent Go.Proofs.Try.prog T0) := [spec_diHours.ent N, spec_stTurn.ent N]
noncomputable def spec_StrokesOfTurn.O (N : Nat) : Orc D0 spec_StrokesOfTurn.R := orcOf (spec_StrokesOfTurn.E N)
noncomputable def spec_StrokesOfTurn.K0 : Ex → St D0 → Option spec_StrokesOfTurn.R := exitK spec_StrokesOfTurn.C Go.Proofs.Try.f24.results.toList [(false, [.any]), (false, [.any])] (decOut spec_StrokesOfTurn.sig)
noncomputable def spec_StrokesOfTurn.c1 : Code := codeAt (Go.Proofs.Try.f24.body.getD .skip) []
noncomputable def spec_StrokesOfTurn.o0 (N : Nat) (a0 : Int) : Option spec_StrokesOfTurn.R :=
 (spec_diHours.g N a0).bind fun r1 =>
 bif (!r1) then
  some (0, false)
 else
 (spec_stTurn.g N a0).bind fun r2 =>
 some (r2, true)
theorem spec_StrokesOfTurn.o0.run (N : Nat) (a0 : Int) : runC spec_StrokesOfTurn.C (spec_StrokesOfTurn.O N) N spec_StrokesOfTurn.c1 1 (st0 [.one (.int .i64 a0)] [] : St D0) spec_StrokesOfTurn.K0 = spec_StrokesOfTurn.o0 N a0 := by kernel_rfl
noncomputable def spec_StrokesOfTurn.g (N : Nat) (a0 : Int) : Option spec_StrokesOfTurn.R := spec_StrokesOfTurn.o0 N a0
theorem spec_StrokesOfTurn.g.run (N : Nat) (a0 : Int) : runC spec_StrokesOfTurn.C (spec_StrokesOfTurn.O N) N spec_StrokesOfTurn.c1 1 (st0 [.one (.int .i64 a0)] [] : St D0) spec_StrokesOfTurn.K0 = spec_StrokesOfTurn.g N a0 := by
  exact (spec_StrokesOfTurn.o0.run N a0).trans rfl
theorem spec_StrokesOfTurn.good (N : Nat) (a0 : Int) (r : spec_StrokesOfTurn.R) (h : spec_StrokesOfTurn.g N a0 = some r) : Go.PM.Good Go.Proofs.Try.prog T0 24 [.one (.int .i64 a0)] [] (spec_StrokesOfTurn.sig.ret r) (spec_StrokesOfTurn.sig.bs r) :=
  good_fn tabOk0 mixed0 spec_StrokesOfTurn.sig (spec_StrokesOfTurn.E N) Go.Proofs.Try.func24 (by kernel_rfl) (by kernel_rfl) 77 0 0 [] [(false, [.any]), (false, [.any])] (by kernel_rfl) rfl ((spec_StrokesOfTurn.g.run N a0).trans h)
noncomputable def spec_StrokesOfTurn.ent (N : Nat) : Ent Go.Proofs.Try.prog T0 := mkEnt 24 [(false, [.any])] spec_StrokesOfTurn.sig (fun t => spec_StrokesOfTurn.g N t) (fun t r h => spec_StrokesOfTurn.good N t r h)
end Go.Proofs.Ytpemffldaepbpaa.M

namespace Go.Proofs.Ytpemffldaepbpaa.M
open Go Go.PM Go.Proofs.Ytpemffldaepbpaa.P
set_option linter.unusedVariables false
set_option maxRecDepth 100000
/-! ### slices_Equal_int_int -/
abbrev slices_Equal_int_int.R : Type := Bool
abbrev slices_Equal_int_int.sig : Sig := ⟨[(false, 1), (false, 1)], [], [.sl false 3, .sl false 3], [(false, 1)], [], [.bool]⟩
noncomputable def slices_Equal_int_int.C : Cfg D0 := ⟨Go.Proofs.Try.prog, T0, 16806963, 0, 26, 0, [(58, [0, 1, 12, 13], [])]⟩
noncomputable def slices_Equal_int_int.E (N : Nat) : List (Ent Go.Proofs.Try.prog T0) := []
noncomputable def slices_Equal_int_int.O (N : Nat) : Orc D0 slices_Equal_int_int.R := orcOf (slices_Equal_int_int.E N)
noncomputable def slices_Equal_int_int.K0 : Ex → St D0 → Option slices_Equal_int_int.R := exitK slices_Equal_int_int.C Go.Proofs.Try.f88.results.toList [(false, [.any])] (decOut slices_Equal_int_int.sig)
noncomputable def slices_Equal_int_int.c1 : Code := codeAt (Go.Proofs.Try.f88.body.getD .skip) []
noncomputable def slices_Equal_int_int.c2 : Code := codeAt (Go.Proofs.Try.f88.body.getD .skip) [false]
noncomputable def slices_Equal_int_int.c6 : Code := codeAt (Go.Proofs.Try.f88.body.getD .skip) [true, false]
noncomputable def slices_Equal_int_int.c15 : Code := codeAt (Go.Proofs.Try.f88.body.getD .skip) [true, true, true]
noncomputable def slices_Equal_int_int.c28 : Code := codeAt (Go.Proofs.Try.f88.body.getD .skip) [true, true, false, false]
noncomputable def slices_Equal_int_int.c116 : Code := codeAt (Go.Proofs.Try.f88.body.getD .skip) [true, true, false, true, false, false]
noncomputable def slices_Equal_int_int.K116 (N : Nat) (Kn58 : St D0 → Option slices_Equal_int_int.R) : Ex → St D0 → Option slices_Equal_int_int.R := (onN (fun s => slices_Equal_int_int.C.tidy 58 s ((onN Kn58 (blockK 0 (onN (fun s => slices_Equal_int_int.C.tidy 14 s (fun s' => runC slices_Equal_int_int.C (slices_Equal_int_int.O N) N slices_Equal_int_int.c15 15 s' slices_Equal_int_int.K0)) slices_Equal_int_int.K0))) .normal)) (onN Kn58 (blockK 0 (onN (fun s => slices_Equal_int_int.C.tidy 14 s (fun s' => runC slices_Equal_int_int.C (slices_Equal_int_int.O N) N slices_Equal_int_int.c15 15 s' slices_Equal_int_int.K0)) slices_Equal_int_int.K0))))
noncomputable def slices_Equal_int_int.o1 (N : Nat) (v0 : List Int) (v1 : List Int) (v2 : Int) (v3 : Int) (c1 : (List Int) → (List Int) → Int → Int → Option slices_Equal_int_int.R) : Option slices_Equal_int_int.R :=
 bif (decide (v3 < v2)) then
  bif (decide (0 ≤ v3)) then
   bif (decide (v3 < (v0.length : Int))) then
    (v0[(v3 : Int).toNat]?).bind fun x1 =>
    bif (decide (0 ≤ v3)) then
     bif (decide (v3 < (v1.length : Int))) then
      (v1[(v3 : Int).toNat]?).bind fun x2 =>
      bif (x1 != x2) then
       some (false)
      else
      c1 v0 v1 v2 (w64 (v3 + 1))
     else
     none
    else
    none
   else
   none
  else
  none
 else
 some (true)
theorem slices_Equal_int_int.o1.run (N : Nat) (Kn58 : St D0 → Option slices_Equal_int_int.R) (v0 : List Int) (v1 : List Int) (v2 : Int) (v3 : Int) : runC slices_Equal_int_int.C (slices_Equal_int_int.O N) N slices_Equal_int_int.c116 116 (mkSt [(0, .one (.sl false 3 v0)), (1, .one (.sl false 3 v1)), (12, .one (.int .i64 v2)), (13, .one (.int .i64 v3))] [] : St D0) (onN (fun s => slices_Equal_int_int.C.tidy 58 s ((onN Kn58 (blockK 0 (onN (fun s => slices_Equal_int_int.C.tidy 14 s (fun s' => runC slices_Equal_int_int.C (slices_Equal_int_int.O N) N slices_Equal_int_int.c15 15 s' slices_Equal_int_int.K0)) slices_Equal_int_int.K0))) .normal)) (onN Kn58 (blockK 0 (onN (fun s => slices_Equal_int_int.C.tidy 14 s (fun s' => runC slices_Equal_int_int.C (slices_Equal_int_int.O N) N slices_Equal_int_int.c15 15 s' slices_Equal_int_int.K0)) slices_Equal_int_int.K0)))) = slices_Equal_int_int.o1 N v0 v1 v2 v3 ((fun w0 w1 w2 w3 => Kn58 (mkSt [(0, .one (.sl false 3 w0)), (1, .one (.sl false 3 w1)), (12, .one (.int .i64 w2)), (13, .one (.int .i64 w3))] [] : St D0))) := by kernel_rfl
noncomputable def slices_Equal_int_int.d1 (N : Nat) (v0 : List Int) (v1 : List Int) (v2 : Int) (v3 : Int) (c1 : (List Int) → (List Int) → Int → Int → Option slices_Equal_int_int.R) : Option slices_Equal_int_int.R := slices_Equal_int_int.o1 N v0 v1 v2 v3 c1
theorem slices_Equal_int_int.d1.run (N : Nat) (Kn58 : St D0 → Option slices_Equal_int_int.R) (v0 : List Int) (v1 : List Int) (v2 : Int) (v3 : Int) : runC slices_Equal_int_int.C (slices_Equal_int_int.O N) N slices_Equal_int_int.c116 116 (mkSt [(0, .one (.sl false 3 v0)), (1, .one (.sl false 3 v1)), (12, .one (.int .i64 v2)), (13, .one (.int .i64 v3))] [] : St D0) (slices_Equal_int_int.K116 N Kn58) = slices_Equal_int_int.d1 N v0 v1 v2 v3 ((fun w0 w1 w2 w3 => Kn58 (mkSt [(0, .one (.sl false 3 w0)), (1, .one (.sl false 3 w1)), (12, .one (.int .i64 w2)), (13, .one (.int .i64 w3))] [] : St D0))) := by
  exact (slices_Equal_int_int.o1.run N Kn58 v0 v1 v2 v3).trans rfl
noncomputable def slices_Equal_int_int.K58 (N : Nat) : Ex → St D0 → Option slices_Equal_int_int.R := (blockK 0 (onN (fun s => slices_Equal_int_int.C.tidy 14 s (fun s' => runC slices_Equal_int_int.C (slices_Equal_int_int.O N) N slices_Equal_int_int.c15 15 s' slices_Equal_int_int.K0)) slices_Equal_int_int.K0))
noncomputable def slices_Equal_int_int.l1 (N : Nat) : Nat → (List Int) → (List Int) → Int → Int → Option slices_Equal_int_int.R
  | 0, _, _, _, _ => none
  | n + 1, v0, v1, v2, v3 => slices_Equal_int_int.d1 N v0 v1 v2 v3 ((fun w0 w1 w2 w3 => slices_Equal_int_int.l1 N n w0 w1 w2 w3))
theorem slices_Equal_int_int.loop58 (N : Nat) : ∀ n, (∀ (v0 : List Int) (v1 : List Int) (v2 : Int) (v3 : Int), iter (loopF slices_Equal_int_int.C (slices_Equal_int_int.O N) N slices_Equal_int_int.c116 58) n (mkSt [(0, .one (.sl false 3 v0)), (1, .one (.sl false 3 v1)), (12, .one (.int .i64 v2)), (13, .one (.int .i64 v3))] [] : St D0) (slices_Equal_int_int.K58 N) = slices_Equal_int_int.l1 N n v0 v1 v2 v3)
  | 0 => (fun v0 v1 v2 v3 => rfl)
  | n + 1 => (fun v0 v1 v2 v3 => (slices_Equal_int_int.d1.run N (fun s => iter (loopF slices_Equal_int_int.C (slices_Equal_int_int.O N) N slices_Equal_int_int.c116 58) n s (slices_Equal_int_int.K58 N)) v0 v1 v2 v3).trans (show _ = slices_Equal_int_int.d1 N v0 v1 v2 v3 ((fun w0 w1 w2 w3 => slices_Equal_int_int.l1 N n w0 w1 w2 w3)) from (congr rfl (funext fun w0 => funext fun w1 => funext fun w2 => funext fun w3 => (slices_Equal_int_int.loop58 N n) w0 w1 w2 w3))))
noncomputable def slices_Equal_int_int.o0 (N : Nat) (a0 : List Int) (a1 : List Int) (c1 : (List Int) → (List Int) → Int → Int → Option slices_Equal_int_int.R) : Option slices_Equal_int_int.R :=
 bif ((a0.length : Int) != (a1.length : Int)) then
  some (false)
 else
 c1 a0 a1 (a0.length : Int) 0
theorem slices_Equal_int_int.o0.run (N : Nat) (H116 : Code) (a0 : List Int) (a1 : List Int) : runC slices_Equal_int_int.C (slices_Equal_int_int.O N) N (.seq slices_Equal_int_int.c2 (.seq slices_Equal_int_int.c6 (.seq (.seq slices_Equal_int_int.c28 (.block 0 (.loop H116))) slices_Equal_int_int.c15))) 1 (st0 [.one (.sl false 3 a0), .one (.sl false 3 a1)] [] : St D0) slices_Equal_int_int.K0 = slices_Equal_int_int.o0 N a0 a1 ((fun w0 w1 w2 w3 => iter (loopF slices_Equal_int_int.C (slices_Equal_int_int.O N) N H116 58) N (mkSt [(0, .one (.sl false 3 w0)), (1, .one (.sl false 3 w1)), (12, .one (.int .i64 w2)), (13, .one (.int .i64 w3))] [] : St D0) (blockK 0 (onN (fun s => slices_Equal_int_int.C.tidy 14 s (fun s' => runC slices_Equal_int_int.C (slices_Equal_int_int.O N) N slices_Equal_int_int.c15 15 s' slices_Equal_int_int.K0)) slices_Equal_int_int.K0)))) := by kernel_rfl
noncomputable def slices_Equal_int_int.g (N : Nat) (a0 : List Int) (a1 : List Int) : Option slices_Equal_int_int.R := slices_Equal_int_int.o0 N a0 a1 ((fun w0 w1 w2 w3 => slices_Equal_int_int.l1 N N w0 w1 w2 w3))
theorem slices_Equal_int_int.c1_0 : slices_Equal_int_int.c1 = (.seq slices_Equal_int_int.c2 (.seq slices_Equal_int_int.c6 (.seq (.seq slices_Equal_int_int.c28 (.block 0 (.loop slices_Equal_int_int.c116))) slices_Equal_int_int.c15))) := by kernel_rfl
theorem slices_Equal_int_int.g.run (N : Nat) (a0 : List Int) (a1 : List Int) : runC slices_Equal_int_int.C (slices_Equal_int_int.O N) N slices_Equal_int_int.c1 1 (st0 [.one (.sl false 3 a0), .one (.sl false 3 a1)] [] : St D0) slices_Equal_int_int.K0 = slices_Equal_int_int.g N a0 a1 := by
  rw [slices_Equal_int_int.c1_0]; unfold slices_Equal_int_int.g; exact (slices_Equal_int_int.o0.run N slices_Equal_int_int.c116 a0 a1).trans (congr rfl (funext fun w0 => funext fun w1 => funext fun w2 => funext fun w3 => (slices_Equal_int_int.loop58 N N) w0 w1 w2 w3))
theorem slices_Equal_int_int.good (N : Nat) (a0 : List Int) (a1 : List Int) (r : slices_Equal_int_int.R) (h : slices_Equal_int_int.g N a0 a1 = some r) : Go.PM.Good Go.Proofs.Try.prog T0 88 [.one (.sl false 3 a0), .one (.sl false 3 a1)] [] (slices_Equal_int_int.sig.ret r) (slices_Equal_int_int.sig.bs r) :=
  good_fn tabOk0 mixed0 slices_Equal_int_int.sig (slices_Equal_int_int.E N) Go.Proofs.Try.func88 (by kernel_rfl) (by kernel_rfl) 16806963 0 0 [(58, [0, 1, 12, 13], [])] [(false, [.any])] (by kernel_rfl) rfl ((slices_Equal_int_int.g.run N a0 a1).trans h)
noncomputable def slices_Equal_int_int.ent (N : Nat) : Ent Go.Proofs.Try.prog T0 := mkEnt 88 [(false, [.ro 3]), (false, [.ro 3])] slices_Equal_int_int.sig (fun t => slices_Equal_int_int.g N t.1 t.2) (fun t r h => slices_Equal_int_int.good N t.1 t.2 r h)
end Go.Proofs.Ytpemffldaepbpaa.M

namespace Go.Proofs.Ytpemffldaepbpaa.M
open Go Go.PM Go.Proofs.Ytpemffldaepbpaa.P
set_option linter.unusedVariables false
set_option maxRecDepth 100000
/-! ### impl_halvesOf -/
abbrev impl_halvesOf.R : Type := List Int
abbrev impl_halvesOf.sig : Sig := ⟨[(false, 1), (false, 1)], [], [.int .i64, .sl false 3], [(false, 1)], [], [.sl true 3]⟩
noncomputable def impl_halvesOf.C : Cfg D0 := ⟨Go.Proofs.Try.prog, T0, 527987, 0, 26, 0, [(58, [0, 1, 5, 9, 10], [])]⟩
noncomputable def impl_halvesOf.E (N : Nat) : List (Ent Go.Proofs.Try.prog T0) := [impl_heardFrom.ent N, slices_Equal_int_int.ent N]
noncomputable def impl_halvesOf.O (N : Nat) : Orc D0 impl_halvesOf.R := orcOf (impl_halvesOf.E N)
noncomputable def impl_halvesOf.K0 : Ex → St D0 → Option impl_halvesOf.R := exitK impl_halvesOf.C Go.Proofs.Try.f73.results.toList [(false, [.own 3])] (decOut impl_halvesOf.sig)
noncomputable def impl_halvesOf.c1 : Code := codeAt (Go.Proofs.Try.f73.body.getD .skip) []
noncomputable def impl_halvesOf.c2 : Code := codeAt (Go.Proofs.Try.f73.body.getD .skip) [false]
noncomputable def impl_halvesOf.c6 : Code := codeAt (Go.Proofs.Try.f73.body.getD .skip) [true, false]
noncomputable def impl_halvesOf.c15 : Code := codeAt (Go.Proofs.Try.f73.body.getD .skip) [true, true, true]
noncomputable def impl_halvesOf.c28 : Code := codeAt (Go.Proofs.Try.f73.body.getD .skip) [true, true, false, false]
noncomputable def impl_halvesOf.c116 : Code := codeAt (Go.Proofs.Try.f73.body.getD .skip) [true, true, false, true, false, false]
noncomputable def impl_halvesOf.K116 (N : Nat) (Kn58 : St D0 → Option impl_halvesOf.R) : Ex → St D0 → Option impl_halvesOf.R := (onN (fun s => impl_halvesOf.C.tidy 58 s ((onN Kn58 (blockK 0 (onN (fun s => impl_halvesOf.C.tidy 14 s (fun s' => runC impl_halvesOf.C (impl_halvesOf.O N) N impl_halvesOf.c15 15 s' impl_halvesOf.K0)) impl_halvesOf.K0))) .normal)) (onN Kn58 (blockK 0 (onN (fun s => impl_halvesOf.C.tidy 14 s (fun s' => runC impl_halvesOf.C (impl_halvesOf.O N) N impl_halvesOf.c15 15 s' impl_halvesOf.K0)) impl_halvesOf.K0))))
noncomputable def impl_halvesOf.o1 (N : Nat) (v0 : Int) (v1 : List Int) (v2 : List Int) (v3 : Int) (v4 : Int) (c1 : Int → (List Int) → (List Int) → Int → Int → Option impl_halvesOf.R) : Option impl_halvesOf.R :=
 bif (decide (v4 < v3)) then
  (impl_heardFrom.g N v0 v4 (v1.length : Int)).bind fun r1 =>
  (slices_Equal_int_int.g N r1 v1).bind fun r2 =>
  bif r2 then
   bif (Nat.blt (v2.length + ([v4] : List Int).length) 17592186044416) then
    c1 v0 v1 (v2 ++ ([v4] : List Int)) v3 (w64 (v4 + 1))
   else
   none
  else
  c1 v0 v1 v2 v3 (w64 (v4 + 1))
 else
 some (v2)
theorem impl_halvesOf.o1.run (N : Nat) (Kn58 : St D0 → Option impl_halvesOf.R) (v0 : Int) (v1 : List Int) (v2 : List Int) (v3 : Int) (v4 : Int) : runC impl_halvesOf.C (impl_halvesOf.O N) N impl_halvesOf.c116 116 (mkSt [(0, .one (.int .i64 v0)), (1, .one (.sl false 3 v1)), (5, .one (.sl true 3 v2)), (9, .one (.int .i64 v3)), (10, .one (.int .i64 v4))] [] : St D0) (onN (fun s => impl_halvesOf.C.tidy 58 s ((onN Kn58 (blockK 0 (onN (fun s => impl_halvesOf.C.tidy 14 s (fun s' => runC impl_halvesOf.C (impl_halvesOf.O N) N impl_halvesOf.c15 15 s' impl_halvesOf.K0)) impl_halvesOf.K0))) .normal)) (onN Kn58 (blockK 0 (onN (fun s => impl_halvesOf.C.tidy 14 s (fun s' => runC impl_halvesOf.C (impl_halvesOf.O N) N impl_halvesOf.c15 15 s' impl_halvesOf.K0)) impl_halvesOf.K0)))) = impl_halvesOf.o1 N v0 v1 v2 v3 v4 ((fun w0 w1 w2 w3 w4 => Kn58 (mkSt [(0, .one (.int .i64 w0)), (1, .one (.sl false 3 w1)), (5, .one (.sl true 3 w2)), (9, .one (.int .i64 w3)), (10, .one (.int .i64 w4))] [] : St D0))) := by kernel_rfl
noncomputable def impl_halvesOf.d1 (N : Nat) (v0 : Int) (v1 : List Int) (v2 : List Int) (v3 : Int) (v4 : Int) (c1 : Int → (List Int) → (List Int) → Int → Int → Option impl_halvesOf.R) : Option impl_halvesOf.R := impl_halvesOf.o1 N v0 v1 v2 v3 v4 c1
theorem impl_halvesOf.d1.run (N : Nat) (Kn58 : St D0 → Option impl_halvesOf.R) (v0 : Int) (v1 : List Int) (v2 : List Int) (v3 : Int) (v4 : Int) : runC impl_halvesOf.C (impl_halvesOf.O N) N impl_halvesOf.c116 116 (mkSt [(0, .one (.int .i64 v0)), (1, .one (.sl false 3 v1)), (5, .one (.sl true 3 v2)), (9, .one (.int .i64 v3)), (10, .one (.int .i64 v4))] [] : St D0) (impl_halvesOf.K116 N Kn58) = impl_halvesOf.d1 N v0 v1 v2 v3 v4 ((fun w0 w1 w2 w3 w4 => Kn58 (mkSt [(0, .one (.int .i64 w0)), (1, .one (.sl false 3 w1)), (5, .one (.sl true 3 w2)), (9, .one (.int .i64 w3)), (10, .one (.int .i64 w4))] [] : St D0))) := by
  exact (impl_halvesOf.o1.run N Kn58 v0 v1 v2 v3 v4).trans rfl
noncomputable def impl_halvesOf.K58 (N : Nat) : Ex → St D0 → Option impl_halvesOf.R := (blockK 0 (onN (fun s => impl_halvesOf.C.tidy 14 s (fun s' => runC impl_halvesOf.C (impl_halvesOf.O N) N impl_halvesOf.c15 15 s' impl_halvesOf.K0)) impl_halvesOf.K0))
noncomputable def impl_halvesOf.l1 (N : Nat) : Nat → Int → (List Int) → (List Int) → Int → Int → Option impl_halvesOf.R
  | 0, _, _, _, _, _ => none
  | n + 1, v0, v1, v2, v3, v4 => impl_halvesOf.d1 N v0 v1 v2 v3 v4 ((fun w0 w1 w2 w3 w4 => impl_halvesOf.l1 N n w0 w1 w2 w3 w4))
theorem impl_halvesOf.loop58 (N : Nat) : ∀ n, (∀ (v0 : Int) (v1 : List Int) (v2 : List Int) (v3 : Int) (v4 : Int), iter (loopF impl_halvesOf.C (impl_halvesOf.O N) N impl_halvesOf.c116 58) n (mkSt [(0, .one (.int .i64 v0)), (1, .one (.sl false 3 v1)), (5, .one (.sl true 3 v2)), (9, .one (.int .i64 v3)), (10, .one (.int .i64 v4))] [] : St D0) (impl_halvesOf.K58 N) = impl_halvesOf.l1 N n v0 v1 v2 v3 v4)
  | 0 => (fun v0 v1 v2 v3 v4 => rfl)
  | n + 1 => (fun v0 v1 v2 v3 v4 => (impl_halvesOf.d1.run N (fun s => iter (loopF impl_halvesOf.C (impl_halvesOf.O N) N impl_halvesOf.c116 58) n s (impl_halvesOf.K58 N)) v0 v1 v2 v3 v4).trans (show _ = impl_halvesOf.d1 N v0 v1 v2 v3 v4 ((fun w0 w1 w2 w3 w4 => impl_halvesOf.l1 N n w0 w1 w2 w3 w4)) from (congr rfl (funext fun w0 => funext fun w1 => funext fun w2 => funext fun w3 => funext fun w4 => (impl_halvesOf.loop58 N n) w0 w1 w2 w3 w4))))
noncomputable def impl_halvesOf.o0 (N : Nat) (a0 : Int) (a1 : List Int) (c1 : Int → (List Int) → (List Int) → Int → Int → Option impl_halvesOf.R) : Option impl_halvesOf.R :=
 c1 a0 a1 ([] : List Int) (w64 (2 * a0)) 0
theorem impl_halvesOf.o0.run (N : Nat) (H116 : Code) (a0 : Int) (a1 : List Int) : runC impl_halvesOf.C (impl_halvesOf.O N) N (.seq impl_halvesOf.c2 (.seq impl_halvesOf.c6 (.seq (.seq impl_halvesOf.c28 (.block 0 (.loop H116))) impl_halvesOf.c15))) 1 (st0 [.one (.int .i64 a0), .one (.sl false 3 a1)] [] : St D0) impl_halvesOf.K0 = impl_halvesOf.o0 N a0 a1 ((fun w0 w1 w2 w3 w4 => iter (loopF impl_halvesOf.C (impl_halvesOf.O N) N H116 58) N (mkSt [(0, .one (.int .i64 w0)), (1, .one (.sl false 3 w1)), (5, .one (.sl true 3 w2)), (9, .one (.int .i64 w3)), (10, .one (.int .i64 w4))] [] : St D0) (blockK 0 (onN (fun s => impl_halvesOf.C.tidy 14 s (fun s' => runC impl_halvesOf.C (impl_halvesOf.O N) N impl_halvesOf.c15 15 s' impl_halvesOf.K0)) impl_halvesOf.K0)))) := by kernel_rfl
noncomputable def impl_halvesOf.g (N : Nat) (a0 : Int) (a1 : List Int) : Option impl_halvesOf.R := impl_halvesOf.o0 N a0 a1 ((fun w0 w1 w2 w3 w4 => impl_halvesOf.l1 N N w0 w1 w2 w3 w4))
theorem impl_halvesOf.c1_0 : impl_halvesOf.c1 = (.seq impl_halvesOf.c2 (.seq impl_halvesOf.c6 (.seq (.seq impl_halvesOf.c28 (.block 0 (.loop impl_halvesOf.c116))) impl_halvesOf.c15))) := by kernel_rfl
theorem impl_halvesOf.g.run (N : Nat) (a0 : Int) (a1 : List Int) : runC impl_halvesOf.C (impl_halvesOf.O N) N impl_halvesOf.c1 1 (st0 [.one (.int .i64 a0), .one (.sl false 3 a1)] [] : St D0) impl_halvesOf.K0 = impl_halvesOf.g N a0 a1 := by
  rw [impl_halvesOf.c1_0]; unfold impl_halvesOf.g; exact (impl_halvesOf.o0.run N impl_halvesOf.c116 a0 a1).trans (congr rfl (funext fun w0 => funext fun w1 => funext fun w2 => funext fun w3 => funext fun w4 => (impl_halvesOf.loop58 N N) w0 w1 w2 w3 w4))
theorem impl_halvesOf.good (N : Nat) (a0 : Int) (a1 : List Int) (r : impl_halvesOf.R) (h : impl_halvesOf.g N a0 a1 = some r) : Go.PM.Good Go.Proofs.Try.prog T0 73 [.one (.int .i64 a0), .one (.sl false 3 a1)] [] (impl_halvesOf.sig.ret r) (impl_halvesOf.sig.bs r) :=
  good_fn tabOk0 mixed0 impl_halvesOf.sig (impl_halvesOf.E N) Go.Proofs.Try.func73 (by kernel_rfl) (by kernel_rfl) 527987 0 0 [(58, [0, 1, 5, 9, 10], [])] [(false, [.own 3])] (by kernel_rfl) rfl ((impl_halvesOf.g.run N a0 a1).trans h)
noncomputable def impl_halvesOf.ent (N : Nat) : Ent Go.Proofs.Try.prog T0 := mkEnt 73 [(false, [.any]), (false, [.ro 3])] impl_halvesOf.sig (fun t => impl_halvesOf.g N t.1 t.2) (fun t r h => impl_halvesOf.good N t.1 t.2 r h)
end Go.Proofs.Ytpemffldaepbpaa.M

namespace Go.Proofs.Ytpemffldaepbpaa.M
open Go Go.PM Go.Proofs.Ytpemffldaepbpaa.P
set_option linter.unusedVariables false
set_option maxRecDepth 100000
/-! ### impl_CountHeardOnce -/
abbrev impl_CountHeardOnce.R : Type := Int × Bool
abbrev impl_CountHeardOnce.sig : Sig := ⟨[(false, 1)], [], [.int .i64], [(false, 1), (false, 1)], [], [.int .i64, .bool]⟩
noncomputable def impl_CountHeardOnce.C : Cfg D0 := ⟨Go.Proofs.Try.prog, T0, 1056061, 0, 25, 0, [(122, [0, 4, 10, 11], [])]⟩
noncomputable def impl_CountHeardOnce.E (N : Nat) : List (Ent Go.Proofs.Try.prog T0) := [impl_isDial.ent N, impl_heardFrom.ent N, impl_halvesOf.ent N]
noncomputable def impl_CountHeardOnce.O (N : Nat) : Orc D0 impl_CountHeardOnce.R := orcOf (impl_CountHeardOnce.E N)
noncomputable def impl_CountHeardOnce.K0 : Ex → St D0 → Option impl_CountHeardOnce.R := exitK impl_CountHeardOnce.C Go.Proofs.Try.f25.results.toList [(false, [.any]), (false, [.any])] (decOut impl_CountHeardOnce.sig)
noncomputable def impl_CountHeardOnce.c1 : Code := codeAt (Go.Proofs.Try.f25.body.getD .skip) []
noncomputable def impl_CountHeardOnce.c2 : Code := codeAt (Go.Proofs.Try.f25.body.getD .skip) [false]
noncomputable def impl_CountHeardOnce.c6 : Code := codeAt (Go.Proofs.Try.f25.body.getD .skip) [true, false]
noncomputable def impl_CountHeardOnce.c14 : Code := codeAt (Go.Proofs.Try.f25.body.getD .skip) [true, true, false]
noncomputable def impl_CountHeardOnce.c31 : Code := codeAt (Go.Proofs.Try.f25.body.getD .skip) [true, true, true, true]
noncomputable def impl_CountHeardOnce.c60 : Code := codeAt (Go.Proofs.Try.f25.body.getD .skip) [true, true, true, false, false]
noncomputable def impl_CountHeardOnce.c244 : Code := codeAt (Go.Proofs.Try.f25.body.getD .skip) [true, true, true, false, true, false, false]
noncomputable def impl_CountHeardOnce.K244 (N : Nat) (Kn122 : St D0 → Option impl_CountHeardOnce.R) : Ex → St D0 → Option impl_CountHeardOnce.R := (onN (fun s => impl_CountHeardOnce.C.tidy 122 s ((onN Kn122 (blockK 0 (onN (fun s => impl_CountHeardOnce.C.tidy 30 s (fun s' => runC impl_CountHeardOnce.C (impl_CountHeardOnce.O N) N impl_CountHeardOnce.c31 31 s' impl_CountHeardOnce.K0)) impl_CountHeardOnce.K0))) .normal)) (onN Kn122 (blockK 0 (onN (fun s => impl_CountHeardOnce.C.tidy 30 s (fun s' => runC impl_CountHeardOnce.C (impl_CountHeardOnce.O N) N impl_CountHeardOnce.c31 31 s' impl_CountHeardOnce.K0)) impl_CountHeardOnce.K0))))
noncomputable def impl_CountHeardOnce.o1 (N : Nat) (v0 : Int) (v1 : Int) (v2 : Int) (v3 : Int) (c1 : Int → Int → Int → Int → Option impl_CountHeardOnce.R) : Option impl_CountHeardOnce.R :=
 bif (decide (v3 < v2)) then
  (impl_heardFrom.g N v0 v3 1).bind fun r1 =>
  (impl_halvesOf.g N v0 r1).bind fun r2 =>
  bif ((r2.length : Int) == 1) then
   c1 v0 (w64 (v1 + 1)) v2 (w64 (v3 + 1))
  else
  c1 v0 v1 v2 (w64 (v3 + 1))
 else
 some (v1, true)
theorem impl_CountHeardOnce.o1.run (N : Nat) (Kn122 : St D0 → Option impl_CountHeardOnce.R) (v0 : Int) (v1 : Int) (v2 : Int) (v3 : Int) : runC impl_CountHeardOnce.C (impl_CountHeardOnce.O N) N impl_CountHeardOnce.c244 244 (mkSt [(0, .one (.int .i64 v0)), (4, .one (.int .i64 v1)), (10, .one (.int .i64 v2)), (11, .one (.int .i64 v3))] [] : St D0) (onN (fun s => impl_CountHeardOnce.C.tidy 122 s ((onN Kn122 (blockK 0 (onN (fun s => impl_CountHeardOnce.C.tidy 30 s (fun s' => runC impl_CountHeardOnce.C (impl_CountHeardOnce.O N) N impl_CountHeardOnce.c31 31 s' impl_CountHeardOnce.K0)) impl_CountHeardOnce.K0))) .normal)) (onN Kn122 (blockK 0 (onN (fun s => impl_CountHeardOnce.C.tidy 30 s (fun s' => runC impl_CountHeardOnce.C (impl_CountHeardOnce.O N) N impl_CountHeardOnce.c31 31 s' impl_CountHeardOnce.K0)) impl_CountHeardOnce.K0)))) = impl_CountHeardOnce.o1 N v0 v1 v2 v3 ((fun w0 w1 w2 w3 => Kn122 (mkSt [(0, .one (.int .i64 w0)), (4, .one (.int .i64 w1)), (10, .one (.int .i64 w2)), (11, .one (.int .i64 w3))] [] : St D0))) := by kernel_rfl
noncomputable def impl_CountHeardOnce.d1 (N : Nat) (v0 : Int) (v1 : Int) (v2 : Int) (v3 : Int) (c1 : Int → Int → Int → Int → Option impl_CountHeardOnce.R) : Option impl_CountHeardOnce.R := impl_CountHeardOnce.o1 N v0 v1 v2 v3 c1
theorem impl_CountHeardOnce.d1.run (N : Nat) (Kn122 : St D0 → Option impl_CountHeardOnce.R) (v0 : Int) (v1 : Int) (v2 : Int) (v3 : Int) : runC impl_CountHeardOnce.C (impl_CountHeardOnce.O N) N impl_CountHeardOnce.c244 244 (mkSt [(0, .one (.int .i64 v0)), (4, .one (.int .i64 v1)), (10, .one (.int .i64 v2)), (11, .one (.int .i64 v3))] [] : St D0) (impl_CountHeardOnce.K244 N Kn122) = impl_CountHeardOnce.d1 N v0 v1 v2 v3 ((fun w0 w1 w2 w3 => Kn122 (mkSt [(0, .one (.int .i64 w0)), (4, .one (.int .i64 w1)), (10, .one (.int .i64 w2)), (11, .one (.int .i64 w3))] [] : St D0))) := by
  exact (impl_CountHeardOnce.o1.run N Kn122 v0 v1 v2 v3).trans rfl
noncomputable def impl_CountHeardOnce.K122 (N : Nat) : Ex → St D0 → Option impl_CountHeardOnce.R := (blockK 0 (onN (fun s => impl_CountHeardOnce.C.tidy 30 s (fun s' => runC impl_CountHeardOnce.C (impl_CountHeardOnce.O N) N impl_CountHeardOnce.c31 31 s' impl_CountHeardOnce.K0)) impl_CountHeardOnce.K0))
noncomputable def impl_CountHeardOnce.l1 (N : Nat) : Nat → Int → Int → Int → Int → Option impl_CountHeardOnce.R
  | 0, _, _, _, _ => none
  | n + 1, v0, v1, v2, v3 => impl_CountHeardOnce.d1 N v0 v1 v2 v3 ((fun w0 w1 w2 w3 => impl_CountHeardOnce.l1 N n w0 w1 w2 w3))
theorem impl_CountHeardOnce.loop122 (N : Nat) : ∀ n, (∀ (v0 : Int) (v1 : Int) (v2 : Int) (v3 : Int), iter (loopF impl_CountHeardOnce.C (impl_CountHeardOnce.O N) N impl_CountHeardOnce.c244 122) n (mkSt [(0, .one (.int .i64 v0)), (4, .one (.int .i64 v1)), (10, .one (.int .i64 v2)), (11, .one (.int .i64 v3))] [] : St D0) (impl_CountHeardOnce.K122 N) = impl_CountHeardOnce.l1 N n v0 v1 v2 v3)
  | 0 => (fun v0 v1 v2 v3 => rfl)
  | n + 1 => (fun v0 v1 v2 v3 => (impl_CountHeardOnce.d1.run N (fun s => iter (loopF impl_CountHeardOnce.C (impl_CountHeardOnce.O N) N impl_CountHeardOnce.c244 122) n s (impl_CountHeardOnce.K122 N)) v0 v1 v2 v3).trans (show _ = impl_CountHeardOnce.d1 N v0 v1 v2 v3 ((fun w0 w1 w2 w3 => impl_CountHeardOnce.l1 N n w0 w1 w2 w3)) from (congr rfl (funext fun w0 => funext fun w1 => funext fun w2 => funext fun w3 => (impl_CountHeardOnce.loop122 N n) w0 w1 w2 w3))))
noncomputable def impl_CountHeardOnce.o0 (N : Nat) (a0 : Int) (c1 : Int → Int → Int → Int → Option impl_CountHeardOnce.R) : Option impl_CountHeardOnce.R :=
 (impl_isDial.g N a0).bind fun r1 =>
 bif (!r1) then
  some (0, false)
 else
 c1 a0 0 (w64 (2 * a0)) 0
theorem impl_CountHeardOnce.o0.run (N : Nat) (H244 : Code) (a0 : Int) : runC impl_CountHeardOnce.C (impl_CountHeardOnce.O N) N (.seq impl_CountHeardOnce.c2 (.seq impl_CountHeardOnce.c6 (.seq impl_CountHeardOnce.c14 (.seq (.seq impl_CountHeardOnce.c60 (.block 0 (.loop H244))) impl_CountHeardOnce.c31)))) 1 (st0 [.one (.int .i64 a0)] [] : St D0) impl_CountHeardOnce.K0 = impl_CountHeardOnce.o0 N a0 ((fun w0 w1 w2 w3 => iter (loopF impl_CountHeardOnce.C (impl_CountHeardOnce.O N) N H244 122) N (mkSt [(0, .one (.int .i64 w0)), (4, .one (.int .i64 w1)), (10, .one (.int .i64 w2)), (11, .one (.int .i64 w3))] [] : St D0) (blockK 0 (onN (fun s => impl_CountHeardOnce.C.tidy 30 s (fun s' => runC impl_CountHeardOnce.C (impl_CountHeardOnce.O N) N impl_CountHeardOnce.c31 31 s' impl_CountHeardOnce.K0)) impl_CountHeardOnce.K0)))) := by kernel_rfl
noncomputable def impl_CountHeardOnce.g (N : Nat) (a0 : Int) : Option impl_CountHeardOnce.R := impl_CountHeardOnce.o0 N a0 ((fun w0 w1 w2 w3 => impl_CountHeardOnce.l1 N N w0 w1 w2 w3))
theorem impl_CountHeardOnce.c1_0 : impl_CountHeardOnce.c1 = (.seq impl_CountHeardOnce.c2 (.seq impl_CountHeardOnce.c6 (.seq impl_CountHeardOnce.c14 (.seq (.seq impl_CountHeardOnce.c60 (.block 0 (.loop impl_CountHeardOnce.c244))) impl_CountHeardOnce.c31)))) := by kernel_rfl
theorem impl_CountHeardOnce.g.run (N : Nat) (a0 : Int) : runC impl_CountHeardOnce.C (impl_CountHeardOnce.O N) N impl_CountHeardOnce.c1 1 (st0 [.one (.int .i64 a0)] [] : St D0) impl_CountHeardOnce.K0 = impl_CountHeardOnce.g N a0 := by
  rw [impl_CountHeardOnce.c1_0]; unfold impl_CountHeardOnce.g; exact (impl_CountHeardOnce.o0.run N impl_CountHeardOnce.c244 a0).trans (congr rfl (funext fun w0 => funext fun w1 => funext fun w2 => funext fun w3 => (impl_CountHeardOnce.loop122 N N) w0 w1 w2 w3))
theorem impl_CountHeardOnce.good (N : Nat) (a0 : Int) (r : impl_CountHeardOnce.R) (h : impl_CountHeardOnce.g N a0 = some r) : Go.PM.Good Go.Proofs.Try.prog T0 25 [.one (.int .i64 a0)] [] (impl_CountHeardOnce.sig.ret r) (impl_CountHeardOnce.sig.bs r) :=
  good_fn tabOk0 mixed0 impl_CountHeardOnce.sig (impl_CountHeardOnce.E N) Go.Proofs.Try.func25 (by kernel_rfl) (by kernel_rfl) 1056061 0 0 [(122, [0, 4, 10, 11], [])] [(false, [.any]), (false, [.any])] (by kernel_rfl) rfl ((impl_CountHeardOnce.g.run N a0).trans h)
noncomputable def impl_CountHeardOnce.ent (N : Nat) : Ent Go.Proofs.Try.prog T0 := mkEnt 25 [(false, [.any])] impl_CountHeardOnce.sig (fun t => impl_CountHeardOnce.g N t) (fun t r h => impl_CountHeardOnce.good N t r h)
end Go.Proofs.Ytpemffldaepbpaa.M

namespace Go.Proofs.Ytpemffldaepbpaa.M
open Go Go.PM Go.Proofs.Ytpemffldaepbpaa.P
set_option linter.unusedVariables false
set_option maxRecDepth 100000
/-! ### spec_l1Same -/
abbrev spec_l1Same.R : Type := Bool
abbrev spec_l1Same.sig : Sig := ⟨[(false, 1), (false, 1)], [], [.sl false 3, .sl false 3], [(false, 1)], [], [.bool]⟩
noncomputable def spec_l1Same.C : Cfg D0 := ⟨Go.Proofs.Try.prog, T0, 16806963, 0, 26, 0, [(58, [0, 1, 12, 13], [])]⟩
noncomputable def spec_l1Same.E (N : Nat) : List (Ent Go.Proofs.Try.prog T0) := []
noncomputable def spec_l1Same.O (N : Nat) : Orc D0 spec_l1Same.R := orcOf (spec_l1Same.E N)
noncomputable def spec_l1Same.K0 : Ex → St D0 → Option spec_l1Same.R := exitK spec_l1Same.C Go.Proofs.Try.f89.results.toList [(false, [.any])] (decOut spec_l1Same.sig)
noncomputable def spec_l1Same.c1 : Code := codeAt (Go.Proofs.Try.f89.body.getD .skip) []
noncomputable def spec_l1Same.c2 : Code := codeAt (Go.Proofs.Try.f89.body.getD .skip) [false]
noncomputable def spec_l1Same.c6 : Code := codeAt (Go.Proofs.Try.f89.body.getD .skip) [true, false]
noncomputable def spec_l1Same.c15 : Code := codeAt (Go.Proofs.Try.f89.body.getD .skip) [true, true, true]
noncomputable def spec_l1Same.c28 : Code := codeAt (Go.Proofs.Try.f89.body.getD .skip) [true, true, false, false]
noncomputable def spec_l1Same.c116 : Code := codeAt (Go.Proofs.Try.f89.body.getD .skip) [true, true, false, true, false, false]
noncomputable def spec_l1Same.K116 (N : Nat) (Kn58 : St D0 → Option spec_l1Same.R) : Ex → St D0 → Option spec_l1Same.R := (onN (fun s => spec_l1Same.C.tidy 58 s ((onN Kn58 (blockK 0 (onN (fun s => spec_l1Same.C.tidy 14 s (fun s' => runC spec_l1Same.C (spec_l1Same.O N) N spec_l1Same.c15 15 s' spec_l1Same.K0)) spec_l1Same.K0))) .normal)) (onN Kn58 (blockK 0 (onN (fun s => spec_l1Same.C.tidy 14 s (fun s' => runC spec_l1Same.C (spec_l1Same.O N) N spec_l1Same.c15 15 s' spec_l1Same.K0)) spec_l1Same.K0))))
noncomputable def spec_l1Same.o1 (N : Nat) (v0 : List Int) (v1 : List Int) (v2 : Int) (v3 : Int) (c1 : (List Int) → (List Int) → Int → Int → Option spec_l1Same.R) : Option spec_l1Same.R :=
 bif (decide (v3 < v2)) then
  bif (decide (0 ≤ v3)) then
   bif (decide (v3 < (v0.length : Int))) then
    (v0[(v3 : Int).toNat]?).bind fun x1 =>
    bif (decide (0 ≤ v3)) then
     bif (decide (v3 < (v1.length : Int))) then
      (v1[(v3 : Int).toNat]?).bind fun x2 =>
      bif (x1 != x2) then
       some (false)
      else
      c1 v0 v1 v2 (w64 (v3 + 1))
     else
     none
    else
    none
   else
   none
  else
  none
 else
 some (true)
theorem spec_l1Same.o1.run (N : Nat) (Kn58 : St D0 → Option spec_l1Same.R) (v0 : List Int) (v1 : List Int) (v2 : Int) (v3 : Int) : runC spec_l1Same.C (spec_l1Same.O N) N spec_l1Same.c116 116 (mkSt [(0, .one (.sl false 3 v0)), (1, .one (.sl false 3 v1)), (12, .one (.int .i64 v2)), (13, .one (.int .i64 v3))] [] : St D0) (onN (fun s => spec_l1Same.C.tidy 58 s ((onN Kn58 (blockK 0 (onN (fun s => spec_l1Same.C.tidy 14 s (fun s' => runC spec_l1Same.C (spec_l1Same.O N) N spec_l1Same.c15 15 s' spec_l1Same.K0)) spec_l1Same.K0))) .normal)) (onN Kn58 (blockK 0 (onN (fun s => spec_l1Same.C.tidy 14 s (fun s' => runC spec_l1Same.C (spec_l1Same.O N) N spec_l1Same.c15 15 s' spec_l1Same.K0)) spec_l1Same.K0)))) = spec_l1Same.o1 N v0 v1 v2 v3 ((fun w0 w1 w2 w3 => Kn58 (mkSt [(0, .one (.sl false 3 w0)), (1, .one (.sl false 3 w1)), (12, .one (.int .i64 w2)), (13, .one (.int .i64 w3))] [] : St D0))) := by kernel_rfl
noncomputable def spec_l1Same.d1 (N : Nat) (v0 : List Int) (v1 : List Int) (v2 : Int) (v3 : Int) (c1 : (List Int) → (List Int) → Int → Int → Option spec_l1Same.R) : Option spec_l1Same.R := spec_l1Same.o1 N v0 v1 v2 v3 c1
theorem spec_l1Same.d1.run (N : Nat) (Kn58 : St D0 → Option spec_l1Same.R) (v0 : List Int) (v1 : List Int) (v2 : Int) (v3 : Int) : runC spec_l1Same.C (spec_l1Same.O N) N spec_l1Same.c116 116 (mkSt [(0, .one (.sl false 3 v0)), (1, .one (.sl false 3 v1)), (12, .one (.int .i64 v2)), (13, .one (.int .i64 v3))] [] : St D0) (spec_l1Same.K116 N Kn58) = spec_l1Same.d1 N v0 v1 v2 v3 ((fun w0 w1 w2 w3 => Kn58 (mkSt [(0, .one (.sl false 3 w0)), (1, .one (.sl false 3 w1)), (12, .one (.int .i64 w2)), (13, .one (.int .i64 w3))] [] : St D0))) := by
  exact (spec_l1Same.o1.run N Kn58 v0 v1 v2 v3).trans rfl
noncomputable def spec_l1Same.K58 (N : Nat) : Ex → St D0 → Option spec_l1Same.R := (blockK 0 (onN (fun s => spec_l1Same.C.tidy 14 s (fun s' => runC spec_l1Same.C (spec_l1Same.O N) N spec_l1Same.c15 15 s' spec_l1Same.K0)) spec_l1Same.K0))
noncomputable def spec_l1Same.l1 (N : Nat) : Nat → (List Int) → (List Int) → Int → Int → Option spec_l1Same.R
  | 0, _, _, _, _ => none
  | n + 1, v0, v1, v2, v3 => spec_l1Same.d1 N v0 v1 v2 v3 ((fun w0 w1 w2 w3 => spec_l1Same.l1 N n w0 w1 w2 w3))
theorem spec_l1Same.loop58 (N : Nat) : ∀ n, (∀ (v0 : List Int) (v1 : List Int) (v2 : Int) (v3 : Int), iter (loopF spec_l1Same.C (spec_l1Same.O N) N spec_l1Same.c116 58) n (mkSt [(0, .one (.sl false 3 v0)), (1, .one (.sl false 3 v1)), (12, .one (.int .i64 v2)), (13, .one (.int .i64 v3))] [] : St D0) (spec_l1Same.K58 N) = spec_l1Same.l1 N n v0 v1 v2 v3)
  | 0 => (fun v0 v1 v2 v3 => rfl)
  | n + 1 => (fun v0 v1 v2 v3 => (spec_l1Same.d1.run N (fun s => iter (loopF spec_l1Same.C (spec_l1Same.O N) N spec_l1Same.c116 58) n s (spec_l1Same.K58 N)) v0 v1 v2 v3).trans (show _ = spec_l1Same.d1 N v0 v1 v2 v3 ((fun w0 w1 w2 w3 => spec_l1Same.l1 N n w0 w1 w2 w3)) from (congr rfl (funext fun w0 => funext fun w1 => funext fun w2 => funext fun w3 => (spec_l1Same.loop58 N n) w0 w1 w2 w3))))
noncomputable def spec_l1Same.o0 (N : Nat) (a0 : List Int) (a1 : List Int) (c1 : (List Int) → (List Int) → Int → Int → Option spec_l1Same.R) : Option spec_l1Same.R :=
 bif ((a0.length : Int) != (a1.length : Int)) then
  some (false)
 else
 c1 a0 a1 (a0.length : Int) 0
theorem spec_l1Same.o0.run (N : Nat) (H116 : Code) (a0 : List Int) (a1 : List Int) : runC spec_l1Same.C (spec_l1Same.O N) N (.seq spec_l1Same.c2 (.seq spec_l1Same.c6 (.seq (.seq spec_l1Same.c28 (.block 0 (.loop H116))) spec_l1Same.c15))) 1 (st0 [.one (.sl false 3 a0), .one (.sl false 3 a1)] [] : St D0) spec_l1Same.K0 = spec_l1Same.o0 N a0 a1 ((fun w0 w1 w2 w3 => iter (loopF spec_l1Same.C (spec_l1Same.O N) N H116 58) N (mkSt [(0, .one (.sl false 3 w0)), (1, .one (.sl false 3 w1)), (12, .one (.int .i64 w2)), (13, .one (.int .i64 w3))] [] : St D0) (blockK 0 (onN (fun s => spec_l1Same.C.tidy 14 s (fun s' => runC spec_l1Same.C (spec_l1Same.O N) N spec_l1Same.c15 15 s' spec_l1Same.K0)) spec_l1Same.K0)))) := by kernel_rfl
noncomputable def spec_l1Same.g (N : Nat) (a0 : List Int) (a1 : List Int) : Option spec_l1Same.R := spec_l1Same.o0 N a0 a1 ((fun w0 w1 w2 w3 => spec_l1Same.l1 N N w0 w1 w2 w3))
theorem spec_l1Same.c1_0 : spec_l1Same.c1 = (.seq spec_l1Same.c2 (.seq spec_l1Same.c6 (.seq (.seq spec_l1Same.c28 (.block 0 (.loop spec_l1Same.c116))) spec_l1Same.c15))) := by kernel_rfl
theorem spec_l1Same.g.run (N : Nat) (a0 : List Int) (a1 : List Int) : runC spec_l1Same.C (spec_l1Same.O N) N spec_l1Same.c1 1 (st0 [.one (.sl false 3 a0), .one (.sl false 3 a1)] [] : St D0) spec_l1Same.K0 = spec_l1Same.g N a0 a1 := by
  rw [spec_l1Same.c1_0]; unfold spec_l1Same.g; exact (spec_l1Same.o0.run N spec_l1Same.c116 a0 a1).trans (congr rfl (funext fun w0 => funext fun w1 => funext fun w2 => funext fun w3 => (spec_l1Same.loop58 N N) w0 w1 w2 w3))
theorem spec_l1Same.good (N : Nat) (a0 : List Int) (a1 : List Int) (r : spec_l1Same.R) (h : spec_l1Same.g N a0 a1 = some r) : Go.PM.Good Go.Proofs.Try.prog T0 89 [.one (.sl false 3 a0), .one (.sl false 3 a1)] [] (spec_l1Same.sig.ret r) (spec_l1Same.sig.bs r) :=
  good_fn tabOk0 mixed0 spec_l1Same.sig (spec_l1Same.E N) Go.Proofs.Try.func89 (by kernel_rfl) (by kernel_rfl) 16806963 0 0 [(58, [0, 1, 12, 13], [])] [(false, [.any])] (by kernel_rfl) rfl ((spec_l1Same.g.run N a0 a1).trans h)
noncomputable def spec_l1Same.ent (N : Nat) : Ent Go.Proofs.Try.prog T0 := mkEnt 89 [(false, [.ro 3]), (false, [.ro 3])] spec_l1Same.sig (fun t => spec_l1Same.g N t.1 t.2) (fun t r h => spec_l1Same.good N t.1 t.2 r h)
end Go.Proofs.Ytpemffldaepbpaa.M

namespace Go.Proofs.Ytpemffldaepbpaa.M
open Go Go.PM Go.Proofs.Ytpemffldaepbpaa.P
set_option linter.unusedVariables false
set_option maxRecDepth 100000
/-! ### spec_stHalves -/
abbrev spec_stHalves.R : Type := List Int
abbrev spec_stHalves.sig : Sig := ⟨[(false, 1), (false, 1)], [], [.int .i64, .sl false 3], [(false, 1)], [], [.sl true 3]⟩
noncomputable def spec_stHalves.C : Cfg D0 := ⟨Go.Proofs.Try.prog, T0, 525427, 0, 25, 0, [(58, [0, 1, 5, 6], []), (466, [0, 1, 5, 6], [])]⟩
noncomputable def spec_stHalves.E (N : Nat) : List (Ent Go.Proofs.Try.prog T0) := [spec_stFrom.ent N, spec_l1Same.ent N]
noncomputable def spec_stHalves.O (N : Nat) : Orc D0 spec_stHalves.R := orcOf (spec_stHalves.E N)
noncomputable def spec_stHalves.K0 : Ex → St D0 → Option spec_stHalves.R := exitK spec_stHalves.C Go.Proofs.Try.f74.results.toList [(false, [.own 3])] (decOut spec_stHalves.sig)
noncomputable def spec_stHalves.c1 : Code := codeAt (Go.Proofs.Try.f74.body.getD .skip) []
noncomputable def spec_stHalves.c2 : Code := codeAt (Go.Proofs.Try.f74.body.getD .skip) [false]
noncomputable def spec_stHalves.c6 : Code := codeAt (Go.Proofs.Try.f74.body.getD .skip) [true, false]
noncomputable def spec_stHalves.c15 : Code := codeAt (Go.Proofs.Try.f74.body.getD .skip) [true, true, true]
noncomputable def spec_stHalves.c28 : Code := codeAt (Go.Proofs.Try.f74.body.getD .skip) [true, true, false, false]
noncomputable def spec_stHalves.c116 : Code := codeAt (Go.Proofs.Try.f74.body.getD .skip) [true, true, false, true, false, false]
noncomputable def spec_stHalves.c232 : Code := codeAt (Go.Proofs.Try.f74.body.getD .skip) [true, true, false, true, false, false, false]
noncomputable def spec_stHalves.c466 : Code := codeAt (Go.Proofs.Try.f74.body.getD .skip) [true, true, false, true, false, false, true, false]
noncomputable def spec_stHalves.c467 : Code := codeAt (Go.Proofs.Try.f74.body.getD .skip) [true, true, false, true, false, false, true, true]
noncomputable def spec_stHalves.K467 (N : Nat) (Kn58 : St D0 → Option spec_stHalves.R) : Ex → St D0 → Option spec_stHalves.R := (onN (fun s => spec_stHalves.C.tidy 58 s ((onN Kn58 (blockK 0 (onN (fun s => spec_stHalves.C.tidy 14 s (fun s' => runC spec_stHalves.C (spec_stHalves.O N) N spec_stHalves.c15 15 s' spec_stHalves.K0)) spec_stHalves.K0))) .normal)) (onN Kn58 (blockK 0 (onN (fun s => spec_stHalves.C.tidy 14 s (fun s' => runC spec_stHalves.C (spec_stHalves.O N) N spec_stHalves.c15 15 s' spec_stHalves.K0)) spec_stHalves.K0))))
noncomputable def spec_stHalves.o2 (N : Nat) (v0 : Int) (v1 : List Int) (v2 : List Int) (v3 : Int) (c4 : Int → (List Int) → (List Int) → Int → Option spec_stHalves.R) : Option spec_stHalves.R :=
 c4 v0 v1 v2 (w64 (v3 + 1))
theorem spec_stHalves.o2.run (N : Nat) (Kn58 : St D0 → Option spec_stHalves.R) (v0 : Int) (v1 : List Int) (v2 : List Int) (v3 : Int) : runC spec_stHalves.C (spec_stHalves.O N) N spec_stHalves.c467 467 (mkSt [(0, .one (.int .i64 v0)), (1, .one (.sl false 3 v1)), (5, .one (.sl true 3 v2)), (6, .one (.int .i64 v3))] [] : St D0) (onN (fun s => spec_stHalves.C.tidy 58 s ((onN Kn58 (blockK 0 (onN (fun s => spec_stHalves.C.tidy 14 s (fun s' => runC spec_stHalves.C (spec_stHalves.O N) N spec_stHalves.c15 15 s' spec_stHalves.K0)) spec_stHalves.K0))) .normal)) (onN Kn58 (blockK 0 (onN (fun s => spec_stHalves.C.tidy 14 s (fun s' => runC spec_stHalves.C (spec_stHalves.O N) N spec_stHalves.c15 15 s' spec_stHalves.K0)) spec_stHalves.K0)))) = spec_stHalves.o2 N v0 v1 v2 v3 ((fun w0 w1 w2 w3 => Kn58 (mkSt [(0, .one (.int .i64 w0)), (1, .one (.sl false 3 w1)), (5, .one (.sl true 3 w2)), (6, .one (.int .i64 w3))] [] : St D0))) := by kernel_rfl
noncomputable def spec_stHalves.d2 (N : Nat) (v0 : Int) (v1 : List Int) (v2 : List Int) (v3 : Int) (c4 : Int → (List Int) → (List Int) → Int → Option spec_stHalves.R) : Option spec_stHalves.R := spec_stHalves.o2 N v0 v1 v2 v3 c4
theorem spec_stHalves.d2.run (N : Nat) (Kn58 : St D0 → Option spec_stHalves.R) (v0 : Int) (v1 : List Int) (v2 : List Int) (v3 : Int) : runC spec_stHalves.C (spec_stHalves.O N) N spec_stHalves.c467 467 (mkSt [(0, .one (.int .i64 v0)), (1, .one (.sl false 3 v1)), (5, .one (.sl true 3 v2)), (6, .one (.int .i64 v3))] [] : St D0) (spec_stHalves.K467 N Kn58) = spec_stHalves.d2 N v0 v1 v2 v3 ((fun w0 w1 w2 w3 => Kn58 (mkSt [(0, .one (.int .i64 w0)), (1, .one (.sl false 3 w1)), (5, .one (.sl true 3 w2)), (6, .one (.int .i64 w3))] [] : St D0))) := by
  exact (spec_stHalves.o2.run N Kn58 v0 v1 v2 v3).trans rfl
noncomputable def spec_stHalves.o3 (N : Nat) (v0 : Int) (v1 : List Int) (v2 : Int) (c1 : Int → (List Int) → Int → Option spec_stHalves.R) : Option spec_stHalves.R :=
 c1 v0 v1 (w64 (v2 + 1))
theorem spec_stHalves.o3.run (N : Nat) (Kn58 : St D0 → Option spec_stHalves.R) (v0 : Int) (v1 : List Int) (v2 : Int) : runC spec_stHalves.C (spec_stHalves.O N) N spec_stHalves.c467 467 (mkSt [(0, .one (.int .i64 v0)), (1, .one (.sl false 3 v1)), (5, .one (.nl)), (6, .one (.int .i64 v2))] [] : St D0) (onN (fun s => spec_stHalves.C.tidy 58 s ((onN Kn58 (blockK 0 (onN (fun s => spec_stHalves.C.tidy 14 s (fun s' => runC spec_stHalves.C (spec_stHalves.O N) N spec_stHalves.c15 15 s' spec_stHalves.K0)) spec_stHalves.K0))) .normal)) (onN Kn58 (blockK 0 (onN (fun s => spec_stHalves.C.tidy 14 s (fun s' => runC spec_stHalves.C (spec_stHalves.O N) N spec_stHalves.c15 15 s' spec_stHalves.K0)) spec_stHalves.K0)))) = spec_stHalves.o3 N v0 v1 v2 ((fun w0 w1 w2 => Kn58 (mkSt [(0, .one (.int .i64 w0)), (1, .one (.sl false 3 w1)), (5, .one (.nl)), (6, .one (.int .i64 w2))] [] : St D0))) := by kernel_rfl
noncomputable def spec_stHalves.d3 (N : Nat) (v0 : Int) (v1 : List Int) (v2 : Int) (c1 : Int → (List Int) → Int → Option spec_stHalves.R) : Option spec_stHalves.R := spec_stHalves.o3 N v0 v1 v2 c1
theorem spec_stHalves.d3.run (N : Nat) (Kn58 : St D0 → Option spec_stHalves.R) (v0 : Int) (v1 : List Int) (v2 : Int) : runC spec_stHalves.C (spec_stHalves.O N) N spec_stHalves.c467 467 (mkSt [(0, .one (.int .i64 v0)), (1, .one (.sl false 3 v1)), (5, .one (.nl)), (6, .one (.int .i64 v2))] [] : St D0) (spec_stHalves.K467 N Kn58) = spec_stHalves.d3 N v0 v1 v2 ((fun w0 w1 w2 => Kn58 (mkSt [(0, .one (.int .i64 w0)), (1, .one (.sl false 3 w1)), (5, .one (.nl)), (6, .one (.int .i64 w2))] [] : St D0))) := by
  exact (spec_stHalves.o3.run N Kn58 v0 v1 v2).trans rfl
noncomputable def spec_stHalves.K116 (N : Nat) (Kn58 : St D0 → Option spec_stHalves.R) : Ex → St D0 → Option spec_stHalves.R := (onN (fun s => spec_stHalves.C.tidy 58 s ((onN Kn58 (blockK 0 (onN (fun s => spec_stHalves.C.tidy 14 s (fun s' => runC spec_stHalves.C (spec_stHalves.O N) N spec_stHalves.c15 15 s' spec_stHalves.K0)) spec_stHalves.K0))) .normal)) (onN Kn58 (blockK 0 (onN (fun s => spec_stHalves.C.tidy 14 s (fun s' => runC spec_stHalves.C (spec_stHalves.O N) N spec_stHalves.c15 15 s' spec_stHalves.K0)) spec_stHalves.K0))))
noncomputable def spec_stHalves.o1 (N : Nat) (v0 : Int) (v1 : List Int) (v2 : Int) (c2 : Int → (List Int) → (List Int) → Int → Option spec_stHalves.R) (c3 : Int → (List Int) → Int → Option spec_stHalves.R) : Option spec_stHalves.R :=
 bif (decide (v2 < (w64 (2 * v0)))) then
  (spec_stFrom.g N v0 v2 (v1.length : Int)).bind fun r1 =>
  (spec_l1Same.g N r1 v1).bind fun r2 =>
  bif r2 then
   bif (Nat.blt (([] : List Int).length + ([v2] : List Int).length) 17592186044416) then
    c2 v0 v1 (([] : List Int) ++ ([v2] : List Int)) v2
   else
   none
  else
  c3 v0 v1 v2
 else
 some (([] : List Int))
theorem spec_stHalves.o1.run (N : Nat) (Kn58 : St D0 → Option spec_stHalves.R) (H467 : Code) (v0 : Int) (v1 : List Int) (v2 : Int) : runC spec_stHalves.C (spec_stHalves.O N) N (.seq spec_stHalves.c232 (.seq spec_stHalves.c466 H467)) 116 (mkSt [(0, .one (.int .i64 v0)), (1, .one (.sl false 3 v1)), (5, .one (.nl)), (6, .one (.int .i64 v2))] [] : St D0) (onN (fun s => spec_stHalves.C.tidy 58 s ((onN Kn58 (blockK 0 (onN (fun s => spec_stHalves.C.tidy 14 s (fun s' => runC spec_stHalves.C (spec_stHalves.O N) N spec_stHalves.c15 15 s' spec_stHalves.K0)) spec_stHalves.K0))) .normal)) (onN Kn58 (blockK 0 (onN (fun s => spec_stHalves.C.tidy 14 s (fun s' => runC spec_stHalves.C (spec_stHalves.O N) N spec_stHalves.c15 15 s' spec_stHalves.K0)) spec_stHalves.K0)))) = spec_stHalves.o1 N v0 v1 v2 ((fun w0 w1 w2 w3 => runC spec_stHalves.C (spec_stHalves.O N) N H467 467 (mkSt [(0, .one (.int .i64 w0)), (1, .one (.sl false 3 w1)), (5, .one (.sl true 3 w2)), (6, .one (.int .i64 w3))] [] : St D0) (onN (fun s => spec_stHalves.C.tidy 58 s ((onN Kn58 (blockK 0 (onN (fun s => spec_stHalves.C.tidy 14 s (fun s' => runC spec_stHalves.C (spec_stHalves.O N) N spec_stHalves.c15 15 s' spec_stHalves.K0)) spec_stHalves.K0))) .normal)) (onN Kn58 (blockK 0 (onN (fun s => spec_stHalves.C.tidy 14 s (fun s' => runC spec_stHalves.C (spec_stHalves.O N) N spec_stHalves.c15 15 s' spec_stHalves.K0)) spec_stHalves.K0)))))) ((fun w0 w1 w2 => runC spec_stHalves.C (spec_stHalves.O N) N H467 467 (mkSt [(0, .one (.int .i64 w0)), (1, .one (.sl false 3 w1)), (5, .one (.nl)), (6, .one (.int .i64 w2))] [] : St D0) (onN (fun s => spec_stHalves.C.tidy 58 s ((onN Kn58 (blockK 0 (onN (fun s => spec_stHalves.C.tidy 14 s (fun s' => runC spec_stHalves.C (spec_stHalves.O N) N spec_stHalves.c15 15 s' spec_stHalves.K0)) spec_stHalves.K0))) .normal)) (onN Kn58 (blockK 0 (onN (fun s => spec_stHalves.C.tidy 14 s (fun s' => runC spec_stHalves.C (spec_stHalves.O N) N spec_stHalves.c15 15 s' spec_stHalves.K0)) spec_stHalves.K0)))))) := by kernel_rfl
noncomputable def spec_stHalves.B233 (N : Nat) (Kn58 : St D0 → Option spec_stHalves.R) : St D0 → Option spec_stHalves.R := fun s' => runC spec_stHalves.C (spec_stHalves.O N) N spec_stHalves.c467 467 s' (spec_stHalves.K467 N Kn58)
noncomputable def spec_stHalves.d1 (N : Nat) (v0 : Int) (v1 : List Int) (v2 : Int) (c1 : Int → (List Int) → Int → Option spec_stHalves.R) (c4 : Int → (List Int) → (List Int) → Int → Option spec_stHalves.R) : Option spec_stHalves.R := spec_stHalves.o1 N v0 v1 v2 ((fun w0 w1 w2 w3 => spec_stHalves.d2 N w0 w1 w2 w3 c4)) ((fun w0 w1 w2 => spec_stHalves.d3 N w0 w1 w2 c1))
theorem spec_stHalves.c116_1 : spec_stHalves.c116 = (.seq spec_stHalves.c232 (.seq spec_stHalves.c466 spec_stHalves.c467)) := by kernel_rfl
theorem spec_stHalves.d1.run (N : Nat) (Kn58 : St D0 → Option spec_stHalves.R) (v0 : Int) (v1 : List Int) (v2 : Int) : runC spec_stHalves.C (spec_stHalves.O N) N spec_stHalves.c116 116 (mkSt [(0, .one (.int .i64 v0)), (1, .one (.sl false 3 v1)), (5, .one (.nl)), (6, .one (.int .i64 v2))] [] : St D0) (spec_stHalves.K116 N Kn58) = spec_stHalves.d1 N v0 v1 v2 ((fun w0 w1 w2 => Kn58 (mkSt [(0, .one (.int .i64 w0)), (1, .one (.sl false 3 w1)), (5, .one (.nl)), (6, .one (.int .i64 w2))] [] : St D0))) ((fun w0 w1 w2 w3 => Kn58 (mkSt [(0, .one (.int .i64 w0)), (1, .one (.sl false 3 w1)), (5, .one (.sl true 3 w2)), (6, .one (.int .i64 w3))] [] : St D0))) := by
  rw [spec_stHalves.c116_1]; unfold spec_stHalves.d1; exact (spec_stHalves.o1.run N Kn58 spec_stHalves.c467 v0 v1 v2).trans (congr (congr rfl (funext fun w0 => funext fun w1 => funext fun w2 => funext fun w3 => spec_stHalves.d2.run N Kn58 w0 w1 w2 w3)) (funext fun w0 => funext fun w1 => funext fun w2 => spec_stHalves.d3.run N Kn58 w0 w1 w2))
noncomputable def spec_stHalves.o4 (N : Nat) (v0 : Int) (v1 : List Int) (v2 : List Int) (v3 : Int) (c2 : Int → (List Int) → (List Int) → Int → Option spec_stHalves.R) : Option spec_stHalves.R :=
 bif (decide (v3 < (w64 (2 * v0)))) then
  (spec_stFrom.g N v0 v3 (v1.length : Int)).bind fun r1 =>
  (spec_l1Same.g N r1 v1).bind fun r2 =>
  bif r2 then
   bif (Nat.blt (v2.length + ([v3] : List Int).length) 17592186044416) then
    c2 v0 v1 (v2 ++ ([v3] : List Int)) v3
   else
   none
  else
  c2 v0 v1 v2 v3
 else
 some (v2)
theorem spec_stHalves.o4.run (N : Nat) (Kn58 : St D0 → Option spec_stHalves.R) (H467 : Code) (v0 : Int) (v1 : List Int) (v2 : List Int) (v3 : Int) : runC spec_stHalves.C (spec_stHalves.O N) N (.seq spec_stHalves.c232 (.seq spec_stHalves.c466 H467)) 116 (mkSt [(0, .one (.int .i64 v0)), (1, .one (.sl false 3 v1)), (5, .one (.sl true 3 v2)), (6, .one (.int .i64 v3))] [] : St D0) (onN (fun s => spec_stHalves.C.tidy 58 s ((onN Kn58 (blockK 0 (onN (fun s => spec_stHalves.C.tidy 14 s (fun s' => runC spec_stHalves.C (spec_stHalves.O N) N spec_stHalves.c15 15 s' spec_stHalves.K0)) spec_stHalves.K0))) .normal)) (onN Kn58 (blockK 0 (onN (fun s => spec_stHalves.C.tidy 14 s (fun s' => runC spec_stHalves.C (spec_stHalves.O N) N spec_stHalves.c15 15 s' spec_stHalves.K0)) spec_stHalves.K0)))) = spec_stHalves.o4 N v0 v1 v2 v3 ((fun w0 w1 w2 w3 => runC spec_stHalves.C (spec_stHalves.O N) N H467 467 (mkSt [(0, .one (.int .i64 w0)), (1, .one (.sl false 3 w1)), (5, .one (.sl true 3 w2)), (6, .one (.int .i64 w3))] [] : St D0) (onN (fun s => spec_stHalves.C.tidy 58 s ((onN Kn58 (blockK 0 (onN (fun s => spec_stHalves.C.tidy 14 s (fun s' => runC spec_stHalves.C (spec_stHalves.O N) N spec_stHalves.c15 15 s' spec_stHalves.K0)) spec_stHalves.K0))) .normal)) (onN Kn58 (blockK 0 (onN (fun s => spec_stHalves.C.tidy 14 s (fun s' => runC spec_stHalves.C (spec_stHalves.O N) N spec_stHalves.c15 15 s' spec_stHalves.K0)) spec_stHalves.K0)))))) := by kernel_rfl
noncomputable def spec_stHalves.d4 (N : Nat) (v0 : Int) (v1 : List Int) (v2 : List Int) (v3 : Int) (c4 : Int → (List Int) → (List Int) → Int → Option spec_stHalves.R) : Option spec_stHalves.R := spec_stHalves.o4 N v0 v1 v2 v3 ((fun w0 w1 w2 w3 => spec_stHalves.d2 N w0 w1 w2 w3 c4))
theorem spec_stHalves.c116_4 : spec_stHalves.c116 = (.seq spec_stHalves.c232 (.seq spec_stHalves.c466 spec_stHalves.c467)) := by kernel_rfl
theorem spec_stHalves.d4.run (N : Nat) (Kn58 : St D0 → Option spec_stHalves.R) (v0 : Int) (v1 : List Int) (v2 : List Int) (v3 : Int) : runC spec_stHalves.C (spec_stHalves.O N) N spec_stHalves.c116 116 (mkSt [(0, .one (.int .i64 v0)), (1, .one (.sl false 3 v1)), (5, .one (.sl true 3 v2)), (6, .one (.int .i64 v3))] [] : St D0) (spec_stHalves.K116 N Kn58) = spec_stHalves.d4 N v0 v1 v2 v3 ((fun w0 w1 w2 w3 => Kn58 (mkSt [(0, .one (.int .i64 w0)), (1, .one (.sl false 3 w1)), (5, .one (.sl true 3 w2)), (6, .one (.int .i64 w3))] [] : St D0))) := by
  rw [spec_stHalves.c116_4]; unfold spec_stHalves.d4; exact (spec_stHalves.o4.run N Kn58 spec_stHalves.c467 v0 v1 v2 v3).trans (congr rfl (funext fun w0 => funext fun w1 => funext fun w2 => funext fun w3 => spec_stHalves.d2.run N Kn58 w0 w1 w2 w3))
noncomputable def spec_stHalves.K58 (N : Nat) : Ex → St D0 → Option spec_stHalves.R := (blockK 0 (onN (fun s => spec_stHalves.C.tidy 14 s (fun s' => runC spec_stHalves.C (spec_stHalves.O N) N spec_stHalves.c15 15 s' spec_stHalves.K0)) spec_stHalves.K0))
mutual
noncomputable def spec_stHalves.l1 (N : Nat) : Nat → Int → (List Int) → Int → Option spec_stHalves.R
  | 0, _, _, _ => none
  | n + 1, v0, v1, v2 => spec_stHalves.d1 N v0 v1 v2 ((fun w0 w1 w2 => spec_stHalves.l1 N n w0 w1 w2)) ((fun w0 w1 w2 w3 => spec_stHalves.l4 N n w0 w1 w2 w3))
noncomputable def spec_stHalves.l4 (N : Nat) : Nat → Int → (List Int) → (List Int) → Int → Option spec_stHalves.R
  | 0, _, _, _, _ => none
  | n + 1, v0, v1, v2, v3 => spec_stHalves.d4 N v0 v1 v2 v3 ((fun w0 w1 w2 w3 => spec_stHalves.l4 N n w0 w1 w2 w3))
end
theorem spec_stHalves.loop58 (N : Nat) : ∀ n, (∀ (v0 : Int) (v1 : List Int) (v2 : Int), iter (loopF spec_stHalves.C (spec_stHalves.O N) N spec_stHalves.c116 58) n (mkSt [(0, .one (.int .i64 v0)), (1, .one (.sl false 3 v1)), (5, .one (.nl)), (6, .one (.int .i64 v2))] [] : St D0) (spec_stHalves.K58 N) = spec_stHalves.l1 N n v0 v1 v2) ∧ (∀ (v0 : Int) (v1 : List Int) (v2 : List Int) (v3 : Int), iter (loopF spec_stHalves.C (spec_stHalves.O N) N spec_stHalves.c116 58) n (mkSt [(0, .one (.int .i64 v0)), (1, .one (.sl false 3 v1)), (5, .one (.sl true 3 v2)), (6, .one (.int .i64 v3))] [] : St D0) (spec_stHalves.K58 N) = spec_stHalves.l4 N n v0 v1 v2 v3)
  | 0 => ⟨(fun v0 v1 v2 => rfl), (fun v0 v1 v2 v3 => rfl)⟩
  | n + 1 => ⟨(fun v0 v1 v2 => (spec_stHalves.d1.run N (fun s => iter (loopF spec_stHalves.C (spec_stHalves.O N) N spec_stHalves.c116 58) n s (spec_stHalves.K58 N)) v0 v1 v2).trans (show _ = spec_stHalves.d1 N v0 v1 v2 ((fun w0 w1 w2 => spec_stHalves.l1 N n w0 w1 w2)) ((fun w0 w1 w2 w3 => spec_stHalves.l4 N n w0 w1 w2 w3)) from (congr (congr rfl (funext fun w0 => funext fun w1 => funext fun w2 => (spec_stHalves.loop58 N n).1 w0 w1 w2)) (funext fun w0 => funext fun w1 => funext fun w2 => funext fun w3 => (spec_stHalves.loop58 N n).2 w0 w1 w2 w3)))), (fun v0 v1 v2 v3 => (spec_stHalves.d4.run N (fun s => iter (loopF spec_stHalves.C (spec_stHalves.O N) N spec_stHalves.c116 58) n s (spec_stHalves.K58 N)) v0 v1 v2 v3).trans (show _ = spec_stHalves.d4 N v0 v1 v2 v3 ((fun w0 w1 w2 w3 => spec_stHalves.l4 N n w0 w1 w2 w3)) from (congr rfl (funext fun w0 => funext fun w1 => funext fun w2 => funext fun w3 => (spec_stHalves.loop58 N n).2 w0 w1 w2 w3))))⟩
noncomputable def spec_stHalves.o0 (N : Nat) (a0 : Int) (a1 : List Int) (c1 : Int → (List Int) → Int → Option spec_stHalves.R) : Option spec_stHalves.R :=
 c1 a0 a1 0
theorem spec_stHalves.o0.run (N : Nat) (H116 : Code) (a0 : Int) (a1 : List Int) : runC spec_stHalves.C (spec_stHalves.O N) N (.seq spec_stHalves.c2 (.seq spec_stHalves.c6 (.seq (.seq spec_stHalves.c28 (.block 0 (.loop H116))) spec_stHalves.c15))) 1 (st0 [.one (.int .i64 a0), .one (.sl false 3 a1)] [] : St D0) spec_stHalves.K0 = spec_stHalves.o0 N a0 a1 ((fun w0 w1 w2 => iter (loopF spec_stHalves.C (spec_stHalves.O N) N H116 58) N (mkSt [(0, .one (.int .i64 w0)), (1, .one (.sl false 3 w1)), (5, .one (.nl)), (6, .one (.int .i64 w2))] [] : St D0) (blockK 0 (onN (fun s => spec_stHalves.C.tidy 14 s (fun s' => runC spec_stHalves.C (spec_stHalves.O N) N spec_stHalves.c15 15 s' spec_stHalves.K0)) spec_stHalves.K0)))) := by kernel_rfl
noncomputable def spec_stHalves.g (N : Nat) (a0 : Int) (a1 : List Int) : Option spec_stHalves.R := spec_stHalves.o0 N a0 a1 ((fun w0 w1 w2 => spec_stHalves.l1 N N w0 w1 w2))
theorem spec_stHalves.c1_0 : spec_stHalves.c1 = (.seq spec_stHalves.c2 (.seq spec_stHalves.c6 (.seq (.seq spec_stHalves.c28 (.block 0 (.loop spec_stHalves.c116))) spec_stHalves.c15))) := by kernel_rfl
theorem spec_stHalves.g.run (N : Nat) (a0 : Int) (a1 : List Int) : runC spec_stHalves.C (spec_stHalves.O N) N spec_stHalves.c1 1 (st0 [.one (.int .i64 a0), .one (.sl false 3 a1)] [] : St D0) spec_stHalves.K0 = spec_stHalves.g N a0 a1 := by
  rw [spec_stHalves.c1_0]; unfold spec_stHalves.g; exact (spec_stHalves.o0.run N spec_stHalves.c116 a0 a1).trans (congr rfl (funext fun w0 => funext fun w1 => funext fun w2 => (spec_stHalves.loop58 N N).1 w0 w1 w2))
theorem spec_stHalves.good (N : Nat) (a0 : Int) (a1 : List Int) (r : spec_stHalves.R) (h : spec_stHalves.g N a0 a1 = some r) : Go.PM.Good Go.Proofs.Try.prog T0 74 [.one (.int .i64 a0), .one (.sl false 3 a1)] [] (spec_stHalves.sig.ret r) (spec_stHalves.sig.bs r) :=
  good_fn tabOk0 mixed0 spec_stHalves.sig (spec_stHalves.E N) Go.Proofs.Try.func74 (by kernel_rfl) (by kernel_rfl) 525427 0 0 [(58, [0, 1, 5, 6], []), (466, [0, 1, 5, 6], [])] [(false, [.own 3])] (by kernel_rfl) rfl ((spec_stHalves.g.run N a0 a1).trans h)
noncomputable def spec_stHalves.ent (N : Nat) : Ent Go.Proofs.Try.prog T0 := mkEnt 74 [(false, [.any]), (false, [.ro 3])] spec_stHalves.sig (fun t => spec_stHalves.g N t.1 t.2) (fun t r h => spec_stHalves.good N t.1 t.2 r h)
end Go.Proofs.Ytpemffldaepbpaa.M

namespace Go.Proofs.Ytpemffldaepbpaa.M
open Go Go.PM Go.Proofs.Ytpemffldaepbpaa.P
set_option linter.unusedVariables false
set_option maxRecDepth 100000
/-! ### spec_CountHeardOnce -/
abbrev spec_CountHeardOnce.R : Type := Int × Bool
abbrev spec_CountHeardOnce.sig : Sig := ⟨[(false, 1)], [], [.int .i64], [(false, 1), (false, 1)], [], [.int .i64, .bool]⟩
noncomputable def spec_CountHeardOnce.C : Cfg D0 := ⟨Go.Proofs.Try.prog, T0, 2101565, 0, 25, 0, [(122, [0, 4, 5], []), (978, [0, 4, 5], [])]⟩
noncomputable def spec_CountHeardOnce.E (N : Nat) : List (Ent Go.Proofs.Try.prog T0) := [spec_diHours.ent N, spec_stFrom.ent N, spec_stHalves.ent N]
noncomputable def spec_CountHeardOnce.O (N : Nat) : Orc D0 spec_CountHeardOnce.R := orcOf (spec_CountHeardOnce.E N)
noncomputable def spec_CountHeardOnce.K0 : Ex → St D0 → Option spec_CountHeardOnce.R := exitK spec_CountHeardOnce.C Go.Proofs.Try.f26.results.toList [(false, [.any]), (false, [.any])] (decOut spec_CountHeardOnce.sig)
noncomputable def spec_CountHeardOnce.c1 : Code := codeAt (Go.Proofs.Try.f26.body.getD .skip) []
noncomputable def spec_CountHeardOnce.c2 : Code := codeAt (Go.Proofs.Try.f26.body.getD .skip) [false]
noncomputable def spec_CountHeardOnce.c6 : Code := codeAt (Go.Proofs.Try.f26.body.getD .skip) [true, false]
noncomputable def spec_CountHeardOnce.c14 : Code := codeAt (Go.Proofs.Try.f26.body.getD .skip) [true, true, false]
noncomputable def spec_CountHeardOnce.c31 : Code := codeAt (Go.Proofs.Try.f26.body.getD .skip) [true, true, true, true]
noncomputable def spec_CountHeardOnce.c60 : Code := codeAt (Go.Proofs.Try.f26.body.getD .skip) [true, true, true, false, false]
noncomputable def spec_CountHeardOnce.c244 : Code := codeAt (Go.Proofs.Try.f26.body.getD .skip) [true, true, true, false, true, false, false]
noncomputable def spec_CountHeardOnce.c488 : Code := codeAt (Go.Proofs.Try.f26.body.getD .skip) [true, true, true, false, true, false, false, false]
noncomputable def spec_CountHeardOnce.c978 : Code := codeAt (Go.Proofs.Try.f26.body.getD .skip) [true, true, true, false, true, false, false, true, false]
noncomputable def spec_CountHeardOnce.c979 : Code := codeAt (Go.Proofs.Try.f26.body.getD .skip) [true, true, true, false, true, false, false, true, true]
noncomputable def spec_CountHeardOnce.K979 (N : Nat) (Kn122 : St D0 → Option spec_CountHeardOnce.R) : Ex → St D0 → Option spec_CountHeardOnce.R := (onN (fun s => spec_CountHeardOnce.C.tidy 122 s ((onN Kn122 (blockK 0 (onN (fun s => spec_CountHeardOnce.C.tidy 30 s (fun s' => runC spec_CountHeardOnce.C (spec_CountHeardOnce.O N) N spec_CountHeardOnce.c31 31 s' spec_CountHeardOnce.K0)) spec_CountHeardOnce.K0))) .normal)) (onN Kn122 (blockK 0 (onN (fun s => spec_CountHeardOnce.C.tidy 30 s (fun s' => runC spec_CountHeardOnce.C (spec_CountHeardOnce.O N) N spec_CountHeardOnce.c31 31 s' spec_CountHeardOnce.K0)) spec_CountHeardOnce.K0))))
noncomputable def spec_CountHeardOnce.o2 (N : Nat) (v0 : Int) (v1 : Int) (v2 : Int) (c1 : Int → Int → Int → Option spec_CountHeardOnce.R) : Option spec_CountHeardOnce.R :=
 c1 v0 v1 (w64 (v2 + 1))
theorem spec_CountHeardOnce.o2.run (N : Nat) (Kn122 : St D0 → Option spec_CountHeardOnce.R) (v0 : Int) (v1 : Int) (v2 : Int) : runC spec_CountHeardOnce.C (spec_CountHeardOnce.O N) N spec_CountHeardOnce.c979 979 (mkSt [(0, .one (.int .i64 v0)), (4, .one (.int .i64 v1)), (5, .one (.int .i64 v2))] [] : St D0) (onN (fun s => spec_CountHeardOnce.C.tidy 122 s ((onN Kn122 (blockK 0 (onN (fun s => spec_CountHeardOnce.C.tidy 30 s (fun s' => runC spec_CountHeardOnce.C (spec_CountHeardOnce.O N) N spec_CountHeardOnce.c31 31 s' spec_CountHeardOnce.K0)) spec_CountHeardOnce.K0))) .normal)) (onN Kn122 (blockK 0 (onN (fun s => spec_CountHeardOnce.C.tidy 30 s (fun s' => runC spec_CountHeardOnce.C (spec_CountHeardOnce.O N) N spec_CountHeardOnce.c31 31 s' spec_CountHeardOnce.K0)) spec_CountHeardOnce.K0)))) = spec_CountHeardOnce.o2 N v0 v1 v2 ((fun w0 w1 w2 => Kn122 (mkSt [(0, .one (.int .i64 w0)), (4, .one (.int .i64 w1)), (5, .one (.int .i64 w2))] [] : St D0))) := by kernel_rfl
noncomputable def spec_CountHeardOnce.d2 (N : Nat) (v0 : Int) (v1 : Int) (v2 : Int) (c1 : Int → Int → Int → Option spec_CountHeardOnce.R) : Option spec_CountHeardOnce.R := spec_CountHeardOnce.o2 N v0 v1 v2 c1
theorem spec_CountHeardOnce.d2.run (N : Nat) (Kn122 : St D0 → Option spec_CountHeardOnce.R) (v0 : Int) (v1 : Int) (v2 : Int) : runC spec_CountHeardOnce.C (spec_CountHeardOnce.O N) N spec_CountHeardOnce.c979 979 (mkSt [(0, .one (.int .i64 v0)), (4, .one (.int .i64 v1)), (5, .one (.int .i64 v2))] [] : St D0) (spec_CountHeardOnce.K979 N Kn122) = spec_CountHeardOnce.d2 N v0 v1 v2 ((fun w0 w1 w2 => Kn122 (mkSt [(0, .one (.int .i64 w0)), (4, .one (.int .i64 w1)), (5, .one (.int .i64 w2))] [] : St D0))) := by
  exact (spec_CountHeardOnce.o2.run N Kn122 v0 v1 v2).trans rfl
noncomputable def spec_CountHeardOnce.K244 (N : Nat) (Kn122 : St D0 → Option spec_CountHeardOnce.R) : Ex → St D0 → Option spec_CountHeardOnce.R := (onN (fun s => spec_CountHeardOnce.C.tidy 122 s ((onN Kn122 (blockK 0 (onN (fun s => spec_CountHeardOnce.C.tidy 30 s (fun s' => runC spec_CountHeardOnce.C (spec_CountHeardOnce.O N) N spec_CountHeardOnce.c31 31 s' spec_CountHeardOnce.K0)) spec_CountHeardOnce.K0))) .normal)) (onN Kn122 (blockK 0 (onN (fun s => spec_CountHeardOnce.C.tidy 30 s (fun s' => runC spec_CountHeardOnce.C (spec_CountHeardOnce.O N) N spec_CountHeardOnce.c31 31 s' spec_CountHeardOnce.K0)) spec_CountHeardOnce.K0))))
noncomputable def spec_CountHeardOnce.o1 (N : Nat) (v0 : Int) (v1 : Int) (v2 : Int) (c2 : Int → Int → Int → Option spec_CountHeardOnce.R) : Option spec_CountHeardOnce.R :=
 bif (decide (v2 < (w64 (2 * v0)))) then
  (spec_stFrom.g N v0 v2 1).bind fun r1 =>
  (spec_stHalves.g N v0 r1).bind fun r2 =>
  bif ((r2.length : Int) == 1) then
   c2 v0 (w64 (v1 + 1)) v2
  else
  c2 v0 v1 v2
 else
 some (v1, true)
theorem spec_CountHeardOnce.o1.run (N : Nat) (Kn122 : St D0 → Option spec_CountHeardOnce.R) (H979 : Code) (v0 : Int) (v1 : Int) (v2 : Int) : runC spec_CountHeardOnce.C (spec_CountHeardOnce.O N) N (.seq spec_CountHeardOnce.c488 (.seq spec_CountHeardOnce.c978 H979)) 244 (mkSt [(0, .one (.int .i64 v0)), (4, .one (.int .i64 v1)), (5, .one (.int .i64 v2))] [] : St D0) (onN (fun s => spec_CountHeardOnce.C.tidy 122 s ((onN Kn122 (blockK 0 (onN (fun s => spec_CountHeardOnce.C.tidy 30 s (fun s' => runC spec_CountHeardOnce.C (spec_CountHeardOnce.O N) N spec_CountHeardOnce.c31 31 s' spec_CountHeardOnce.K0)) spec_CountHeardOnce.K0))) .normal)) (onN Kn122 (blockK 0 (onN (fun s => spec_CountHeardOnce.C.tidy 30 s (fun s' => runC spec_CountHeardOnce.C (spec_CountHeardOnce.O N) N spec_CountHeardOnce.c31 31 s' spec_CountHeardOnce.K0)) spec_CountHeardOnce.K0)))) = spec_CountHeardOnce.o1 N v0 v1 v2 ((fun w0 w1 w2 => runC spec_CountHeardOnce.C (spec_CountHeardOnce.O N) N H979 979 (mkSt [(0, .one (.int .i64 w0)), (4, .one (.int .i64 w1)), (5, .one (.int .i64 w2))] [] : St D0) (onN (fun s => spec_CountHeardOnce.C.tidy 122 s ((onN Kn122 (blockK 0 (onN (fun s => spec_CountHeardOnce.C.tidy 30 s (fun s' => runC spec_CountHeardOnce.C (spec_CountHeardOnce.O N) N spec_CountHeardOnce.c31 31 s' spec_CountHeardOnce.K0)) spec_CountHeardOnce.K0))) .normal)) (onN Kn122 (blockK 0 (onN (fun s => spec_CountHeardOnce.C.tidy 30 s (fun s' => runC spec_CountHeardOnce.C (spec_CountHeardOnce.O N) N spec_CountHeardOnce.c31 31 s' spec_CountHeardOnce.K0)) spec_CountHeardOnce.K0)))))) := by kernel_rfl
noncomputable def spec_CountHeardOnce.B489 (N : Nat) (Kn122 : St D0 → Option spec_CountHeardOnce.R) : St D0 → Option spec_CountHeardOnce.R := fun s' => runC spec_CountHeardOnce.C (spec_CountHeardOnce.O N) N spec_CountHeardOnce.c979 979 s' (spec_CountHeardOnce.K979 N Kn122)
noncomputable def spec_CountHeardOnce.d1 (N : Nat) (v0 : Int) (v1 : Int) (v2 : Int) (c1 : Int → Int → Int → Option spec_CountHeardOnce.R) : Option spec_CountHeardOnce.R := spec_CountHeardOnce.o1 N v0 v1 v2 ((fun w0 w1 w2 => spec_CountHeardOnce.d2 N w0 w1 w2 c1))
theorem spec_CountHeardOnce.c244_1 : spec_CountHeardOnce.c244 = (.seq spec_CountHeardOnce.c488 (.seq spec_CountHeardOnce.c978 spec_CountHeardOnce.c979)) := by kernel_rfl
theorem spec_CountHeardOnce.d1.run (N : Nat) (Kn122 : St D0 → Option spec_CountHeardOnce.R) (v0 : Int) (v1 : Int) (v2 : Int) : runC spec_CountHeardOnce.C (spec_CountHeardOnce.O N) N spec_CountHeardOnce.c244 244 (mkSt [(0, .one (.int .i64 v0)), (4, .one (.int .i64 v1)), (5, .one (.int .i64 v2))] [] : St D0) (spec_CountHeardOnce.K244 N Kn122) = spec_CountHeardOnce.d1 N v0 v1 v2 ((fun w0 w1 w2 => Kn122 (mkSt [(0, .one (.int .i64 w0)), (4, .one (.int .i64 w1)), (5, .one (.int .i64 w2))] [] : St D0))) := by
  rw [spec_CountHeardOnce.c244_1]; unfold spec_CountHeardOnce.d1; exact (spec_CountHeardOnce.o1.run N Kn122 spec_CountHeardOnce.c979 v0 v1 v2).trans (congr rfl (funext fun w0 => funext fun w1 => funext fun w2 => spec_CountHeardOnce.d2.run N Kn122 w0 w1 w2))
noncomputable def spec_CountHeardOnce.K122 (N : Nat) : Ex → St D0 → Option spec_CountHeardOnce.R := (blockK 0 (onN (fun s => spec_CountHeardOnce.C.tidy 30 s (fun s' => runC spec_CountHeardOnce.C (spec_CountHeardOnce.O N) N spec_CountHeardOnce.c31 31 s' spec_CountHeardOnce.K0)) spec_CountHeardOnce.K0))
noncomputable def spec_CountHeardOnce.l1 (N : Nat) : Nat → Int → Int → Int → Option spec_CountHeardOnce.R
  | 0, _, _, _ => none
  | n + 1, v0, v1, v2 => spec_CountHeardOnce.d1 N v0 v1 v2 ((fun w0 w1 w2 => spec_CountHeardOnce.l1 N n w0 w1 w2))
theorem spec_CountHeardOnce.loop122 (N : Nat) : ∀ n, (∀ (v0 : Int) (v1 : Int) (v2 : Int), iter (loopF spec_CountHeardOnce.C (spec_CountHeardOnce.O N) N spec_CountHeardOnce.c244 122) n (mkSt [(0, .one (.int .i64 v0)), (4, .one (.int .i64 v1)), (5, .one (.int .i64 v2))] [] : St D0) (spec_CountHeardOnce.K122 N) = spec_CountHeardOnce.l1 N n v0 v1 v2)
  | 0 => (fun v0 v1 v2 => rfl)
  | n + 1 => (fun v0 v1 v2 => (spec_CountHeardOnce.d1.run N (fun s => iter (loopF spec_CountHeardOnce.C (spec_CountHeardOnce.O N) N spec_CountHeardOnce.c244 122) n s (spec_CountHeardOnce.K122 N)) v0 v1 v2).trans (show _ = spec_CountHeardOnce.d1 N v0 v1 v2 ((fun w0 w1 w2 => spec_CountHeardOnce.l1 N n w0 w1 w2)) from (congr rfl (funext fun w0 => funext fun w1 => funext fun w2 => (spec_CountHeardOnce.loop122 N n) w0 w1 w2))))
noncomputable def spec_CountHeardOnce.o0 (N : Nat) (a0 : Int) (c1 : Int → Int → Int → Option spec_CountHeardOnce.R) : Option spec_CountHeardOnce.R :=
 (spec_diHours.g N a0).bind fun r1 =>
 bif (!r1) then
  some (0, false)
 else
 c1 a0 0 0
theorem spec_CountHeardOnce.o0.run (N : Nat) (H244 : Code) (a0 : Int) : runC spec_CountHeardOnce.C (spec_CountHeardOnce.O N) N (.seq spec_CountHeardOnce.c2 (.seq spec_CountHeardOnce.c6 (.seq spec_CountHeardOnce.c14 (.seq (.seq spec_CountHeardOnce.c60 (.block 0 (.loop H244))) spec_CountHeardOnce.c31)))) 1 (st0 [.one (.int .i64 a0)] [] : St D0) spec_CountHeardOnce.K0 = spec_CountHeardOnce.o0 N a0 ((fun w0 w1 w2 => iter (loopF spec_CountHeardOnce.C (spec_CountHeardOnce.O N) N H244 122) N (mkSt [(0, .one (.int .i64 w0)), (4, .one (.int .i64 w1)), (5, .one (.int .i64 w2))] [] : St D0) (blockK 0 (onN (fun s => spec_CountHeardOnce.C.tidy 30 s (fun s' => runC spec_CountHeardOnce.C (spec_CountHeardOnce.O N) N spec_CountHeardOnce.c31 31 s' spec_CountHeardOnce.K0)) spec_CountHeardOnce.K0)))) := by kernel_rfl
noncomputable def spec_CountHeardOnce.g (N : Nat) (a0 : Int) : Option spec_CountHeardOnce.R := spec_CountHeardOnce.o0 N a0 ((fun w0 w1 w2 => spec_CountHeardOnce.l1 N N w0 w1 w2))
theorem spec_CountHeardOnce.c1_0 : spec_CountHeardOnce.c1 = (.seq spec_CountHeardOnce.c2 (.seq spec_CountHeardOnce.c6 (.seq spec_CountHeardOnce.c14 (.seq (.seq spec_CountHeardOnce.c60 (.block 0 (.loop spec_CountHeardOnce.c244))) spec_CountHeardOnce.c31)))) := by kernel_rfl
theorem spec_CountHeardOnce.g.run (N : Nat) (a0 : Int) : runC spec_CountHeardOnce.C (spec_CountHeardOnce.O N) N spec_CountHeardOnce.c1 1 (st0 [.one (.int .i64 a0)] [] : St D0) spec_CountHeardOnce.K0 = spec_CountHeardOnce.g N a0 := by
  rw [spec_CountHeardOnce.c1_0]; unfold spec_CountHeardOnce.g; exact (spec_CountHeardOnce.o0.run N spec_CountHeardOnce.c244 a0).trans (congr rfl (funext fun w0 => funext fun w1 => funext fun w2 => (spec_CountHeardOnce.loop122 N N) w0 w1 w2))
theorem spec_CountHeardOnce.good (N : Nat) (a0 : Int) (r : spec_CountHeardOnce.R) (h : spec_CountHeardOnce.g N a0 = some r) : Go.PM.Good Go.Proofs.Try.prog T0 26 [.one (.int .i64 a0)] [] (spec_CountHeardOnce.sig.ret r) (spec_CountHeardOnce.sig.bs r) :=
  good_fn tabOk0 mixed0 spec_CountHeardOnce.sig (spec_CountHeardOnce.E N) Go.Proofs.Try.func26 (by kernel_rfl) (by kernel_rfl) 2101565 0 0 [(122, [0, 4, 5], []), (978, [0, 4, 5], [])] [(false, [.any]), (false, [.any])] (by kernel_rfl) rfl ((spec_CountHeardOnce.g.run N a0).trans h)
noncomputable def spec_CountHeardOnce.ent (N : Nat) : Ent Go.Proofs.Try.prog T0 := mkEnt 26 [(false, [.any])] spec_CountHeardOnce.sig (fun t => spec_CountHeardOnce.g N t) (fun t r h => spec_CountHeardOnce.good N t r h)
end Go.Proofs.Ytpemffldaepbpaa.M

namespace Go.Proofs.Ytpemffldaepbpaa.M
open Go Go.PM Go.Proofs.Ytpemffldaepbpaa.P
set_option linter.unusedVariables false
set_option maxRecDepth 100000
/-! ### impl_isHeardList_1 -/
abbrev impl_isHeardList_1.R : Type := Bool
abbrev impl_isHeardList_1.sig : Sig := ⟨[(false, 1)], [], [.int .i64], [(false, 1)], [], [.bool]⟩
noncomputable def impl_isHeardList_1.C : Cfg D0 := ⟨Go.Proofs.Try.prog, T0, 5, 0, 6, 0, []⟩
noncomputable def impl_isHeardList_1.E (N : Nat) : List (Ent Go.Proofs.Try.prog T0) := [impl_within.ent N]
noncomputable def impl_isHeardList_1.O (N : Nat) : Orc D0 impl_isHeardList_1.R := orcOf (impl_isHeardList_1.E N)
noncomputable def impl_isHeardList_1.K0 : Ex → St D0 → Option impl_isHeardList_1.R := exitK impl_isHeardList_1.C Go.Proofs.Try.f91.results.toList [(false, [.any])] (decOut impl_isHeardList_1.sig)
noncomputable def impl_isHeardList_1.c1 : Code := codeAt (Go.Proofs.Try.f91.body.getD .skip) []
noncomputable def impl_isHeardList_1.o0 (N : Nat) (a0 : Int) : Option impl_isHeardList_1.R :=
 (impl_within.g N a0 1 24).bind fun r1 =>
 some ((!r1))
theorem impl_isHeardList_1.o0.run (N : Nat) (a0 : Int) : runC impl_isHeardList_1.C (impl_isHeardList_1.O N) N impl_isHeardList_1.c1 1 (st0 [.one (.int .i64 a0)] [] : St D0) impl_isHeardList_1.K0 = impl_isHeardList_1.o0 N a0 := by kernel_rfl
noncomputable def impl_isHeardList_1.g (N : Nat) (a0 : Int) : Option impl_isHeardList_1.R := impl_isHeardList_1.o0 N a0
theorem impl_isHeardList_1.g.run (N : Nat) (a0 : Int) : runC impl_isHeardList_1.C (impl_isHeardList_1.O N) N impl_isHeardList_1.c1 1 (st0 [.one (.int .i64 a0)] [] : St D0) impl_isHeardList_1.K0 = impl_isHeardList_1.g N a0 := by
  exact (impl_isHeardList_1.o0.run N a0).trans rfl
theorem impl_isHeardList_1.good (N : Nat) (a0 : Int) (r : impl_isHeardList_1.R) (h : impl_isHeardList_1.g N a0 = some r) : Go.PM.Good Go.Proofs.Try.prog T0 91 [.one (.int .i64 a0)] [] (impl_isHeardList_1.sig.ret r) (impl_isHeardList_1.sig.bs r) :=
  good_fn tabOk0 mixed0 impl_isHeardList_1.sig (impl_isHeardList_1.E N) Go.Proofs.Try.func91 (by kernel_rfl) (by kernel_rfl) 5 0 0 [] [(false, [.any])] (by kernel_rfl) rfl ((impl_isHeardList_1.g.run N a0).trans h)
noncomputable def impl_isHeardList_1.ent (N : Nat) : Ent Go.Proofs.Try.prog T0 := mkEnt 91 [(false, [.any])] impl_isHeardList_1.sig (fun t => impl_isHeardList_1.g N t) (fun t r h => impl_isHeardList_1.good N t r h)
end Go.Proofs.Ytpemffldaepbpaa.M

namespace Go.Proofs.Ytpemffldaepbpaa.M
open Go Go.PM Go.Proofs.Ytpemffldaepbpaa.P
set_option linter.unusedVariables false
set_option maxRecDepth 100000
/-! ### slices_IndexFunc_int_int -/
abbrev slices_IndexFunc_int_int.R : Type := Int
abbrev slices_IndexFunc_int_int.sig : Sig := ⟨[(false, 1), (false, 1)], [], [.sl false 3, .fn 91 []], [(false, 1)], [], [.int .i64]⟩
noncomputable def slices_IndexFunc_int_int.C : Cfg D0 := ⟨Go.Proofs.Try.prog, T0, 66483, 0, 19, 0, [(26, [0, 1, 7, 8], [])]⟩
noncomputable def slices_IndexFunc_int_int.E (N : Nat) : List (Ent Go.Proofs.Try.prog T0) := [impl_isHeardList_1.ent N]
noncomputable def slices_IndexFunc_int_int.O (N : Nat) : Orc D0 slices_IndexFunc_int_int.R := orcOf (slices_IndexFunc_int_int.E N)
noncomputable def slices_IndexFunc_int_int.K0 : Ex → St D0 → Option slices_IndexFunc_int_int.R := exitK slices_IndexFunc_int_int.C Go.Proofs.Try.f95.results.toList [(false, [.any])] (decOut slices_IndexFunc_int_int.sig)
noncomputable def slices_IndexFunc_int_int.c1 : Code := codeAt (Go.Proofs.Try.f95.body.getD .skip) []
noncomputable def slices_IndexFunc_int_int.c2 : Code := codeAt (Go.Proofs.Try.f95.body.getD .skip) [false]
noncomputable def slices_IndexFunc_int_int.c7 : Code := codeAt (Go.Proofs.Try.f95.body.getD .skip) [true, true]
noncomputable def slices_IndexFunc_int_int.c12 : Code := codeAt (Go.Proofs.Try.f95.body.getD .skip) [true, false, false]
noncomputable def slices_IndexFunc_int_int.c52 : Code := codeAt (Go.Proofs.Try.f95.body.getD .skip) [true, false, true, false, false]
noncomputable def slices_IndexFunc_int_int.K52 (N : Nat) (Kn26 : St D0 → Option slices_IndexFunc_int_int.R) : Ex → St D0 → Option slices_IndexFunc_int_int.R := (onN (fun s => slices_IndexFunc_int_int.C.tidy 26 s ((onN Kn26 (blockK 0 (onN (fun s => slices_IndexFunc_int_int.C.tidy 6 s (fun s' => runC slices_IndexFunc_int_int.C (slices_IndexFunc_int_int.O N) N slices_IndexFunc_int_int.c7 7 s' slices_IndexFunc_int_int.K0)) slices_IndexFunc_int_int.K0))) .normal)) (onN Kn26 (blockK 0 (onN (fun s => slices_IndexFunc_int_int.C.tidy 6 s (fun s' => runC slices_IndexFunc_int_int.C (slices_IndexFunc_int_int.O N) N slices_IndexFunc_int_int.c7 7 s' slices_IndexFunc_int_int.K0)) slices_IndexFunc_int_int.K0))))
noncomputable def slices_IndexFunc_int_int.o1 (N : Nat) (v0 : List Int) (v1 : Int) (v2 : Int) (c1 : (List Int) → Int → Int → Option slices_IndexFunc_int_int.R) : Option slices_IndexFunc_int_int.R :=
 bif (decide (v2 < v1)) then
  bif (decide (0 ≤ v2)) then
   bif (decide (v2 < (v0.length : Int))) then
    (v0[(v2 : Int).toNat]?).bind fun x1 =>
    (impl_isHeardList_1.g N x1).bind fun r2 =>
    bif r2 then
     some (v2)
    else
    c1 v0 v1 (w64 (v2 + 1))
   else
   none
  else
  none
 else
 some ((-1))
theorem slices_IndexFunc_int_int.o1.run (N : Nat) (Kn26 : St D0 → Option slices_IndexFunc_int_int.R) (v0 : List Int) (v1 : Int) (v2 : Int) : runC slices_IndexFunc_int_int.C (slices_IndexFunc_int_int.O N) N slices_IndexFunc_int_int.c52 52 (mkSt [(0, .one (.sl false 3 v0)), (1, .one (.fn 91 [])), (7, .one (.int .i64 v1)), (8, .one (.int .i64 v2))] [] : St D0) (onN (fun s => slices_IndexFunc_int_int.C.tidy 26 s ((onN Kn26 (blockK 0 (onN (fun s => slices_IndexFunc_int_int.C.tidy 6 s (fun s' => runC slices_IndexFunc_int_int.C (slices_IndexFunc_int_int.O N) N slices_IndexFunc_int_int.c7 7 s' slices_IndexFunc_int_int.K0)) slices_IndexFunc_int_int.K0))) .normal)) (onN Kn26 (blockK 0 (onN (fun s => slices_IndexFunc_int_int.C.tidy 6 s (fun s' => runC slices_IndexFunc_int_int.C (slices_IndexFunc_int_int.O N) N slices_IndexFunc_int_int.c7 7 s' slices_IndexFunc_int_int.K0)) slices_IndexFunc_int_int.K0)))) = slices_IndexFunc_int_int.o1 N v0 v1 v2 ((fun w0 w1 w2 => Kn26 (mkSt [(0, .one (.sl false 3 w0)), (1, .one (.fn 91 [])), (7, .one (.int .i64 w1)), (8, .one (.int .i64 w2))] [] : St D0))) := by kernel_rfl
noncomputable def slices_IndexFunc_int_int.d1 (N : Nat) (v0 : List Int) (v1 : Int) (v2 : Int) (c1 : (List Int) → Int → Int → Option slices_IndexFunc_int_int.R) : Option slices_IndexFunc_int_int.R := slices_IndexFunc_int_int.o1 N v0 v1 v2 c1
theorem slices_IndexFunc_int_int.d1.run (N : Nat) (Kn26 : St D0 → Option slices_IndexFunc_int_int.R) (v0 : List Int) (v1 : Int) (v2 : Int) : runC slices_IndexFunc_int_int.C (slices_IndexFunc_int_int.O N) N slices_IndexFunc_int_int.c52 52 (mkSt [(0, .one (.sl false 3 v0)), (1, .one (.fn 91 [])), (7, .one (.int .i64 v1)), (8, .one (.int .i64 v2))] [] : St D0) (slices_IndexFunc_int_int.K52 N Kn26) = slices_IndexFunc_int_int.d1 N v0 v1 v2 ((fun w0 w1 w2 => Kn26 (mkSt [(0, .one (.sl false 3 w0)), (1, .one (.fn 91 [])), (7, .one (.int .i64 w1)), (8, .one (.int .i64 w2))] [] : St D0))) := by
  exact (slices_IndexFunc_int_int.o1.run N Kn26 v0 v1 v2).trans rfl
noncomputable def slices_IndexFunc_int_int.K26 (N : Nat) : Ex → St D0 → Option slices_IndexFunc_int_int.R := (blockK 0 (onN (fun s => slices_IndexFunc_int_int.C.tidy 6 s (fun s' => runC slices_IndexFunc_int_int.C (slices_IndexFunc_int_int.O N) N slices_IndexFunc_int_int.c7 7 s' slices_IndexFunc_int_int.K0)) slices_IndexFunc_int_int.K0))
noncomputable def slices_IndexFunc_int_int.l1 (N : Nat) : Nat → (List Int) → Int → Int → Option slices_IndexFunc_int_int.R
  | 0, _, _, _ => none
  | n + 1, v0, v1, v2 => slices_IndexFunc_int_int.d1 N v0 v1 v2 ((fun w0 w1 w2 => slices_IndexFunc_int_int.l1 N n w0 w1 w2))
theorem slices_IndexFunc_int_int.loop26 (N : Nat) : ∀ n, (∀ (v0 : List Int) (v1 : Int) (v2 : Int), iter (loopF slices_IndexFunc_int_int.C (slices_IndexFunc_int_int.O N) N slices_IndexFunc_int_int.c52 26) n (mkSt [(0, .one (.sl false 3 v0)), (1, .one (.fn 91 [])), (7, .one (.int .i64 v1)), (8, .one (.int .i64 v2))] [] : St D0) (slices_IndexFunc_int_int.K26 N) = slices_IndexFunc_int_int.l1 N n v0 v1 v2)
  | 0 => (fun v0 v1 v2 => rfl)
  | n + 1 => (fun v0 v1 v2 => (slices_IndexFunc_int_int.d1.run N (fun s => iter (loopF slices_IndexFunc_int_int.C (slices_IndexFunc_int_int.O N) N slices_IndexFunc_int_int.c52 26) n s (slices_IndexFunc_int_int.K26 N)) v0 v1 v2).trans (show _ = slices_IndexFunc_int_int.d1 N v0 v1 v2 ((fun w0 w1 w2 => slices_IndexFunc_int_int.l1 N n w0 w1 w2)) from (congr rfl (funext fun w0 => funext fun w1 => funext fun w2 => (slices_IndexFunc_int_int.loop26 N n) w0 w1 w2))))
noncomputable def slices_IndexFunc_int_int.o0 (N : Nat) (a0 : List Int) (c1 : (List Int) → Int → Int → Option slices_IndexFunc_int_int.R) : Option slices_IndexFunc_int_int.R :=
 c1 a0 (a0.length : Int) 0
theorem slices_IndexFunc_int_int.o0.run (N : Nat) (H52 : Code) (a0 : List Int) : runC slices_IndexFunc_int_int.C (slices_IndexFunc_int_int.O N) N (.seq slices_IndexFunc_int_int.c2 (.seq (.seq slices_IndexFunc_int_int.c12 (.block 0 (.loop H52))) slices_IndexFunc_int_int.c7)) 1 (st0 [.one (.sl false 3 a0), .one (.fn 91 [])] [] : St D0) slices_IndexFunc_int_int.K0 = slices_IndexFunc_int_int.o0 N a0 ((fun w0 w1 w2 => iter (loopF slices_IndexFunc_int_int.C (slices_IndexFunc_int_int.O N) N H52 26) N (mkSt [(0, .one (.sl false 3 w0)), (1, .one (.fn 91 [])), (7, .one (.int .i64 w1)), (8, .one (.int .i64 w2))] [] : St D0) (blockK 0 (onN (fun s => slices_IndexFunc_int_int.C.tidy 6 s (fun s' => runC slices_IndexFunc_int_int.C (slices_IndexFunc_int_int.O N) N slices_IndexFunc_int_int.c7 7 s' slices_IndexFunc_int_int.K0)) slices_IndexFunc_int_int.K0)))) := by kernel_rfl
noncomputable def slices_IndexFunc_int_int.g (N : Nat) (a0 : List Int) : Option slices_IndexFunc_int_int.R := slices_IndexFunc_int_int.o0 N a0 ((fun w0 w1 w2 => slices_IndexFunc_int_int.l1 N N w0 w1 w2))
theorem slices_IndexFunc_int_int.c1_0 : slices_IndexFunc_int_int.c1 = (.seq slices_IndexFunc_int_int.c2 (.seq (.seq slices_IndexFunc_int_int.c12 (.block 0 (.loop slices_IndexFunc_int_int.c52))) slices_IndexFunc_int_int.c7)) := by kernel_rfl
theorem slices_IndexFunc_int_int.g.run (N : Nat) (a0 : List Int) : runC slices_IndexFunc_int_int.C (slices_IndexFunc_int_int.O N) N slices_IndexFunc_int_int.c1 1 (st0 [.one (.sl false 3 a0), .one (.fn 91 [])] [] : St D0) slices_IndexFunc_int_int.K0 = slices_IndexFunc_int_int.g N a0 := by
  rw [slices_IndexFunc_int_int.c1_0]; unfold slices_IndexFunc_int_int.g; exact (slices_IndexFunc_int_int.o0.run N slices_IndexFunc_int_int.c52 a0).trans (congr rfl (funext fun w0 => funext fun w1 => funext fun w2 => (slices_IndexFunc_int_int.loop26 N N) w0 w1 w2))
theorem slices_IndexFunc_int_int.good (N : Nat) (a0 : List Int) (r : slices_IndexFunc_int_int.R) (h : slices_IndexFunc_int_int.g N a0 = some r) : Go.PM.Good Go.Proofs.Try.prog T0 95 [.one (.sl false 3 a0), .one (.fn 91 [])] [] (slices_IndexFunc_int_int.sig.ret r) (slices_IndexFunc_int_int.sig.bs r) :=
  good_fn tabOk0 mixed0 slices_IndexFunc_int_int.sig (slices_IndexFunc_int_int.E N) Go.Proofs.Try.func95 (by kernel_rfl) (by kernel_rfl) 66483 0 0 [(26, [0, 1, 7, 8], [])] [(false, [.any])] (by kernel_rfl) rfl ((slices_IndexFunc_int_int.g.run N a0).trans h)
noncomputable def slices_IndexFunc_int_int.ent (N : Nat) : Ent Go.Proofs.Try.prog T0 := mkEnt 95 [(false, [.ro 3]), (false, [.any])] slices_IndexFunc_int_int.sig (fun t => slices_IndexFunc_int_int.g N t.1) (fun t r h => slices_IndexFunc_int_int.good N t.1 r h)
end Go.Proofs.Ytpemffldaepbpaa.M

namespace Go.Proofs.Ytpemffldaepbpaa.M
open Go Go.PM Go.Proofs.Ytpemffldaepbpaa.P
set_option linter.unusedVariables false
set_option maxRecDepth 100000
/-! ### slices_ContainsFunc_int_int -/
abbrev slices_ContainsFunc_int_int.R : Type := Bool
abbrev slices_ContainsFunc_int_int.sig : Sig := ⟨[(false, 1), (false, 1)], [], [.sl false 3, .fn 91 []], [(false, 1)], [], [.bool]⟩
noncomputable def slices_ContainsFunc_int_int.C : Cfg D0 := ⟨Go.Proofs.Try.prog, T0, 19, 0, 9, 0, []⟩
noncomputable def slices_ContainsFunc_int_int.E (N : Nat) : List (Ent Go.Proofs.Try.prog T0) := [slices_IndexFunc_int_int.ent N]
noncomputable def slices_ContainsFunc_int_int.O (N : Nat) : Orc D0 slices_ContainsFunc_int_int.R := orcOf (slices_ContainsFunc_int_int.E N)
noncomputable def slices_ContainsFunc_int_int.K0 : Ex → St D0 → Option slices_ContainsFunc_int_int.R := exitK slices_ContainsFunc_int_int.C Go.Proofs.Try.f90.results.toList [(false, [.any])] (decOut slices_ContainsFunc_int_int.sig)
noncomputable def slices_ContainsFunc_int_int.c1 : Code := codeAt (Go.Proofs.Try.f90.body.getD .skip) []
noncomputable def slices_ContainsFunc_int_int.o0 (N : Nat) (a0 : List Int) : Option slices_ContainsFunc_int_int.R :=
 (slices_IndexFunc_int_int.g N a0).bind fun r1 =>
 some ((decide (r1 ≥ 0)))
theorem slices_ContainsFunc_int_int.o0.run (N : Nat) (a0 : List Int) : runC slices_ContainsFunc_int_int.C (slices_ContainsFunc_int_int.O N) N slices_ContainsFunc_int_int.c1 1 (st0 [.one (.sl false 3 a0), .one (.fn 91 [])] [] : St D0) slices_ContainsFunc_int_int.K0 = slices_ContainsFunc_int_int.o0 N a0 := by kernel_rfl
noncomputable def slices_ContainsFunc_int_int.g (N : Nat) (a0 : List Int) : Option slices_ContainsFunc_int_int.R := slices_ContainsFunc_int_int.o0 N a0
theorem slices_ContainsFunc_int_int.g.run (N : Nat) (a0 : List Int) : runC slices_ContainsFunc_int_int.C (slices_ContainsFunc_int_int.O N) N slices_ContainsFunc_int_int.c1 1 (st0 [.one (.sl false 3 a0), .one (.fn 91 [])] [] : St D0) slices_ContainsFunc_int_int.K0 = slices_ContainsFunc_int_int.g N a0 := by
  exact (slices_ContainsFunc_int_int.o0.run N a0).trans rfl
theorem slices_ContainsFunc_int_int.good (N : Nat) (a0 : List Int) (r : slices_ContainsFunc_int_int.R) (h : slices_ContainsFunc_int_int.g N a0 = some r) : Go.PM.Good Go.Proofs.Try.prog T0 90 [.one (.sl false 3 a0), .one (.fn 91 [])] [] (slices_ContainsFunc_int_int.sig.ret r) (slices_ContainsFunc_int_int.sig.bs r) :=
  good_fn tabOk0 mixed0 slices_ContainsFunc_int_int.sig (slices_ContainsFunc_int_int.E N) Go.Proofs.Try.func90 (by kernel_rfl) (by kernel_rfl) 19 0 0 [] [(false, [.any])] (by kernel_rfl) rfl ((slices_ContainsFunc_int_int.g.run N a0).trans h)
noncomputable def slices_ContainsFunc_int_int.ent (N : Nat) : Ent Go.Proofs.Try.prog T0 := mkEnt 90 [(false, [.ro 3]), (false, [.any])] slices_ContainsFunc_int_int.sig (fun t => slices_ContainsFunc_int_int.g N t.1) (fun t r h => slices_ContainsFunc_int_int.good N t.1 r h)
end Go.Proofs.Ytpemffldaepbpaa.M

namespace Go.Proofs.Ytpemffldaepbpaa.M
open Go Go.PM Go.Proofs.Ytpemffldaepbpaa.P
set_option linter.unusedVariables false
set_option maxRecDepth 100000
/-! ### impl_isHeardList -/
abbrev impl_isHeardList.R : Type := Bool
abbrev impl_isHeardList.sig : Sig := ⟨[(false, 1), (false, 1)], [], [.int .i64, .sl false 3], [(false, 1)], [], [.bool]⟩
noncomputable def impl_isHeardList.C : Cfg D0 := ⟨Go.Proofs.Try.prog, T0, 19, 0, 17, 0, []⟩
noncomputable def impl_isHeardList.E (N : Nat) : List (Ent Go.Proofs.Try.prog T0) := [impl_isDial.ent N, impl_within.ent N, slices_ContainsFunc_int_int.ent N]
noncomputable def impl_isHeardList.O (N : Nat) : Orc D0 impl_isHeardList.R := orcOf (impl_isHeardList.E N)
noncomputable def impl_isHeardList.K0 : Ex → St D0 → Option impl_isHeardList.R := exitK impl_isHeardList.C Go.Proofs.Try.f75.results.toList [(false, [.any])] (decOut impl_isHeardList.sig)
noncomputable def impl_isHeardList.c1 : Code := codeAt (Go.Proofs.Try.f75.body.getD .skip) []
noncomputable def impl_isHeardList.o0 (N : Nat) (a0 : Int) (a1 : List Int) : Option impl_isHeardList.R :=
 (impl_isDial.g N a0).bind fun r1 =>
 bif r1 then
  (impl_within.g N (a1.length : Int) 1 60).bind fun r2 =>
  bif r2 then
   (slices_ContainsFunc_int_int.g N a1).bind fun r3 =>
   some ((!r3))
  else
  some (false)
 else
 some (false)
theorem impl_isHeardList.o0.run (N : Nat) (a0 : Int) (a1 : List Int) : runC impl_isHeardList.C (impl_isHeardList.O N) N impl_isHeardList.c1 1 (st0 [.one (.int .i64 a0), .one (.sl false 3 a1)] [] : St D0) impl_isHeardList.K0 = impl_isHeardList.o0 N a0 a1 := by kernel_rfl
noncomputable def impl_isHeardList.g (N : Nat) (a0 : Int) (a1 : List Int) : Option impl_isHeardList.R := impl_isHeardList.o0 N a0 a1
theorem impl_isHeardList.g.run (N : Nat) (a0 : Int) (a1 : List Int) : runC impl_isHeardList.C (impl_isHeardList.O N) N impl_isHeardList.c1 1 (st0 [.one (.int .i64 a0), .one (.sl false 3 a1)] [] : St D0) impl_isHeardList.K0 = impl_isHeardList.g N a0 a1 := by
  exact (impl_isHeardList.o0.run N a0 a1).trans rfl
theorem impl_isHeardList.good (N : Nat) (a0 : Int) (a1 : List Int) (r : impl_isHeardList.R) (h : impl_isHeardList.g N a0 a1 = some r) : Go.PM.Good Go.Proofs.Try.prog T0 75 [.one (.int .i64 a0), .one (.sl false 3 a1)] [] (impl_isHeardList.sig.ret r) (impl_isHeardList.sig.bs r) :=
  good_fn tabOk0 mixed0 impl_isHeardList.sig (impl_isHeardList.E N) Go.Proofs.Try.func75 (by kernel_rfl) (by kernel_rfl) 19 0 0 [] [(false, [.any])] (by kernel_rfl) rfl ((impl_isHeardList.g.run N a0 a1).trans h)
noncomputable def impl_isHeardList.ent (N : Nat) : Ent Go.Proofs.Try.prog T0 := mkEnt 75 [(false, [.any]), (false, [.ro 3])] impl_isHeardList.sig (fun t => impl_isHeardList.g N t.1 t.2) (fun t r h => impl_isHeardList.good N t.1 t.2 r h)
end Go.Proofs.Ytpemffldaepbpaa.M

namespace Go.Proofs.Ytpemffldaepbpaa.M
open Go Go.PM Go.Proofs.Ytpemffldaepbpaa.P
set_option linter.unusedVariables false
set_option maxRecDepth 100000
/-! ### impl_HalvesOfHeard -/
abbrev impl_HalvesOfHeard.R : Type := List Int × Bool
abbrev impl_HalvesOfHeard.sig : Sig := ⟨[(false, 1), (false, 1)], [], [.int .i64, .sl false 3], [(false, 1), (false, 1)], [], [.sl true 3, .bool]⟩
noncomputable def impl_HalvesOfHeard.C : Cfg D0 := ⟨Go.Proofs.Try.prog, T0, 563, 0, 13, 0, []⟩
noncomputable def impl_HalvesOfHeard.E (N : Nat) : List (Ent Go.Proofs.Try.prog T0) := [impl_isHeardList.ent N, impl_halvesOf.ent N]
noncomputable def impl_HalvesOfHeard.O (N : Nat) : Orc D0 impl_HalvesOfHeard.R := orcOf (impl_HalvesOfHeard.E N)
noncomputable def impl_HalvesOfHeard.K0 : Ex → St D0 → Option impl_HalvesOfHeard.R := exitK impl_HalvesOfHeard.C Go.Proofs.Try.f27.results.toList [(false, [.own 3]), (false, [.any])] (decOut impl_HalvesOfHeard.sig)
noncomputable def impl_HalvesOfHeard.c1 : Code := codeAt (Go.Proofs.Try.f27.body.getD .skip) []
noncomputable def impl_HalvesOfHeard.o0 (N : Nat) (a0 : Int) (a1 : List Int) : Option impl_HalvesOfHeard.R :=
 (impl_isHeardList.g N a0 a1).bind fun r1 =>
 bif (!r1) then
  some (([] : List Int), false)
 else
 (impl_halvesOf.g N a0 a1).bind fun r2 =>
 some (r2, true)
theorem impl_HalvesOfHeard.o0.run (N : Nat) (a0 : Int) (a1 : List Int) : runC impl_HalvesOfHeard.C (impl_HalvesOfHeard.O N) N impl_HalvesOfHeard.c1 1 (st0 [.one (.int .i64 a0), .one (.sl false 3 a1)] [] : St D0) impl_HalvesOfHeard.K0 = impl_HalvesOfHeard.o0 N a0 a1 := by kernel_rfl
noncomputable def impl_HalvesOfHeard.g (N : Nat) (a0 : Int) (a1 : List Int) : Option impl_HalvesOfHeard.R := impl_HalvesOfHeard.o0 N a0 a1
theorem impl_HalvesOfHeard.g.run (N : Nat) (a0 : Int) (a1 : List Int) : runC impl_HalvesOfHeard.C (impl_HalvesOfHeard.O N) N impl_HalvesOfHeard.c1 1 (st0 [.one (.int .i64 a0), .one (.sl false 3 a1)] [] : St D0) impl_HalvesOfHeard.K0 = impl_HalvesOfHeard.g N a0 a1 := by
  exact (impl_HalvesOfHeard.o0.run N a0 a1).trans rfl
theorem impl_HalvesOfHeard.good (N : Nat) (a0 : Int) (a1 : List Int) (r : impl_HalvesOfHeard.R) (h : impl_HalvesOfHeard.g N a0 a1 = some r) : Go.PM.Good Go.Proofs.Try.prog T0 27 [.one (.int .i64 a0), .one (.sl false 3 a1)] [] (impl_HalvesOfHeard.sig.ret r) (impl_HalvesOfHeard.sig.bs r) :=
  good_fn tabOk0 mixed0 impl_HalvesOfHeard.sig (impl_HalvesOfHeard.E N) Go.Proofs.Try.func27 (by kernel_rfl) (by kernel_rfl) 563 0 0 [] [(false, [.own 3]), (false, [.any])] (by kernel_rfl) rfl ((impl_HalvesOfHeard.g.run N a0 a1).trans h)
noncomputable def impl_HalvesOfHeard.ent (N : Nat) : Ent Go.Proofs.Try.prog T0 := mkEnt 27 [(false, [.any]), (false, [.ro 3])] impl_HalvesOfHeard.sig (fun t => impl_HalvesOfHeard.g N t.1 t.2) (fun t r h => impl_HalvesOfHeard.good N t.1 t.2 r h)
end Go.Proofs.Ytpemffldaepbpaa.M

namespace Go.Proofs.Ytpemffldaepbpaa.M
open Go Go.PM Go.Proofs.Ytpemffldaepbpaa.P
set_option linter.unusedVariables false
set_option maxRecDepth 100000
/-! ### spec_DrawStrokeNumber -/
abbrev spec_DrawStrokeNumber.R : Type := Int × Int
abbrev spec_DrawStrokeNumber.sig : Sig := ⟨[(false, 1)], [], [.sl false 5], [(false, 1), (false, 1)], [], [.int .i64, .int .i64]⟩
noncomputable def spec_DrawStrokeNumber.C : Cfg D0 := ⟨Go.Proofs.Try.prog, T0, 541, 0, 20, 0, []⟩
noncomputable def spec_DrawStrokeNumber.E (N : Nat) : List (Ent Go.Proofs.Try.prog T0) := [spec_l1Cur_one.ent N, spec_l1Cur_hours.ent N, spec_l1Cur_among.ent N, spec_l1Cur_pick.ent N]
noncomputable def spec_DrawStrokeNumber.O (N : Nat) : Orc D0 spec_DrawStrokeNumber.R := orcOf (spec_DrawStrokeNumber.E N)
noncomputable def spec_DrawStrokeNumber.K0 : Ex → St D0 → Option spec_DrawStrokeNumber.R := exitK spec_DrawStrokeNumber.C Go.Proofs.Try.f28.results.toList [(false, [.any]), (false, [.any])] (decOut spec_DrawStrokeNumber.sig)
noncomputable def spec_DrawStrokeNumber.c1 : Code := codeAt (Go.Proofs.Try.f28.body.getD .skip) []
noncomputable def spec_DrawStrokeNumber.o0 (N : Nat) (a0 : List Int) : Option spec_DrawStrokeNumber.R :=
 (spec_l1Cur_one.g N 12 a0 0 0).bind fun r1 =>
 bif r1.1 then
  (spec_l1Cur_hours.g N r1.2.1 r1.2.2.1 r1.2.2.2).bind fun r2 =>
  (spec_l1Cur_among.g N ([0, 1, 1000000000, 1000000001, (-1)] : List Int) r2.2.1 r2.2.2.1 r2.2.2.2).bind fun r3 =>
  some (r2.1, r3.1)
 else
 (spec_l1Cur_hours.g N r1.2.1 r1.2.2.1 r1.2.2.2).bind fun r4 =>
 (spec_l1Cur_pick.g N 700 r4.2.1 r4.2.2.1 r4.2.2.2).bind fun r5 =>
 some (r4.1, (w64 (1 + r5.1)))
theorem spec_DrawStrokeNumber.o0.run (N : Nat) (a0 : List Int) : runC spec_DrawStrokeNumber.C (spec_DrawStrokeNumber.O N) N spec_DrawStrokeNumber.c1 1 (st0 [.one (.sl false 5 a0)] [] : St D0) spec_DrawStrokeNumber.K0 = spec_DrawStrokeNumber.o0 N a0 := by kernel_rfl
noncomputable def spec_DrawStrokeNumber.g (N : Nat) (a0 : List Int) : Option spec_DrawStrokeNumber.R := spec_DrawStrokeNumber.o0 N a0
theorem spec_DrawStrokeNumber.g.run (N : Nat) (a0 : List Int) : runC spec_DrawStrokeNumber.C (spec_DrawStrokeNumber.O N) N spec_DrawStrokeNumber.c1 1 (st0 [.one (.sl false 5 a0)] [] : St D0) spec_DrawStrokeNumber.K0 = spec_DrawStrokeNumber.g N a0 := by
  exact (spec_DrawStrokeNumber.o0.run N a0).trans rfl
theorem spec_DrawStrokeNumber.good (N : Nat) (a0 : List Int) (r : spec_DrawStrokeNumber.R) (h : spec_DrawStrokeNumber.g N a0 = some r) : Go.PM.Good Go.Proofs.Try.prog T0 28 [.one (.sl false 5 a0)] [] (spec_DrawStrokeNumber.sig.ret r) (spec_DrawStrokeNumber.sig.bs r) :=
  good_fn tabOk0 mixed0 spec_DrawStrokeNumber.sig (spec_DrawStrokeNumber.E N) Go.Proofs.Try.func28 (by kernel_rfl) (by kernel_rfl) 541 0 0 [] [(false, [.any]), (false, [.any])] (by kernel_rfl) rfl ((spec_DrawStrokeNumber.g.run N a0).trans h)
noncomputable def spec_DrawStrokeNumber.ent (N : Nat) : Ent Go.Proofs.Try.prog T0 := mkEnt 28 [(false, [.ro 5])] spec_DrawStrokeNumber.sig (fun t => spec_DrawStrokeNumber.g N t) (fun t r h => spec_DrawStrokeNumber.good N t r h)
end Go.Proofs.Ytpemffldaepbpaa.M

namespace Go.Proofs.Ytpemffldaepbpaa.M
open Go Go.PM Go.Proofs.Ytpemffldaepbpaa.P
set_option linter.unusedVariables false
set_option maxRecDepth 100000
/-! ### impl_strokeNumber -/
abbrev impl_strokeNumber.R : Type := Int × Int
abbrev impl_strokeNumber.sig : Sig := ⟨[(false, 1), (false, 1)], [], [.int .i64, .int .i64], [(false, 1), (false, 1)], [], [.int .i64, .int .i64]⟩
noncomputable def impl_strokeNumber.C : Cfg D0 := ⟨Go.Proofs.Try.prog, T0, 33554547, 0, 35, 0, [(60, [0, 1, 6], [])]⟩
noncomputable def impl_strokeNumber.E (N : Nat) : List (Ent Go.Proofs.Try.prog T0) := [impl_ofTurn.ent N, impl_strokes.ent N]
noncomputable def impl_strokeNumber.O (N : Nat) : Orc D0 impl_strokeNumber.R := orcOf (impl_strokeNumber.E N)
noncomputable def impl_strokeNumber.K0 : Ex → St D0 → Option impl_strokeNumber.R := exitK impl_strokeNumber.C Go.Proofs.Try.f76.results.toList [(false, [.any]), (false, [.any])] (decOut impl_strokeNumber.sig)
noncomputable def impl_strokeNumber.c1 : Code := codeAt (Go.Proofs.Try.f76.body.getD .skip) []
noncomputable def impl_strokeNumber.c2 : Code := codeAt (Go.Proofs.Try.f76.body.getD .skip) [false]
noncomputable def impl_strokeNumber.c6 : Code := codeAt (Go.Proofs.Try.f76.body.getD .skip) [true, false]
noncomputable def impl_strokeNumber.c14 : Code := codeAt (Go.Proofs.Try.f76.body.getD .skip) [true, true, false]
noncomputable def impl_strokeNumber.c31 : Code := codeAt (Go.Proofs.Try.f76.body.getD .skip) [true, true, true, true]
noncomputable def impl_strokeNumber.c120 : Code := codeAt (Go.Proofs.Try.f76.body.getD .skip) [true, true, true, false, false, false]
noncomputable def impl_strokeNumber.K120 (N : Nat) (Kn60 : St D0 → Option impl_strokeNumber.R) : Ex → St D0 → Option impl_strokeNumber.R := (onN (fun s => impl_strokeNumber.C.tidy 60 s ((onN Kn60 (blockK 0 (onN (fun s => impl_strokeNumber.C.tidy 30 s (fun s' => runC impl_strokeNumber.C (impl_strokeNumber.O N) N impl_strokeNumber.c31 31 s' impl_strokeNumber.K0)) impl_strokeNumber.K0))) .normal)) (onN Kn60 (blockK 0 (onN (fun s => impl_strokeNumber.C.tidy 30 s (fun s' => runC impl_strokeNumber.C (impl_strokeNumber.O N) N impl_strokeNumber.c31 31 s' impl_strokeNumber.K0)) impl_strokeNumber.K0))))
noncomputable def impl_strokeNumber.o1 (N : Nat) (v0 : Int) (v1 : Int) (v2 : Int) (c1 : Int → Int → Int → Option impl_strokeNumber.R) : Option impl_strokeNumber.R :=
 (impl_strokes.g N v0 v2).bind fun r1 =>
 bif (decide (v1 > r1)) then
  (impl_strokes.g N v0 v2).bind fun r2 =>
  c1 v0 (w64 (v1 - r2)) (w64 (v2 + 1))
 else
 some (v2, v1)
theorem impl_strokeNumber.o1.run (N : Nat) (Kn60 : St D0 → Option impl_strokeNumber.R) (v0 : Int) (v1 : Int) (v2 : Int) : runC impl_strokeNumber.C (impl_strokeNumber.O N) N impl_strokeNumber.c120 120 (mkSt [(0, .one (.int .i64 v0)), (1, .one (.int .i64 v1)), (6, .one (.int .i64 v2))] [] : St D0) (onN (fun s => impl_strokeNumber.C.tidy 60 s ((onN Kn60 (blockK 0 (onN (fun s => impl_strokeNumber.C.tidy 30 s (fun s' => runC impl_strokeNumber.C (impl_strokeNumber.O N) N impl_strokeNumber.c31 31 s' impl_strokeNumber.K0)) impl_strokeNumber.K0))) .normal)) (onN Kn60 (blockK 0 (onN (fun s => impl_strokeNumber.C.tidy 30 s (fun s' => runC impl_strokeNumber.C (impl_strokeNumber.O N) N impl_strokeNumber.c31 31 s' impl_strokeNumber.K0)) impl_strokeNumber.K0)))) = impl_strokeNumber.o1 N v0 v1 v2 ((fun w0 w1 w2 => Kn60 (mkSt [(0, .one (.int .i64 w0)), (1, .one (.int .i64 w1)), (6, .one (.int .i64 w2))] [] : St D0))) := by kernel_rfl
noncomputable def impl_strokeNumber.d1 (N : Nat) (v0 : Int) (v1 : Int) (v2 : Int) (c1 : Int → Int → Int → Option impl_strokeNumber.R) : Option impl_strokeNumber.R := impl_strokeNumber.o1 N v0 v1 v2 c1
theorem impl_strokeNumber.d1.run (N : Nat) (Kn60 : St D0 → Option impl_strokeNumber.R) (v0 : Int) (v1 : Int) (v2 : Int) : runC impl_strokeNumber.C (impl_strokeNumber.O N) N impl_strokeNumber.c120 120 (mkSt [(0, .one (.int .i64 v0)), (1, .one (.int .i64 v1)), (6, .one (.int .i64 v2))] [] : St D0) (impl_strokeNumber.K120 N Kn60) = impl_strokeNumber.d1 N v0 v1 v2 ((fun w0 w1 w2 => Kn60 (mkSt [(0, .one (.int .i64 w0)), (1, .one (.int .i64 w1)), (6, .one (.int .i64 w2))] [] : St D0))) := by
  exact (impl_strokeNumber.o1.run N Kn60 v0 v1 v2).trans rfl
noncomputable def impl_strokeNumber.K60 (N : Nat) : Ex → St D0 → Option impl_strokeNumber.R := (blockK 0 (onN (fun s => impl_strokeNumber.C.tidy 30 s (fun s' => runC impl_strokeNumber.C (impl_strokeNumber.O N) N impl_strokeNumber.c31 31 s' impl_strokeNumber.K0)) impl_strokeNumber.K0))
noncomputable def impl_strokeNumber.l1 (N : Nat) : Nat → Int → Int → Int → Option impl_strokeNumber.R
  | 0, _, _, _ => none
  | n + 1, v0, v1, v2 => impl_strokeNumber.d1 N v0 v1 v2 ((fun w0 w1 w2 => impl_strokeNumber.l1 N n w0 w1 w2))
theorem impl_strokeNumber.loop60 (N : Nat) : ∀ n, (∀ (v0 : Int) (v1 : Int) (v2 : Int), iter (loopF impl_strokeNumber.C (impl_strokeNumber.O N) N impl_strokeNumber.c120 60) n (mkSt [(0, .one (.int .i64 v0)), (1, .one (.int .i64 v1)), (6, .one (.int .i64 v2))] [] : St D0) (impl_strokeNumber.K60 N) = impl_strokeNumber.l1 N n v0 v1 v2)
  | 0 => (fun v0 v1 v2 => rfl)
  | n + 1 => (fun v0 v1 v2 => (impl_strokeNumber.d1.run N (fun s => iter (loopF impl_strokeNumber.C (impl_strokeNumber.O N) N impl_strokeNumber.c120 60) n s (impl_strokeNumber.K60 N)) v0 v1 v2).trans (show _ = impl_strokeNumber.d1 N v0 v1 v2 ((fun w0 w1 w2 => impl_strokeNumber.l1 N n w0 w1 w2)) from (congr rfl (funext fun w0 => funext fun w1 => funext fun w2 => (impl_strokeNumber.loop60 N n) w0 w1 w2))))
noncomputable def impl_strokeNumber.o0 (N : Nat) (a0 : Int) (a1 : Int) (c1 : Int → Int → Int → Option impl_strokeNumber.R) : Option impl_strokeNumber.R :=
 (impl_ofTurn.g N a0).bind fun r1 =>
 bif (r1 == 0) then
  none
 else
 (impl_ofTurn.g N a0).bind fun r2 =>
 bif (r2 == 0) then
  none
 else
 c1 a0 (w64 ((Int.tmod (w64 (a1 - 1)) r2) + 1)) (w64 ((w64 ((w64 (Int.tdiv (w64 (a1 - 1)) r1)) * 2)) * a0))
theorem impl_strokeNumber.o0.run (N : Nat) (H120 : Code) (a0 : Int) (a1 : Int) : runC impl_strokeNumber.C (impl_strokeNumber.O N) N (.seq impl_strokeNumber.c2 (.seq impl_strokeNumber.c6 (.seq impl_strokeNumber.c14 (.seq (.block 0 (.loop H120)) impl_strokeNumber.c31)))) 1 (st0 [.one (.int .i64 a0), .one (.int .i64 a1)] [] : St D0) impl_strokeNumber.K0 = impl_strokeNumber.o0 N a0 a1 ((fun w0 w1 w2 => iter (loopF impl_strokeNumber.C (impl_strokeNumber.O N) N H120 60) N (mkSt [(0, .one (.int .i64 w0)), (1, .one (.int .i64 w1)), (6, .one (.int .i64 w2))] [] : St D0) (blockK 0 (onN (fun s => impl_strokeNumber.C.tidy 30 s (fun s' => runC impl_strokeNumber.C (impl_strokeNumber.O N) N impl_strokeNumber.c31 31 s' impl_strokeNumber.K0)) impl_strokeNumber.K0)))) := by kernel_rfl
noncomputable def impl_strokeNumber.g (N : Nat) (a0 : Int) (a1 : Int) : Option impl_strokeNumber.R := impl_strokeNumber.o0 N a0 a1 ((fun w0 w1 w2 => impl_strokeNumber.l1 N N w0 w1 w2))
theorem impl_strokeNumber.c1_0 : impl_strokeNumber.c1 = (.seq impl_strokeNumber.c2 (.seq impl_strokeNumber.c6 (.seq impl_strokeNumber.c14 (.seq (.block 0 (.loop impl_strokeNumber.c120)) impl_strokeNumber.c31)))) := by kernel_rfl
theorem impl_strokeNumber.g.run (N : Nat) (a0 : Int) (a1 : Int) : runC impl_strokeNumber.C (impl_strokeNumber.O N) N impl_strokeNumber.c1 1 (st0 [.one (.int .i64 a0), .one (.int .i64 a1)] [] : St D0) impl_strokeNumber.K0 = impl_strokeNumber.g N a0 a1 := by
  rw [impl_strokeNumber.c1_0]; unfold impl_strokeNumber.g; exact (impl_strokeNumber.o0.run N impl_strokeNumber.c120 a0 a1).trans (congr rfl (funext fun w0 => funext fun w1 => funext fun w2 => (impl_strokeNumber.loop60 N N) w0 w1 w2))
theorem impl_strokeNumber.good (N : Nat) (a0 : Int) (a1 : Int) (r : impl_strokeNumber.R) (h : impl_strokeNumber.g N a0 a1 = some r) : Go.PM.Good Go.Proofs.Try.prog T0 76 [.one (.int .i64 a0), .one (.int .i64 a1)] [] (impl_strokeNumber.sig.ret r) (impl_strokeNumber.sig.bs r) :=
  good_fn tabOk0 mixed0 impl_strokeNumber.sig (impl_strokeNumber.E N) Go.Proofs.Try.func76 (by kernel_rfl) (by kernel_rfl) 33554547 0 0 [(60, [0, 1, 6], [])] [(false, [.any]), (false, [.any])] (by kernel_rfl) rfl ((impl_strokeNumber.g.run N a0 a1).trans h)
noncomputable def impl_strokeNumber.ent (N : Nat) : Ent Go.Proofs.Try.prog T0 := mkEnt 76 [(false, [.any]), (false, [.any])] impl_strokeNumber.sig (fun t => impl_strokeNumber.g N t.1 t.2) (fun t r h => impl_strokeNumber.good N t.1 t.2 r h)
end Go.Proofs.Ytpemffldaepbpaa.M

namespace Go.Proofs.Ytpemffldaepbpaa.M
open Go Go.PM Go.Proofs.Ytpemffldaepbpaa.P
set_option linter.unusedVariables false
set_option maxRecDepth 100000
/-! ### impl_StrokeNumber -/
abbrev impl_StrokeNumber.R : Type := Int × Int × Bool
abbrev impl_StrokeNumber.sig : Sig := ⟨[(false, 1), (false, 1)], [], [.int .i64, .int .i64], [(false, 1), (false, 1), (false, 1)], [], [.int .i64, .int .i64, .bool]⟩
noncomputable def impl_StrokeNumber.C : Cfg D0 := ⟨Go.Proofs.Try.prog, T0, 66035, 0, 25, 0, [(12, [0, 1, 16], [])]⟩
noncomputable def impl_StrokeNumber.E (N : Nat) : List (Ent Go.Proofs.Try.prog T0) := [impl_isDial.ent N, impl_within.ent N, impl_strokeNumber.ent N]
noncomputable def impl_StrokeNumber.O (N : Nat) : Orc D0 impl_StrokeNumber.R := orcOf (impl_StrokeNumber.E N)
noncomputable def impl_StrokeNumber.K0 : Ex → St D0 → Option impl_StrokeNumber.R := exitK impl_StrokeNumber.C Go.Proofs.Try.f29.results.toList [(false, [.any]), (false, [.any]), (false, [.any])] (decOut impl_StrokeNumber.sig)
noncomputable def impl_StrokeNumber.c1 : Code := codeAt (Go.Proofs.Try.f29.body.getD .skip) []
noncomputable def impl_StrokeNumber.c2 : Code := codeAt (Go.Proofs.Try.f29.body.getD .skip) [false]
noncomputable def impl_StrokeNumber.c7 : Code := codeAt (Go.Proofs.Try.f29.body.getD .skip) [true, true]
noncomputable def impl_StrokeNumber.c12 : Code := codeAt (Go.Proofs.Try.f29.body.getD .skip) [true, false, false]
noncomputable def impl_StrokeNumber.c13 : Code := codeAt (Go.Proofs.Try.f29.body.getD .skip) [true, false, true]
noncomputable def impl_StrokeNumber.K13 (N : Nat) : Ex → St D0 → Option impl_StrokeNumber.R := (onN (fun s => impl_StrokeNumber.C.tidy 6 s (fun s' => runC impl_StrokeNumber.C (impl_StrokeNumber.O N) N impl_StrokeNumber.c7 7 s' impl_StrokeNumber.K0)) impl_StrokeNumber.K0)
noncomputable def impl_StrokeNumber.o1 (N : Nat) (v0 : Int) (v1 : Int) (v2 : Bool) : Option impl_StrokeNumber.R :=
 bif v2 then
  some (0, 0, false)
 else
 (impl_strokeNumber.g N v0 v1).bind fun r1 =>
 some (r1.1, r1.2, true)
theorem impl_StrokeNumber.o1.run (N : Nat) (v0 : Int) (v1 : Int) (v2 : Bool) : runC impl_StrokeNumber.C (impl_StrokeNumber.O N) N impl_StrokeNumber.c13 13 (mkSt [(0, .one (.int .i64 v0)), (1, .one (.int .i64 v1)), (16, .one (.bool v2))] [] : St D0) (onN (fun s => impl_StrokeNumber.C.tidy 6 s (fun s' => runC impl_StrokeNumber.C (impl_StrokeNumber.O N) N impl_StrokeNumber.c7 7 s' impl_StrokeNumber.K0)) impl_StrokeNumber.K0) = impl_StrokeNumber.o1 N v0 v1 v2 := by kernel_rfl
noncomputable def impl_StrokeNumber.d1 (N : Nat) (v0 : Int) (v1 : Int) (v2 : Bool) : Option impl_StrokeNumber.R := impl_StrokeNumber.o1 N v0 v1 v2
theorem impl_StrokeNumber.d1.run (N : Nat) (v0 : Int) (v1 : Int) (v2 : Bool) : runC impl_StrokeNumber.C (impl_StrokeNumber.O N) N impl_StrokeNumber.c13 13 (mkSt [(0, .one (.int .i64 v0)), (1, .one (.int .i64 v1)), (16, .one (.bool v2))] [] : St D0) (impl_StrokeNumber.K13 N) = impl_StrokeNumber.d1 N v0 v1 v2 := by
  exact (impl_StrokeNumber.o1.run N v0 v1 v2).trans rfl
noncomputable def impl_StrokeNumber.o0 (N : Nat) (a0 : Int) (a1 : Int) (c1 : Int → Int → Bool → Option impl_StrokeNumber.R) : Option impl_StrokeNumber.R :=
 (impl_isDial.g N a0).bind fun r1 =>
 bif (!r1) then
  c1 a0 a1 true
 else
 (impl_within.g N a1 1 1000000000).bind fun r2 =>
 c1 a0 a1 (!r2)
theorem impl_StrokeNumber.o0.run (N : Nat) (H13 : Code) (a0 : Int) (a1 : Int) : runC impl_StrokeNumber.C (impl_StrokeNumber.O N) N (.seq impl_StrokeNumber.c2 (.seq (.seq impl_StrokeNumber.c12 H13) impl_StrokeNumber.c7)) 1 (st0 [.one (.int .i64 a0), .one (.int .i64 a1)] [] : St D0) impl_StrokeNumber.K0 = impl_StrokeNumber.o0 N a0 a1 ((fun w0 w1 w2 => runC impl_StrokeNumber.C (impl_StrokeNumber.O N) N H13 13 (mkSt [(0, .one (.int .i64 w0)), (1, .one (.int .i64 w1)), (16, .one (.bool w2))] [] : St D0) (onN (fun s => impl_StrokeNumber.C.tidy 6 s (fun s' => runC impl_StrokeNumber.C (impl_StrokeNumber.O N) N impl_StrokeNumber.c7 7 s' impl_StrokeNumber.K0)) impl_StrokeNumber.K0))) := by kernel_rfl
noncomputable def impl_StrokeNumber.B6 (N : Nat) : St D0 → Option impl_StrokeNumber.R := fun s' => runC impl_StrokeNumber.C (impl_StrokeNumber.O N) N impl_StrokeNumber.c13 13 s' (impl_StrokeNumber.K13 N)
noncomputable def impl_StrokeNumber.g (N : Nat) (a0 : Int) (a1 : Int) : Option impl_StrokeNumber.R := impl_StrokeNumber.o0 N a0 a1 ((fun w0 w1 w2 => impl_StrokeNumber.d1 N w0 w1 w2))
theorem impl_StrokeNumber.c1_0 : impl_StrokeNumber.c1 = (.seq impl_StrokeNumber.c2 (.seq (.seq impl_StrokeNumber.c12 impl_StrokeNumber.c13) impl_StrokeNumber.c7)) := by kernel_rfl
theorem impl_StrokeNumber.g.run (N : Nat) (a0 : Int) (a1 : Int) : runC impl_StrokeNumber.C (impl_StrokeNumber.O N) N impl_StrokeNumber.c1 1 (st0 [.one (.int .i64 a0), .one (.int .i64 a1)] [] : St D0) impl_StrokeNumber.K0 = impl_StrokeNumber.g N a0 a1 := by
  rw [impl_StrokeNumber.c1_0]; unfold impl_StrokeNumber.g; exact (impl_StrokeNumber.o0.run N impl_StrokeNumber.c13 a0 a1).trans (congr rfl (funext fun w0 => funext fun w1 => funext fun w2 => impl_StrokeNumber.d1.run N w0 w1 w2))
theorem impl_StrokeNumber.good (N : Nat) (a0 : Int) (a1 : Int) (r : impl_StrokeNumber.R) (h : impl_StrokeNumber.g N a0 a1 = some r) : Go.PM.Good Go.Proofs.Try.prog T0 29 [.one (.int .i64 a0), .one (.int .i64 a1)] [] (impl_StrokeNumber.sig.ret r) (impl_StrokeNumber.sig.bs r) :=
  good_fn tabOk0 mixed0 impl_StrokeNumber.sig (impl_StrokeNumber.E N) Go.Proofs.Try.func29 (by kernel_rfl) (by kernel_rfl) 66035 0 0 [(12, [0, 1, 16], [])] [(false, [.any]), (false, [.any]), (false, [.any])] (by kernel_rfl) rfl ((impl_StrokeNumber.g.run N a0 a1).trans h)
noncomputable def impl_StrokeNumber.ent (N : Nat) : Ent Go.Proofs.Try.prog T0 := mkEnt 29 [(false, [.any]), (false, [.any])] impl_StrokeNumber.sig (fun t => impl_StrokeNumber.g N t.1 t.2) (fun t r h => impl_StrokeNumber.good N t.1 t.2 r h)
end Go.Proofs.Ytpemffldaepbpaa.M
