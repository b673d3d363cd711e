/- What the program's functions compute, walked by the machine (part 1). No conditions but those stated. -/
import Derived.Test.YtpemffldaepbpaaPm2
import Derived.Test.YtpemffldaepbpaaProg
namespace Go.Proofs.Ytpemffldaepbpaa.M
open Go Go.PM
set_option linter.unusedVariables false
set_option maxRecDepth 100000
end Go.Proofs.Ytpemffldaepbpaa.M
namespace Go.Proofs.Ytpemffldaepbpaa.P
end Go.Proofs.Ytpemffldaepbpaa.P
namespace Go.Proofs.Ytpemffldaepbpaa.M
open Go Go.PM Go.Proofs.Ytpemffldaepbpaa.P
abbrev D0 : TypeId → Type
  | 3 => Int
  | 5 => Int
  | _ => Unit
def T0 : Tab D0 where
  size := fun e => match e with
    | 3 => 1
    | 5 => 1
    | _ => 0
  out := fun e x => match e, x with
    | 3, x => [.int .i64 x]
    | 5, x => [.int .u8 x]
    | _, _ => []
  inn := fun e ls => match e, ls with
    | 3, [.int .i64 x0] => some x0
    | 5, [.int .u8 x0] => some x0
    | _, _ => none
theorem tabOk0 : TabOk T0 where
  out_len := by
    intro e x
    simp only [T0]
    split <;> first | rfl | (split <;> first | rfl | (rename_i h _ _ _ _; exact absurd HEq.rfl (fun h' => h _ rfl h')) | simp_all)
  inn_ok := by
    intro e ls x h C blk vs hF
    simp only [T0] at h
    split at h <;> first | (cases h; done) | (simp only [Option.some.injEq] at h; subst h; exact tab_inn hF rfl)
theorem mixed0 : Go.Proofs.Try.prog.follows .mixedOrders = true := by kernel_rfl
end Go.Proofs.Ytpemffldaepbpaa.M

namespace Go.Proofs.Ytpemffldaepbpaa.M
open Go Go.PM Go.Proofs.Ytpemffldaepbpaa.P
set_option linter.unusedVariables false
set_option maxRecDepth 100000
/-! ### impl_within -/
abbrev impl_within.R : Type := Bool
abbrev impl_within.sig : Sig := ⟨[(false, 1), (false, 1), (false, 1)], [], [.int .i64, .int .i64, .int .i64], [(false, 1)], [], [.bool]⟩
noncomputable def impl_within.C : Cfg D0 := ⟨Go.Proofs.Try.prog, T0, 71, 0, 15, 0, []⟩
noncomputable def impl_within.E (N : Nat) : List (Ent Go.Proofs.Try.prog T0) := []
noncomputable def impl_within.O (N : Nat) : Orc D0 impl_within.R := orcOf (impl_within.E N)
noncomputable def impl_within.K0 : Ex → St D0 → Option impl_within.R := exitK impl_within.C Go.Proofs.Try.f57.results.toList [(false, [.any])] (decOut impl_within.sig)
noncomputable def impl_within.c1 : Code := codeAt (Go.Proofs.Try.f57.body.getD .skip) []
noncomputable def impl_within.o0 (N : Nat) (a0 : Int) (a1 : Int) (a2 : Int) : Option impl_within.R :=
 bif (decide (a0 ≥ a1)) then
  some ((decide (a0 ≤ a2)))
 else
 some (false)
theorem impl_within.o0.run (N : Nat) (a0 : Int) (a1 : Int) (a2 : Int) : runC impl_within.C (impl_within.O N) N impl_within.c1 1 (st0 [.one (.int .i64 a0), .one (.int .i64 a1), .one (.int .i64 a2)] [] : St D0) impl_within.K0 = impl_within.o0 N a0 a1 a2 := by kernel_rfl
noncomputable def impl_within.g (N : Nat) (a0 : Int) (a1 : Int) (a2 : Int) : Option impl_within.R := impl_within.o0 N a0 a1 a2
theorem impl_within.g.run (N : Nat) (a0 : Int) (a1 : Int) (a2 : Int) : runC impl_within.C (impl_within.O N) N impl_within.c1 1 (st0 [.one (.int .i64 a0), .one (.int .i64 a1), .one (.int .i64 a2)] [] : St D0) impl_within.K0 = impl_within.g N a0 a1 a2 := by
  exact (impl_within.o0.run N a0 a1 a2).trans rfl
theorem impl_within.good (N : Nat) (a0 : Int) (a1 : Int) (a2 : Int) (r : impl_within.R) (h : impl_within.g N a0 a1 a2 = some r) : Go.PM.Good Go.Proofs.Try.prog T0 57 [.one (.int .i64 a0), .one (.int .i64 a1), .one (.int .i64 a2)] [] (impl_within.sig.ret r) (impl_within.sig.bs r) :=
  good_fn tabOk0 mixed0 impl_within.sig (impl_within.E N) Go.Proofs.Try.func57 (by kernel_rfl) (by kernel_rfl) 71 0 0 [] [(false, [.any])] (by kernel_rfl) rfl ((impl_within.g.run N a0 a1 a2).trans h)
noncomputable def impl_within.ent (N : Nat) : Ent Go.Proofs.Try.prog T0 := mkEnt 57 [(false, [.any]), (false, [.any]), (false, [.any])] impl_within.sig (fun t => impl_within.g N t.1 t.2.1 t.2.2) (fun t r h => impl_within.good N t.1 t.2.1 t.2.2 r h)
end Go.Proofs.Ytpemffldaepbpaa.M

namespace Go.Proofs.Ytpemffldaepbpaa.M
open Go Go.PM Go.Proofs.Ytpemffldaepbpaa.P
set_option linter.unusedVariables false
set_option maxRecDepth 100000
/-! ### impl_isDial -/
abbrev impl_isDial.R : Type := Bool
abbrev impl_isDial.sig : Sig := ⟨[(false, 1)], [], [.int .i64], [(false, 1)], [], [.bool]⟩
noncomputable def impl_isDial.C : Cfg D0 := ⟨Go.Proofs.Try.prog, T0, 5, 0, 5, 0, []⟩
noncomputable def impl_isDial.E (N : Nat) : List (Ent Go.Proofs.Try.prog T0) := [impl_within.ent N]
noncomputable def impl_isDial.O (N : Nat) : Orc D0 impl_isDial.R := orcOf (impl_isDial.E N)
noncomputable def impl_isDial.K0 : Ex → St D0 → Option impl_isDial.R := exitK impl_isDial.C Go.Proofs.Try.f66.results.toList [(false, [.any])] (decOut impl_isDial.sig)
noncomputable def impl_isDial.c1 : Code := codeAt (Go.Proofs.Try.f66.body.getD .skip) []
noncomputable def impl_isDial.o0 (N : Nat) (a0 : Int) : Option impl_isDial.R :=
 (impl_within.g N a0 2 24).bind fun r1 =>
 some (r1)
theorem impl_isDial.o0.run (N : Nat) (a0 : Int) : runC impl_isDial.C (impl_isDial.O N) N impl_isDial.c1 1 (st0 [.one (.int .i64 a0)] [] : St D0) impl_isDial.K0 = impl_isDial.o0 N a0 := by kernel_rfl
noncomputable def impl_isDial.g (N : Nat) (a0 : Int) : Option impl_isDial.R := impl_isDial.o0 N a0
theorem impl_isDial.g.run (N : Nat) (a0 : Int) : runC impl_isDial.C (impl_isDial.O N) N impl_isDial.c1 1 (st0 [.one (.int .i64 a0)] [] : St D0) impl_isDial.K0 = impl_isDial.g N a0 := by
  exact (impl_isDial.o0.run N a0).trans rfl
theorem impl_isDial.good (N : Nat) (a0 : Int) (r : impl_isDial.R) (h : impl_isDial.g N a0 = some r) : Go.PM.Good Go.Proofs.Try.prog T0 66 [.one (.int .i64 a0)] [] (impl_isDial.sig.ret r) (impl_isDial.sig.bs r) :=
  good_fn tabOk0 mixed0 impl_isDial.sig (impl_isDial.E N) Go.Proofs.Try.func66 (by kernel_rfl) (by kernel_rfl) 5 0 0 [] [(false, [.any])] (by kernel_rfl) rfl ((impl_isDial.g.run N a0).trans h)
noncomputable def impl_isDial.ent (N : Nat) : Ent Go.Proofs.Try.prog T0 := mkEnt 66 [(false, [.any])] impl_isDial.sig (fun t => impl_isDial.g N t) (fun t r h => impl_isDial.good N t r h)
end Go.Proofs.Ytpemffldaepbpaa.M

namespace Go.Proofs.Ytpemffldaepbpaa.M
open Go Go.PM Go.Proofs.Ytpemffldaepbpaa.P
set_option linter.unusedVariables false
set_option maxRecDepth 100000
/-! ### impl_isHalf -/
abbrev impl_isHalf.R : Type := Bool
abbrev impl_isHalf.sig : Sig := ⟨[(false, 1), (false, 1)], [], [.int .i64, .int .i64], [(false, 1)], [], [.bool]⟩
noncomputable def impl_isHalf.C : Cfg D0 := ⟨Go.Proofs.Try.prog, T0, 19, 0, 14, 0, []⟩
noncomputable def impl_isHalf.E (N : Nat) : List (Ent Go.Proofs.Try.prog T0) := [impl_isDial.ent N, impl_within.ent N]
noncomputable def impl_isHalf.O (N : Nat) : Orc D0 impl_isHalf.R := orcOf (impl_isHalf.E N)
noncomputable def impl_isHalf.K0 : Ex → St D0 → Option impl_isHalf.R := exitK impl_isHalf.C Go.Proofs.Try.f56.results.toList [(false, [.any])] (decOut impl_isHalf.sig)
noncomputable def impl_isHalf.c1 : Code := codeAt (Go.Proofs.Try.f56.body.getD .skip) []
noncomputable def impl_isHalf.o0 (N : Nat) (a0 : Int) (a1 : Int) : Option impl_isHalf.R :=
 (impl_isDial.g N a0).bind fun r1 =>
 bif r1 then
  (impl_within.g N a1 0 (w64 ((w64 (2 * a0)) - 1))).bind fun r2 =>
  some (r2)
 else
 some (false)
theorem impl_isHalf.o0.run (N : Nat) (a0 : Int) (a1 : Int) : runC impl_isHalf.C (impl_isHalf.O N) N impl_isHalf.c1 1 (st0 [.one (.int .i64 a0), .one (.int .i64 a1)] [] : St D0) impl_isHalf.K0 = impl_isHalf.o0 N a0 a1 := by kernel_rfl
noncomputable def impl_isHalf.g (N : Nat) (a0 : Int) (a1 : Int) : Option impl_isHalf.R := impl_isHalf.o0 N a0 a1
theorem impl_isHalf.g.run (N : Nat) (a0 : Int) (a1 : Int) : runC impl_isHalf.C (impl_isHalf.O N) N impl_isHalf.c1 1 (st0 [.one (.int .i64 a0), .one (.int .i64 a1)] [] : St D0) impl_isHalf.K0 = impl_isHalf.g N a0 a1 := by
  exact (impl_isHalf.o0.run N a0 a1).trans rfl
theorem impl_isHalf.good (N : Nat) (a0 : Int) (a1 : Int) (r : impl_isHalf.R) (h : impl_isHalf.g N a0 a1 = some r) : Go.PM.Good Go.Proofs.Try.prog T0 56 [.one (.int .i64 a0), .one (.int .i64 a1)] [] (impl_isHalf.sig.ret r) (impl_isHalf.sig.bs r) :=
  good_fn tabOk0 mixed0 impl_isHalf.sig (impl_isHalf.E N) Go.Proofs.Try.func56 (by kernel_rfl) (by kernel_rfl) 19 0 0 [] [(false, [.any])] (by kernel_rfl) rfl ((impl_isHalf.g.run N a0 a1).trans h)
noncomputable def impl_isHalf.ent (N : Nat) : Ent Go.Proofs.Try.prog T0 := mkEnt 56 [(false, [.any]), (false, [.any])] impl_isHalf.sig (fun t => impl_isHalf.g N t.1 t.2) (fun t r h => impl_isHalf.good N t.1 t.2 r h)
end Go.Proofs.Ytpemffldaepbpaa.M

namespace Go.Proofs.Ytpemffldaepbpaa.M
open Go Go.PM Go.Proofs.Ytpemffldaepbpaa.P
set_option linter.unusedVariables false
set_option maxRecDepth 100000
/-! ### impl_strokes -/
abbrev impl_strokes.R : Type := Int
abbrev impl_strokes.sig : Sig := ⟨[(false, 1), (false, 1)], [], [.int .i64, .int .i64], [(false, 1)], [], [.int .i64]⟩
noncomputable def impl_strokes.C : Cfg D0 := ⟨Go.Proofs.Try.prog, T0, 8723, 0, 19, 0, []⟩
noncomputable def impl_strokes.E (N : Nat) : List (Ent Go.Proofs.Try.prog T0) := []
noncomputable def impl_strokes.O (N : Nat) : Orc D0 impl_strokes.R := orcOf (impl_strokes.E N)
noncomputable def impl_strokes.K0 : Ex → St D0 → Option impl_strokes.R := exitK impl_strokes.C Go.Proofs.Try.f58.results.toList [(false, [.any])] (decOut impl_strokes.sig)
noncomputable def impl_strokes.c1 : Code := codeAt (Go.Proofs.Try.f58.body.getD .skip) []
noncomputable def impl_strokes.o0 (N : Nat) (a0 : Int) (a1 : Int) : Option impl_strokes.R :=
 bif ((w64 (2 * a0)) == 0) then
  none
 else
 bif ((Int.tmod a1 (w64 (2 * a0))) == 0) then
  some (a0)
 else
 bif ((Int.tmod (Int.tmod a1 (w64 (2 * a0))) 2) == 1) then
  some (1)
 else
 some ((w64 (Int.tdiv (Int.tmod a1 (w64 (2 * a0))) 2)))
theorem impl_strokes.o0.run (N : Nat) (a0 : Int) (a1 : Int) : runC impl_strokes.C (impl_strokes.O N) N impl_strokes.c1 1 (st0 [.one (.int .i64 a0), .one (.int .i64 a1)] [] : St D0) impl_strokes.K0 = impl_strokes.o0 N a0 a1 := by kernel_rfl
noncomputable def impl_strokes.g (N : Nat) (a0 : Int) (a1 : Int) : Option impl_strokes.R := impl_strokes.o0 N a0 a1
theorem impl_strokes.g.run (N : Nat) (a0 : Int) (a1 : Int) : runC impl_strokes.C (impl_strokes.O N) N impl_strokes.c1 1 (st0 [.one (.int .i64 a0), .one (.int .i64 a1)] [] : St D0) impl_strokes.K0 = impl_strokes.g N a0 a1 := by
  exact (impl_strokes.o0.run N a0 a1).trans rfl
theorem impl_strokes.good (N : Nat) (a0 : Int) (a1 : Int) (r : impl_strokes.R) (h : impl_strokes.g N a0 a1 = some r) : Go.PM.Good Go.Proofs.Try.prog T0 58 [.one (.int .i64 a0), .one (.int .i64 a1)] [] (impl_strokes.sig.ret r) (impl_strokes.sig.bs r) :=
  good_fn tabOk0 mixed0 impl_strokes.sig (impl_strokes.E N) Go.Proofs.Try.func58 (by kernel_rfl) (by kernel_rfl) 8723 0 0 [] [(false, [.any])] (by kernel_rfl) rfl ((impl_strokes.g.run N a0 a1).trans h)
noncomputable def impl_strokes.ent (N : Nat) : Ent Go.Proofs.Try.prog T0 := mkEnt 58 [(false, [.any]), (false, [.any])] impl_strokes.sig (fun t => impl_strokes.g N t.1 t.2) (fun t r h => impl_strokes.good N t.1 t.2 r h)
end Go.Proofs.Ytpemffldaepbpaa.M

namespace Go.Proofs.Ytpemffldaepbpaa.M
open Go Go.PM Go.Proofs.Ytpemffldaepbpaa.P
set_option linter.unusedVariables false
set_option maxRecDepth 100000
/-! ### impl_ofTurn -/
abbrev impl_ofTurn.R : Type := Int
abbrev impl_ofTurn.sig : Sig := ⟨[(false, 1)], [], [.int .i64], [(false, 1)], [], [.int .i64]⟩
noncomputable def impl_ofTurn.C : Cfg D0 := ⟨Go.Proofs.Try.prog, T0, 5, 0, 10, 0, []⟩
noncomputable def impl_ofTurn.E (N : Nat) : List (Ent Go.Proofs.Try.prog T0) := []
noncomputable def impl_ofTurn.O (N : Nat) : Orc D0 impl_ofTurn.R := orcOf (impl_ofTurn.E N)
noncomputable def impl_ofTurn.K0 : Ex → St D0 → Option impl_ofTurn.R := exitK impl_ofTurn.C Go.Proofs.Try.f71.results.toList [(false, [.any])] (decOut impl_ofTurn.sig)
noncomputable def impl_ofTurn.c1 : Code := codeAt (Go.Proofs.Try.f71.body.getD .skip) []
noncomputable def impl_ofTurn.o0 (N : Nat) (a0 : Int) : Option impl_ofTurn.R :=
 some ((w64 ((w64 (Int.tdiv (w64 (a0 * (w64 (a0 + 1)))) 2)) + a0)))
theorem impl_ofTurn.o0.run (N : Nat) (a0 : Int) : runC impl_ofTurn.C (impl_ofTurn.O N) N impl_ofTurn.c1 1 (st0 [.one (.int .i64 a0)] [] : St D0) impl_ofTurn.K0 = impl_ofTurn.o0 N a0 := by kernel_rfl
noncomputable def impl_ofTurn.g (N : Nat) (a0 : Int) : Option impl_ofTurn.R := impl_ofTurn.o0 N a0
theorem impl_ofTurn.g.run (N : Nat) (a0 : Int) : runC impl_ofTurn.C (impl_ofTurn.O N) N impl_ofTurn.c1 1 (st0 [.one (.int .i64 a0)] [] : St D0) impl_ofTurn.K0 = impl_ofTurn.g N a0 := by
  exact (impl_ofTurn.o0.run N a0).trans rfl
theorem impl_ofTurn.good (N : Nat) (a0 : Int) (r : impl_ofTurn.R) (h : impl_ofTurn.g N a0 = some r) : Go.PM.Good Go.Proofs.Try.prog T0 71 [.one (.int .i64 a0)] [] (impl_ofTurn.sig.ret r) (impl_ofTurn.sig.bs r) :=
  good_fn tabOk0 mixed0 impl_ofTurn.sig (impl_ofTurn.E N) Go.Proofs.Try.func71 (by kernel_rfl) (by kernel_rfl) 5 0 0 [] [(false, [.any])] (by kernel_rfl) rfl ((impl_ofTurn.g.run N a0).trans h)
noncomputable def impl_ofTurn.ent (N : Nat) : Ent Go.Proofs.Try.prog T0 := mkEnt 71 [(false, [.any])] impl_ofTurn.sig (fun t => impl_ofTurn.g N t) (fun t r h => impl_ofTurn.good N t r h)
end Go.Proofs.Ytpemffldaepbpaa.M

namespace Go.Proofs.Ytpemffldaepbpaa.M
open Go Go.PM Go.Proofs.Ytpemffldaepbpaa.P
set_option linter.unusedVariables false
set_option maxRecDepth 100000
/-! ### impl_before -/
abbrev impl_before.R : Type := Int
abbrev impl_before.sig : Sig := ⟨[(false, 1), (false, 1)], [], [.int .i64, .int .i64], [(false, 1)], [], [.int .i64]⟩
noncomputable def impl_before.C : Cfg D0 := ⟨Go.Proofs.Try.prog, T0, 917619, 0, 28, 0, [(58, [0, 5, 17, 18], [])]⟩
noncomputable def impl_before.E (N : Nat) : List (Ent Go.Proofs.Try.prog T0) := [impl_ofTurn.ent N, impl_strokes.ent N]
noncomputable def impl_before.O (N : Nat) : Orc D0 impl_before.R := orcOf (impl_before.E N)
noncomputable def impl_before.K0 : Ex → St D0 → Option impl_before.R := exitK impl_before.C Go.Proofs.Try.f67.results.toList [(false, [.any])] (decOut impl_before.sig)
noncomputable def impl_before.c1 : Code := codeAt (Go.Proofs.Try.f67.body.getD .skip) []
noncomputable def impl_before.c2 : Code := codeAt (Go.Proofs.Try.f67.body.getD .skip) [false]
noncomputable def impl_before.c6 : Code := codeAt (Go.Proofs.Try.f67.body.getD .skip) [true, false]
noncomputable def impl_before.c15 : Code := codeAt (Go.Proofs.Try.f67.body.getD .skip) [true, true, true]
noncomputable def impl_before.c28 : Code := codeAt (Go.Proofs.Try.f67.body.getD .skip) [true, true, false, false]
noncomputable def impl_before.c116 : Code := codeAt (Go.Proofs.Try.f67.body.getD .skip) [true, true, false, true, false, false]
noncomputable def impl_before.K116 (N : Nat) (Kn58 : St D0 → Option impl_before.R) : Ex → St D0 → Option impl_before.R := (onN (fun s => impl_before.C.tidy 58 s ((onN Kn58 (blockK 0 (onN (fun s => impl_before.C.tidy 14 s (fun s' => runC impl_before.C (impl_before.O N) N impl_before.c15 15 s' impl_before.K0)) impl_before.K0))) .normal)) (onN Kn58 (blockK 0 (onN (fun s => impl_before.C.tidy 14 s (fun s' => runC impl_before.C (impl_before.O N) N impl_before.c15 15 s' impl_before.K0)) impl_before.K0))))
noncomputable def impl_before.o1 (N : Nat) (v0 : Int) (v1 : Int) (v2 : Int) (v3 : Int) (c1 : Int → Int → Int → Int → Option impl_before.R) : Option impl_before.R :=
 bif (decide (v3 < v2)) then
  (impl_strokes.g N v0 v3).bind fun r1 =>
  c1 v0 (w64 (v1 + r1)) v2 (w64 (v3 + 1))
 else
 some (v1)
theorem impl_before.o1.run (N : Nat) (Kn58 : St D0 → Option impl_before.R) (v0 : Int) (v1 : Int) (v2 : Int) (v3 : Int) : runC impl_before.C (impl_before.O N) N impl_before.c116 116 (mkSt [(0, .one (.int .i64 v0)), (5, .one (.int .i64 v1)), (17, .one (.int .i64 v2)), (18, .one (.int .i64 v3))] [] : St D0) (onN (fun s => impl_before.C.tidy 58 s ((onN Kn58 (blockK 0 (onN (fun s => impl_before.C.tidy 14 s (fun s' => runC impl_before.C (impl_before.O N) N impl_before.c15 15 s' impl_before.K0)) impl_before.K0))) .normal)) (onN Kn58 (blockK 0 (onN (fun s => impl_before.C.tidy 14 s (fun s' => runC impl_before.C (impl_before.O N) N impl_before.c15 15 s' impl_before.K0)) impl_before.K0)))) = impl_before.o1 N v0 v1 v2 v3 ((fun w0 w1 w2 w3 => Kn58 (mkSt [(0, .one (.int .i64 w0)), (5, .one (.int .i64 w1)), (17, .one (.int .i64 w2)), (18, .one (.int .i64 w3))] [] : St D0))) := by kernel_rfl
noncomputable def impl_before.d1 (N : Nat) (v0 : Int) (v1 : Int) (v2 : Int) (v3 : Int) (c1 : Int → Int → Int → Int → Option impl_before.R) : Option impl_before.R := impl_before.o1 N v0 v1 v2 v3 c1
theorem impl_before.d1.run (N : Nat) (Kn58 : St D0 → Option impl_before.R) (v0 : Int) (v1 : Int) (v2 : Int) (v3 : Int) : runC impl_before.C (impl_before.O N) N impl_before.c116 116 (mkSt [(0, .one (.int .i64 v0)), (5, .one (.int .i64 v1)), (17, .one (.int .i64 v2)), (18, .one (.int .i64 v3))] [] : St D0) (impl_before.K116 N Kn58) = impl_before.d1 N v0 v1 v2 v3 ((fun w0 w1 w2 w3 => Kn58 (mkSt [(0, .one (.int .i64 w0)), (5, .one (.int .i64 w1)), (17, .one (.int .i64 w2)), (18, .one (.int .i64 w3))] [] : St D0))) := by
  exact (impl_before.o1.run N Kn58 v0 v1 v2 v3).trans rfl
noncomputable def impl_before.K58 (N : Nat) : Ex → St D0 → Option impl_before.R := (blockK 0 (onN (fun s => impl_before.C.tidy 14 s (fun s' => runC impl_before.C (impl_before.O N) N impl_before.c15 15 s' impl_before.K0)) impl_before.K0))
noncomputable def impl_before.l1 (N : Nat) : Nat → Int → Int → Int → Int → Option impl_before.R
  | 0, _, _, _, _ => none
  | n + 1, v0, v1, v2, v3 => impl_before.d1 N v0 v1 v2 v3 ((fun w0 w1 w2 w3 => impl_before.l1 N n w0 w1 w2 w3))
theorem impl_before.loop58 (N : Nat) : ∀ n, (∀ (v0 : Int) (v1 : Int) (v2 : Int) (v3 : Int), iter (loopF impl_before.C (impl_before.O N) N impl_before.c116 58) n (mkSt [(0, .one (.int .i64 v0)), (5, .one (.int .i64 v1)), (17, .one (.int .i64 v2)), (18, .one (.int .i64 v3))] [] : St D0) (impl_before.K58 N) = impl_before.l1 N n v0 v1 v2 v3)
  | 0 => (fun v0 v1 v2 v3 => rfl)
  | n + 1 => (fun v0 v1 v2 v3 => (impl_before.d1.run N (fun s => iter (loopF impl_before.C (impl_before.O N) N impl_before.c116 58) n s (impl_before.K58 N)) v0 v1 v2 v3).trans (show _ = impl_before.d1 N v0 v1 v2 v3 ((fun w0 w1 w2 w3 => impl_before.l1 N n w0 w1 w2 w3)) from (congr rfl (funext fun w0 => funext fun w1 => funext fun w2 => funext fun w3 => (impl_before.loop58 N n) w0 w1 w2 w3))))
noncomputable def impl_before.o0 (N : Nat) (a0 : Int) (a1 : Int) (c1 : Int → Int → Int → Int → Option impl_before.R) : Option impl_before.R :=
 bif ((w64 (2 * a0)) == 0) then
  none
 else
 (impl_ofTurn.g N a0).bind fun r1 =>
 bif ((w64 (2 * a0)) == 0) then
  none
 else
 c1 a0 (w64 ((w64 (Int.tdiv a1 (w64 (2 * a0)))) * r1)) (Int.tmod a1 (w64 (2 * a0))) 0
theorem impl_before.o0.run (N : Nat) (H116 : Code) (a0 : Int) (a1 : Int) : runC impl_before.C (impl_before.O N) N (.seq impl_before.c2 (.seq impl_before.c6 (.seq (.seq impl_before.c28 (.block 0 (.loop H116))) impl_before.c15))) 1 (st0 [.one (.int .i64 a0), .one (.int .i64 a1)] [] : St D0) impl_before.K0 = impl_before.o0 N a0 a1 ((fun w0 w1 w2 w3 => iter (loopF impl_before.C (impl_before.O N) N H116 58) N (mkSt [(0, .one (.int .i64 w0)), (5, .one (.int .i64 w1)), (17, .one (.int .i64 w2)), (18, .one (.int .i64 w3))] [] : St D0) (blockK 0 (onN (fun s => impl_before.C.tidy 14 s (fun s' => runC impl_before.C (impl_before.O N) N impl_before.c15 15 s' impl_before.K0)) impl_before.K0)))) := by kernel_rfl
noncomputable def impl_before.g (N : Nat) (a0 : Int) (a1 : Int) : Option impl_before.R := impl_before.o0 N a0 a1 ((fun w0 w1 w2 w3 => impl_before.l1 N N w0 w1 w2 w3))
theorem impl_before.c1_0 : impl_before.c1 = (.seq impl_before.c2 (.seq impl_before.c6 (.seq (.seq impl_before.c28 (.block 0 (.loop impl_before.c116))) impl_before.c15))) := by kernel_rfl
theorem impl_before.g.run (N : Nat) (a0 : Int) (a1 : Int) : runC impl_before.C (impl_before.O N) N impl_before.c1 1 (st0 [.one (.int .i64 a0), .one (.int .i64 a1)] [] : St D0) impl_before.K0 = impl_before.g N a0 a1 := by
  rw [impl_before.c1_0]; unfold impl_before.g; exact (impl_before.o0.run N impl_before.c116 a0 a1).trans (congr rfl (funext fun w0 => funext fun w1 => funext fun w2 => funext fun w3 => (impl_before.loop58 N N) w0 w1 w2 w3))
theorem impl_before.good (N : Nat) (a0 : Int) (a1 : Int) (r : impl_before.R) (h : impl_before.g N a0 a1 = some r) : Go.PM.Good Go.Proofs.Try.prog T0 67 [.one (.int .i64 a0), .one (.int .i64 a1)] [] (impl_before.sig.ret r) (impl_before.sig.bs r) :=
  good_fn tabOk0 mixed0 impl_before.sig (impl_before.E N) Go.Proofs.Try.func67 (by kernel_rfl) (by kernel_rfl) 917619 0 0 [(58, [0, 5, 17, 18], [])] [(false, [.any])] (by kernel_rfl) rfl ((impl_before.g.run N a0 a1).trans h)
noncomputable def impl_before.ent (N : Nat) : Ent Go.Proofs.Try.prog T0 := mkEnt 67 [(false, [.any]), (false, [.any])] impl_before.sig (fun t => impl_before.g N t.1 t.2) (fun t r h => impl_before.good N t.1 t.2 r h)
end Go.Proofs.Ytpemffldaepbpaa.M

namespace Go.Proofs.Ytpemffldaepbpaa.M
open Go Go.PM Go.Proofs.Ytpemffldaepbpaa.P
set_option linter.unusedVariables false
set_option maxRecDepth 100000
/-! ### impl_heardFrom -/
abbrev impl_heardFrom.R : Type := List Int
abbrev impl_heardFrom.sig : Sig := ⟨[(false, 1), (false, 1), (false, 1)], [], [.int .i64, .int .i64, .int .i64], [(false, 1)], [], [.sl true 3]⟩
noncomputable def impl_heardFrom.C : Cfg D0 := ⟨Go.Proofs.Try.prog, T0, 7623, 0, 24, 0, [(58, [0, 1, 7, 10, 11], [])]⟩
noncomputable def impl_heardFrom.E (N : Nat) : List (Ent Go.Proofs.Try.prog T0) := [impl_strokes.ent N]
noncomputable def impl_heardFrom.O (N : Nat) : Orc D0 impl_heardFrom.R := orcOf (impl_heardFrom.E N)
noncomputable def impl_heardFrom.K0 : Ex → St D0 → Option impl_heardFrom.R := exitK impl_heardFrom.C Go.Proofs.Try.f63.results.toList [(false, [.own 3])] (decOut impl_heardFrom.sig)
noncomputable def impl_heardFrom.c1 : Code := codeAt (Go.Proofs.Try.f63.body.getD .skip) []
noncomputable def impl_heardFrom.c2 : Code := codeAt (Go.Proofs.Try.f63.body.getD .skip) [false]
noncomputable def impl_heardFrom.c6 : Code := codeAt (Go.Proofs.Try.f63.body.getD .skip) [true, false]
noncomputable def impl_heardFrom.c15 : Code := codeAt (Go.Proofs.Try.f63.body.getD .skip) [true, true, true]
noncomputable def impl_heardFrom.c28 : Code := codeAt (Go.Proofs.Try.f63.body.getD .skip) [true, true, false, false]
noncomputable def impl_heardFrom.c116 : Code := codeAt (Go.Proofs.Try.f63.body.getD .skip) [true, true, false, true, false, false]
noncomputable def impl_heardFrom.K116 (N : Nat) (Kn58 : St D0 → Option impl_heardFrom.R) : Ex → St D0 → Option impl_heardFrom.R := (onN (fun s => impl_heardFrom.C.tidy 58 s ((onN Kn58 (blockK 0 (onN (fun s => impl_heardFrom.C.tidy 14 s (fun s' => runC impl_heardFrom.C (impl_heardFrom.O N) N impl_heardFrom.c15 15 s' impl_heardFrom.K0)) impl_heardFrom.K0))) .normal)) (onN Kn58 (blockK 0 (onN (fun s => impl_heardFrom.C.tidy 14 s (fun s' => runC impl_heardFrom.C (impl_heardFrom.O N) N impl_heardFrom.c15 15 s' impl_heardFrom.K0)) impl_heardFrom.K0))))
noncomputable def impl_heardFrom.o1 (N : Nat) (v0 : Int) (v1 : Int) (v2 : List Int) (v3 : Int) (v4 : Int) (c1 : Int → Int → (List Int) → Int → Int → Option impl_heardFrom.R) : Option impl_heardFrom.R :=
 bif (decide (v4 < v3)) then
  (impl_strokes.g N v0 (w64 (v1 + v4))).bind fun r1 =>
  bif (Nat.blt (v2.length + ([r1] : List Int).length) 17592186044416) then
   c1 v0 v1 (v2 ++ ([r1] : List Int)) v3 (w64 (v4 + 1))
  else
  none
 else
 some (v2)
theorem impl_heardFrom.o1.run (N : Nat) (Kn58 : St D0 → Option impl_heardFrom.R) (v0 : Int) (v1 : Int) (v2 : List Int) (v3 : Int) (v4 : Int) : runC impl_heardFrom.C (impl_heardFrom.O N) N impl_heardFrom.c116 116 (mkSt [(0, .one (.int .i64 v0)), (1, .one (.int .i64 v1)), (7, .one (.sl true 3 v2)), (10, .one (.int .i64 v3)), (11, .one (.int .i64 v4))] [] : St D0) (onN (fun s => impl_heardFrom.C.tidy 58 s ((onN Kn58 (blockK 0 (onN (fun s => impl_heardFrom.C.tidy 14 s (fun s' => runC impl_heardFrom.C (impl_heardFrom.O N) N impl_heardFrom.c15 15 s' impl_heardFrom.K0)) impl_heardFrom.K0))) .normal)) (onN Kn58 (blockK 0 (onN (fun s => impl_heardFrom.C.tidy 14 s (fun s' => runC impl_heardFrom.C (impl_heardFrom.O N) N impl_heardFrom.c15 15 s' impl_heardFrom.K0)) impl_heardFrom.K0)))) = impl_heardFrom.o1 N v0 v1 v2 v3 v4 ((fun w0 w1 w2 w3 w4 => Kn58 (mkSt [(0, .one (.int .i64 w0)), (1, .one (.int .i64 w1)), (7, .one (.sl true 3 w2)), (10, .one (.int .i64 w3)), (11, .one (.int .i64 w4))] [] : St D0))) := by kernel_rfl
noncomputable def impl_heardFrom.d1 (N : Nat) (v0 : Int) (v1 : Int) (v2 : List Int) (v3 : Int) (v4 : Int) (c1 : Int → Int → (List Int) → Int → Int → Option impl_heardFrom.R) : Option impl_heardFrom.R := impl_heardFrom.o1 N v0 v1 v2 v3 v4 c1
theorem impl_heardFrom.d1.run (N : Nat) (Kn58 : St D0 → Option impl_heardFrom.R) (v0 : Int) (v1 : Int) (v2 : List Int) (v3 : Int) (v4 : Int) : runC impl_heardFrom.C (impl_heardFrom.O N) N impl_heardFrom.c116 116 (mkSt [(0, .one (.int .i64 v0)), (1, .one (.int .i64 v1)), (7, .one (.sl true 3 v2)), (10, .one (.int .i64 v3)), (11, .one (.int .i64 v4))] [] : St D0) (impl_heardFrom.K116 N Kn58) = impl_heardFrom.d1 N v0 v1 v2 v3 v4 ((fun w0 w1 w2 w3 w4 => Kn58 (mkSt [(0, .one (.int .i64 w0)), (1, .one (.int .i64 w1)), (7, .one (.sl true 3 w2)), (10, .one (.int .i64 w3)), (11, .one (.int .i64 w4))] [] : St D0))) := by
  exact (impl_heardFrom.o1.run N Kn58 v0 v1 v2 v3 v4).trans rfl
noncomputable def impl_heardFrom.K58 (N : Nat) : Ex → St D0 → Option impl_heardFrom.R := (blockK 0 (onN (fun s => impl_heardFrom.C.tidy 14 s (fun s' => runC impl_heardFrom.C (impl_heardFrom.O N) N impl_heardFrom.c15 15 s' impl_heardFrom.K0)) impl_heardFrom.K0))
noncomputable def impl_heardFrom.l1 (N : Nat) : Nat → Int → Int → (List Int) → Int → Int → Option impl_heardFrom.R
  | 0, _, _, _, _, _ => none
  | n + 1, v0, v1, v2, v3, v4 => impl_heardFrom.d1 N v0 v1 v2 v3 v4 ((fun w0 w1 w2 w3 w4 => impl_heardFrom.l1 N n w0 w1 w2 w3 w4))
theorem impl_heardFrom.loop58 (N : Nat) : ∀ n, (∀ (v0 : Int) (v1 : Int) (v2 : List Int) (v3 : Int) (v4 : Int), iter (loopF impl_heardFrom.C (impl_heardFrom.O N) N impl_heardFrom.c116 58) n (mkSt [(0, .one (.int .i64 v0)), (1, .one (.int .i64 v1)), (7, .one (.sl true 3 v2)), (10, .one (.int .i64 v3)), (11, .one (.int .i64 v4))] [] : St D0) (impl_heardFrom.K58 N) = impl_heardFrom.l1 N n v0 v1 v2 v3 v4)
  | 0 => (fun v0 v1 v2 v3 v4 => rfl)
  | n + 1 => (fun v0 v1 v2 v3 v4 => (impl_heardFrom.d1.run N (fun s => iter (loopF impl_heardFrom.C (impl_heardFrom.O N) N impl_heardFrom.c116 58) n s (impl_heardFrom.K58 N)) v0 v1 v2 v3 v4).trans (show _ = impl_heardFrom.d1 N v0 v1 v2 v3 v4 ((fun w0 w1 w2 w3 w4 => impl_heardFrom.l1 N n w0 w1 w2 w3 w4)) from (congr rfl (funext fun w0 => funext fun w1 => funext fun w2 => funext fun w3 => funext fun w4 => (impl_heardFrom.loop58 N n) w0 w1 w2 w3 w4))))
noncomputable def impl_heardFrom.o0 (N : Nat) (a0 : Int) (a1 : Int) (a2 : Int) (c1 : Int → Int → (List Int) → Int → Int → Option impl_heardFrom.R) : Option impl_heardFrom.R :=
 c1 a0 a1 ([] : List Int) a2 0
theorem impl_heardFrom.o0.run (N : Nat) (H116 : Code) (a0 : Int) (a1 : Int) (a2 : Int) : runC impl_heardFrom.C (impl_heardFrom.O N) N (.seq impl_heardFrom.c2 (.seq impl_heardFrom.c6 (.seq (.seq impl_heardFrom.c28 (.block 0 (.loop H116))) impl_heardFrom.c15))) 1 (st0 [.one (.int .i64 a0), .one (.int .i64 a1), .one (.int .i64 a2)] [] : St D0) impl_heardFrom.K0 = impl_heardFrom.o0 N a0 a1 a2 ((fun w0 w1 w2 w3 w4 => iter (loopF impl_heardFrom.C (impl_heardFrom.O N) N H116 58) N (mkSt [(0, .one (.int .i64 w0)), (1, .one (.int .i64 w1)), (7, .one (.sl true 3 w2)), (10, .one (.int .i64 w3)), (11, .one (.int .i64 w4))] [] : St D0) (blockK 0 (onN (fun s => impl_heardFrom.C.tidy 14 s (fun s' => runC impl_heardFrom.C (impl_heardFrom.O N) N impl_heardFrom.c15 15 s' impl_heardFrom.K0)) impl_heardFrom.K0)))) := by kernel_rfl
noncomputable def impl_heardFrom.g (N : Nat) (a0 : Int) (a1 : Int) (a2 : Int) : Option impl_heardFrom.R := impl_heardFrom.o0 N a0 a1 a2 ((fun w0 w1 w2 w3 w4 => impl_heardFrom.l1 N N w0 w1 w2 w3 w4))
theorem impl_heardFrom.c1_0 : impl_heardFrom.c1 = (.seq impl_heardFrom.c2 (.seq impl_heardFrom.c6 (.seq (.seq impl_heardFrom.c28 (.block 0 (.loop impl_heardFrom.c116))) impl_heardFrom.c15))) := by kernel_rfl
theorem impl_heardFrom.g.run (N : Nat) (a0 : Int) (a1 : Int) (a2 : Int) : runC impl_heardFrom.C (impl_heardFrom.O N) N impl_heardFrom.c1 1 (st0 [.one (.int .i64 a0), .one (.int .i64 a1), .one (.int .i64 a2)] [] : St D0) impl_heardFrom.K0 = impl_heardFrom.g N a0 a1 a2 := by
  rw [impl_heardFrom.c1_0]; unfold impl_heardFrom.g; exact (impl_heardFrom.o0.run N impl_heardFrom.c116 a0 a1 a2).trans (congr rfl (funext fun w0 => funext fun w1 => funext fun w2 => funext fun w3 => funext fun w4 => (impl_heardFrom.loop58 N N) w0 w1 w2 w3 w4))
theorem impl_heardFrom.good (N : Nat) (a0 : Int) (a1 : Int) (a2 : Int) (r : impl_heardFrom.R) (h : impl_heardFrom.g N a0 a1 a2 = some r) : Go.PM.Good Go.Proofs.Try.prog T0 63 [.one (.int .i64 a0), .one (.int .i64 a1), .one (.int .i64 a2)] [] (impl_heardFrom.sig.ret r) (impl_heardFrom.sig.bs r) :=
  good_fn tabOk0 mixed0 impl_heardFrom.sig (impl_heardFrom.E N) Go.Proofs.Try.func63 (by kernel_rfl) (by kernel_rfl) 7623 0 0 [(58, [0, 1, 7, 10, 11], [])] [(false, [.own 3])] (by kernel_rfl) rfl ((impl_heardFrom.g.run N a0 a1 a2).trans h)
noncomputable def impl_heardFrom.ent (N : Nat) : Ent Go.Proofs.Try.prog T0 := mkEnt 63 [(false, [.any]), (false, [.any]), (false, [.any])] impl_heardFrom.sig (fun t => impl_heardFrom.g N t.1 t.2.1 t.2.2) (fun t r h => impl_heardFrom.good N t.1 t.2.1 t.2.2 r h)
end Go.Proofs.Ytpemffldaepbpaa.M

namespace Go.Proofs.Ytpemffldaepbpaa.M
open Go Go.PM Go.Proofs.Ytpemffldaepbpaa.P
set_option linter.unusedVariables false
set_option maxRecDepth 100000
/-! ### impl_HeardFrom -/
abbrev impl_HeardFrom.R : Type := List Int × Bool
abbrev impl_HeardFrom.sig : Sig := ⟨[(false, 1), (false, 1), (false, 1)], [], [.int .i64, .int .i64, .int .i64], [(false, 1), (false, 1)], [], [.sl true 3, .bool]⟩
noncomputable def impl_HeardFrom.C : Cfg D0 := ⟨Go.Proofs.Try.prog, T0, 65735, 0, 21, 0, [(12, [0, 1, 2, 16], [])]⟩
noncomputable def impl_HeardFrom.E (N : Nat) : List (Ent Go.Proofs.Try.prog T0) := [impl_isHalf.ent N, impl_within.ent N, impl_heardFrom.ent N]
noncomputable def impl_HeardFrom.O (N : Nat) : Orc D0 impl_HeardFrom.R := orcOf (impl_HeardFrom.E N)
noncomputable def impl_HeardFrom.K0 : Ex → St D0 → Option impl_HeardFrom.R := exitK impl_HeardFrom.C Go.Proofs.Try.f11.results.toList [(false, [.own 3]), (false, [.any])] (decOut impl_HeardFrom.sig)
noncomputable def impl_HeardFrom.c1 : Code := codeAt (Go.Proofs.Try.f11.body.getD .skip) []
noncomputable def impl_HeardFrom.c2 : Code := codeAt (Go.Proofs.Try.f11.body.getD .skip) [false]
noncomputable def impl_HeardFrom.c7 : Code := codeAt (Go.Proofs.Try.f11.body.getD .skip) [true, true]
noncomputable def impl_HeardFrom.c12 : Code := codeAt (Go.Proofs.Try.f11.body.getD .skip) [true, false, false]
noncomputable def impl_HeardFrom.c13 : Code := codeAt (Go.Proofs.Try.f11.body.getD .skip) [true, false, true]
noncomputable def impl_HeardFrom.K13 (N : Nat) : Ex → St D0 → Option impl_HeardFrom.R := (onN (fun s => impl_HeardFrom.C.tidy 6 s (fun s' => runC impl_HeardFrom.C (impl_HeardFrom.O N) N impl_HeardFrom.c7 7 s' impl_HeardFrom.K0)) impl_HeardFrom.K0)
noncomputable def impl_HeardFrom.o1 (N : Nat) (v0 : Int) (v1 : Int) (v2 : Int) (v3 : Bool) : Option impl_HeardFrom.R :=
 bif v3 then
  some (([] : List Int), false)
 else
 (impl_heardFrom.g N v0 v1 v2).bind fun r1 =>
 some (r1, true)
theorem impl_HeardFrom.o1.run (N : Nat) (v0 : Int) (v1 : Int) (v2 : Int) (v3 : Bool) : runC impl_HeardFrom.C (impl_HeardFrom.O N) N impl_HeardFrom.c13 13 (mkSt [(0, .one (.int .i64 v0)), (1, .one (.int .i64 v1)), (2, .one (.int .i64 v2)), (16, .one (.bool v3))] [] : St D0) (onN (fun s => impl_HeardFrom.C.tidy 6 s (fun s' => runC impl_HeardFrom.C (impl_HeardFrom.O N) N impl_HeardFrom.c7 7 s' impl_HeardFrom.K0)) impl_HeardFrom.K0) = impl_HeardFrom.o1 N v0 v1 v2 v3 := by kernel_rfl
noncomputable def impl_HeardFrom.d1 (N : Nat) (v0 : Int) (v1 : Int) (v2 : Int) (v3 : Bool) : Option impl_HeardFrom.R := impl_HeardFrom.o1 N v0 v1 v2 v3
theorem impl_HeardFrom.d1.run (N : Nat) (v0 : Int) (v1 : Int) (v2 : Int) (v3 : Bool) : runC impl_HeardFrom.C (impl_HeardFrom.O N) N impl_HeardFrom.c13 13 (mkSt [(0, .one (.int .i64 v0)), (1, .one (.int .i64 v1)), (2, .one (.int .i64 v2)), (16, .one (.bool v3))] [] : St D0) (impl_HeardFrom.K13 N) = impl_HeardFrom.d1 N v0 v1 v2 v3 := by
  exact (impl_HeardFrom.o1.run N v0 v1 v2 v3).trans rfl
noncomputable def impl_HeardFrom.o0 (N : Nat) (a0 : Int) (a1 : Int) (a2 : Int) (c1 : Int → Int → Int → Bool → Option impl_HeardFrom.R) : Option impl_HeardFrom.R :=
 (impl_isHalf.g N a0 a1).bind fun r1 =>
 bif (!r1) then
  c1 a0 a1 a2 true
 else
 (impl_within.g N a2 1 60).bind fun r2 =>
 c1 a0 a1 a2 (!r2)
theorem impl_HeardFrom.o0.run (N : Nat) (H13 : Code) (a0 : Int) (a1 : Int) (a2 : Int) : runC impl_HeardFrom.C (impl_HeardFrom.O N) N (.seq impl_HeardFrom.c2 (.seq (.seq impl_HeardFrom.c12 H13) impl_HeardFrom.c7)) 1 (st0 [.one (.int .i64 a0), .one (.int .i64 a1), .one (.int .i64 a2)] [] : St D0) impl_HeardFrom.K0 = impl_HeardFrom.o0 N a0 a1 a2 ((fun w0 w1 w2 w3 => runC impl_HeardFrom.C (impl_HeardFrom.O N) N H13 13 (mkSt [(0, .one (.int .i64 w0)), (1, .one (.int .i64 w1)), (2, .one (.int .i64 w2)), (16, .one (.bool w3))] [] : St D0) (onN (fun s => impl_HeardFrom.C.tidy 6 s (fun s' => runC impl_HeardFrom.C (impl_HeardFrom.O N) N impl_HeardFrom.c7 7 s' impl_HeardFrom.K0)) impl_HeardFrom.K0))) := by kernel_rfl
noncomputable def impl_HeardFrom.B6 (N : Nat) : St D0 → Option impl_HeardFrom.R := fun s' => runC impl_HeardFrom.C (impl_HeardFrom.O N) N impl_HeardFrom.c13 13 s' (impl_HeardFrom.K13 N)
noncomputable def impl_HeardFrom.g (N : Nat) (a0 : Int) (a1 : Int) (a2 : Int) : Option impl_HeardFrom.R := impl_HeardFrom.o0 N a0 a1 a2 ((fun w0 w1 w2 w3 => impl_HeardFrom.d1 N w0 w1 w2 w3))
theorem impl_HeardFrom.c1_0 : impl_HeardFrom.c1 = (.seq impl_HeardFrom.c2 (.seq (.seq impl_HeardFrom.c12 impl_HeardFrom.c13) impl_HeardFrom.c7)) := by kernel_rfl
theorem impl_HeardFrom.g.run (N : Nat) (a0 : Int) (a1 : Int) (a2 : Int) : runC impl_HeardFrom.C (impl_HeardFrom.O N) N impl_HeardFrom.c1 1 (st0 [.one (.int .i64 a0), .one (.int .i64 a1), .one (.int .i64 a2)] [] : St D0) impl_HeardFrom.K0 = impl_HeardFrom.g N a0 a1 a2 := by
  rw [impl_HeardFrom.c1_0]; unfold impl_HeardFrom.g; exact (impl_HeardFrom.o0.run N impl_HeardFrom.c13 a0 a1 a2).trans (congr rfl (funext fun w0 => funext fun w1 => funext fun w2 => funext fun w3 => impl_HeardFrom.d1.run N w0 w1 w2 w3))
theorem impl_HeardFrom.good (N : Nat) (a0 : Int) (a1 : Int) (a2 : Int) (r : impl_HeardFrom.R) (h : impl_HeardFrom.g N a0 a1 a2 = some r) : Go.PM.Good Go.Proofs.Try.prog T0 11 [.one (.int .i64 a0), .one (.int .i64 a1), .one (.int .i64 a2)] [] (impl_HeardFrom.sig.ret r) (impl_HeardFrom.sig.bs r) :=
  good_fn tabOk0 mixed0 impl_HeardFrom.sig (impl_HeardFrom.E N) Go.Proofs.Try.func11 (by kernel_rfl) (by kernel_rfl) 65735 0 0 [(12, [0, 1, 2, 16], [])] [(false, [.own 3]), (false, [.any])] (by kernel_rfl) rfl ((impl_HeardFrom.g.run N a0 a1 a2).trans h)
noncomputable def impl_HeardFrom.ent (N : Nat) : Ent Go.Proofs.Try.prog T0 := mkEnt 11 [(false, [.any]), (false, [.any]), (false, [.any])] impl_HeardFrom.sig (fun t => impl_HeardFrom.g N t.1 t.2.1 t.2.2) (fun t r h => impl_HeardFrom.good N t.1 t.2.1 t.2.2 r h)
end Go.Proofs.Ytpemffldaepbpaa.M

namespace Go.Proofs.Ytpemffldaepbpaa.M
open Go Go.PM Go.Proofs.Ytpemffldaepbpaa.P
set_option linter.unusedVariables false
set_option maxRecDepth 100000
/-! ### impl_StrokesAt -/
abbrev impl_StrokesAt.R : Type := Int × Bool
abbrev impl_StrokesAt.sig : Sig := ⟨[(false, 1), (false, 1)], [], [.int .i64, .int .i64], [(false, 1), (false, 1)], [], [.int .i64, .bool]⟩
noncomputable def impl_StrokesAt.C : Cfg D0 := ⟨Go.Proofs.Try.prog, T0, 563, 0, 13, 0, []⟩
noncomputable def impl_StrokesAt.E (N : Nat) : List (Ent Go.Proofs.Try.prog T0) := [impl_isHalf.ent N, impl_strokes.ent N]
noncomputable def impl_StrokesAt.O (N : Nat) : Orc D0 impl_StrokesAt.R := orcOf (impl_StrokesAt.E N)
noncomputable def impl_StrokesAt.K0 : Ex → St D0 → Option impl_StrokesAt.R := exitK impl_StrokesAt.C Go.Proofs.Try.f17.results.toList [(false, [.any]), (false, [.any])] (decOut impl_StrokesAt.sig)
noncomputable def impl_StrokesAt.c1 : Code := codeAt (Go.Proofs.Try.f17.body.getD .skip) []
noncomputable def impl_StrokesAt.o0 (N : Nat) (a0 : Int) (a1 : Int) : Option impl_StrokesAt.R :=
 (impl_isHalf.g N a0 a1).bind fun r1 =>
 bif (!r1) then
  some (0, false)
 else
 (impl_strokes.g N a0 a1).bind fun r2 =>
 some (r2, true)
theorem impl_StrokesAt.o0.run (N : Nat) (a0 : Int) (a1 : Int) : runC impl_StrokesAt.C (impl_StrokesAt.O N) N impl_StrokesAt.c1 1 (st0 [.one (.int .i64 a0), .one (.int .i64 a1)] [] : St D0) impl_StrokesAt.K0 = impl_StrokesAt.o0 N a0 a1 := by kernel_rfl
noncomputable def impl_StrokesAt.g (N : Nat) (a0 : Int) (a1 : Int) : Option impl_StrokesAt.R := impl_StrokesAt.o0 N a0 a1
theorem impl_StrokesAt.g.run (N : Nat) (a0 : Int) (a1 : Int) : runC impl_StrokesAt.C (impl_StrokesAt.O N) N impl_StrokesAt.c1 1 (st0 [.one (.int .i64 a0), .one (.int .i64 a1)] [] : St D0) impl_StrokesAt.K0 = impl_StrokesAt.g N a0 a1 := by
  exact (impl_StrokesAt.o0.run N a0 a1).trans rfl
theorem impl_StrokesAt.good (N : Nat) (a0 : Int) (a1 : Int) (r : impl_StrokesAt.R) (h : impl_StrokesAt.g N a0 a1 = some r) : Go.PM.Good Go.Proofs.Try.prog T0 17 [.one (.int .i64 a0), .one (.int .i64 a1)] [] (impl_StrokesAt.sig.ret r) (impl_StrokesAt.sig.bs r) :=
  good_fn tabOk0 mixed0 impl_StrokesAt.sig (impl_StrokesAt.E N) Go.Proofs.Try.func17 (by kernel_rfl) (by kernel_rfl) 563 0 0 [] [(false, [.any]), (false, [.any])] (by kernel_rfl) rfl ((impl_StrokesAt.g.run N a0 a1).trans h)
noncomputable def impl_StrokesAt.ent (N : Nat) : Ent Go.Proofs.Try.prog T0 := mkEnt 17 [(false, [.any]), (false, [.any])] impl_StrokesAt.sig (fun t => impl_StrokesAt.g N t.1 t.2) (fun t r h => impl_StrokesAt.good N t.1 t.2 r h)
end Go.Proofs.Ytpemffldaepbpaa.M

namespace Go.Proofs.Ytpemffldaepbpaa.M
open Go Go.PM Go.Proofs.Ytpemffldaepbpaa.P
set_option linter.unusedVariables false
set_option maxRecDepth 100000
/-! ### impl_StrokesBetween -/
abbrev impl_StrokesBetween.R : Type := Int × Bool
abbrev impl_StrokesBetween.sig : Sig := ⟨[(false, 1), (false, 1), (false, 1)], [], [.int .i64, .int .i64, .int .i64], [(false, 1), (false, 1)], [], [.int .i64, .bool]⟩
noncomputable def impl_StrokesBetween.C : Cfg D0 := ⟨Go.Proofs.Try.prog, T0, 1048775, 0, 30, 0, [(12, [0, 1, 2, 20], [])]⟩
noncomputable def impl_StrokesBetween.E (N : Nat) : List (Ent Go.Proofs.Try.prog T0) := [impl_isDial.ent N, impl_within.ent N, impl_before.ent N]
noncomputable def impl_StrokesBetween.O (N : Nat) : Orc D0 impl_StrokesBetween.R := orcOf (impl_StrokesBetween.E N)
noncomputable def impl_StrokesBetween.K0 : Ex → St D0 → Option impl_StrokesBetween.R := exitK impl_StrokesBetween.C Go.Proofs.Try.f20.results.toList [(false, [.any]), (false, [.any])] (decOut impl_StrokesBetween.sig)
noncomputable def impl_StrokesBetween.c1 : Code := codeAt (Go.Proofs.Try.f20.body.getD .skip) []
noncomputable def impl_StrokesBetween.c2 : Code := codeAt (Go.Proofs.Try.f20.body.getD .skip) [false]
noncomputable def impl_StrokesBetween.c7 : Code := codeAt (Go.Proofs.Try.f20.body.getD .skip) [true, true]
noncomputable def impl_StrokesBetween.c12 : Code := codeAt (Go.Proofs.Try.f20.body.getD .skip) [true, false, false]
noncomputable def impl_StrokesBetween.c13 : Code := codeAt (Go.Proofs.Try.f20.body.getD .skip) [true, false, true]
noncomputable def impl_StrokesBetween.K13 (N : Nat) : Ex → St D0 → Option impl_StrokesBetween.R := (onN (fun s => impl_StrokesBetween.C.tidy 6 s (fun s' => runC impl_StrokesBetween.C (impl_StrokesBetween.O N) N impl_StrokesBetween.c7 7 s' impl_StrokesBetween.K0)) impl_StrokesBetween.K0)
noncomputable def impl_StrokesBetween.o1 (N : Nat) (v0 : Int) (v1 : Int) (v2 : Int) (v3 : Bool) : Option impl_StrokesBetween.R :=
 bif v3 then
  some (0, false)
 else
 (impl_before.g N v0 (w64 (v2 + 1))).bind fun r1 =>
 (impl_before.g N v0 v1).bind fun r2 =>
 some ((if (w64 (r1 - r2)) > 0 then (w64 (r1 - r2)) else 0), true)
theorem impl_StrokesBetween.o1.run (N : Nat) (v0 : Int) (v1 : Int) (v2 : Int) (v3 : Bool) : runC impl_StrokesBetween.C (impl_StrokesBetween.O N) N impl_StrokesBetween.c13 13 (mkSt [(0, .one (.int .i64 v0)), (1, .one (.int .i64 v1)), (2, .one (.int .i64 v2)), (20, .one (.bool v3))] [] : St D0) (onN (fun s => impl_StrokesBetween.C.tidy 6 s (fun s' => runC impl_StrokesBetween.C (impl_StrokesBetween.O N) N impl_StrokesBetween.c7 7 s' impl_StrokesBetween.K0)) impl_StrokesBetween.K0) = impl_StrokesBetween.o1 N v0 v1 v2 v3 := by kernel_rfl
noncomputable def impl_StrokesBetween.d1 (N : Nat) (v0 : Int) (v1 : Int) (v2 : Int) (v3 : Bool) : Option impl_StrokesBetween.R := impl_StrokesBetween.o1 N v0 v1 v2 v3
theorem impl_StrokesBetween.d1.run (N : Nat) (v0 : Int) (v1 : Int) (v2 : Int) (v3 : Bool) : runC impl_StrokesBetween.C (impl_StrokesBetween.O N) N impl_StrokesBetween.c13 13 (mkSt [(0, .one (.int .i64 v0)), (1, .one (.int .i64 v1)), (2, .one (.int .i64 v2)), (20, .one (.bool v3))] [] : St D0) (impl_StrokesBetween.K13 N) = impl_StrokesBetween.d1 N v0 v1 v2 v3 := by
  exact (impl_StrokesBetween.o1.run N v0 v1 v2 v3).trans rfl
noncomputable def impl_StrokesBetween.o0 (N : Nat) (a0 : Int) (a1 : Int) (a2 : Int) (c1 : Int → Int → Int → Bool → Option impl_StrokesBetween.R) : Option impl_StrokesBetween.R :=
 (impl_isDial.g N a0).bind fun r1 =>
 bif (!r1) then
  c1 a0 a1 a2 true
 else
 (impl_within.g N a1 0 1000000).bind fun r2 =>
 bif (!r2) then
  c1 a0 a1 a2 true
 else
 (impl_within.g N a2 0 1000000).bind fun r3 =>
 c1 a0 a1 a2 (!r3)
theorem impl_StrokesBetween.o0.run (N : Nat) (H13 : Code) (a0 : Int) (a1 : Int) (a2 : Int) : runC impl_StrokesBetween.C (impl_StrokesBetween.O N) N (.seq impl_StrokesBetween.c2 (.seq (.seq impl_StrokesBetween.c12 H13) impl_StrokesBetween.c7)) 1 (st0 [.one (.int .i64 a0), .one (.int .i64 a1), .one (.int .i64 a2)] [] : St D0) impl_StrokesBetween.K0 = impl_StrokesBetween.o0 N a0 a1 a2 ((fun w0 w1 w2 w3 => runC impl_StrokesBetween.C (impl_StrokesBetween.O N) N H13 13 (mkSt [(0, .one (.int .i64 w0)), (1, .one (.int .i64 w1)), (2, .one (.int .i64 w2)), (20, .one (.bool w3))] [] : St D0) (onN (fun s => impl_StrokesBetween.C.tidy 6 s (fun s' => runC impl_StrokesBetween.C (impl_StrokesBetween.O N) N impl_StrokesBetween.c7 7 s' impl_StrokesBetween.K0)) impl_StrokesBetween.K0))) := by kernel_rfl
noncomputable def impl_StrokesBetween.B6 (N : Nat) : St D0 → Option impl_StrokesBetween.R := fun s' => runC impl_StrokesBetween.C (impl_StrokesBetween.O N) N impl_StrokesBetween.c13 13 s' (impl_StrokesBetween.K13 N)
noncomputable def impl_StrokesBetween.g (N : Nat) (a0 : Int) (a1 : Int) (a2 : Int) : Option impl_StrokesBetween.R := impl_StrokesBetween.o0 N a0 a1 a2 ((fun w0 w1 w2 w3 => impl_StrokesBetween.d1 N w0 w1 w2 w3))
theorem impl_StrokesBetween.c1_0 : impl_StrokesBetween.c1 = (.seq impl_StrokesBetween.c2 (.seq (.seq impl_StrokesBetween.c12 impl_StrokesBetween.c13) impl_StrokesBetween.c7)) := by kernel_rfl
theorem impl_StrokesBetween.g.run (N : Nat) (a0 : Int) (a1 : Int) (a2 : Int) : runC impl_StrokesBetween.C (impl_StrokesBetween.O N) N impl_StrokesBetween.c1 1 (st0 [.one (.int .i64 a0), .one (.int .i64 a1), .one (.int .i64 a2)] [] : St D0) impl_StrokesBetween.K0 = impl_StrokesBetween.g N a0 a1 a2 := by
  rw [impl_StrokesBetween.c1_0]; unfold impl_StrokesBetween.g; exact (impl_StrokesBetween.o0.run N impl_StrokesBetween.c13 a0 a1 a2).trans (congr rfl (funext fun w0 => funext fun w1 => funext fun w2 => funext fun w3 => impl_StrokesBetween.d1.run N w0 w1 w2 w3))
theorem impl_StrokesBetween.good (N : Nat) (a0 : Int) (a1 : Int) (a2 : Int) (r : impl_StrokesBetween.R) (h : impl_StrokesBetween.g N a0 a1 a2 = some r) : Go.PM.Good Go.Proofs.Try.prog T0 20 [.one (.int .i64 a0), .one (.int .i64 a1), .one (.int .i64 a2)] [] (impl_StrokesBetween.sig.ret r) (impl_StrokesBetween.sig.bs r) :=
  good_fn tabOk0 mixed0 impl_StrokesBetween.sig (impl_StrokesBetween.E N) Go.Proofs.Try.func20 (by kernel_rfl) (by kernel_rfl) 1048775 0 0 [(12, [0, 1, 2, 20], [])] [(false, [.any]), (false, [.any])] (by kernel_rfl) rfl ((impl_StrokesBetween.g.run N a0 a1 a2).trans h)
noncomputable def impl_StrokesBetween.ent (N : Nat) : Ent Go.Proofs.Try.prog T0 := mkEnt 20 [(false, [.any]), (false, [.any]), (false, [.any])] impl_StrokesBetween.sig (fun t => impl_StrokesBetween.g N t.1 t.2.1 t.2.2) (fun t r h => impl_StrokesBetween.good N t.1 t.2.1 t.2.2 r h)
end Go.Proofs.Ytpemffldaepbpaa.M

namespace Go.Proofs.Ytpemffldaepbpaa.M
open Go Go.PM Go.Proofs.Ytpemffldaepbpaa.P
set_option linter.unusedVariables false
set_option maxRecDepth 100000
/-! ### spec_l1In -/
abbrev spec_l1In.R : Type := Bool
abbrev spec_l1In.sig : Sig := ⟨[(false, 1), (false, 1), (false, 1)], [], [.int .i64, .int .i64, .int .i64], [(false, 1)], [], [.bool]⟩
noncomputable def spec_l1In.C : Cfg D0 := ⟨Go.Proofs.Try.prog, T0, 71, 0, 15, 0, []⟩
noncomputable def spec_l1In.E (N : Nat) : List (Ent Go.Proofs.Try.prog T0) := []
noncomputable def spec_l1In.O (N : Nat) : Orc D0 spec_l1In.R := orcOf (spec_l1In.E N)
noncomputable def spec_l1In.K0 : Ex → St D0 → Option spec_l1In.R := exitK spec_l1In.C Go.Proofs.Try.f60.results.toList [(false, [.any])] (decOut spec_l1In.sig)
noncomputable def spec_l1In.c1 : Code := codeAt (Go.Proofs.Try.f60.body.getD .skip) []
noncomputable def spec_l1In.o0 (N : Nat) (a0 : Int) (a1 : Int) (a2 : Int) : Option spec_l1In.R :=
 bif (decide (a0 ≥ a1)) then
  some ((decide (a0 ≤ a2)))
 else
 some (false)
theorem spec_l1In.o0.run (N : Nat) (a0 : Int) (a1 : Int) (a2 : Int) : runC spec_l1In.C (spec_l1In.O N) N spec_l1In.c1 1 (st0 [.one (.int .i64 a0), .one (.int .i64 a1), .one (.int .i64 a2)] [] : St D0) spec_l1In.K0 = spec_l1In.o0 N a0 a1 a2 := by kernel_rfl
noncomputable def spec_l1In.g (N : Nat) (a0 : Int) (a1 : Int) (a2 : Int) : Option spec_l1In.R := spec_l1In.o0 N a0 a1 a2
theorem spec_l1In.g.run (N : Nat) (a0 : Int) (a1 : Int) (a2 : Int) : runC spec_l1In.C (spec_l1In.O N) N spec_l1In.c1 1 (st0 [.one (.int .i64 a0), .one (.int .i64 a1), .one (.int .i64 a2)] [] : St D0) spec_l1In.K0 = spec_l1In.g N a0 a1 a2 := by
  exact (spec_l1In.o0.run N a0 a1 a2).trans rfl
theorem spec_l1In.good (N : Nat) (a0 : Int) (a1 : Int) (a2 : Int) (r : spec_l1In.R) (h : spec_l1In.g N a0 a1 a2 = some r) : Go.PM.Good Go.Proofs.Try.prog T0 60 [.one (.int .i64 a0), .one (.int .i64 a1), .one (.int .i64 a2)] [] (spec_l1In.sig.ret r) (spec_l1In.sig.bs r) :=
  good_fn tabOk0 mixed0 spec_l1In.sig (spec_l1In.E N) Go.Proofs.Try.func60 (by kernel_rfl) (by kernel_rfl) 71 0 0 [] [(false, [.any])] (by kernel_rfl) rfl ((spec_l1In.g.run N a0 a1 a2).trans h)
noncomputable def spec_l1In.ent (N : Nat) : Ent Go.Proofs.Try.prog T0 := mkEnt 60 [(false, [.any]), (false, [.any]), (false, [.any])] spec_l1In.sig (fun t => spec_l1In.g N t.1 t.2.1 t.2.2) (fun t r h => spec_l1In.good N t.1 t.2.1 t.2.2 r h)
end Go.Proofs.Ytpemffldaepbpaa.M

namespace Go.Proofs.Ytpemffldaepbpaa.M
open Go Go.PM Go.Proofs.Ytpemffldaepbpaa.P
set_option linter.unusedVariables false
set_option maxRecDepth 100000
/-! ### spec_diHours -/
abbrev spec_diHours.R : Type := Bool
abbrev spec_diHours.sig : Sig := ⟨[(false, 1)], [], [.int .i64], [(false, 1)], [], [.bool]⟩
noncomputable def spec_diHours.C : Cfg D0 := ⟨Go.Proofs.Try.prog, T0, 5, 0, 5, 0, []⟩
noncomputable def spec_diHours.E (N : Nat) : List (Ent Go.Proofs.Try.prog T0) := [spec_l1In.ent N]
noncomputable def spec_diHours.O (N : Nat) : Orc D0 spec_diHours.R := orcOf (spec_diHours.E N)
noncomputable def spec_diHours.K0 : Ex → St D0 → Option spec_diHours.R := exitK spec_diHours.C Go.Proofs.Try.f68.results.toList [(false, [.any])] (decOut spec_diHours.sig)
noncomputable def spec_diHours.c1 : Code := codeAt (Go.Proofs.Try.f68.body.getD .skip) []
noncomputable def spec_diHours.o0 (N : Nat) (a0 : Int) : Option spec_diHours.R :=
 (spec_l1In.g N a0 2 24).bind fun r1 =>
 some (r1)
theorem spec_diHours.o0.run (N : Nat) (a0 : Int) : runC spec_diHours.C (spec_diHours.O N) N spec_diHours.c1 1 (st0 [.one (.int .i64 a0)] [] : St D0) spec_diHours.K0 = spec_diHours.o0 N a0 := by kernel_rfl
noncomputable def spec_diHours.g (N : Nat) (a0 : Int) : Option spec_diHours.R := spec_diHours.o0 N a0
theorem spec_diHours.g.run (N : Nat) (a0 : Int) : runC spec_diHours.C (spec_diHours.O N) N spec_diHours.c1 1 (st0 [.one (.int .i64 a0)] [] : St D0) spec_diHours.K0 = spec_diHours.g N a0 := by
  exact (spec_diHours.o0.run N a0).trans rfl
theorem spec_diHours.good (N : Nat) (a0 : Int) (r : spec_diHours.R) (h : spec_diHours.g N a0 = some r) : Go.PM.Good Go.Proofs.Try.prog T0 68 [.one (.int .i64 a0)] [] (spec_diHours.sig.ret r) (spec_diHours.sig.bs r) :=
  good_fn tabOk0 mixed0 spec_diHours.sig (spec_diHours.E N) Go.Proofs.Try.func68 (by kernel_rfl) (by kernel_rfl) 5 0 0 [] [(false, [.any])] (by kernel_rfl) rfl ((spec_diHours.g.run N a0).trans h)
noncomputable def spec_diHours.ent (N : Nat) : Ent Go.Proofs.Try.prog T0 := mkEnt 68 [(false, [.any])] spec_diHours.sig (fun t => spec_diHours.g N t) (fun t r h => spec_diHours.good N t r h)
end Go.Proofs.Ytpemffldaepbpaa.M

namespace Go.Proofs.Ytpemffldaepbpaa.M
open Go Go.PM Go.Proofs.Ytpemffldaepbpaa.P
set_option linter.unusedVariables false
set_option maxRecDepth 100000
/-! ### spec_stHalf -/
abbrev spec_stHalf.R : Type := Bool
abbrev spec_stHalf.sig : Sig := ⟨[(false, 1), (false, 1)], [], [.int .i64, .int .i64], [(false, 1)], [], [.bool]⟩
noncomputable def spec_stHalf.C : Cfg D0 := ⟨Go.Proofs.Try.prog, T0, 19, 0, 14, 0, []⟩
noncomputable def spec_stHalf.E (N : Nat) : List (Ent Go.Proofs.Try.prog T0) := [spec_diHours.ent N, spec_l1In.ent N]
noncomputable def spec_stHalf.O (N : Nat) : Orc D0 spec_stHalf.R := orcOf (spec_stHalf.E N)
noncomputable def spec_stHalf.K0 : Ex → St D0 → Option spec_stHalf.R := exitK spec_stHalf.C Go.Proofs.Try.f59.results.toList [(false, [.any])] (decOut spec_stHalf.sig)
noncomputable def spec_stHalf.c1 : Code := codeAt (Go.Proofs.Try.f59.body.getD .skip) []
noncomputable def spec_stHalf.o0 (N : Nat) (a0 : Int) (a1 : Int) : Option spec_stHalf.R :=
 (spec_diHours.g N a0).bind fun r1 =>
 bif r1 then
  (spec_l1In.g N a1 0 (w64 ((w64 (2 * a0)) - 1))).bind fun r2 =>
  some (r2)
 else
 some (false)
theorem spec_stHalf.o0.run (N : Nat) (a0 : Int) (a1 : Int) : runC spec_stHalf.C (spec_stHalf.O N) N spec_stHalf.c1 1 (st0 [.one (.int .i64 a0), .one (.int .i64 a1)] [] : St D0) spec_stHalf.K0 = spec_stHalf.o0 N a0 a1 := by kernel_rfl
noncomputable def spec_stHalf.g (N : Nat) (a0 : Int) (a1 : Int) : Option spec_stHalf.R := spec_stHalf.o0 N a0 a1
theorem spec_stHalf.g.run (N : Nat) (a0 : Int) (a1 : Int) : runC spec_stHalf.C (spec_stHalf.O N) N spec_stHalf.c1 1 (st0 [.one (.int .i64 a0), .one (.int .i64 a1)] [] : St D0) spec_stHalf.K0 = spec_stHalf.g N a0 a1 := by
  exact (spec_stHalf.o0.run N a0 a1).trans rfl
theorem spec_stHalf.good (N : Nat) (a0 : Int) (a1 : Int) (r : spec_stHalf.R) (h : spec_stHalf.g N a0 a1 = some r) : Go.PM.Good Go.Proofs.Try.prog T0 59 [.one (.int .i64 a0), .one (.int .i64 a1)] [] (spec_stHalf.sig.ret r) (spec_stHalf.sig.bs r) :=
  good_fn tabOk0 mixed0 spec_stHalf.sig (spec_stHalf.E N) Go.Proofs.Try.func59 (by kernel_rfl) (by kernel_rfl) 19 0 0 [] [(false, [.any])] (by kernel_rfl) rfl ((spec_stHalf.g.run N a0 a1).trans h)
noncomputable def spec_stHalf.ent (N : Nat) : Ent Go.Proofs.Try.prog T0 := mkEnt 59 [(false, [.any]), (false, [.any])] spec_stHalf.sig (fun t => spec_stHalf.g N t.1 t.2) (fun t r h => spec_stHalf.good N t.1 t.2 r h)
end Go.Proofs.Ytpemffldaepbpaa.M

namespace Go.Proofs.Ytpemffldaepbpaa.M
open Go Go.PM Go.Proofs.Ytpemffldaepbpaa.P
set_option linter.unusedVariables false
set_option maxRecDepth 100000
/-! ### spec_stAt -/
abbrev spec_stAt.R : Type := Int
abbrev spec_stAt.sig : Sig := ⟨[(false, 1), (false, 1)], [], [.int .i64, .int .i64], [(false, 1)], [], [.int .i64]⟩
noncomputable def spec_stAt.C : Cfg D0 := ⟨Go.Proofs.Try.prog, T0, 563, 0, 15, 0, []⟩
noncomputable def spec_stAt.E (N : Nat) : List (Ent Go.Proofs.Try.prog T0) := []
noncomputable def spec_stAt.O (N : Nat) : Orc D0 spec_stAt.R := orcOf (spec_stAt.E N)
noncomputable def spec_stAt.K0 : Ex → St D0 → Option spec_stAt.R := exitK spec_stAt.C Go.Proofs.Try.f61.results.toList [(false, [.any])] (decOut spec_stAt.sig)
noncomputable def spec_stAt.c1 : Code := codeAt (Go.Proofs.Try.f61.body.getD .skip) []
noncomputable def spec_stAt.o0 (N : Nat) (a0 : Int) (a1 : Int) : Option spec_stAt.R :=
 bif ((Int.tmod a1 2) == 1) then
  some (1)
 else
 bif (a1 == 0) then
  some (a0)
 else
 some ((w64 (Int.tdiv a1 2)))
theorem spec_stAt.o0.run (N : Nat) (a0 : Int) (a1 : Int) : runC spec_stAt.C (spec_stAt.O N) N spec_stAt.c1 1 (st0 [.one (.int .i64 a0), .one (.int .i64 a1)] [] : St D0) spec_stAt.K0 = spec_stAt.o0 N a0 a1 := by kernel_rfl
noncomputable def spec_stAt.g (N : Nat) (a0 : Int) (a1 : Int) : Option spec_stAt.R := spec_stAt.o0 N a0 a1
theorem spec_stAt.g.run (N : Nat) (a0 : Int) (a1 : Int) : runC spec_stAt.C (spec_stAt.O N) N spec_stAt.c1 1 (st0 [.one (.int .i64 a0), .one (.int .i64 a1)] [] : St D0) spec_stAt.K0 = spec_stAt.g N a0 a1 := by
  exact (spec_stAt.o0.run N a0 a1).trans rfl
theorem spec_stAt.good (N : Nat) (a0 : Int) (a1 : Int) (r : spec_stAt.R) (h : spec_stAt.g N a0 a1 = some r) : Go.PM.Good Go.Proofs.Try.prog T0 61 [.one (.int .i64 a0), .one (.int .i64 a1)] [] (spec_stAt.sig.ret r) (spec_stAt.sig.bs r) :=
  good_fn tabOk0 mixed0 spec_stAt.sig (spec_stAt.E N) Go.Proofs.Try.func61 (by kernel_rfl) (by kernel_rfl) 563 0 0 [] [(false, [.any])] (by kernel_rfl) rfl ((spec_stAt.g.run N a0 a1).trans h)
noncomputable def spec_stAt.ent (N : Nat) : Ent Go.Proofs.Try.prog T0 := mkEnt 61 [(false, [.any]), (false, [.any])] spec_stAt.sig (fun t => spec_stAt.g N t.1 t.2) (fun t r h => spec_stAt.good N t.1 t.2 r h)
end Go.Proofs.Ytpemffldaepbpaa.M

namespace Go.Proofs.Ytpemffldaepbpaa.M
open Go Go.PM Go.Proofs.Ytpemffldaepbpaa.P
set_option linter.unusedVariables false
set_option maxRecDepth 100000
/-! ### spec_stFrom -/
abbrev spec_stFrom.R : Type := List Int
abbrev spec_stFrom.sig : Sig := ⟨[(false, 1), (false, 1), (false, 1)], [], [.int .i64, .int .i64, .int .i64], [(false, 1)], [], [.sl true 3]⟩
noncomputable def spec_stFrom.C : Cfg D0 := ⟨Go.Proofs.Try.prog, T0, 2503, 0, 26, 0, [(58, [0, 1, 2, 7, 8], [])]⟩
noncomputable def spec_stFrom.E (N : Nat) : List (Ent Go.Proofs.Try.prog T0) := [spec_stAt.ent N]
noncomputable def spec_stFrom.O (N : Nat) : Orc D0 spec_stFrom.R := orcOf (spec_stFrom.E N)
noncomputable def spec_stFrom.K0 : Ex → St D0 → Option spec_stFrom.R := exitK spec_stFrom.C Go.Proofs.Try.f64.results.toList [(false, [.own 3])] (decOut spec_stFrom.sig)
noncomputable def spec_stFrom.c1 : Code := codeAt (Go.Proofs.Try.f64.body.getD .skip) []
noncomputable def spec_stFrom.c2 : Code := codeAt (Go.Proofs.Try.f64.body.getD .skip) [false]
noncomputable def spec_stFrom.c6 : Code := codeAt (Go.Proofs.Try.f64.body.getD .skip) [true, false]
noncomputable def spec_stFrom.c15 : Code := codeAt (Go.Proofs.Try.f64.body.getD .skip) [true, true, true]
noncomputable def spec_stFrom.c28 : Code := codeAt (Go.Proofs.Try.f64.body.getD .skip) [true, true, false, false]
noncomputable def spec_stFrom.c116 : Code := codeAt (Go.Proofs.Try.f64.body.getD .skip) [true, true, false, true, false, false]
noncomputable def spec_stFrom.K116 (N : Nat) (Kn58 : St D0 → Option spec_stFrom.R) : Ex → St D0 → Option spec_stFrom.R := (onN (fun s => spec_stFrom.C.tidy 58 s ((onN Kn58 (blockK 0 (onN (fun s => spec_stFrom.C.tidy 14 s (fun s' => runC spec_stFrom.C (spec_stFrom.O N) N spec_stFrom.c15 15 s' spec_stFrom.K0)) spec_stFrom.K0))) .normal)) (onN Kn58 (blockK 0 (onN (fun s => spec_stFrom.C.tidy 14 s (fun s' => runC spec_stFrom.C (spec_stFrom.O N) N spec_stFrom.c15 15 s' spec_stFrom.K0)) spec_stFrom.K0))))
noncomputable def spec_stFrom.o1 (N : Nat) (v0 : Int) (v1 : Int) (v2 : Int) (v3 : Int) (c2 : Int → Int → Int → (List Int) → Int → Option spec_stFrom.R) : Option spec_stFrom.R :=
 bif (decide (v3 < v2)) then
  bif ((w64 (2 * v0)) == 0) then
   none
  else
  (spec_stAt.g N v0 (Int.tmod (w64 (v1 + v3)) (w64 (2 * v0)))).bind fun r1 =>
  bif (Nat.blt (([] : List Int).length + ([r1] : List Int).length) 17592186044416) then
   c2 v0 v1 v2 (([] : List Int) ++ ([r1] : List Int)) (w64 (v3 + 1))
  else
  none
 else
 some (([] : List Int))
theorem spec_stFrom.o1.run (N : Nat) (Kn58 : St D0 → Option spec_stFrom.R) (v0 : Int) (v1 : Int) (v2 : Int) (v3 : Int) : runC spec_stFrom.C (spec_stFrom.O N) N spec_stFrom.c116 116 (mkSt [(0, .one (.int .i64 v0)), (1, .one (.int .i64 v1)), (2, .one (.int .i64 v2)), (7, .one (.nl)), (8, .one (.int .i64 v3))] [] : St D0) (onN (fun s => spec_stFrom.C.tidy 58 s ((onN Kn58 (blockK 0 (onN (fun s => spec_stFrom.C.tidy 14 s (fun s' => runC spec_stFrom.C (spec_stFrom.O N) N spec_stFrom.c15 15 s' spec_stFrom.K0)) spec_stFrom.K0))) .normal)) (onN Kn58 (blockK 0 (onN (fun s => spec_stFrom.C.tidy 14 s (fun s' => runC spec_stFrom.C (spec_stFrom.O N) N spec_stFrom.c15 15 s' spec_stFrom.K0)) spec_stFrom.K0)))) = spec_stFrom.o1 N v0 v1 v2 v3 ((fun w0 w1 w2 w3 w4 => Kn58 (mkSt [(0, .one (.int .i64 w0)), (1, .one (.int .i64 w1)), (2, .one (.int .i64 w2)), (7, .one (.sl true 3 w3)), (8, .one (.int .i64 w4))] [] : St D0))) := by kernel_rfl
noncomputable def spec_stFrom.d1 (N : Nat) (v0 : Int) (v1 : Int) (v2 : Int) (v3 : Int) (c2 : Int → Int → Int → (List Int) → Int → Option spec_stFrom.R) : Option spec_stFrom.R := spec_stFrom.o1 N v0 v1 v2 v3 c2
theorem spec_stFrom.d1.run (N : Nat) (Kn58 : St D0 → Option spec_stFrom.R) (v0 : Int) (v1 : Int) (v2 : Int) (v3 : Int) : runC spec_stFrom.C (spec_stFrom.O N) N spec_stFrom.c116 116 (mkSt [(0, .one (.int .i64 v0)), (1, .one (.int .i64 v1)), (2, .one (.int .i64 v2)), (7, .one (.nl)), (8, .one (.int .i64 v3))] [] : St D0) (spec_stFrom.K116 N Kn58) = spec_stFrom.d1 N v0 v1 v2 v3 ((fun w0 w1 w2 w3 w4 => Kn58 (mkSt [(0, .one (.int .i64 w0)), (1, .one (.int .i64 w1)), (2, .one (.int .i64 w2)), (7, .one (.sl true 3 w3)), (8, .one (.int .i64 w4))] [] : St D0))) := by
  exact (spec_stFrom.o1.run N Kn58 v0 v1 v2 v3).trans rfl
noncomputable def spec_stFrom.o2 (N : Nat) (v0 : Int) (v1 : Int) (v2 : Int) (v3 : List Int) (v4 : Int) (c2 : Int → Int → Int → (List Int) → Int → Option spec_stFrom.R) : Option spec_stFrom.R :=
 bif (decide (v4 < v2)) then
  bif ((w64 (2 * v0)) == 0) then
   none
  else
  (spec_stAt.g N v0 (Int.tmod (w64 (v1 + v4)) (w64 (2 * v0)))).bind fun r1 =>
  bif (Nat.blt (v3.length + ([r1] : List Int).length) 17592186044416) then
   c2 v0 v1 v2 (v3 ++ ([r1] : List Int)) (w64 (v4 + 1))
  else
  none
 else
 some (v3)
theorem spec_stFrom.o2.run (N : Nat) (Kn58 : St D0 → Option spec_stFrom.R) (v0 : Int) (v1 : Int) (v2 : Int) (v3 : List Int) (v4 : Int) : runC spec_stFrom.C (spec_stFrom.O N) N spec_stFrom.c116 116 (mkSt [(0, .one (.int .i64 v0)), (1, .one (.int .i64 v1)), (2, .one (.int .i64 v2)), (7, .one (.sl true 3 v3)), (8, .one (.int .i64 v4))] [] : St D0) (onN (fun s => spec_stFrom.C.tidy 58 s ((onN Kn58 (blockK 0 (onN (fun s => spec_stFrom.C.tidy 14 s (fun s' => runC spec_stFrom.C (spec_stFrom.O N) N spec_stFrom.c15 15 s' spec_stFrom.K0)) spec_stFrom.K0))) .normal)) (onN Kn58 (blockK 0 (onN (fun s => spec_stFrom.C.tidy 14 s (fun s' => runC spec_stFrom.C (spec_stFrom.O N) N spec_stFrom.c15 15 s' spec_stFrom.K0)) spec_stFrom.K0)))) = spec_stFrom.o2 N v0 v1 v2 v3 v4 ((fun w0 w1 w2 w3 w4 => Kn58 (mkSt [(0, .one (.int .i64 w0)), (1, .one (.int .i64 w1)), (2, .one (.int .i64 w2)), (7, .one (.sl true 3 w3)), (8, .one (.int .i64 w4))] [] : St D0))) := by kernel_rfl
noncomputable def spec_stFrom.d2 (N : Nat) (v0 : Int) (v1 : Int) (v2 : Int) (v3 : List Int) (v4 : Int) (c2 : Int → Int → Int → (List Int) → Int → Option spec_stFrom.R) : Option spec_stFrom.R := spec_stFrom.o2 N v0 v1 v2 v3 v4 c2
theorem spec_stFrom.d2.run (N : Nat) (Kn58 : St D0 → Option spec_stFrom.R) (v0 : Int) (v1 : Int) (v2 : Int) (v3 : List Int) (v4 : Int) : runC spec_stFrom.C (spec_stFrom.O N) N spec_stFrom.c116 116 (mkSt [(0, .one (.int .i64 v0)), (1, .one (.int .i64 v1)), (2, .one (.int .i64 v2)), (7, .one (.sl true 3 v3)), (8, .one (.int .i64 v4))] [] : St D0) (spec_stFrom.K116 N Kn58) = spec_stFrom.d2 N v0 v1 v2 v3 v4 ((fun w0 w1 w2 w3 w4 => Kn58 (mkSt [(0, .one (.int .i64 w0)), (1, .one (.int .i64 w1)), (2, .one (.int .i64 w2)), (7, .one (.sl true 3 w3)), (8, .one (.int .i64 w4))] [] : St D0))) := by
  exact (spec_stFrom.o2.run N Kn58 v0 v1 v2 v3 v4).trans rfl
noncomputable def spec_stFrom.K58 (N : Nat) : Ex → St D0 → Option spec_stFrom.R := (blockK 0 (onN (fun s => spec_stFrom.C.tidy 14 s (fun s' => runC spec_stFrom.C (spec_stFrom.O N) N spec_stFrom.c15 15 s' spec_stFrom.K0)) spec_stFrom.K0))
mutual
noncomputable def spec_stFrom.l1 (N : Nat) : Nat → Int → Int → Int → Int → Option spec_stFrom.R
  | 0, _, _, _, _ => none
  | n + 1, v0, v1, v2, v3 => spec_stFrom.d1 N v0 v1 v2 v3 ((fun w0 w1 w2 w3 w4 => spec_stFrom.l2 N n w0 w1 w2 w3 w4))
noncomputable def spec_stFrom.l2 (N : Nat) : Nat → Int → Int → Int → (List Int) → Int → Option spec_stFrom.R
  | 0, _, _, _, _, _ => none
  | n + 1, v0, v1, v2, v3, v4 => spec_stFrom.d2 N v0 v1 v2 v3 v4 ((fun w0 w1 w2 w3 w4 => spec_stFrom.l2 N n w0 w1 w2 w3 w4))
end
theorem spec_stFrom.loop58 (N : Nat) : ∀ n, (∀ (v0 : Int) (v1 : Int) (v2 : Int) (v3 : Int), iter (loopF spec_stFrom.C (spec_stFrom.O N) N spec_stFrom.c116 58) n (mkSt [(0, .one (.int .i64 v0)), (1, .one (.int .i64 v1)), (2, .one (.int .i64 v2)), (7, .one (.nl)), (8, .one (.int .i64 v3))] [] : St D0) (spec_stFrom.K58 N) = spec_stFrom.l1 N n v0 v1 v2 v3) ∧ (∀ (v0 : Int) (v1 : Int) (v2 : Int) (v3 : List Int) (v4 : Int), iter (loopF spec_stFrom.C (spec_stFrom.O N) N spec_stFrom.c116 58) n (mkSt [(0, .one (.int .i64 v0)), (1, .one (.int .i64 v1)), (2, .one (.int .i64 v2)), (7, .one (.sl true 3 v3)), (8, .one (.int .i64 v4))] [] : St D0) (spec_stFrom.K58 N) = spec_stFrom.l2 N n v0 v1 v2 v3 v4)
  | 0 => ⟨(fun v0 v1 v2 v3 => rfl), (fun v0 v1 v2 v3 v4 => rfl)⟩
  | n + 1 => ⟨(fun v0 v1 v2 v3 => (spec_stFrom.d1.run N (fun s => iter (loopF spec_stFrom.C (spec_stFrom.O N) N spec_stFrom.c116 58) n s (spec_stFrom.K58 N)) v0 v1 v2 v3).trans (show _ = spec_stFrom.d1 N v0 v1 v2 v3 ((fun w0 w1 w2 w3 w4 => spec_stFrom.l2 N n w0 w1 w2 w3 w4)) from (congr rfl (funext fun w0 => funext fun w1 => funext fun w2 => funext fun w3 => funext fun w4 => (spec_stFrom.loop58 N n).2 w0 w1 w2 w3 w4)))), (fun v0 v1 v2 v3 v4 => (spec_stFrom.d2.run N (fun s => iter (loopF spec_stFrom.C (spec_stFrom.O N) N spec_stFrom.c116 58) n s (spec_stFrom.K58 N)) v0 v1 v2 v3 v4).trans (show _ = spec_stFrom.d2 N v0 v1 v2 v3 v4 ((fun w0 w1 w2 w3 w4 => spec_stFrom.l2 N n w0 w1 w2 w3 w4)) from (congr rfl (funext fun w0 => funext fun w1 => funext fun w2 => funext fun w3 => funext fun w4 => (spec_stFrom.loop58 N n).2 w0 w1 w2 w3 w4))))⟩
noncomputable def spec_stFrom.o0 (N : Nat) (a0 : Int) (a1 : Int) (a2 : Int) (c1 : Int → Int → Int → Int → Option spec_stFrom.R) : Option spec_stFrom.R :=
 c1 a0 a1 a2 0
theorem spec_stFrom.o0.run (N : Nat) (H116 : Code) (a0 : Int) (a1 : Int) (a2 : Int) : runC spec_stFrom.C (spec_stFrom.O N) N (.seq spec_stFrom.c2 (.seq spec_stFrom.c6 (.seq (.seq spec_stFrom.c28 (.block 0 (.loop H116))) spec_stFrom.c15))) 1 (st0 [.one (.int .i64 a0), .one (.int .i64 a1), .one (.int .i64 a2)] [] : St D0) spec_stFrom.K0 = spec_stFrom.o0 N a0 a1 a2 ((fun w0 w1 w2 w3 => iter (loopF spec_stFrom.C (spec_stFrom.O N) N H116 58) N (mkSt [(0, .one (.int .i64 w0)), (1, .one (.int .i64 w1)), (2, .one (.int .i64 w2)), (7, .one (.nl)), (8, .one (.int .i64 w3))] [] : St D0) (blockK 0 (onN (fun s => spec_stFrom.C.tidy 14 s (fun s' => runC spec_stFrom.C (spec_stFrom.O N) N spec_stFrom.c15 15 s' spec_stFrom.K0)) spec_stFrom.K0)))) := by kernel_rfl
noncomputable def spec_stFrom.g (N : Nat) (a0 : Int) (a1 : Int) (a2 : Int) : Option spec_stFrom.R := spec_stFrom.o0 N a0 a1 a2 ((fun w0 w1 w2 w3 => spec_stFrom.l1 N N w0 w1 w2 w3))
theorem spec_stFrom.c1_0 : spec_stFrom.c1 = (.seq spec_stFrom.c2 (.seq spec_stFrom.c6 (.seq (.seq spec_stFrom.c28 (.block 0 (.loop spec_stFrom.c116))) spec_stFrom.c15))) := by kernel_rfl
theorem spec_stFrom.g.run (N : Nat) (a0 : Int) (a1 : Int) (a2 : Int) : runC spec_stFrom.C (spec_stFrom.O N) N spec_stFrom.c1 1 (st0 [.one (.int .i64 a0), .one (.int .i64 a1), .one (.int .i64 a2)] [] : St D0) spec_stFrom.K0 = spec_stFrom.g N a0 a1 a2 := by
  rw [spec_stFrom.c1_0]; unfold spec_stFrom.g; exact (spec_stFrom.o0.run N spec_stFrom.c116 a0 a1 a2).trans (congr rfl (funext fun w0 => funext fun w1 => funext fun w2 => funext fun w3 => (spec_stFrom.loop58 N N).1 w0 w1 w2 w3))
theorem spec_stFrom.good (N : Nat) (a0 : Int) (a1 : Int) (a2 : Int) (r : spec_stFrom.R) (h : spec_stFrom.g N a0 a1 a2 = some r) : Go.PM.Good Go.Proofs.Try.prog T0 64 [.one (.int .i64 a0), .one (.int .i64 a1), .one (.int .i64 a2)] [] (spec_stFrom.sig.ret r) (spec_stFrom.sig.bs r) :=
  good_fn tabOk0 mixed0 spec_stFrom.sig (spec_stFrom.E N) Go.Proofs.Try.func64 (by kernel_rfl) (by kernel_rfl) 2503 0 0 [(58, [0, 1, 2, 7, 8], [])] [(false, [.own 3])] (by kernel_rfl) rfl ((spec_stFrom.g.run N a0 a1 a2).trans h)
noncomputable def spec_stFrom.ent (N : Nat) : Ent Go.Proofs.Try.prog T0 := mkEnt 64 [(false, [.any]), (false, [.any]), (false, [.any])] spec_stFrom.sig (fun t => spec_stFrom.g N t.1 t.2.1 t.2.2) (fun t r h => spec_stFrom.good N t.1 t.2.1 t.2.2 r h)
end Go.Proofs.Ytpemffldaepbpaa.M

namespace Go.Proofs.Ytpemffldaepbpaa.M
open Go Go.PM Go.Proofs.Ytpemffldaepbpaa.P
set_option linter.unusedVariables false
set_option maxRecDepth 100000
/-! ### spec_HeardFrom -/
abbrev spec_HeardFrom.R : Type := List Int × Bool
abbrev spec_HeardFrom.sig : Sig := ⟨[(false, 1), (false, 1), (false, 1)], [], [.int .i64, .int .i64, .int .i64], [(false, 1), (false, 1)], [], [.sl true 3, .bool]⟩
noncomputable def spec_HeardFrom.C : Cfg D0 := ⟨Go.Proofs.Try.prog, T0, 65735, 0, 21, 0, [(12, [0, 1, 2, 16], [])]⟩
noncomputable def spec_HeardFrom.E (N : Nat) : List (Ent Go.Proofs.Try.prog T0) := [spec_stHalf.ent N, spec_l1In.ent N, spec_stFrom.ent N]
noncomputable def spec_HeardFrom.O (N : Nat) : Orc D0 spec_HeardFrom.R := orcOf (spec_HeardFrom.E N)
noncomputable def spec_HeardFrom.K0 : Ex → St D0 → Option spec_HeardFrom.R := exitK spec_HeardFrom.C Go.Proofs.Try.f12.results.toList [(false, [.own 3]), (false, [.any])] (decOut spec_HeardFrom.sig)
noncomputable def spec_HeardFrom.c1 : Code := codeAt (Go.Proofs.Try.f12.body.getD .skip) []
noncomputable def spec_HeardFrom.c2 : Code := codeAt (Go.Proofs.Try.f12.body.getD .skip) [false]
noncomputable def spec_HeardFrom.c7 : Code := codeAt (Go.Proofs.Try.f12.body.getD .skip) [true, true]
noncomputable def spec_HeardFrom.c12 : Code := codeAt (Go.Proofs.Try.f12.body.getD .skip) [true, false, false]
noncomputable def spec_HeardFrom.c13 : Code := codeAt (Go.Proofs.Try.f12.body.getD .skip) [true, false, true]
noncomputable def spec_HeardFrom.K13 (N : Nat) : Ex → St D0 → Option spec_HeardFrom.R := (onN (fun s => spec_HeardFrom.C.tidy 6 s (fun s' => runC spec_HeardFrom.C (spec_HeardFrom.O N) N spec_HeardFrom.c7 7 s' spec_HeardFrom.K0)) spec_HeardFrom.K0)
noncomputable def spec_HeardFrom.o1 (N : Nat) (v0 : Int) (v1 : Int) (v2 : Int) (v3 : Bool) : Option spec_HeardFrom.R :=
 bif v3 then
  some (([] : List Int), false)
 else
 (spec_stFrom.g N v0 v1 v2).bind fun r1 =>
 some (r1, true)
theorem spec_HeardFrom.o1.run (N : Nat) (v0 : Int) (v1 : Int) (v2 : Int) (v3 : Bool) : runC spec_HeardFrom.C (spec_HeardFrom.O N) N spec_HeardFrom.c13 13 (mkSt [(0, .one (.int .i64 v0)), (1, .one (.int .i64 v1)), (2, .one (.int .i64 v2)), (16, .one (.bool v3))] [] : St D0) (onN (fun s => spec_HeardFrom.C.tidy 6 s (fun s' => runC spec_HeardFrom.C (spec_HeardFrom.O N) N spec_HeardFrom.c7 7 s' spec_HeardFrom.K0)) spec_HeardFrom.K0) = spec_HeardFrom.o1 N v0 v1 v2 v3 := by kernel_rfl
noncomputable def spec_HeardFrom.d1 (N : Nat) (v0 : Int) (v1 : Int) (v2 : Int) (v3 : Bool) : Option spec_HeardFrom.R := spec_HeardFrom.o1 N v0 v1 v2 v3
theorem spec_HeardFrom.d1.run (N : Nat) (v0 : Int) (v1 : Int) (v2 : Int) (v3 : Bool) : runC spec_HeardFrom.C (spec_HeardFrom.O N) N spec_HeardFrom.c13 13 (mkSt [(0, .one (.int .i64 v0)), (1, .one (.int .i64 v1)), (2, .one (.int .i64 v2)), (16, .one (.bool v3))] [] : St D0) (spec_HeardFrom.K13 N) = spec_HeardFrom.d1 N v0 v1 v2 v3 := by
  exact (spec_HeardFrom.o1.run N v0 v1 v2 v3).trans rfl
noncomputable def spec_HeardFrom.o0 (N : Nat) (a0 : Int) (a1 : Int) (a2 : Int) (c1 : Int → Int → Int → Bool → Option spec_HeardFrom.R) : Option spec_HeardFrom.R :=
 (spec_stHalf.g N a0 a1).bind fun r1 =>
 bif (!r1) then
  c1 a0 a1 a2 true
 else
 (spec_l1In.g N a2 1 60).bind fun r2 =>
 c1 a0 a1 a2 (!r2)
theorem spec_HeardFrom.o0.run (N : Nat) (H13 : Code) (a0 : Int) (a1 : Int) (a2 : Int) : runC spec_HeardFrom.C (spec_HeardFrom.O N) N (.seq spec_HeardFrom.c2 (.seq (.seq spec_HeardFrom.c12 H13) spec_HeardFrom.c7)) 1 (st0 [.one (.int .i64 a0), .one (.int .i64 a1), .one (.int .i64 a2)] [] : St D0) spec_HeardFrom.K0 = spec_HeardFrom.o0 N a0 a1 a2 ((fun w0 w1 w2 w3 => runC spec_HeardFrom.C (spec_HeardFrom.O N) N H13 13 (mkSt [(0, .one (.int .i64 w0)), (1, .one (.int .i64 w1)), (2, .one (.int .i64 w2)), (16, .one (.bool w3))] [] : St D0) (onN (fun s => spec_HeardFrom.C.tidy 6 s (fun s' => runC spec_HeardFrom.C (spec_HeardFrom.O N) N spec_HeardFrom.c7 7 s' spec_HeardFrom.K0)) spec_HeardFrom.K0))) := by kernel_rfl
noncomputable def spec_HeardFrom.B6 (N : Nat) : St D0 → Option spec_HeardFrom.R := fun s' => runC spec_HeardFrom.C (spec_HeardFrom.O N) N spec_HeardFrom.c13 13 s' (spec_HeardFrom.K13 N)
noncomputable def spec_HeardFrom.g (N : Nat) (a0 : Int) (a1 : Int) (a2 : Int) : Option spec_HeardFrom.R := spec_HeardFrom.o0 N a0 a1 a2 ((fun w0 w1 w2 w3 => spec_HeardFrom.d1 N w0 w1 w2 w3))
theorem spec_HeardFrom.c1_0 : spec_HeardFrom.c1 = (.seq spec_HeardFrom.c2 (.seq (.seq spec_HeardFrom.c12 spec_HeardFrom.c13) spec_HeardFrom.c7)) := by kernel_rfl
theorem spec_HeardFrom.g.run (N : Nat) (a0 : Int) (a1 : Int) (a2 : Int) : runC spec_HeardFrom.C (spec_HeardFrom.O N) N spec_HeardFrom.c1 1 (st0 [.one (.int .i64 a0), .one (.int .i64 a1), .one (.int .i64 a2)] [] : St D0) spec_HeardFrom.K0 = spec_HeardFrom.g N a0 a1 a2 := by
  rw [spec_HeardFrom.c1_0]; unfold spec_HeardFrom.g; exact (spec_HeardFrom.o0.run N spec_HeardFrom.c13 a0 a1 a2).trans (congr rfl (funext fun w0 => funext fun w1 => funext fun w2 => funext fun w3 => spec_HeardFrom.d1.run N w0 w1 w2 w3))
theorem spec_HeardFrom.good (N : Nat) (a0 : Int) (a1 : Int) (a2 : Int) (r : spec_HeardFrom.R) (h : spec_HeardFrom.g N a0 a1 a2 = some r) : Go.PM.Good Go.Proofs.Try.prog T0 12 [.one (.int .i64 a0), .one (.int .i64 a1), .one (.int .i64 a2)] [] (spec_HeardFrom.sig.ret r) (spec_HeardFrom.sig.bs r) :=
  good_fn tabOk0 mixed0 spec_HeardFrom.sig (spec_HeardFrom.E N) Go.Proofs.Try.func12 (by kernel_rfl) (by kernel_rfl) 65735 0 0 [(12, [0, 1, 2, 16], [])] [(false, [.own 3]), (false, [.any])] (by kernel_rfl) rfl ((spec_HeardFrom.g.run N a0 a1 a2).trans h)
noncomputable def spec_HeardFrom.ent (N : Nat) : Ent Go.Proofs.Try.prog T0 := mkEnt 12 [(false, [.any]), (false, [.any]), (false, [.any])] spec_HeardFrom.sig (fun t => spec_HeardFrom.g N t.1 t.2.1 t.2.2) (fun t r h => spec_HeardFrom.good N t.1 t.2.1 t.2.2 r h)
end Go.Proofs.Ytpemffldaepbpaa.M

namespace Go.Proofs.Ytpemffldaepbpaa.M
open Go Go.PM Go.Proofs.Ytpemffldaepbpaa.P
set_option linter.unusedVariables false
set_option maxRecDepth 100000
/-! ### spec_StrokesAt -/
abbrev spec_StrokesAt.R : Type := Int × Bool
abbrev spec_StrokesAt.sig : Sig := ⟨[(false, 1), (false, 1)], [], [.int .i64, .int .i64], [(false, 1), (false, 1)], [], [.int .i64, .bool]⟩
noncomputable def spec_StrokesAt.C : Cfg D0 := ⟨Go.Proofs.Try.prog, T0, 563, 0, 13, 0, []⟩
noncomputable def spec_StrokesAt.E (N : Nat) : List (Ent Go.Proofs.Try.prog T0) := [spec_stHalf.ent N, spec_stAt.ent N]
noncomputable def spec_StrokesAt.O (N : Nat) : Orc D0 spec_StrokesAt.R := orcOf (spec_StrokesAt.E N)
noncomputable def spec_StrokesAt.K0 : Ex → St D0 → Option spec_StrokesAt.R := exitK spec_StrokesAt.C Go.Proofs.Try.f18.results.toList [(false, [.any]), (false, [.any])] (decOut spec_StrokesAt.sig)
noncomputable def spec_StrokesAt.c1 : Code := codeAt (Go.Proofs.Try.f18.body.getD .skip) []
noncomputable def spec_StrokesAt.o0 (N : Nat) (a0 : Int) (a1 : Int) : Option spec_StrokesAt.R :=
 (spec_stHalf.g N a0 a1).bind fun r1 =>
 bif (!r1) then
  some (0, false)
 else
 (spec_stAt.g N a0 a1).bind fun r2 =>
 some (r2, true)
theorem spec_StrokesAt.o0.run (N : Nat) (a0 : Int) (a1 : Int) : runC spec_StrokesAt.C (spec_StrokesAt.O N) N spec_StrokesAt.c1 1 (st0 [.one (.int .i64 a0), .one (.int .i64 a1)] [] : St D0) spec_StrokesAt.K0 = spec_StrokesAt.o0 N a0 a1 := by kernel_rfl
noncomputable def spec_StrokesAt.g (N : Nat) (a0 : Int) (a1 : Int) : Option spec_StrokesAt.R := spec_StrokesAt.o0 N a0 a1
theorem spec_StrokesAt.g.run (N : Nat) (a0 : Int) (a1 : Int) : runC spec_StrokesAt.C (spec_StrokesAt.O N) N spec_StrokesAt.c1 1 (st0 [.one (.int .i64 a0), .one (.int .i64 a1)] [] : St D0) spec_StrokesAt.K0 = spec_StrokesAt.g N a0 a1 := by
  exact (spec_StrokesAt.o0.run N a0 a1).trans rfl
theorem spec_StrokesAt.good (N : Nat) (a0 : Int) (a1 : Int) (r : spec_StrokesAt.R) (h : spec_StrokesAt.g N a0 a1 = some r) : Go.PM.Good Go.Proofs.Try.prog T0 18 [.one (.int .i64 a0), .one (.int .i64 a1)] [] (spec_StrokesAt.sig.ret r) (spec_StrokesAt.sig.bs r) :=
  good_fn tabOk0 mixed0 spec_StrokesAt.sig (spec_StrokesAt.E N) Go.Proofs.Try.func18 (by kernel_rfl) (by kernel_rfl) 563 0 0 [] [(false, [.any]), (false, [.any])] (by kernel_rfl) rfl ((spec_StrokesAt.g.run N a0 a1).trans h)
noncomputable def spec_StrokesAt.ent (N : Nat) : Ent Go.Proofs.Try.prog T0 := mkEnt 18 [(false, [.any]), (false, [.any])] spec_StrokesAt.sig (fun t => spec_StrokesAt.g N t.1 t.2) (fun t r h => spec_StrokesAt.good N t.1 t.2 r h)
end Go.Proofs.Ytpemffldaepbpaa.M

namespace Go.Proofs.Ytpemffldaepbpaa.M
open Go Go.PM Go.Proofs.Ytpemffldaepbpaa.P
set_option linter.unusedVariables false
set_option maxRecDepth 100000
/-! ### laws_kSame -/
abbrev laws_kSame.R : Type := Bool
abbrev laws_kSame.sig : Sig := ⟨[(false, 1), (false, 1)], [], [.sl false 3, .sl false 3], [(false, 1)], [], [.bool]⟩
noncomputable def laws_kSame.C : Cfg D0 := ⟨Go.Proofs.Try.prog, T0, 16806963, 0, 26, 0, [(58, [0, 1, 12, 13], [])]⟩
noncomputable def laws_kSame.E (N : Nat) : List (Ent Go.Proofs.Try.prog T0) := []
noncomputable def laws_kSame.O (N : Nat) : Orc D0 laws_kSame.R := orcOf (laws_kSame.E N)
noncomputable def laws_kSame.K0 : Ex → St D0 → Option laws_kSame.R := exitK laws_kSame.C Go.Proofs.Try.f19.results.toList [(false, [.any])] (decOut laws_kSame.sig)
noncomputable def laws_kSame.c1 : Code := codeAt (Go.Proofs.Try.f19.body.getD .skip) []
noncomputable def laws_kSame.c2 : Code := codeAt (Go.Proofs.Try.f19.body.getD .skip) [false]
noncomputable def laws_kSame.c6 : Code := codeAt (Go.Proofs.Try.f19.body.getD .skip) [true, false]
noncomputable def laws_kSame.c15 : Code := codeAt (Go.Proofs.Try.f19.body.getD .skip) [true, true, true]
noncomputable def laws_kSame.c28 : Code := codeAt (Go.Proofs.Try.f19.body.getD .skip) [true, true, false, false]
noncomputable def laws_kSame.c116 : Code := codeAt (Go.Proofs.Try.f19.body.getD .skip) [true, true, false, true, false, false]
noncomputable def laws_kSame.K116 (N : Nat) (Kn58 : St D0 → Option laws_kSame.R) : Ex → St D0 → Option laws_kSame.R := (onN (fun s => laws_kSame.C.tidy 58 s ((onN Kn58 (blockK 0 (onN (fun s => laws_kSame.C.tidy 14 s (fun s' => runC laws_kSame.C (laws_kSame.O N) N laws_kSame.c15 15 s' laws_kSame.K0)) laws_kSame.K0))) .normal)) (onN Kn58 (blockK 0 (onN (fun s => laws_kSame.C.tidy 14 s (fun s' => runC laws_kSame.C (laws_kSame.O N) N laws_kSame.c15 15 s' laws_kSame.K0)) laws_kSame.K0))))
noncomputable def laws_kSame.o1 (N : Nat) (v0 : List Int) (v1 : List Int) (v2 : Int) (v3 : Int) (c1 : (List Int) → (List Int) → Int → Int → Option laws_kSame.R) : Option laws_kSame.R :=
 bif (decide (v3 < v2)) then
  bif (decide (0 ≤ v3)) then
   bif (decide (v3 < (v0.length : Int))) then
    (v0[(v3 : Int).toNat]?).bind fun x1 =>
    bif (decide (0 ≤ v3)) then
     bif (decide (v3 < (v1.length : Int))) then
      (v1[(v3 : Int).toNat]?).bind fun x2 =>
      bif (x1 != x2) then
       some (false)
      else
      c1 v0 v1 v2 (w64 (v3 + 1))
     else
     none
    else
    none
   else
   none
  else
  none
 else
 some (true)
theorem laws_kSame.o1.run (N : Nat) (Kn58 : St D0 → Option laws_kSame.R) (v0 : List Int) (v1 : List Int) (v2 : Int) (v3 : Int) : runC laws_kSame.C (laws_kSame.O N) N laws_kSame.c116 116 (mkSt [(0, .one (.sl false 3 v0)), (1, .one (.sl false 3 v1)), (12, .one (.int .i64 v2)), (13, .one (.int .i64 v3))] [] : St D0) (onN (fun s => laws_kSame.C.tidy 58 s ((onN Kn58 (blockK 0 (onN (fun s => laws_kSame.C.tidy 14 s (fun s' => runC laws_kSame.C (laws_kSame.O N) N laws_kSame.c15 15 s' laws_kSame.K0)) laws_kSame.K0))) .normal)) (onN Kn58 (blockK 0 (onN (fun s => laws_kSame.C.tidy 14 s (fun s' => runC laws_kSame.C (laws_kSame.O N) N laws_kSame.c15 15 s' laws_kSame.K0)) laws_kSame.K0)))) = laws_kSame.o1 N v0 v1 v2 v3 ((fun w0 w1 w2 w3 => Kn58 (mkSt [(0, .one (.sl false 3 w0)), (1, .one (.sl false 3 w1)), (12, .one (.int .i64 w2)), (13, .one (.int .i64 w3))] [] : St D0))) := by kernel_rfl
noncomputable def laws_kSame.d1 (N : Nat) (v0 : List Int) (v1 : List Int) (v2 : Int) (v3 : Int) (c1 : (List Int) → (List Int) → Int → Int → Option laws_kSame.R) : Option laws_kSame.R := laws_kSame.o1 N v0 v1 v2 v3 c1
theorem laws_kSame.d1.run (N : Nat) (Kn58 : St D0 → Option laws_kSame.R) (v0 : List Int) (v1 : List Int) (v2 : Int) (v3 : Int) : runC laws_kSame.C (laws_kSame.O N) N laws_kSame.c116 116 (mkSt [(0, .one (.sl false 3 v0)), (1, .one (.sl false 3 v1)), (12, .one (.int .i64 v2)), (13, .one (.int .i64 v3))] [] : St D0) (laws_kSame.K116 N Kn58) = laws_kSame.d1 N v0 v1 v2 v3 ((fun w0 w1 w2 w3 => Kn58 (mkSt [(0, .one (.sl false 3 w0)), (1, .one (.sl false 3 w1)), (12, .one (.int .i64 w2)), (13, .one (.int .i64 w3))] [] : St D0))) := by
  exact (laws_kSame.o1.run N Kn58 v0 v1 v2 v3).trans rfl
noncomputable def laws_kSame.K58 (N : Nat) : Ex → St D0 → Option laws_kSame.R := (blockK 0 (onN (fun s => laws_kSame.C.tidy 14 s (fun s' => runC laws_kSame.C (laws_kSame.O N) N laws_kSame.c15 15 s' laws_kSame.K0)) laws_kSame.K0))
noncomputable def laws_kSame.l1 (N : Nat) : Nat → (List Int) → (List Int) → Int → Int → Option laws_kSame.R
  | 0, _, _, _, _ => none
  | n + 1, v0, v1, v2, v3 => laws_kSame.d1 N v0 v1 v2 v3 ((fun w0 w1 w2 w3 => laws_kSame.l1 N n w0 w1 w2 w3))
theorem laws_kSame.loop58 (N : Nat) : ∀ n, (∀ (v0 : List Int) (v1 : List Int) (v2 : Int) (v3 : Int), iter (loopF laws_kSame.C (laws_kSame.O N) N laws_kSame.c116 58) n (mkSt [(0, .one (.sl false 3 v0)), (1, .one (.sl false 3 v1)), (12, .one (.int .i64 v2)), (13, .one (.int .i64 v3))] [] : St D0) (laws_kSame.K58 N) = laws_kSame.l1 N n v0 v1 v2 v3)
  | 0 => (fun v0 v1 v2 v3 => rfl)
  | n + 1 => (fun v0 v1 v2 v3 => (laws_kSame.d1.run N (fun s => iter (loopF laws_kSame.C (laws_kSame.O N) N laws_kSame.c116 58) n s (laws_kSame.K58 N)) v0 v1 v2 v3).trans (show _ = laws_kSame.d1 N v0 v1 v2 v3 ((fun w0 w1 w2 w3 => laws_kSame.l1 N n w0 w1 w2 w3)) from (congr rfl (funext fun w0 => funext fun w1 => funext fun w2 => funext fun w3 => (laws_kSame.loop58 N n) w0 w1 w2 w3))))
noncomputable def laws_kSame.o0 (N : Nat) (a0 : List Int) (a1 : List Int) (c1 : (List Int) → (List Int) → Int → Int → Option laws_kSame.R) : Option laws_kSame.R :=
 bif ((a0.length : Int) != (a1.length : Int)) then
  some (false)
 else
 c1 a0 a1 (a0.length : Int) 0
theorem laws_kSame.o0.run (N : Nat) (H116 : Code) (a0 : List Int) (a1 : List Int) : runC laws_kSame.C (laws_kSame.O N) N (.seq laws_kSame.c2 (.seq laws_kSame.c6 (.seq (.seq laws_kSame.c28 (.block 0 (.loop H116))) laws_kSame.c15))) 1 (st0 [.one (.sl false 3 a0), .one (.sl false 3 a1)] [] : St D0) laws_kSame.K0 = laws_kSame.o0 N a0 a1 ((fun w0 w1 w2 w3 => iter (loopF laws_kSame.C (laws_kSame.O N) N H116 58) N (mkSt [(0, .one (.sl false 3 w0)), (1, .one (.sl false 3 w1)), (12, .one (.int .i64 w2)), (13, .one (.int .i64 w3))] [] : St D0) (blockK 0 (onN (fun s => laws_kSame.C.tidy 14 s (fun s' => runC laws_kSame.C (laws_kSame.O N) N laws_kSame.c15 15 s' laws_kSame.K0)) laws_kSame.K0)))) := by kernel_rfl
noncomputable def laws_kSame.g (N : Nat) (a0 : List Int) (a1 : List Int) : Option laws_kSame.R := laws_kSame.o0 N a0 a1 ((fun w0 w1 w2 w3 => laws_kSame.l1 N N w0 w1 w2 w3))
theorem laws_kSame.c1_0 : laws_kSame.c1 = (.seq laws_kSame.c2 (.seq laws_kSame.c6 (.seq (.seq laws_kSame.c28 (.block 0 (.loop laws_kSame.c116))) laws_kSame.c15))) := by kernel_rfl
theorem laws_kSame.g.run (N : Nat) (a0 : List Int) (a1 : List Int) : runC laws_kSame.C (laws_kSame.O N) N laws_kSame.c1 1 (st0 [.one (.sl false 3 a0), .one (.sl false 3 a1)] [] : St D0) laws_kSame.K0 = laws_kSame.g N a0 a1 := by
  rw [laws_kSame.c1_0]; unfold laws_kSame.g; exact (laws_kSame.o0.run N laws_kSame.c116 a0 a1).trans (congr rfl (funext fun w0 => funext fun w1 => funext fun w2 => funext fun w3 => (laws_kSame.loop58 N N) w0 w1 w2 w3))
theorem laws_kSame.good (N : Nat) (a0 : List Int) (a1 : List Int) (r : laws_kSame.R) (h : laws_kSame.g N a0 a1 = some r) : Go.PM.Good Go.Proofs.Try.prog T0 19 [.one (.sl false 3 a0), .one (.sl false 3 a1)] [] (laws_kSame.sig.ret r) (laws_kSame.sig.bs r) :=
  good_fn tabOk0 mixed0 laws_kSame.sig (laws_kSame.E N) Go.Proofs.Try.func19 (by kernel_rfl) (by kernel_rfl) 16806963 0 0 [(58, [0, 1, 12, 13], [])] [(false, [.any])] (by kernel_rfl) rfl ((laws_kSame.g.run N a0 a1).trans h)
noncomputable def laws_kSame.ent (N : Nat) : Ent Go.Proofs.Try.prog T0 := mkEnt 19 [(false, [.ro 3]), (false, [.ro 3])] laws_kSame.sig (fun t => laws_kSame.g N t.1 t.2) (fun t r h => laws_kSame.good N t.1 t.2 r h)
end Go.Proofs.Ytpemffldaepbpaa.M

namespace Go.Proofs.Ytpemffldaepbpaa.M
open Go Go.PM Go.Proofs.Ytpemffldaepbpaa.P
set_option linter.unusedVariables false
set_option maxRecDepth 100000
/-! ### spec_l1Cur_next -/
abbrev spec_l1Cur_next.R : Type := Int × List Int × Int × Int
abbrev spec_l1Cur_next.sig : Sig := ⟨[(false, 1)], [(50, 3)], [.ptr 0 0, .sl false 5, .int .i64, .int .u64], [(false, 1)], [(50, 3)], [.int .i64, .sl false 5, .int .i64, .int .u64]⟩
noncomputable def spec_l1Cur_next.C : Cfg D0 := ⟨Go.Proofs.Try.prog, T0, 9007199254749197, 0, 62, 1, [(14, [0, 3], [0])]⟩
noncomputable def spec_l1Cur_next.E (N : Nat) : List (Ent Go.Proofs.Try.prog T0) := []
noncomputable def spec_l1Cur_next.O (N : Nat) : Orc D0 spec_l1Cur_next.R := orcOf (spec_l1Cur_next.E N)
noncomputable def spec_l1Cur_next.K0 : Ex → St D0 → Option spec_l1Cur_next.R := exitK spec_l1Cur_next.C Go.Proofs.Try.f87.results.toList [(false, [.any])] (decOut spec_l1Cur_next.sig)
noncomputable def spec_l1Cur_next.c1 : Code := codeAt (Go.Proofs.Try.f87.body.getD .skip) []
noncomputable def spec_l1Cur_next.c2 : Code := codeAt (Go.Proofs.Try.f87.body.getD .skip) [false]
noncomputable def spec_l1Cur_next.c6 : Code := codeAt (Go.Proofs.Try.f87.body.getD .skip) [true, false]
noncomputable def spec_l1Cur_next.c14 : Code := codeAt (Go.Proofs.Try.f87.body.getD .skip) [true, true, false]
noncomputable def spec_l1Cur_next.c15 : Code := codeAt (Go.Proofs.Try.f87.body.getD .skip) [true, true, true]
noncomputable def spec_l1Cur_next.K15 (N : Nat) : Ex → St D0 → Option spec_l1Cur_next.R := spec_l1Cur_next.K0
noncomputable def spec_l1Cur_next.o1 (N : Nat) (v0 : Int) (v1 : List Int) (v2 : Int) (v3 : Int) : Option spec_l1Cur_next.R :=
 bif (decide ((w64 (v2 + 1)) ≤ (v1.length : Int))) then
  some (v0, v1, (w64 (v2 + 1)), ((IntKind.wrap .u64) (((IntKind.wrap .u64) (((IntKind.wrap .u64) (v3 * 6364136223846793005)) + ((IntKind.wrap .u64) v0))) + 1442695040888963407)))
 else
 some ((w64 (andK .u64 (shrK .u64 ((IntKind.wrap .u64) (((IntKind.wrap .u64) (((IntKind.wrap .u64) (v3 * 6364136223846793005)) + ((IntKind.wrap .u64) v0))) + 1442695040888963407)) 40) 255)), v1, (w64 (v2 + 1)), ((IntKind.wrap .u64) (((IntKind.wrap .u64) (((IntKind.wrap .u64) (v3 * 6364136223846793005)) + ((IntKind.wrap .u64) v0))) + 1442695040888963407)))
theorem spec_l1Cur_next.o1.run (N : Nat) (v0 : Int) (v1 : List Int) (v2 : Int) (v3 : Int) : runC spec_l1Cur_next.C (spec_l1Cur_next.O N) N spec_l1Cur_next.c15 15 (mkSt [(0, .one (.ptr 0 0)), (3, .one (.int .i64 v0))] [(0, some (50, [.sl false 5 v1, .int .i64 v2, .int .u64 v3]))] : St D0) spec_l1Cur_next.K0 = spec_l1Cur_next.o1 N v0 v1 v2 v3 := by kernel_rfl
noncomputable def spec_l1Cur_next.d1 (N : Nat) (v0 : Int) (v1 : List Int) (v2 : Int) (v3 : Int) : Option spec_l1Cur_next.R := spec_l1Cur_next.o1 N v0 v1 v2 v3
theorem spec_l1Cur_next.d1.run (N : Nat) (v0 : Int) (v1 : List Int) (v2 : Int) (v3 : Int) : runC spec_l1Cur_next.C (spec_l1Cur_next.O N) N spec_l1Cur_next.c15 15 (mkSt [(0, .one (.ptr 0 0)), (3, .one (.int .i64 v0))] [(0, some (50, [.sl false 5 v1, .int .i64 v2, .int .u64 v3]))] : St D0) (spec_l1Cur_next.K15 N) = spec_l1Cur_next.d1 N v0 v1 v2 v3 := by
  exact (spec_l1Cur_next.o1.run N v0 v1 v2 v3).trans rfl
noncomputable def spec_l1Cur_next.o0 (N : Nat) (b0_0 : List Int) (b0_1 : Int) (b0_2 : Int) (c1 : Int → (List Int) → Int → Int → Option spec_l1Cur_next.R) : Option spec_l1Cur_next.R :=
 bif (decide (b0_1 < (b0_0.length : Int))) then
  bif (decide (0 ≤ b0_1)) then
   bif (decide (b0_1 < (b0_0.length : Int))) then
    (b0_0[(b0_1 : Int).toNat]?).bind fun x1 =>
    c1 (w64 x1) b0_0 b0_1 b0_2
   else
   none
  else
  none
 else
 c1 0 b0_0 b0_1 b0_2
theorem spec_l1Cur_next.o0.run (N : Nat) (H15 : Code) (b0_0 : List Int) (b0_1 : Int) (b0_2 : Int) : runC spec_l1Cur_next.C (spec_l1Cur_next.O N) N (.seq spec_l1Cur_next.c2 (.seq spec_l1Cur_next.c6 (.seq spec_l1Cur_next.c14 H15))) 1 (st0 [.one (.ptr 0 0)] [(50, [.sl false 5 b0_0, .int .i64 b0_1, .int .u64 b0_2])] : St D0) spec_l1Cur_next.K0 = spec_l1Cur_next.o0 N b0_0 b0_1 b0_2 ((fun w0 w1 w2 w3 => runC spec_l1Cur_next.C (spec_l1Cur_next.O N) N H15 15 (mkSt [(0, .one (.ptr 0 0)), (3, .one (.int .i64 w0))] [(0, some (50, [.sl false 5 w1, .int .i64 w2, .int .u64 w3]))] : St D0) spec_l1Cur_next.K0)) := by kernel_rfl
noncomputable def spec_l1Cur_next.B7 (N : Nat) : St D0 → Option spec_l1Cur_next.R := fun s' => runC spec_l1Cur_next.C (spec_l1Cur_next.O N) N spec_l1Cur_next.c15 15 s' (spec_l1Cur_next.K15 N)
noncomputable def spec_l1Cur_next.g (N : Nat) (b0_0 : List Int) (b0_1 : Int) (b0_2 : Int) : Option spec_l1Cur_next.R := spec_l1Cur_next.o0 N b0_0 b0_1 b0_2 ((fun w0 w1 w2 w3 => spec_l1Cur_next.d1 N w0 w1 w2 w3))
theorem spec_l1Cur_next.c1_0 : spec_l1Cur_next.c1 = (.seq spec_l1Cur_next.c2 (.seq spec_l1Cur_next.c6 (.seq spec_l1Cur_next.c14 spec_l1Cur_next.c15))) := by kernel_rfl
theorem spec_l1Cur_next.g.run (N : Nat) (b0_0 : List Int) (b0_1 : Int) (b0_2 : Int) : runC spec_l1Cur_next.C (spec_l1Cur_next.O N) N spec_l1Cur_next.c1 1 (st0 [.one (.ptr 0 0)] [(50, [.sl false 5 b0_0, .int .i64 b0_1, .int .u64 b0_2])] : St D0) spec_l1Cur_next.K0 = spec_l1Cur_next.g N b0_0 b0_1 b0_2 := by
  rw [spec_l1Cur_next.c1_0]; unfold spec_l1Cur_next.g; exact (spec_l1Cur_next.o0.run N spec_l1Cur_next.c15 b0_0 b0_1 b0_2).trans (congr rfl (funext fun w0 => funext fun w1 => funext fun w2 => funext fun w3 => spec_l1Cur_next.d1.run N w0 w1 w2 w3))
theorem spec_l1Cur_next.good (N : Nat) (b0_0 : List Int) (b0_1 : Int) (b0_2 : Int) (r : spec_l1Cur_next.R) (h : spec_l1Cur_next.g N b0_0 b0_1 b0_2 = some r) : Go.PM.Good Go.Proofs.Try.prog T0 87 [.one (.ptr 0 0)] [(50, [.sl false 5 b0_0, .int .i64 b0_1, .int .u64 b0_2])] (spec_l1Cur_next.sig.ret r) (spec_l1Cur_next.sig.bs r) :=
  good_fn tabOk0 mixed0 spec_l1Cur_next.sig (spec_l1Cur_next.E N) Go.Proofs.Try.func87 (by kernel_rfl) (by kernel_rfl) 9007199254749197 0 1 [(14, [0, 3], [0])] [(false, [.any])] (by kernel_rfl) rfl ((spec_l1Cur_next.g.run N b0_0 b0_1 b0_2).trans h)
noncomputable def spec_l1Cur_next.ent (N : Nat) : Ent Go.Proofs.Try.prog T0 := mkEnt 87 [(false, [.any])] spec_l1Cur_next.sig (fun t => spec_l1Cur_next.g N t.2.1 t.2.2.1 t.2.2.2) (fun t r h => spec_l1Cur_next.good N t.2.1 t.2.2.1 t.2.2.2 r h)
end Go.Proofs.Ytpemffldaepbpaa.M

namespace Go.Proofs.Ytpemffldaepbpaa.M
open Go Go.PM Go.Proofs.Ytpemffldaepbpaa.P
set_option linter.unusedVariables false
set_option maxRecDepth 100000
/-! ### spec_l1Cur_pick -/
abbrev spec_l1Cur_pick.R : Type := Int × List Int × Int × Int
abbrev spec_l1Cur_pick.sig : Sig := ⟨[(false, 1), (false, 1)], [(50, 3)], [.ptr 0 0, .int .i64, .sl false 5, .int .i64, .int .u64], [(false, 1)], [(50, 3)], [.int .i64, .sl false 5, .int .i64, .int .u64]⟩
noncomputable def spec_l1Cur_pick.C : Cfg D0 := ⟨Go.Proofs.Try.prog, T0, 2227, 0, 20, 1, [(30, [1, 5], [0])]⟩
noncomputable def spec_l1Cur_pick.E (N : Nat) : List (Ent Go.Proofs.Try.prog T0) := [spec_l1Cur_next.ent N]
noncomputable def spec_l1Cur_pick.O (N : Nat) : Orc D0 spec_l1Cur_pick.R := orcOf (spec_l1Cur_pick.E N)
noncomputable def spec_l1Cur_pick.K0 : Ex → St D0 → Option spec_l1Cur_pick.R := exitK spec_l1Cur_pick.C Go.Proofs.Try.f53.results.toList [(false, [.any])] (decOut spec_l1Cur_pick.sig)
noncomputable def spec_l1Cur_pick.c1 : Code := codeAt (Go.Proofs.Try.f53.body.getD .skip) []
noncomputable def spec_l1Cur_pick.c2 : Code := codeAt (Go.Proofs.Try.f53.body.getD .skip) [false]
noncomputable def spec_l1Cur_pick.c6 : Code := codeAt (Go.Proofs.Try.f53.body.getD .skip) [true, false]
noncomputable def spec_l1Cur_pick.c14 : Code := codeAt (Go.Proofs.Try.f53.body.getD .skip) [true, true, false]
noncomputable def spec_l1Cur_pick.c30 : Code := codeAt (Go.Proofs.Try.f53.body.getD .skip) [true, true, true, false]
noncomputable def spec_l1Cur_pick.c31 : Code := codeAt (Go.Proofs.Try.f53.body.getD .skip) [true, true, true, true]
noncomputable def spec_l1Cur_pick.K31 (N : Nat) : Ex → St D0 → Option spec_l1Cur_pick.R := spec_l1Cur_pick.K0
noncomputable def spec_l1Cur_pick.o1 (N : Nat) (v0 : Int) (v1 : Int) (v2 : List Int) (v3 : Int) (v4 : Int) : Option spec_l1Cur_pick.R :=
 bif (v0 == 0) then
  none
 else
 some ((Int.tmod v1 v0), v2, v3, v4)
theorem spec_l1Cur_pick.o1.run (N : Nat) (v0 : Int) (v1 : Int) (v2 : List Int) (v3 : Int) (v4 : Int) : runC spec_l1Cur_pick.C (spec_l1Cur_pick.O N) N spec_l1Cur_pick.c31 31 (mkSt [(1, .one (.int .i64 v0)), (5, .one (.int .i64 v1))] [(0, some (50, [.sl false 5 v2, .int .i64 v3, .int .u64 v4]))] : St D0) spec_l1Cur_pick.K0 = spec_l1Cur_pick.o1 N v0 v1 v2 v3 v4 := by kernel_rfl
noncomputable def spec_l1Cur_pick.d1 (N : Nat) (v0 : Int) (v1 : Int) (v2 : List Int) (v3 : Int) (v4 : Int) : Option spec_l1Cur_pick.R := spec_l1Cur_pick.o1 N v0 v1 v2 v3 v4
theorem spec_l1Cur_pick.d1.run (N : Nat) (v0 : Int) (v1 : Int) (v2 : List Int) (v3 : Int) (v4 : Int) : runC spec_l1Cur_pick.C (spec_l1Cur_pick.O N) N spec_l1Cur_pick.c31 31 (mkSt [(1, .one (.int .i64 v0)), (5, .one (.int .i64 v1))] [(0, some (50, [.sl false 5 v2, .int .i64 v3, .int .u64 v4]))] : St D0) (spec_l1Cur_pick.K31 N) = spec_l1Cur_pick.d1 N v0 v1 v2 v3 v4 := by
  exact (spec_l1Cur_pick.o1.run N v0 v1 v2 v3 v4).trans rfl
noncomputable def spec_l1Cur_pick.o0 (N : Nat) (a1 : Int) (b0_0 : List Int) (b0_1 : Int) (b0_2 : Int) (c1 : Int → Int → (List Int) → Int → Int → Option spec_l1Cur_pick.R) : Option spec_l1Cur_pick.R :=
 bif (decide (a1 ≤ 1)) then
  some (0, b0_0, b0_1, b0_2)
 else
 (spec_l1Cur_next.g N b0_0 b0_1 b0_2).bind fun r1 =>
 bif (decide (a1 > 200)) then
  (spec_l1Cur_next.g N r1.2.1 r1.2.2.1 r1.2.2.2).bind fun r2 =>
  c1 a1 (w64 ((w64 (r1.1 * 256)) + r2.1)) r2.2.1 r2.2.2.1 r2.2.2.2
 else
 c1 a1 r1.1 r1.2.1 r1.2.2.1 r1.2.2.2
theorem spec_l1Cur_pick.o0.run (N : Nat) (H31 : Code) (a1 : Int) (b0_0 : List Int) (b0_1 : Int) (b0_2 : Int) : runC spec_l1Cur_pick.C (spec_l1Cur_pick.O N) N (.seq spec_l1Cur_pick.c2 (.seq spec_l1Cur_pick.c6 (.seq spec_l1Cur_pick.c14 (.seq spec_l1Cur_pick.c30 H31)))) 1 (st0 [.one (.ptr 0 0), .one (.int .i64 a1)] [(50, [.sl false 5 b0_0, .int .i64 b0_1, .int .u64 b0_2])] : St D0) spec_l1Cur_pick.K0 = spec_l1Cur_pick.o0 N a1 b0_0 b0_1 b0_2 ((fun w0 w1 w2 w3 w4 => runC spec_l1Cur_pick.C (spec_l1Cur_pick.O N) N H31 31 (mkSt [(1, .one (.int .i64 w0)), (5, .one (.int .i64 w1))] [(0, some (50, [.sl false 5 w2, .int .i64 w3, .int .u64 w4]))] : St D0) spec_l1Cur_pick.K0)) := by kernel_rfl
noncomputable def spec_l1Cur_pick.B15 (N : Nat) : St D0 → Option spec_l1Cur_pick.R := fun s' => runC spec_l1Cur_pick.C (spec_l1Cur_pick.O N) N spec_l1Cur_pick.c31 31 s' (spec_l1Cur_pick.K31 N)
noncomputable def spec_l1Cur_pick.g (N : Nat) (a1 : Int) (b0_0 : List Int) (b0_1 : Int) (b0_2 : Int) : Option spec_l1Cur_pick.R := spec_l1Cur_pick.o0 N a1 b0_0 b0_1 b0_2 ((fun w0 w1 w2 w3 w4 => spec_l1Cur_pick.d1 N w0 w1 w2 w3 w4))
theorem spec_l1Cur_pick.c1_0 : spec_l1Cur_pick.c1 = (.seq spec_l1Cur_pick.c2 (.seq spec_l1Cur_pick.c6 (.seq spec_l1Cur_pick.c14 (.seq spec_l1Cur_pick.c30 spec_l1Cur_pick.c31)))) := by kernel_rfl
theorem spec_l1Cur_pick.g.run (N : Nat) (a1 : Int) (b0_0 : List Int) (b0_1 : Int) (b0_2 : Int) : runC spec_l1Cur_pick.C (spec_l1Cur_pick.O N) N spec_l1Cur_pick.c1 1 (st0 [.one (.ptr 0 0), .one (.int .i64 a1)] [(50, [.sl false 5 b0_0, .int .i64 b0_1, .int .u64 b0_2])] : St D0) spec_l1Cur_pick.K0 = spec_l1Cur_pick.g N a1 b0_0 b0_1 b0_2 := by
  rw [spec_l1Cur_pick.c1_0]; unfold spec_l1Cur_pick.g; exact (spec_l1Cur_pick.o0.run N spec_l1Cur_pick.c31 a1 b0_0 b0_1 b0_2).trans (congr rfl (funext fun w0 => funext fun w1 => funext fun w2 => funext fun w3 => funext fun w4 => spec_l1Cur_pick.d1.run N w0 w1 w2 w3 w4))
theorem spec_l1Cur_pick.good (N : Nat) (a1 : Int) (b0_0 : List Int) (b0_1 : Int) (b0_2 : Int) (r : spec_l1Cur_pick.R) (h : spec_l1Cur_pick.g N a1 b0_0 b0_1 b0_2 = some r) : Go.PM.Good Go.Proofs.Try.prog T0 53 [.one (.ptr 0 0), .one (.int .i64 a1)] [(50, [.sl false 5 b0_0, .int .i64 b0_1, .int .u64 b0_2])] (spec_l1Cur_pick.sig.ret r) (spec_l1Cur_pick.sig.bs r) :=
  good_fn tabOk0 mixed0 spec_l1Cur_pick.sig (spec_l1Cur_pick.E N) Go.Proofs.Try.func53 (by kernel_rfl) (by kernel_rfl) 2227 0 1 [(30, [1, 5], [0])] [(false, [.any])] (by kernel_rfl) rfl ((spec_l1Cur_pick.g.run N a1 b0_0 b0_1 b0_2).trans h)
noncomputable def spec_l1Cur_pick.ent (N : Nat) : Ent Go.Proofs.Try.prog T0 := mkEnt 53 [(false, [.any]), (false, [.any])] spec_l1Cur_pick.sig (fun t => spec_l1Cur_pick.g N t.2.1 t.2.2.1 t.2.2.2.1 t.2.2.2.2) (fun t r h => spec_l1Cur_pick.good N t.2.1 t.2.2.1 t.2.2.2.1 t.2.2.2.2 r h)
end Go.Proofs.Ytpemffldaepbpaa.M

namespace Go.Proofs.Ytpemffldaepbpaa.M
open Go Go.PM Go.Proofs.Ytpemffldaepbpaa.P
set_option linter.unusedVariables false
set_option maxRecDepth 100000
/-! ### spec_l1Cur_among -/
abbrev spec_l1Cur_among.R : Type := Int × List Int × Int × Int
abbrev spec_l1Cur_among.sig : Sig := ⟨[(false, 1), (false, 1)], [(50, 3)], [.ptr 0 0, .sl false 3, .sl false 5, .int .i64, .int .u64], [(false, 1)], [(50, 3)], [.int .i64, .sl false 5, .int .i64, .int .u64]⟩
noncomputable def spec_l1Cur_among.C : Cfg D0 := ⟨Go.Proofs.Try.prog, T0, 19, 0, 12, 1, []⟩
noncomputable def spec_l1Cur_among.E (N : Nat) : List (Ent Go.Proofs.Try.prog T0) := [spec_l1Cur_pick.ent N]
noncomputable def spec_l1Cur_among.O (N : Nat) : Orc D0 spec_l1Cur_among.R := orcOf (spec_l1Cur_among.E N)
noncomputable def spec_l1Cur_among.K0 : Ex → St D0 → Option spec_l1Cur_among.R := exitK spec_l1Cur_among.C Go.Proofs.Try.f62.results.toList [(false, [.any])] (decOut spec_l1Cur_among.sig)
noncomputable def spec_l1Cur_among.c1 : Code := codeAt (Go.Proofs.Try.f62.body.getD .skip) []
noncomputable def spec_l1Cur_among.o0 (N : Nat) (a1 : List Int) (b0_0 : List Int) (b0_1 : Int) (b0_2 : Int) : Option spec_l1Cur_among.R :=
 (spec_l1Cur_pick.g N (a1.length : Int) b0_0 b0_1 b0_2).bind fun r1 =>
 bif (decide (0 ≤ r1.1)) then
  bif (decide (r1.1 < (a1.length : Int))) then
   (a1[(r1.1 : Int).toNat]?).bind fun x2 =>
   some (x2, r1.2.1, r1.2.2.1, r1.2.2.2)
  else
  none
 else
 none
theorem spec_l1Cur_among.o0.run (N : Nat) (a1 : List Int) (b0_0 : List Int) (b0_1 : Int) (b0_2 : Int) : runC spec_l1Cur_among.C (spec_l1Cur_among.O N) N spec_l1Cur_among.c1 1 (st0 [.one (.ptr 0 0), .one (.sl false 3 a1)] [(50, [.sl false 5 b0_0, .int .i64 b0_1, .int .u64 b0_2])] : St D0) spec_l1Cur_among.K0 = spec_l1Cur_among.o0 N a1 b0_0 b0_1 b0_2 := by kernel_rfl
noncomputable def spec_l1Cur_among.g (N : Nat) (a1 : List Int) (b0_0 : List Int) (b0_1 : Int) (b0_2 : Int) : Option spec_l1Cur_among.R := spec_l1Cur_among.o0 N a1 b0_0 b0_1 b0_2
theorem spec_l1Cur_among.g.run (N : Nat) (a1 : List Int) (b0_0 : List Int) (b0_1 : Int) (b0_2 : Int) : runC spec_l1Cur_among.C (spec_l1Cur_among.O N) N spec_l1Cur_among.c1 1 (st0 [.one (.ptr 0 0), .one (.sl false 3 a1)] [(50, [.sl false 5 b0_0, .int .i64 b0_1, .int .u64 b0_2])] : St D0) spec_l1Cur_among.K0 = spec_l1Cur_among.g N a1 b0_0 b0_1 b0_2 := by
  exact (spec_l1Cur_among.o0.run N a1 b0_0 b0_1 b0_2).trans rfl
theorem spec_l1Cur_among.good (N : Nat) (a1 : List Int) (b0_0 : List Int) (b0_1 : Int) (b0_2 : Int) (r : spec_l1Cur_among.R) (h : spec_l1Cur_among.g N a1 b0_0 b0_1 b0_2 = some r) : Go.PM.Good Go.Proofs.Try.prog T0 62 [.one (.ptr 0 0), .one (.sl false 3 a1)] [(50, [.sl false 5 b0_0, .int .i64 b0_1, .int .u64 b0_2])] (spec_l1Cur_among.sig.ret r) (spec_l1Cur_among.sig.bs r) :=
  good_fn tabOk0 mixed0 spec_l1Cur_among.sig (spec_l1Cur_among.E N) Go.Proofs.Try.func62 (by kernel_rfl) (by kernel_rfl) 19 0 1 [] [(false, [.any])] (by kernel_rfl) rfl ((spec_l1Cur_among.g.run N a1 b0_0 b0_1 b0_2).trans h)
noncomputable def spec_l1Cur_among.ent (N : Nat) : Ent Go.Proofs.Try.prog T0 := mkEnt 62 [(false, [.any]), (false, [.ro 3])] spec_l1Cur_among.sig (fun t => spec_l1Cur_among.g N t.2.1 t.2.2.1 t.2.2.2.1 t.2.2.2.2) (fun t r h => spec_l1Cur_among.good N t.2.1 t.2.2.1 t.2.2.2.1 t.2.2.2.2 r h)
end Go.Proofs.Ytpemffldaepbpaa.M

namespace Go.Proofs.Ytpemffldaepbpaa.M
open Go Go.PM Go.Proofs.Ytpemffldaepbpaa.P
set_option linter.unusedVariables false
set_option maxRecDepth 100000
/-! ### spec_l1Cur_one -/
abbrev spec_l1Cur_one.R : Type := Bool × List Int × Int × Int
abbrev spec_l1Cur_one.sig : Sig := ⟨[(false, 1), (false, 1)], [(50, 3)], [.ptr 0 0, .int .i64, .sl false 5, .int .i64, .int .u64], [(false, 1)], [(50, 3)], [.bool, .sl false 5, .int .i64, .int .u64]⟩
noncomputable def spec_l1Cur_one.C : Cfg D0 := ⟨Go.Proofs.Try.prog, T0, 19, 0, 9, 1, []⟩
noncomputable def spec_l1Cur_one.E (N : Nat) : List (Ent Go.Proofs.Try.prog T0) := [spec_l1Cur_pick.ent N]
noncomputable def spec_l1Cur_one.O (N : Nat) : Orc D0 spec_l1Cur_one.R := orcOf (spec_l1Cur_one.E N)
noncomputable def spec_l1Cur_one.K0 : Ex → St D0 → Option spec_l1Cur_one.R := exitK spec_l1Cur_one.C Go.Proofs.Try.f69.results.toList [(false, [.any])] (decOut spec_l1Cur_one.sig)
noncomputable def spec_l1Cur_one.c1 : Code := codeAt (Go.Proofs.Try.f69.body.getD .skip) []
noncomputable def spec_l1Cur_one.o0 (N : Nat) (a1 : Int) (b0_0 : List Int) (b0_1 : Int) (b0_2 : Int) : Option spec_l1Cur_one.R :=
 (spec_l1Cur_pick.g N a1 b0_0 b0_1 b0_2).bind fun r1 =>
 some ((r1.1 == 0), r1.2.1, r1.2.2.1, r1.2.2.2)
theorem spec_l1Cur_one.o0.run (N : Nat) (a1 : Int) (b0_0 : List Int) (b0_1 : Int) (b0_2 : Int) : runC spec_l1Cur_one.C (spec_l1Cur_one.O N) N spec_l1Cur_one.c1 1 (st0 [.one (.ptr 0 0), .one (.int .i64 a1)] [(50, [.sl false 5 b0_0, .int .i64 b0_1, .int .u64 b0_2])] : St D0) spec_l1Cur_one.K0 = spec_l1Cur_one.o0 N a1 b0_0 b0_1 b0_2 := by kernel_rfl
noncomputable def spec_l1Cur_one.g (N : Nat) (a1 : Int) (b0_0 : List Int) (b0_1 : Int) (b0_2 : Int) : Option spec_l1Cur_one.R := spec_l1Cur_one.o0 N a1 b0_0 b0_1 b0_2
theorem spec_l1Cur_one.g.run (N : Nat) (a1 : Int) (b0_0 : List Int) (b0_1 : Int) (b0_2 : Int) : runC spec_l1Cur_one.C (spec_l1Cur_one.O N) N spec_l1Cur_one.c1 1 (st0 [.one (.ptr 0 0), .one (.int .i64 a1)] [(50, [.sl false 5 b0_0, .int .i64 b0_1, .int .u64 b0_2])] : St D0) spec_l1Cur_one.K0 = spec_l1Cur_one.g N a1 b0_0 b0_1 b0_2 := by
  exact (spec_l1Cur_one.o0.run N a1 b0_0 b0_1 b0_2).trans rfl
theorem spec_l1Cur_one.good (N : Nat) (a1 : Int) (b0_0 : List Int) (b0_1 : Int) (b0_2 : Int) (r : spec_l1Cur_one.R) (h : spec_l1Cur_one.g N a1 b0_0 b0_1 b0_2 = some r) : Go.PM.Good Go.Proofs.Try.prog T0 69 [.one (.ptr 0 0), .one (.int .i64 a1)] [(50, [.sl false 5 b0_0, .int .i64 b0_1, .int .u64 b0_2])] (spec_l1Cur_one.sig.ret r) (spec_l1Cur_one.sig.bs r) :=
  good_fn tabOk0 mixed0 spec_l1Cur_one.sig (spec_l1Cur_one.E N) Go.Proofs.Try.func69 (by kernel_rfl) (by kernel_rfl) 19 0 1 [] [(false, [.any])] (by kernel_rfl) rfl ((spec_l1Cur_one.g.run N a1 b0_0 b0_1 b0_2).trans h)
noncomputable def spec_l1Cur_one.ent (N : Nat) : Ent Go.Proofs.Try.prog T0 := mkEnt 69 [(false, [.any]), (false, [.any])] spec_l1Cur_one.sig (fun t => spec_l1Cur_one.g N t.2.1 t.2.2.1 t.2.2.2.1 t.2.2.2.2) (fun t r h => spec_l1Cur_one.good N t.2.1 t.2.2.1 t.2.2.2.1 t.2.2.2.2 r h)
end Go.Proofs.Ytpemffldaepbpaa.M

namespace Go.Proofs.Ytpemffldaepbpaa.M
open Go Go.PM Go.Proofs.Ytpemffldaepbpaa.P
set_option linter.unusedVariables false
set_option maxRecDepth 100000
/-! ### spec_l1Cur_hours -/
abbrev spec_l1Cur_hours.R : Type := Int × List Int × Int × Int
abbrev spec_l1Cur_hours.sig : Sig := ⟨[(false, 1)], [(50, 3)], [.ptr 0 0, .sl false 5, .int .i64, .int .u64], [(false, 1)], [(50, 3)], [.int .i64, .sl false 5, .int .i64, .int .u64]⟩
noncomputable def spec_l1Cur_hours.C : Cfg D0 := ⟨Go.Proofs.Try.prog, T0, 5, 0, 6, 1, []⟩
noncomputable def spec_l1Cur_hours.E (N : Nat) : List (Ent Go.Proofs.Try.prog T0) := [spec_l1Cur_among.ent N]
noncomputable def spec_l1Cur_hours.O (N : Nat) : Orc D0 spec_l1Cur_hours.R := orcOf (spec_l1Cur_hours.E N)
noncomputable def spec_l1Cur_hours.K0 : Ex → St D0 → Option spec_l1Cur_hours.R := exitK spec_l1Cur_hours.C Go.Proofs.Try.f65.results.toList [(false, [.any])] (decOut spec_l1Cur_hours.sig)
noncomputable def spec_l1Cur_hours.c1 : Code := codeAt (Go.Proofs.Try.f65.body.getD .skip) []
noncomputable def spec_l1Cur_hours.o0 (N : Nat) (b0_0 : List Int) (b0_1 : Int) (b0_2 : Int) : Option spec_l1Cur_hours.R :=
 (spec_l1Cur_among.g N ([12, 24, 10, 12, 24, 6, 2, 3, 5, 12, 1, 25, 0] : List Int) b0_0 b0_1 b0_2).bind fun r1 =>
 some (r1.1, r1.2.1, r1.2.2.1, r1.2.2.2)
theorem spec_l1Cur_hours.o0.run (N : Nat) (b0_0 : List Int) (b0_1 : Int) (b0_2 : Int) : runC spec_l1Cur_hours.C (spec_l1Cur_hours.O N) N spec_l1Cur_hours.c1 1 (st0 [.one (.ptr 0 0)] [(50, [.sl false 5 b0_0, .int .i64 b0_1, .int .u64 b0_2])] : St D0) spec_l1Cur_hours.K0 = spec_l1Cur_hours.o0 N b0_0 b0_1 b0_2 := by kernel_rfl
noncomputable def spec_l1Cur_hours.g (N : Nat) (b0_0 : List Int) (b0_1 : Int) (b0_2 : Int) : Option spec_l1Cur_hours.R := spec_l1Cur_hours.o0 N b0_0 b0_1 b0_2
theorem spec_l1Cur_hours.g.run (N : Nat) (b0_0 : List Int) (b0_1 : Int) (b0_2 : Int) : runC spec_l1Cur_hours.C (spec_l1Cur_hours.O N) N spec_l1Cur_hours.c1 1 (st0 [.one (.ptr 0 0)] [(50, [.sl false 5 b0_0, .int .i64 b0_1, .int .u64 b0_2])] : St D0) spec_l1Cur_hours.K0 = spec_l1Cur_hours.g N b0_0 b0_1 b0_2 := by
  exact (spec_l1Cur_hours.o0.run N b0_0 b0_1 b0_2).trans rfl
theorem spec_l1Cur_hours.good (N : Nat) (b0_0 : List Int) (b0_1 : Int) (b0_2 : Int) (r : spec_l1Cur_hours.R) (h : spec_l1Cur_hours.g N b0_0 b0_1 b0_2 = some r) : Go.PM.Good Go.Proofs.Try.prog T0 65 [.one (.ptr 0 0)] [(50, [.sl false 5 b0_0, .int .i64 b0_1, .int .u64 b0_2])] (spec_l1Cur_hours.sig.ret r) (spec_l1Cur_hours.sig.bs r) :=
  good_fn tabOk0 mixed0 spec_l1Cur_hours.sig (spec_l1Cur_hours.E N) Go.Proofs.Try.func65 (by kernel_rfl) (by kernel_rfl) 5 0 1 [] [(false, [.any])] (by kernel_rfl) rfl ((spec_l1Cur_hours.g.run N b0_0 b0_1 b0_2).trans h)
noncomputable def spec_l1Cur_hours.ent (N : Nat) : Ent Go.Proofs.Try.prog T0 := mkEnt 65 [(false, [.any])] spec_l1Cur_hours.sig (fun t => spec_l1Cur_hours.g N t.2.1 t.2.2.1 t.2.2.2) (fun t r h => spec_l1Cur_hours.good N t.2.1 t.2.2.1 t.2.2.2 r h)
end Go.Proofs.Ytpemffldaepbpaa.M

namespace Go.Proofs.Ytpemffldaepbpaa.M
open Go Go.PM Go.Proofs.Ytpemffldaepbpaa.P
set_option linter.unusedVariables false
set_option maxRecDepth 100000
/-! ### spec_l1Least -/
abbrev spec_l1Least.R : Type := Int
abbrev spec_l1Least.sig : Sig := ⟨[(false, 1), (false, 1)], [], [.int .i64, .int .i64], [(false, 1)], [], [.int .i64]⟩
noncomputable def spec_l1Least.C : Cfg D0 := ⟨Go.Proofs.Try.prog, T0, 147, 0, 10, 0, []⟩
noncomputable def spec_l1Least.E (N : Nat) : List (Ent Go.Proofs.Try.prog T0) := []
noncomputable def spec_l1Least.O (N : Nat) : Orc D0 spec_l1Least.R := orcOf (spec_l1Least.E N)
noncomputable def spec_l1Least.K0 : Ex → St D0 → Option spec_l1Least.R := exitK spec_l1Least.C Go.Proofs.Try.f54.results.toList [(false, [.any])] (decOut spec_l1Least.sig)
noncomputable def spec_l1Least.c1 : Code := codeAt (Go.Proofs.Try.f54.body.getD .skip) []
noncomputable def spec_l1Least.o0 (N : Nat) (a0 : Int) (a1 : Int) : Option spec_l1Least.R :=
 bif (decide (a0 < a1)) then
  some (a0)
 else
 some (a1)
theorem spec_l1Least.o0.run (N : Nat) (a0 : Int) (a1 : Int) : runC spec_l1Least.C (spec_l1Least.O N) N spec_l1Least.c1 1 (st0 [.one (.int .i64 a0), .one (.int .i64 a1)] [] : St D0) spec_l1Least.K0 = spec_l1Least.o0 N a0 a1 := by kernel_rfl
noncomputable def spec_l1Least.g (N : Nat) (a0 : Int) (a1 : Int) : Option spec_l1Least.R := spec_l1Least.o0 N a0 a1
theorem spec_l1Least.g.run (N : Nat) (a0 : Int) (a1 : Int) : runC spec_l1Least.C (spec_l1Least.O N) N spec_l1Least.c1 1 (st0 [.one (.int .i64 a0), .one (.int .i64 a1)] [] : St D0) spec_l1Least.K0 = spec_l1Least.g N a0 a1 := by
  exact (spec_l1Least.o0.run N a0 a1).trans rfl
theorem spec_l1Least.good (N : Nat) (a0 : Int) (a1 : Int) (r : spec_l1Least.R) (h : spec_l1Least.g N a0 a1 = some r) : Go.PM.Good Go.Proofs.Try.prog T0 54 [.one (.int .i64 a0), .one (.int .i64 a1)] [] (spec_l1Least.sig.ret r) (spec_l1Least.sig.bs r) :=
  good_fn tabOk0 mixed0 spec_l1Least.sig (spec_l1Least.E N) Go.Proofs.Try.func54 (by kernel_rfl) (by kernel_rfl) 147 0 0 [] [(false, [.any])] (by kernel_rfl) rfl ((spec_l1Least.g.run N a0 a1).trans h)
noncomputable def spec_l1Least.ent (N : Nat) : Ent Go.Proofs.Try.prog T0 := mkEnt 54 [(false, [.any]), (false, [.any])] spec_l1Least.sig (fun t => spec_l1Least.g N t.1 t.2) (fun t r h => spec_l1Least.good N t.1 t.2 r h)
end Go.Proofs.Ytpemffldaepbpaa.M

namespace Go.Proofs.Ytpemffldaepbpaa.M
open Go Go.PM Go.Proofs.Ytpemffldaepbpaa.P
set_option linter.unusedVariables false
set_option maxRecDepth 100000
/-! ### spec_l1Most -/
abbrev spec_l1Most.R : Type := Int
abbrev spec_l1Most.sig : Sig := ⟨[(false, 1), (false, 1)], [], [.int .i64, .int .i64], [(false, 1)], [], [.int .i64]⟩
noncomputable def spec_l1Most.C : Cfg D0 := ⟨Go.Proofs.Try.prog, T0, 147, 0, 10, 0, []⟩
noncomputable def spec_l1Most.E (N : Nat) : List (Ent Go.Proofs.Try.prog T0) := []
noncomputable def spec_l1Most.O (N : Nat) : Orc D0 spec_l1Most.R := orcOf (spec_l1Most.E N)
noncomputable def spec_l1Most.K0 : Ex → St D0 → Option spec_l1Most.R := exitK spec_l1Most.C Go.Proofs.Try.f55.results.toList [(false, [.any])] (decOut spec_l1Most.sig)
noncomputable def spec_l1Most.c1 : Code := codeAt (Go.Proofs.Try.f55.body.getD .skip) []
noncomputable def spec_l1Most.o0 (N : Nat) (a0 : Int) (a1 : Int) : Option spec_l1Most.R :=
 bif (decide (a0 > a1)) then
  some (a0)
 else
 some (a1)
theorem spec_l1Most.o0.run (N : Nat) (a0 : Int) (a1 : Int) : runC spec_l1Most.C (spec_l1Most.O N) N spec_l1Most.c1 1 (st0 [.one (.int .i64 a0), .one (.int .i64 a1)] [] : St D0) spec_l1Most.K0 = spec_l1Most.o0 N a0 a1 := by kernel_rfl
noncomputable def spec_l1Most.g (N : Nat) (a0 : Int) (a1 : Int) : Option spec_l1Most.R := spec_l1Most.o0 N a0 a1
theorem spec_l1Most.g.run (N : Nat) (a0 : Int) (a1 : Int) : runC spec_l1Most.C (spec_l1Most.O N) N spec_l1Most.c1 1 (st0 [.one (.int .i64 a0), .one (.int .i64 a1)] [] : St D0) spec_l1Most.K0 = spec_l1Most.g N a0 a1 := by
  exact (spec_l1Most.o0.run N a0 a1).trans rfl
theorem spec_l1Most.good (N : Nat) (a0 : Int) (a1 : Int) (r : spec_l1Most.R) (h : spec_l1Most.g N a0 a1 = some r) : Go.PM.Good Go.Proofs.Try.prog T0 55 [.one (.int .i64 a0), .one (.int .i64 a1)] [] (spec_l1Most.sig.ret r) (spec_l1Most.sig.bs r) :=
  good_fn tabOk0 mixed0 spec_l1Most.sig (spec_l1Most.E N) Go.Proofs.Try.func55 (by kernel_rfl) (by kernel_rfl) 147 0 0 [] [(false, [.any])] (by kernel_rfl) rfl ((spec_l1Most.g.run N a0 a1).trans h)
noncomputable def spec_l1Most.ent (N : Nat) : Ent Go.Proofs.Try.prog T0 := mkEnt 55 [(false, [.any]), (false, [.any])] spec_l1Most.sig (fun t => spec_l1Most.g N t.1 t.2) (fun t r h => spec_l1Most.good N t.1 t.2 r h)
end Go.Proofs.Ytpemffldaepbpaa.M

namespace Go.Proofs.Ytpemffldaepbpaa.M
open Go Go.PM Go.Proofs.Ytpemffldaepbpaa.P
set_option linter.unusedVariables false
set_option maxRecDepth 100000
/-! ### impl_WaitForStrokes -/
abbrev impl_WaitForStrokes.R : Type := Int × Bool
abbrev impl_WaitForStrokes.sig : Sig := ⟨[(false, 1), (false, 1), (false, 1)], [], [.int .i64, .int .i64, .int .i64], [(false, 1), (false, 1)], [], [.int .i64, .bool]⟩
noncomputable def impl_WaitForStrokes.C : Cfg D0 := ⟨Go.Proofs.Try.prog, T0, 33817031, 0, 29, 0, [(12, [0, 1, 2, 18], []), (60, [0, 1, 2, 8], [])]⟩
noncomputable def impl_WaitForStrokes.E (N : Nat) : List (Ent Go.Proofs.Try.prog T0) := [impl_isHalf.ent N, impl_within.ent N, impl_strokes.ent N]
noncomputable def impl_WaitForStrokes.O (N : Nat) : Orc D0 impl_WaitForStrokes.R := orcOf (impl_WaitForStrokes.E N)
noncomputable def impl_WaitForStrokes.K0 : Ex → St D0 → Option impl_WaitForStrokes.R := exitK impl_WaitForStrokes.C Go.Proofs.Try.f8.results.toList [(false, [.any]), (false, [.any])] (decOut impl_WaitForStrokes.sig)
noncomputable def impl_WaitForStrokes.c1 : Code := codeAt (Go.Proofs.Try.f8.body.getD .skip) []
noncomputable def impl_WaitForStrokes.c2 : Code := codeAt (Go.Proofs.Try.f8.body.getD .skip) [false]
noncomputable def impl_WaitForStrokes.c7 : Code := codeAt (Go.Proofs.Try.f8.body.getD .skip) [true, true]
noncomputable def impl_WaitForStrokes.c12 : Code := codeAt (Go.Proofs.Try.f8.body.getD .skip) [true, false, false]
noncomputable def impl_WaitForStrokes.c13 : Code := codeAt (Go.Proofs.Try.f8.body.getD .skip) [true, false, true]
noncomputable def impl_WaitForStrokes.c14 : Code := codeAt (Go.Proofs.Try.f8.body.getD .skip) [true, true, false]
noncomputable def impl_WaitForStrokes.c31 : Code := codeAt (Go.Proofs.Try.f8.body.getD .skip) [true, true, true, true]
noncomputable def impl_WaitForStrokes.c120 : Code := codeAt (Go.Proofs.Try.f8.body.getD .skip) [true, true, true, false, false, false]
noncomputable def impl_WaitForStrokes.K120 (N : Nat) (Kn60 : St D0 → Option impl_WaitForStrokes.R) : Ex → St D0 → Option impl_WaitForStrokes.R := (onN (fun s => impl_WaitForStrokes.C.tidy 60 s ((onN Kn60 (blockK 0 (onN (fun s => impl_WaitForStrokes.C.tidy 30 s (fun s' => runC impl_WaitForStrokes.C (impl_WaitForStrokes.O N) N impl_WaitForStrokes.c31 31 s' impl_WaitForStrokes.K0)) impl_WaitForStrokes.K0))) .normal)) (onN Kn60 (blockK 0 (onN (fun s => impl_WaitForStrokes.C.tidy 30 s (fun s' => runC impl_WaitForStrokes.C (impl_WaitForStrokes.O N) N impl_WaitForStrokes.c31 31 s' impl_WaitForStrokes.K0)) impl_WaitForStrokes.K0))))
noncomputable def impl_WaitForStrokes.o2 (N : Nat) (v0 : Int) (v1 : Int) (v2 : Int) (v3 : Int) (c2 : Int → Int → Int → Int → Option impl_WaitForStrokes.R) : Option impl_WaitForStrokes.R :=
 (impl_strokes.g N v0 (w64 (v1 + v3))).bind fun r1 =>
 bif (r1 != v2) then
  c2 v0 v1 v2 (w64 (v3 + 1))
 else
 some (v3, true)
theorem impl_WaitForStrokes.o2.run (N : Nat) (Kn60 : St D0 → Option impl_WaitForStrokes.R) (v0 : Int) (v1 : Int) (v2 : Int) (v3 : Int) : runC impl_WaitForStrokes.C (impl_WaitForStrokes.O N) N impl_WaitForStrokes.c120 120 (mkSt [(0, .one (.int .i64 v0)), (1, .one (.int .i64 v1)), (2, .one (.int .i64 v2)), (8, .one (.int .i64 v3))] [] : St D0) (onN (fun s => impl_WaitForStrokes.C.tidy 60 s ((onN Kn60 (blockK 0 (onN (fun s => impl_WaitForStrokes.C.tidy 30 s (fun s' => runC impl_WaitForStrokes.C (impl_WaitForStrokes.O N) N impl_WaitForStrokes.c31 31 s' impl_WaitForStrokes.K0)) impl_WaitForStrokes.K0))) .normal)) (onN Kn60 (blockK 0 (onN (fun s => impl_WaitForStrokes.C.tidy 30 s (fun s' => runC impl_WaitForStrokes.C (impl_WaitForStrokes.O N) N impl_WaitForStrokes.c31 31 s' impl_WaitForStrokes.K0)) impl_WaitForStrokes.K0)))) = impl_WaitForStrokes.o2 N v0 v1 v2 v3 ((fun w0 w1 w2 w3 => Kn60 (mkSt [(0, .one (.int .i64 w0)), (1, .one (.int .i64 w1)), (2, .one (.int .i64 w2)), (8, .one (.int .i64 w3))] [] : St D0))) := by kernel_rfl
noncomputable def impl_WaitForStrokes.d2 (N : Nat) (v0 : Int) (v1 : Int) (v2 : Int) (v3 : Int) (c2 : Int → Int → Int → Int → Option impl_WaitForStrokes.R) : Option impl_WaitForStrokes.R := impl_WaitForStrokes.o2 N v0 v1 v2 v3 c2
theorem impl_WaitForStrokes.d2.run (N : Nat) (Kn60 : St D0 → Option impl_WaitForStrokes.R) (v0 : Int) (v1 : Int) (v2 : Int) (v3 : Int) : runC impl_WaitForStrokes.C (impl_WaitForStrokes.O N) N impl_WaitForStrokes.c120 120 (mkSt [(0, .one (.int .i64 v0)), (1, .one (.int .i64 v1)), (2, .one (.int .i64 v2)), (8, .one (.int .i64 v3))] [] : St D0) (impl_WaitForStrokes.K120 N Kn60) = impl_WaitForStrokes.d2 N v0 v1 v2 v3 ((fun w0 w1 w2 w3 => Kn60 (mkSt [(0, .one (.int .i64 w0)), (1, .one (.int .i64 w1)), (2, .one (.int .i64 w2)), (8, .one (.int .i64 w3))] [] : St D0))) := by
  exact (impl_WaitForStrokes.o2.run N Kn60 v0 v1 v2 v3).trans rfl
noncomputable def impl_WaitForStrokes.K60 (N : Nat) : Ex → St D0 → Option impl_WaitForStrokes.R := (blockK 0 (onN (fun s => impl_WaitForStrokes.C.tidy 30 s (fun s' => runC impl_WaitForStrokes.C (impl_WaitForStrokes.O N) N impl_WaitForStrokes.c31 31 s' impl_WaitForStrokes.K0)) impl_WaitForStrokes.K0))
noncomputable def impl_WaitForStrokes.l2 (N : Nat) : Nat → Int → Int → Int → Int → Option impl_WaitForStrokes.R
  | 0, _, _, _, _ => none
  | n + 1, v0, v1, v2, v3 => impl_WaitForStrokes.d2 N v0 v1 v2 v3 ((fun w0 w1 w2 w3 => impl_WaitForStrokes.l2 N n w0 w1 w2 w3))
theorem impl_WaitForStrokes.loop60 (N : Nat) : ∀ n, (∀ (v0 : Int) (v1 : Int) (v2 : Int) (v3 : Int), iter (loopF impl_WaitForStrokes.C (impl_WaitForStrokes.O N) N impl_WaitForStrokes.c120 60) n (mkSt [(0, .one (.int .i64 v0)), (1, .one (.int .i64 v1)), (2, .one (.int .i64 v2)), (8, .one (.int .i64 v3))] [] : St D0) (impl_WaitForStrokes.K60 N) = impl_WaitForStrokes.l2 N n v0 v1 v2 v3)
  | 0 => (fun v0 v1 v2 v3 => rfl)
  | n + 1 => (fun v0 v1 v2 v3 => (impl_WaitForStrokes.d2.run N (fun s => iter (loopF impl_WaitForStrokes.C (impl_WaitForStrokes.O N) N impl_WaitForStrokes.c120 60) n s (impl_WaitForStrokes.K60 N)) v0 v1 v2 v3).trans (show _ = impl_WaitForStrokes.d2 N v0 v1 v2 v3 ((fun w0 w1 w2 w3 => impl_WaitForStrokes.l2 N n w0 w1 w2 w3)) from (congr rfl (funext fun w0 => funext fun w1 => funext fun w2 => funext fun w3 => (impl_WaitForStrokes.loop60 N n) w0 w1 w2 w3))))
noncomputable def impl_WaitForStrokes.K13 (N : Nat) : Ex → St D0 → Option impl_WaitForStrokes.R := (onN (fun s => impl_WaitForStrokes.C.tidy 6 s (fun s' => runC impl_WaitForStrokes.C (impl_WaitForStrokes.O N) N impl_WaitForStrokes.c7 7 s' impl_WaitForStrokes.K0)) impl_WaitForStrokes.K0)
noncomputable def impl_WaitForStrokes.o1 (N : Nat) (v0 : Int) (v1 : Int) (v2 : Int) (v3 : Bool) (c2 : Int → Int → Int → Int → Option impl_WaitForStrokes.R) : Option impl_WaitForStrokes.R :=
 bif v3 then
  some (0, false)
 else
 c2 v0 v1 v2 0
theorem impl_WaitForStrokes.o1.run (N : Nat) (H120 : Code) (v0 : Int) (v1 : Int) (v2 : Int) (v3 : Bool) : runC impl_WaitForStrokes.C (impl_WaitForStrokes.O N) N impl_WaitForStrokes.c13 13 (mkSt [(0, .one (.int .i64 v0)), (1, .one (.int .i64 v1)), (2, .one (.int .i64 v2)), (18, .one (.bool v3))] [] : St D0) (onN (fun s => impl_WaitForStrokes.C.tidy 6 s (fun s' => runC impl_WaitForStrokes.C (impl_WaitForStrokes.O N) N (.seq impl_WaitForStrokes.c14 (.seq (.block 0 (.loop H120)) impl_WaitForStrokes.c31)) 7 s' impl_WaitForStrokes.K0)) impl_WaitForStrokes.K0) = impl_WaitForStrokes.o1 N v0 v1 v2 v3 ((fun w0 w1 w2 w3 => iter (loopF impl_WaitForStrokes.C (impl_WaitForStrokes.O N) N H120 60) N (mkSt [(0, .one (.int .i64 w0)), (1, .one (.int .i64 w1)), (2, .one (.int .i64 w2)), (8, .one (.int .i64 w3))] [] : St D0) (blockK 0 (onN (fun s => impl_WaitForStrokes.C.tidy 30 s (fun s' => runC impl_WaitForStrokes.C (impl_WaitForStrokes.O N) N impl_WaitForStrokes.c31 31 s' impl_WaitForStrokes.K0)) impl_WaitForStrokes.K0)))) := by kernel_rfl
noncomputable def impl_WaitForStrokes.d1 (N : Nat) (v0 : Int) (v1 : Int) (v2 : Int) (v3 : Bool) : Option impl_WaitForStrokes.R := impl_WaitForStrokes.o1 N v0 v1 v2 v3 ((fun w0 w1 w2 w3 => impl_WaitForStrokes.l2 N N w0 w1 w2 w3))
theorem impl_WaitForStrokes.d1.run (N : Nat) (v0 : Int) (v1 : Int) (v2 : Int) (v3 : Bool) : runC impl_WaitForStrokes.C (impl_WaitForStrokes.O N) N impl_WaitForStrokes.c13 13 (mkSt [(0, .one (.int .i64 v0)), (1, .one (.int .i64 v1)), (2, .one (.int .i64 v2)), (18, .one (.bool v3))] [] : St D0) (impl_WaitForStrokes.K13 N) = impl_WaitForStrokes.d1 N v0 v1 v2 v3 := by
  unfold impl_WaitForStrokes.d1; exact (impl_WaitForStrokes.o1.run N impl_WaitForStrokes.c120 v0 v1 v2 v3).trans (congr rfl (funext fun w0 => funext fun w1 => funext fun w2 => funext fun w3 => (impl_WaitForStrokes.loop60 N N) w0 w1 w2 w3))
noncomputable def impl_WaitForStrokes.o0 (N : Nat) (a0 : Int) (a1 : Int) (a2 : Int) (c1 : Int → Int → Int → Bool → Option impl_WaitForStrokes.R) : Option impl_WaitForStrokes.R :=
 (impl_isHalf.g N a0 a1).bind fun r1 =>
 bif (!r1) then
  c1 a0 a1 a2 true
 else
 (impl_within.g N a2 1 a0).bind fun r2 =>
 c1 a0 a1 a2 (!r2)
theorem impl_WaitForStrokes.o0.run (N : Nat) (H13 : Code) (a0 : Int) (a1 : Int) (a2 : Int) : runC impl_WaitForStrokes.C (impl_WaitForStrokes.O N) N (.seq impl_WaitForStrokes.c2 (.seq (.seq impl_WaitForStrokes.c12 H13) impl_WaitForStrokes.c7)) 1 (st0 [.one (.int .i64 a0), .one (.int .i64 a1), .one (.int .i64 a2)] [] : St D0) impl_WaitForStrokes.K0 = impl_WaitForStrokes.o0 N a0 a1 a2 ((fun w0 w1 w2 w3 => runC impl_WaitForStrokes.C (impl_WaitForStrokes.O N) N H13 13 (mkSt [(0, .one (.int .i64 w0)), (1, .one (.int .i64 w1)), (2, .one (.int .i64 w2)), (18, .one (.bool w3))] [] : St D0) (onN (fun s => impl_WaitForStrokes.C.tidy 6 s (fun s' => runC impl_WaitForStrokes.C (impl_WaitForStrokes.O N) N impl_WaitForStrokes.c7 7 s' impl_WaitForStrokes.K0)) impl_WaitForStrokes.K0))) := by kernel_rfl
noncomputable def impl_WaitForStrokes.B6 (N : Nat) : St D0 → Option impl_WaitForStrokes.R := fun s' => runC impl_WaitForStrokes.C (impl_WaitForStrokes.O N) N impl_WaitForStrokes.c13 13 s' (impl_WaitForStrokes.K13 N)
noncomputable def impl_WaitForStrokes.g (N : Nat) (a0 : Int) (a1 : Int) (a2 : Int) : Option impl_WaitForStrokes.R := impl_WaitForStrokes.o0 N a0 a1 a2 ((fun w0 w1 w2 w3 => impl_WaitForStrokes.d1 N w0 w1 w2 w3))
theorem impl_WaitForStrokes.c1_0 : impl_WaitForStrokes.c1 = (.seq impl_WaitForStrokes.c2 (.seq (.seq impl_WaitForStrokes.c12 impl_WaitForStrokes.c13) impl_WaitForStrokes.c7)) := by kernel_rfl
theorem impl_WaitForStrokes.g.run (N : Nat) (a0 : Int) (a1 : Int) (a2 : Int) : runC impl_WaitForStrokes.C (impl_WaitForStrokes.O N) N impl_WaitForStrokes.c1 1 (st0 [.one (.int .i64 a0), .one (.int .i64 a1), .one (.int .i64 a2)] [] : St D0) impl_WaitForStrokes.K0 = impl_WaitForStrokes.g N a0 a1 a2 := by
  rw [impl_WaitForStrokes.c1_0]; unfold impl_WaitForStrokes.g; exact (impl_WaitForStrokes.o0.run N impl_WaitForStrokes.c13 a0 a1 a2).trans (congr rfl (funext fun w0 => funext fun w1 => funext fun w2 => funext fun w3 => impl_WaitForStrokes.d1.run N w0 w1 w2 w3))
theorem impl_WaitForStrokes.good (N : Nat) (a0 : Int) (a1 : Int) (a2 : Int) (r : impl_WaitForStrokes.R) (h : impl_WaitForStrokes.g N a0 a1 a2 = some r) : Go.PM.Good Go.Proofs.Try.prog T0 8 [.one (.int .i64 a0), .one (.int .i64 a1), .one (.int .i64 a2)] [] (impl_WaitForStrokes.sig.ret r) (impl_WaitForStrokes.sig.bs r) :=
  good_fn tabOk0 mixed0 impl_WaitForStrokes.sig (impl_WaitForStrokes.E N) Go.Proofs.Try.func8 (by kernel_rfl) (by kernel_rfl) 33817031 0 0 [(12, [0, 1, 2, 18], []), (60, [0, 1, 2, 8], [])] [(false, [.any]), (false, [.any])] (by kernel_rfl) rfl ((impl_WaitForStrokes.g.run N a0 a1 a2).trans h)
noncomputable def impl_WaitForStrokes.ent (N : Nat) : Ent Go.Proofs.Try.prog T0 := mkEnt 8 [(false, [.any]), (false, [.any]), (false, [.any])] impl_WaitForStrokes.sig (fun t => impl_WaitForStrokes.g N t.1 t.2.1 t.2.2) (fun t r h => impl_WaitForStrokes.good N t.1 t.2.1 t.2.2 r h)
end Go.Proofs.Ytpemffldaepbpaa.M

namespace Go.Proofs.Ytpemffldaepbpaa.M
open Go Go.PM Go.Proofs.Ytpemffldaepbpaa.P
set_option linter.unusedVariables false
set_option maxRecDepth 100000
/-! ### spec_WaitForStrokes -/
abbrev spec_WaitForStrokes.R : Type := Int × Bool
abbrev spec_WaitForStrokes.sig : Sig := ⟨[(false, 1), (false, 1), (false, 1)], [], [.int .i64, .int .i64, .int .i64], [(false, 1), (false, 1)], [], [.int .i64, .bool]⟩
noncomputable def spec_WaitForStrokes.C : Cfg D0 := ⟨Go.Proofs.Try.prog, T0, 268698055, 0, 32, 0, [(12, [0, 1, 2, 18], []), (60, [0, 1, 2, 8], [])]⟩
noncomputable def spec_WaitForStrokes.E (N : Nat) : List (Ent Go.Proofs.Try.prog T0) := [spec_stHalf.ent N, spec_l1In.ent N, spec_stAt.ent N]
noncomputable def spec_WaitForStrokes.O (N : Nat) : Orc D0 spec_WaitForStrokes.R := orcOf (spec_WaitForStrokes.E N)
noncomputable def spec_WaitForStrokes.K0 : Ex → St D0 → Option spec_WaitForStrokes.R := exitK spec_WaitForStrokes.C Go.Proofs.Try.f9.results.toList [(false, [.any]), (false, [.any])] (decOut spec_WaitForStrokes.sig)
noncomputable def spec_WaitForStrokes.c1 : Code := codeAt (Go.Proofs.Try.f9.body.getD .skip) []
noncomputable def spec_WaitForStrokes.c2 : Code := codeAt (Go.Proofs.Try.f9.body.getD .skip) [false]
noncomputable def spec_WaitForStrokes.c7 : Code := codeAt (Go.Proofs.Try.f9.body.getD .skip) [true, true]
noncomputable def spec_WaitForStrokes.c12 : Code := codeAt (Go.Proofs.Try.f9.body.getD .skip) [true, false, false]
noncomputable def spec_WaitForStrokes.c13 : Code := codeAt (Go.Proofs.Try.f9.body.getD .skip) [true, false, true]
noncomputable def spec_WaitForStrokes.c14 : Code := codeAt (Go.Proofs.Try.f9.body.getD .skip) [true, true, false]
noncomputable def spec_WaitForStrokes.c31 : Code := codeAt (Go.Proofs.Try.f9.body.getD .skip) [true, true, true, true]
noncomputable def spec_WaitForStrokes.c120 : Code := codeAt (Go.Proofs.Try.f9.body.getD .skip) [true, true, true, false, false, false]
noncomputable def spec_WaitForStrokes.K120 (N : Nat) (Kn60 : St D0 → Option spec_WaitForStrokes.R) : Ex → St D0 → Option spec_WaitForStrokes.R := (onN (fun s => spec_WaitForStrokes.C.tidy 60 s ((onN Kn60 (blockK 0 (onN (fun s => spec_WaitForStrokes.C.tidy 30 s (fun s' => runC spec_WaitForStrokes.C (spec_WaitForStrokes.O N) N spec_WaitForStrokes.c31 31 s' spec_WaitForStrokes.K0)) spec_WaitForStrokes.K0))) .normal)) (onN Kn60 (blockK 0 (onN (fun s => spec_WaitForStrokes.C.tidy 30 s (fun s' => runC spec_WaitForStrokes.C (spec_WaitForStrokes.O N) N spec_WaitForStrokes.c31 31 s' spec_WaitForStrokes.K0)) spec_WaitForStrokes.K0))))
noncomputable def spec_WaitForStrokes.o2 (N : Nat) (v0 : Int) (v1 : Int) (v2 : Int) (v3 : Int) (c2 : Int → Int → Int → Int → Option spec_WaitForStrokes.R) : Option spec_WaitForStrokes.R :=
 bif ((w64 (2 * v0)) == 0) then
  none
 else
 (spec_stAt.g N v0 (Int.tmod (w64 (v1 + v3)) (w64 (2 * v0)))).bind fun r1 =>
 bif (r1 != v2) then
  c2 v0 v1 v2 (w64 (v3 + 1))
 else
 some (v3, true)
theorem spec_WaitForStrokes.o2.run (N : Nat) (Kn60 : St D0 → Option spec_WaitForStrokes.R) (v0 : Int) (v1 : Int) (v2 : Int) (v3 : Int) : runC spec_WaitForStrokes.C (spec_WaitForStrokes.O N) N spec_WaitForStrokes.c120 120 (mkSt [(0, .one (.int .i64 v0)), (1, .one (.int .i64 v1)), (2, .one (.int .i64 v2)), (8, .one (.int .i64 v3))] [] : St D0) (onN (fun s => spec_WaitForStrokes.C.tidy 60 s ((onN Kn60 (blockK 0 (onN (fun s => spec_WaitForStrokes.C.tidy 30 s (fun s' => runC spec_WaitForStrokes.C (spec_WaitForStrokes.O N) N spec_WaitForStrokes.c31 31 s' spec_WaitForStrokes.K0)) spec_WaitForStrokes.K0))) .normal)) (onN Kn60 (blockK 0 (onN (fun s => spec_WaitForStrokes.C.tidy 30 s (fun s' => runC spec_WaitForStrokes.C (spec_WaitForStrokes.O N) N spec_WaitForStrokes.c31 31 s' spec_WaitForStrokes.K0)) spec_WaitForStrokes.K0)))) = spec_WaitForStrokes.o2 N v0 v1 v2 v3 ((fun w0 w1 w2 w3 => Kn60 (mkSt [(0, .one (.int .i64 w0)), (1, .one (.int .i64 w1)), (2, .one (.int .i64 w2)), (8, .one (.int .i64 w3))] [] : St D0))) := by kernel_rfl
noncomputable def spec_WaitForStrokes.d2 (N : Nat) (v0 : Int) (v1 : Int) (v2 : Int) (v3 : Int) (c2 : Int → Int → Int → Int → Option spec_WaitForStrokes.R) : Option spec_WaitForStrokes.R := spec_WaitForStrokes.o2 N v0 v1 v2 v3 c2
theorem spec_WaitForStrokes.d2.run (N : Nat) (Kn60 : St D0 → Option spec_WaitForStrokes.R) (v0 : Int) (v1 : Int) (v2 : Int) (v3 : Int) : runC spec_WaitForStrokes.C (spec_WaitForStrokes.O N) N spec_WaitForStrokes.c120 120 (mkSt [(0, .one (.int .i64 v0)), (1, .one (.int .i64 v1)), (2, .one (.int .i64 v2)), (8, .one (.int .i64 v3))] [] : St D0) (spec_WaitForStrokes.K120 N Kn60) = spec_WaitForStrokes.d2 N v0 v1 v2 v3 ((fun w0 w1 w2 w3 => Kn60 (mkSt [(0, .one (.int .i64 w0)), (1, .one (.int .i64 w1)), (2, .one (.int .i64 w2)), (8, .one (.int .i64 w3))] [] : St D0))) := by
  exact (spec_WaitForStrokes.o2.run N Kn60 v0 v1 v2 v3).trans rfl
noncomputable def spec_WaitForStrokes.K60 (N : Nat) : Ex → St D0 → Option spec_WaitForStrokes.R := (blockK 0 (onN (fun s => spec_WaitForStrokes.C.tidy 30 s (fun s' => runC spec_WaitForStrokes.C (spec_WaitForStrokes.O N) N spec_WaitForStrokes.c31 31 s' spec_WaitForStrokes.K0)) spec_WaitForStrokes.K0))
noncomputable def spec_WaitForStrokes.l2 (N : Nat) : Nat → Int → Int → Int → Int → Option spec_WaitForStrokes.R
  | 0, _, _, _, _ => none
  | n + 1, v0, v1, v2, v3 => spec_WaitForStrokes.d2 N v0 v1 v2 v3 ((fun w0 w1 w2 w3 => spec_WaitForStrokes.l2 N n w0 w1 w2 w3))
theorem spec_WaitForStrokes.loop60 (N : Nat) : ∀ n, (∀ (v0 : Int) (v1 : Int) (v2 : Int) (v3 : Int), iter (loopF spec_WaitForStrokes.C (spec_WaitForStrokes.O N) N spec_WaitForStrokes.c120 60) n (mkSt [(0, .one (.int .i64 v0)), (1, .one (.int .i64 v1)), (2, .one (.int .i64 v2)), (8, .one (.int .i64 v3))] [] : St D0) (spec_WaitForStrokes.K60 N) = spec_WaitForStrokes.l2 N n v0 v1 v2 v3)
  | 0 => (fun v0 v1 v2 v3 => rfl)
  | n + 1 => (fun v0 v1 v2 v3 => (spec_WaitForStrokes.d2.run N (fun s => iter (loopF spec_WaitForStrokes.C (spec_WaitForStrokes.O N) N spec_WaitForStrokes.c120 60) n s (spec_WaitForStrokes.K60 N)) v0 v1 v2 v3).trans (show _ = spec_WaitForStrokes.d2 N v0 v1 v2 v3 ((fun w0 w1 w2 w3 => spec_WaitForStrokes.l2 N n w0 w1 w2 w3)) from (congr rfl (funext fun w0 => funext fun w1 => funext fun w2 => funext fun w3 => (spec_WaitForStrokes.loop60 N n) w0 w1 w2 w3))))
noncomputable def spec_WaitForStrokes.K13 (N : Nat) : Ex → St D0 → Option spec_WaitForStrokes.R := (onN (fun s => spec_WaitForStrokes.C.tidy 6 s (fun s' => runC spec_WaitForStrokes.C (spec_WaitForStrokes.O N) N spec_WaitForStrokes.c7 7 s' spec_WaitForStrokes.K0)) spec_WaitForStrokes.K0)
noncomputable def spec_WaitForStrokes.o1 (N : Nat) (v0 : Int) (v1 : Int) (v2 : Int) (v3 : Bool) (c2 : Int → Int → Int → Int → Option spec_WaitForStrokes.R) : Option spec_WaitForStrokes.R :=
 bif v3 then
  some (0, false)
 else
 c2 v0 v1 v2 0
theorem spec_WaitForStrokes.o1.run (N : Nat) (H120 : Code) (v0 : Int) (v1 : Int) (v2 : Int) (v3 : Bool) : runC spec_WaitForStrokes.C (spec_WaitForStrokes.O N) N spec_WaitForStrokes.c13 13 (mkSt [(0, .one (.int .i64 v0)), (1, .one (.int .i64 v1)), (2, .one (.int .i64 v2)), (18, .one (.bool v3))] [] : St D0) (onN (fun s => spec_WaitForStrokes.C.tidy 6 s (fun s' => runC spec_WaitForStrokes.C (spec_WaitForStrokes.O N) N (.seq spec_WaitForStrokes.c14 (.seq (.block 0 (.loop H120)) spec_WaitForStrokes.c31)) 7 s' spec_WaitForStrokes.K0)) spec_WaitForStrokes.K0) = spec_WaitForStrokes.o1 N v0 v1 v2 v3 ((fun w0 w1 w2 w3 => iter (loopF spec_WaitForStrokes.C (spec_WaitForStrokes.O N) N H120 60) N (mkSt [(0, .one (.int .i64 w0)), (1, .one (.int .i64 w1)), (2, .one (.int .i64 w2)), (8, .one (.int .i64 w3))] [] : St D0) (blockK 0 (onN (fun s => spec_WaitForStrokes.C.tidy 30 s (fun s' => runC spec_WaitForStrokes.C (spec_WaitForStrokes.O N) N spec_WaitForStrokes.c31 31 s' spec_WaitForStrokes.K0)) spec_WaitForStrokes.K0)))) := by kernel_rfl
noncomputable def spec_WaitForStrokes.d1 (N : Nat) (v0 : Int) (v1 : Int) (v2 : Int) (v3 : Bool) : Option spec_WaitForStrokes.R := spec_WaitForStrokes.o1 N v0 v1 v2 v3 ((fun w0 w1 w2 w3 => spec_WaitForStrokes.l2 N N w0 w1 w2 w3))
theorem spec_WaitForStrokes.d1.run (N : Nat) (v0 : Int) (v1 : Int) (v2 : Int) (v3 : Bool) : runC spec_WaitForStrokes.C (spec_WaitForStrokes.O N) N spec_WaitForStrokes.c13 13 (mkSt [(0, .one (.int .i64 v0)), (1, .one (.int .i64 v1)), (2, .one (.int .i64 v2)), (18, .one (.bool v3))] [] : St D0) (spec_WaitForStrokes.K13 N) = spec_WaitForStrokes.d1 N v0 v1 v2 v3 := by
  unfold spec_WaitForStrokes.d1; exact (spec_WaitForStrokes.o1.run N spec_WaitForStrokes.c120 v0 v1 v2 v3).trans (congr rfl (funext fun w0 => funext fun w1 => funext fun w2 => funext fun w3 => (spec_WaitForStrokes.loop60 N N) w0 w1 w2 w3))
noncomputable def spec_WaitForStrokes.o0 (N : Nat) (a0 : Int) (a1 : Int) (a2 : Int) (c1 : Int → Int → Int → Bool → Option spec_WaitForStrokes.R) : Option spec_WaitForStrokes.R :=
 (spec_stHalf.g N a0 a1).bind fun r1 =>
 bif (!r1) then
  c1 a0 a1 a2 true
 else
 (spec_l1In.g N a2 1 a0).bind fun r2 =>
 c1 a0 a1 a2 (!r2)
theorem spec_WaitForStrokes.o0.run (N : Nat) (H13 : Code) (a0 : Int) (a1 : Int) (a2 : Int) : runC spec_WaitForStrokes.C (spec_WaitForStrokes.O N) N (.seq spec_WaitForStrokes.c2 (.seq (.seq spec_WaitForStrokes.c12 H13) spec_WaitForStrokes.c7)) 1 (st0 [.one (.int .i64 a0), .one (.int .i64 a1), .one (.int .i64 a2)] [] : St D0) spec_WaitForStrokes.K0 = spec_WaitForStrokes.o0 N a0 a1 a2 ((fun w0 w1 w2 w3 => runC spec_WaitForStrokes.C (spec_WaitForStrokes.O N) N H13 13 (mkSt [(0, .one (.int .i64 w0)), (1, .one (.int .i64 w1)), (2, .one (.int .i64 w2)), (18, .one (.bool w3))] [] : St D0) (onN (fun s => spec_WaitForStrokes.C.tidy 6 s (fun s' => runC spec_WaitForStrokes.C (spec_WaitForStrokes.O N) N spec_WaitForStrokes.c7 7 s' spec_WaitForStrokes.K0)) spec_WaitForStrokes.K0))) := by kernel_rfl
noncomputable def spec_WaitForStrokes.B6 (N : Nat) : St D0 → Option spec_WaitForStrokes.R := fun s' => runC spec_WaitForStrokes.C (spec_WaitForStrokes.O N) N spec_WaitForStrokes.c13 13 s' (spec_WaitForStrokes.K13 N)
noncomputable def spec_WaitForStrokes.g (N : Nat) (a0 : Int) (a1 : Int) (a2 : Int) : Option spec_WaitForStrokes.R := spec_WaitForStrokes.o0 N a0 a1 a2 ((fun w0 w1 w2 w3 => spec_WaitForStrokes.d1 N w0 w1 w2 w3))
theorem spec_WaitForStrokes.c1_0 : spec_WaitForStrokes.c1 = (.seq spec_WaitForStrokes.c2 (.seq (.seq spec_WaitForStrokes.c12 spec_WaitForStrokes.c13) spec_WaitForStrokes.c7)) := by kernel_rfl
theorem spec_WaitForStrokes.g.run (N : Nat) (a0 : Int) (a1 : Int) (a2 : Int) : runC spec_WaitForStrokes.C (spec_WaitForStrokes.O N) N spec_WaitForStrokes.c1 1 (st0 [.one (.int .i64 a0), .one (.int .i64 a1), .one (.int .i64 a2)] [] : St D0) spec_WaitForStrokes.K0 = spec_WaitForStrokes.g N a0 a1 a2 := by
  rw [spec_WaitForStrokes.c1_0]; unfold spec_WaitForStrokes.g; exact (spec_WaitForStrokes.o0.run N spec_WaitForStrokes.c13 a0 a1 a2).trans (congr rfl (funext fun w0 => funext fun w1 => funext fun w2 => funext fun w3 => spec_WaitForStrokes.d1.run N w0 w1 w2 w3))
theorem spec_WaitForStrokes.good (N : Nat) (a0 : Int) (a1 : Int) (a2 : Int) (r : spec_WaitForStrokes.R) (h : spec_WaitForStrokes.g N a0 a1 a2 = some r) : Go.PM.Good Go.Proofs.Try.prog T0 9 [.one (.int .i64 a0), .one (.int .i64 a1), .one (.int .i64 a2)] [] (spec_WaitForStrokes.sig.ret r) (spec_WaitForStrokes.sig.bs r) :=
  good_fn tabOk0 mixed0 spec_WaitForStrokes.sig (spec_WaitForStrokes.E N) Go.Proofs.Try.func9 (by kernel_rfl) (by kernel_rfl) 268698055 0 0 [(12, [0, 1, 2, 18], []), (60, [0, 1, 2, 8], [])] [(false, [.any]), (false, [.any])] (by kernel_rfl) rfl ((spec_WaitForStrokes.g.run N a0 a1 a2).trans h)
noncomputable def spec_WaitForStrokes.ent (N : Nat) : Ent Go.Proofs.Try.prog T0 := mkEnt 9 [(false, [.any]), (false, [.any]), (false, [.any])] spec_WaitForStrokes.sig (fun t => spec_WaitForStrokes.g N t.1 t.2.1 t.2.2) (fun t r h => spec_WaitForStrokes.good N t.1 t.2.1 t.2.2 r h)
end Go.Proofs.Ytpemffldaepbpaa.M

namespace Go.Proofs.Ytpemffldaepbpaa.M
open Go Go.PM Go.Proofs.Ytpemffldaepbpaa.P
set_option linter.unusedVariables false
set_option maxRecDepth 100000
/-! ### impl_MostInHalves -/
abbrev impl_MostInHalves.R : Type := Int × Int × Bool
abbrev impl_MostInHalves.sig : Sig := ⟨[(false, 1), (false, 1)], [], [.int .i64, .int .i64], [(false, 1), (false, 1), (false, 1)], [], [.int .i64, .int .i64, .bool]⟩
noncomputable def impl_MostInHalves.C : Cfg D0 := ⟨Go.Proofs.Try.prog, T0, 137469364211, 0, 43, 0, [(12, [0, 1, 20], []), (122, [0, 1, 7, 8, 22, 23], [])]⟩
noncomputable def impl_MostInHalves.E (N : Nat) : List (Ent Go.Proofs.Try.prog T0) := [impl_isDial.ent N, impl_within.ent N, impl_before.ent N]
noncomputable def impl_MostInHalves.O (N : Nat) : Orc D0 impl_MostInHalves.R := orcOf (impl_MostInHalves.E N)
noncomputable def impl_MostInHalves.K0 : Ex → St D0 → Option impl_MostInHalves.R := exitK impl_MostInHalves.C Go.Proofs.Try.f14.results.toList [(false, [.any]), (false, [.any]), (false, [.any])] (decOut impl_MostInHalves.sig)
noncomputable def impl_MostInHalves.c1 : Code := codeAt (Go.Proofs.Try.f14.body.getD .skip) []
noncomputable def impl_MostInHalves.c2 : Code := codeAt (Go.Proofs.Try.f14.body.getD .skip) [false]
noncomputable def impl_MostInHalves.c7 : Code := codeAt (Go.Proofs.Try.f14.body.getD .skip) [true, true]
noncomputable def impl_MostInHalves.c12 : Code := codeAt (Go.Proofs.Try.f14.body.getD .skip) [true, false, false]
noncomputable def impl_MostInHalves.c13 : Code := codeAt (Go.Proofs.Try.f14.body.getD .skip) [true, false, true]
noncomputable def impl_MostInHalves.c14 : Code := codeAt (Go.Proofs.Try.f14.body.getD .skip) [true, true, false]
noncomputable def impl_MostInHalves.c31 : Code := codeAt (Go.Proofs.Try.f14.body.getD .skip) [true, true, true, true]
noncomputable def impl_MostInHalves.c60 : Code := codeAt (Go.Proofs.Try.f14.body.getD .skip) [true, true, true, false, false]
noncomputable def impl_MostInHalves.c244 : Code := codeAt (Go.Proofs.Try.f14.body.getD .skip) [true, true, true, false, true, false, false]
noncomputable def impl_MostInHalves.K244 (N : Nat) (Kn122 : St D0 → Option impl_MostInHalves.R) : Ex → St D0 → Option impl_MostInHalves.R := (onN (fun s => impl_MostInHalves.C.tidy 122 s ((onN Kn122 (blockK 0 (onN (fun s => impl_MostInHalves.C.tidy 30 s (fun s' => runC impl_MostInHalves.C (impl_MostInHalves.O N) N impl_MostInHalves.c31 31 s' impl_MostInHalves.K0)) impl_MostInHalves.K0))) .normal)) (onN Kn122 (blockK 0 (onN (fun s => impl_MostInHalves.C.tidy 30 s (fun s' => runC impl_MostInHalves.C (impl_MostInHalves.O N) N impl_MostInHalves.c31 31 s' impl_MostInHalves.K0)) impl_MostInHalves.K0))))
noncomputable def impl_MostInHalves.o2 (N : Nat) (v0 : Int) (v1 : Int) (v2 : Int) (v3 : Int) (v4 : Int) (v5 : Int) (c2 : Int → Int → Int → Int → Int → Int → Option impl_MostInHalves.R) : Option impl_MostInHalves.R :=
 bif (decide (v5 < v4)) then
  (impl_before.g N v0 (w64 (v5 + v1))).bind fun r1 =>
  (impl_before.g N v0 v5).bind fun r2 =>
  bif (decide ((w64 (r1 - r2)) > v3)) then
   c2 v0 v1 v5 (w64 (r1 - r2)) v4 (w64 (v5 + 1))
  else
  c2 v0 v1 v2 v3 v4 (w64 (v5 + 1))
 else
 some (v2, v3, true)
theorem impl_MostInHalves.o2.run (N : Nat) (Kn122 : St D0 → Option impl_MostInHalves.R) (v0 : Int) (v1 : Int) (v2 : Int) (v3 : Int) (v4 : Int) (v5 : Int) : runC impl_MostInHalves.C (impl_MostInHalves.O N) N impl_MostInHalves.c244 244 (mkSt [(0, .one (.int .i64 v0)), (1, .one (.int .i64 v1)), (7, .one (.int .i64 v2)), (8, .one (.int .i64 v3)), (22, .one (.int .i64 v4)), (23, .one (.int .i64 v5))] [] : St D0) (onN (fun s => impl_MostInHalves.C.tidy 122 s ((onN Kn122 (blockK 0 (onN (fun s => impl_MostInHalves.C.tidy 30 s (fun s' => runC impl_MostInHalves.C (impl_MostInHalves.O N) N impl_MostInHalves.c31 31 s' impl_MostInHalves.K0)) impl_MostInHalves.K0))) .normal)) (onN Kn122 (blockK 0 (onN (fun s => impl_MostInHalves.C.tidy 30 s (fun s' => runC impl_MostInHalves.C (impl_MostInHalves.O N) N impl_MostInHalves.c31 31 s' impl_MostInHalves.K0)) impl_MostInHalves.K0)))) = impl_MostInHalves.o2 N v0 v1 v2 v3 v4 v5 ((fun w0 w1 w2 w3 w4 w5 => Kn122 (mkSt [(0, .one (.int .i64 w0)), (1, .one (.int .i64 w1)), (7, .one (.int .i64 w2)), (8, .one (.int .i64 w3)), (22, .one (.int .i64 w4)), (23, .one (.int .i64 w5))] [] : St D0))) := by kernel_rfl
noncomputable def impl_MostInHalves.d2 (N : Nat) (v0 : Int) (v1 : Int) (v2 : Int) (v3 : Int) (v4 : Int) (v5 : Int) (c2 : Int → Int → Int → Int → Int → Int → Option impl_MostInHalves.R) : Option impl_MostInHalves.R := impl_MostInHalves.o2 N v0 v1 v2 v3 v4 v5 c2
theorem impl_MostInHalves.d2.run (N : Nat) (Kn122 : St D0 → Option impl_MostInHalves.R) (v0 : Int) (v1 : Int) (v2 : Int) (v3 : Int) (v4 : Int) (v5 : Int) : runC impl_MostInHalves.C (impl_MostInHalves.O N) N impl_MostInHalves.c244 244 (mkSt [(0, .one (.int .i64 v0)), (1, .one (.int .i64 v1)), (7, .one (.int .i64 v2)), (8, .one (.int .i64 v3)), (22, .one (.int .i64 v4)), (23, .one (.int .i64 v5))] [] : St D0) (impl_MostInHalves.K244 N Kn122) = impl_MostInHalves.d2 N v0 v1 v2 v3 v4 v5 ((fun w0 w1 w2 w3 w4 w5 => Kn122 (mkSt [(0, .one (.int .i64 w0)), (1, .one (.int .i64 w1)), (7, .one (.int .i64 w2)), (8, .one (.int .i64 w3)), (22, .one (.int .i64 w4)), (23, .one (.int .i64 w5))] [] : St D0))) := by
  exact (impl_MostInHalves.o2.run N Kn122 v0 v1 v2 v3 v4 v5).trans rfl
noncomputable def impl_MostInHalves.K122 (N : Nat) : Ex → St D0 → Option impl_MostInHalves.R := (blockK 0 (onN (fun s => impl_MostInHalves.C.tidy 30 s (fun s' => runC impl_MostInHalves.C (impl_MostInHalves.O N) N impl_MostInHalves.c31 31 s' impl_MostInHalves.K0)) impl_MostInHalves.K0))
noncomputable def impl_MostInHalves.l2 (N : Nat) : Nat → Int → Int → Int → Int → Int → Int → Option impl_MostInHalves.R
  | 0, _, _, _, _, _, _ => none
  | n + 1, v0, v1, v2, v3, v4, v5 => impl_MostInHalves.d2 N v0 v1 v2 v3 v4 v5 ((fun w0 w1 w2 w3 w4 w5 => impl_MostInHalves.l2 N n w0 w1 w2 w3 w4 w5))
theorem impl_MostInHalves.loop122 (N : Nat) : ∀ n, (∀ (v0 : Int) (v1 : Int) (v2 : Int) (v3 : Int) (v4 : Int) (v5 : Int), iter (loopF impl_MostInHalves.C (impl_MostInHalves.O N) N impl_MostInHalves.c244 122) n (mkSt [(0, .one (.int .i64 v0)), (1, .one (.int .i64 v1)), (7, .one (.int .i64 v2)), (8, .one (.int .i64 v3)), (22, .one (.int .i64 v4)), (23, .one (.int .i64 v5))] [] : St D0) (impl_MostInHalves.K122 N) = impl_MostInHalves.l2 N n v0 v1 v2 v3 v4 v5)
  | 0 => (fun v0 v1 v2 v3 v4 v5 => rfl)
  | n + 1 => (fun v0 v1 v2 v3 v4 v5 => (impl_MostInHalves.d2.run N (fun s => iter (loopF impl_MostInHalves.C (impl_MostInHalves.O N) N impl_MostInHalves.c244 122) n s (impl_MostInHalves.K122 N)) v0 v1 v2 v3 v4 v5).trans (show _ = impl_MostInHalves.d2 N v0 v1 v2 v3 v4 v5 ((fun w0 w1 w2 w3 w4 w5 => impl_MostInHalves.l2 N n w0 w1 w2 w3 w4 w5)) from (congr rfl (funext fun w0 => funext fun w1 => funext fun w2 => funext fun w3 => funext fun w4 => funext fun w5 => (impl_MostInHalves.loop122 N n) w0 w1 w2 w3 w4 w5))))
noncomputable def impl_MostInHalves.K13 (N : Nat) : Ex → St D0 → Option impl_MostInHalves.R := (onN (fun s => impl_MostInHalves.C.tidy 6 s (fun s' => runC impl_MostInHalves.C (impl_MostInHalves.O N) N impl_MostInHalves.c7 7 s' impl_MostInHalves.K0)) impl_MostInHalves.K0)
noncomputable def impl_MostInHalves.o1 (N : Nat) (v0 : Int) (v1 : Int) (v2 : Bool) (c2 : Int → Int → Int → Int → Int → Int → Option impl_MostInHalves.R) : Option impl_MostInHalves.R :=
 bif v2 then
  some (0, 0, false)
 else
 c2 v0 v1 0 0 (w64 (2 * v0)) 0
theorem impl_MostInHalves.o1.run (N : Nat) (H244 : Code) (v0 : Int) (v1 : Int) (v2 : Bool) : runC impl_MostInHalves.C (impl_MostInHalves.O N) N impl_MostInHalves.c13 13 (mkSt [(0, .one (.int .i64 v0)), (1, .one (.int .i64 v1)), (20, .one (.bool v2))] [] : St D0) (onN (fun s => impl_MostInHalves.C.tidy 6 s (fun s' => runC impl_MostInHalves.C (impl_MostInHalves.O N) N (.seq impl_MostInHalves.c14 (.seq (.seq impl_MostInHalves.c60 (.block 0 (.loop H244))) impl_MostInHalves.c31)) 7 s' impl_MostInHalves.K0)) impl_MostInHalves.K0) = impl_MostInHalves.o1 N v0 v1 v2 ((fun w0 w1 w2 w3 w4 w5 => iter (loopF impl_MostInHalves.C (impl_MostInHalves.O N) N H244 122) N (mkSt [(0, .one (.int .i64 w0)), (1, .one (.int .i64 w1)), (7, .one (.int .i64 w2)), (8, .one (.int .i64 w3)), (22, .one (.int .i64 w4)), (23, .one (.int .i64 w5))] [] : St D0) (blockK 0 (onN (fun s => impl_MostInHalves.C.tidy 30 s (fun s' => runC impl_MostInHalves.C (impl_MostInHalves.O N) N impl_MostInHalves.c31 31 s' impl_MostInHalves.K0)) impl_MostInHalves.K0)))) := by kernel_rfl
noncomputable def impl_MostInHalves.d1 (N : Nat) (v0 : Int) (v1 : Int) (v2 : Bool) : Option impl_MostInHalves.R := impl_MostInHalves.o1 N v0 v1 v2 ((fun w0 w1 w2 w3 w4 w5 => impl_MostInHalves.l2 N N w0 w1 w2 w3 w4 w5))
theorem impl_MostInHalves.d1.run (N : Nat) (v0 : Int) (v1 : Int) (v2 : Bool) : runC impl_MostInHalves.C (impl_MostInHalves.O N) N impl_MostInHalves.c13 13 (mkSt [(0, .one (.int .i64 v0)), (1, .one (.int .i64 v1)), (20, .one (.bool v2))] [] : St D0) (impl_MostInHalves.K13 N) = impl_MostInHalves.d1 N v0 v1 v2 := by
  unfold impl_MostInHalves.d1; exact (impl_MostInHalves.o1.run N impl_MostInHalves.c244 v0 v1 v2).trans (congr rfl (funext fun w0 => funext fun w1 => funext fun w2 => funext fun w3 => funext fun w4 => funext fun w5 => (impl_MostInHalves.loop122 N N) w0 w1 w2 w3 w4 w5))
noncomputable def impl_MostInHalves.o0 (N : Nat) (a0 : Int) (a1 : Int) (c1 : Int → Int → Bool → Option impl_MostInHalves.R) : Option impl_MostInHalves.R :=
 (impl_isDial.g N a0).bind fun r1 =>
 bif (!r1) then
  c1 a0 a1 true
 else
 (impl_within.g N a1 1 (w64 (2 * a0))).bind fun r2 =>
 c1 a0 a1 (!r2)
theorem impl_MostInHalves.o0.run (N : Nat) (H13 : Code) (a0 : Int) (a1 : Int) : runC impl_MostInHalves.C (impl_MostInHalves.O N) N (.seq impl_MostInHalves.c2 (.seq (.seq impl_MostInHalves.c12 H13) impl_MostInHalves.c7)) 1 (st0 [.one (.int .i64 a0), .one (.int .i64 a1)] [] : St D0) impl_MostInHalves.K0 = impl_MostInHalves.o0 N a0 a1 ((fun w0 w1 w2 => runC impl_MostInHalves.C (impl_MostInHalves.O N) N H13 13 (mkSt [(0, .one (.int .i64 w0)), (1, .one (.int .i64 w1)), (20, .one (.bool w2))] [] : St D0) (onN (fun s => impl_MostInHalves.C.tidy 6 s (fun s' => runC impl_MostInHalves.C (impl_MostInHalves.O N) N impl_MostInHalves.c7 7 s' impl_MostInHalves.K0)) impl_MostInHalves.K0))) := by kernel_rfl
noncomputable def impl_MostInHalves.B6 (N : Nat) : St D0 → Option impl_MostInHalves.R := fun s' => runC impl_MostInHalves.C (impl_MostInHalves.O N) N impl_MostInHalves.c13 13 s' (impl_MostInHalves.K13 N)
noncomputable def impl_MostInHalves.g (N : Nat) (a0 : Int) (a1 : Int) : Option impl_MostInHalves.R := impl_MostInHalves.o0 N a0 a1 ((fun w0 w1 w2 => impl_MostInHalves.d1 N w0 w1 w2))
theorem impl_MostInHalves.c1_0 : impl_MostInHalves.c1 = (.seq impl_MostInHalves.c2 (.seq (.seq impl_MostInHalves.c12 impl_MostInHalves.c13) impl_MostInHalves.c7)) := by kernel_rfl
theorem impl_MostInHalves.g.run (N : Nat) (a0 : Int) (a1 : Int) : runC impl_MostInHalves.C (impl_MostInHalves.O N) N impl_MostInHalves.c1 1 (st0 [.one (.int .i64 a0), .one (.int .i64 a1)] [] : St D0) impl_MostInHalves.K0 = impl_MostInHalves.g N a0 a1 := by
  rw [impl_MostInHalves.c1_0]; unfold impl_MostInHalves.g; exact (impl_MostInHalves.o0.run N impl_MostInHalves.c13 a0 a1).trans (congr rfl (funext fun w0 => funext fun w1 => funext fun w2 => impl_MostInHalves.d1.run N w0 w1 w2))
theorem impl_MostInHalves.good (N : Nat) (a0 : Int) (a1 : Int) (r : impl_MostInHalves.R) (h : impl_MostInHalves.g N a0 a1 = some r) : Go.PM.Good Go.Proofs.Try.prog T0 14 [.one (.int .i64 a0), .one (.int .i64 a1)] [] (impl_MostInHalves.sig.ret r) (impl_MostInHalves.sig.bs r) :=
  good_fn tabOk0 mixed0 impl_MostInHalves.sig (impl_MostInHalves.E N) Go.Proofs.Try.func14 (by kernel_rfl) (by kernel_rfl) 137469364211 0 0 [(12, [0, 1, 20], []), (122, [0, 1, 7, 8, 22, 23], [])] [(false, [.any]), (false, [.any]), (false, [.any])] (by kernel_rfl) rfl ((impl_MostInHalves.g.run N a0 a1).trans h)
noncomputable def impl_MostInHalves.ent (N : Nat) : Ent Go.Proofs.Try.prog T0 := mkEnt 14 [(false, [.any]), (false, [.any])] impl_MostInHalves.sig (fun t => impl_MostInHalves.g N t.1 t.2) (fun t r h => impl_MostInHalves.good N t.1 t.2 r h)
end Go.Proofs.Ytpemffldaepbpaa.M

namespace Go.Proofs.Ytpemffldaepbpaa.M
open Go Go.PM Go.Proofs.Ytpemffldaepbpaa.P
set_option linter.unusedVariables false
set_option maxRecDepth 100000
/-! ### spec_MostInHalves -/
abbrev spec_MostInHalves.R : Type := Int × Int × Bool
abbrev spec_MostInHalves.sig : Sig := ⟨[(false, 1), (false, 1)], [], [.int .i64, .int .i64], [(false, 1), (false, 1), (false, 1)], [], [.int .i64, .int .i64, .bool]⟩
noncomputable def spec_MostInHalves.C : Cfg D0 := ⟨Go.Proofs.Try.prog, T0, 17656681863155, 0, 49, 0, [(12, [0, 1, 22], []), (122, [0, 1, 7, 8, 9], []), (978, [0, 1, 7, 8, 9], []), (31306, [0, 1, 7, 8, 9, 10, 32, 33, 34], [])]⟩
noncomputable def spec_MostInHalves.E (N : Nat) : List (Ent Go.Proofs.Try.prog T0) := [spec_diHours.ent N, spec_l1In.ent N, spec_stFrom.ent N]
noncomputable def spec_MostInHalves.O (N : Nat) : Orc D0 spec_MostInHalves.R := orcOf (spec_MostInHalves.E N)
noncomputable def spec_MostInHalves.K0 : Ex → St D0 → Option spec_MostInHalves.R := exitK spec_MostInHalves.C Go.Proofs.Try.f15.results.toList [(false, [.any]), (false, [.any]), (false, [.any])] (decOut spec_MostInHalves.sig)
noncomputable def spec_MostInHalves.c1 : Code := codeAt (Go.Proofs.Try.f15.body.getD .skip) []
noncomputable def spec_MostInHalves.c2 : Code := codeAt (Go.Proofs.Try.f15.body.getD .skip) [false]
noncomputable def spec_MostInHalves.c7 : Code := codeAt (Go.Proofs.Try.f15.body.getD .skip) [true, true]
noncomputable def spec_MostInHalves.c12 : Code := codeAt (Go.Proofs.Try.f15.body.getD .skip) [true, false, false]
noncomputable def spec_MostInHalves.c13 : Code := codeAt (Go.Proofs.Try.f15.body.getD .skip) [true, false, true]
noncomputable def spec_MostInHalves.c14 : Code := codeAt (Go.Proofs.Try.f15.body.getD .skip) [true, true, false]
noncomputable def spec_MostInHalves.c31 : Code := codeAt (Go.Proofs.Try.f15.body.getD .skip) [true, true, true, true]
noncomputable def spec_MostInHalves.c60 : Code := codeAt (Go.Proofs.Try.f15.body.getD .skip) [true, true, true, false, false]
noncomputable def spec_MostInHalves.c244 : Code := codeAt (Go.Proofs.Try.f15.body.getD .skip) [true, true, true, false, true, false, false]
noncomputable def spec_MostInHalves.c488 : Code := codeAt (Go.Proofs.Try.f15.body.getD .skip) [true, true, true, false, true, false, false, false]
noncomputable def spec_MostInHalves.c979 : Code := codeAt (Go.Proofs.Try.f15.body.getD .skip) [true, true, true, false, true, false, false, true, true]
noncomputable def spec_MostInHalves.c3912 : Code := codeAt (Go.Proofs.Try.f15.body.getD .skip) [true, true, true, false, true, false, false, true, false, false, false]
noncomputable def spec_MostInHalves.c7827 : Code := codeAt (Go.Proofs.Try.f15.body.getD .skip) [true, true, true, false, true, false, false, true, false, false, true, true]
noncomputable def spec_MostInHalves.c15652 : Code := codeAt (Go.Proofs.Try.f15.body.getD .skip) [true, true, true, false, true, false, false, true, false, false, true, false, false]
noncomputable def spec_MostInHalves.c62612 : Code := codeAt (Go.Proofs.Try.f15.body.getD .skip) [true, true, true, false, true, false, false, true, false, false, true, false, true, false, false]
noncomputable def spec_MostInHalves.K979 (N : Nat) (Kn122 : St D0 → Option spec_MostInHalves.R) : Ex → St D0 → Option spec_MostInHalves.R := (onN (fun s => spec_MostInHalves.C.tidy 122 s ((onN Kn122 (blockK 0 (onN (fun s => spec_MostInHalves.C.tidy 30 s (fun s' => runC spec_MostInHalves.C (spec_MostInHalves.O N) N spec_MostInHalves.c31 31 s' spec_MostInHalves.K0)) spec_MostInHalves.K0))) .normal)) (onN Kn122 (blockK 0 (onN (fun s => spec_MostInHalves.C.tidy 30 s (fun s' => runC spec_MostInHalves.C (spec_MostInHalves.O N) N spec_MostInHalves.c31 31 s' spec_MostInHalves.K0)) spec_MostInHalves.K0))))
noncomputable def spec_MostInHalves.o4 (N : Nat) (v0 : Int) (v1 : Int) (v2 : Int) (v3 : Int) (v4 : Int) (c2 : Int → Int → Int → Int → Int → Option spec_MostInHalves.R) : Option spec_MostInHalves.R :=
 c2 v0 v1 v2 v3 (w64 (v4 + 1))
theorem spec_MostInHalves.o4.run (N : Nat) (Kn122 : St D0 → Option spec_MostInHalves.R) (v0 : Int) (v1 : Int) (v2 : Int) (v3 : Int) (v4 : Int) : runC spec_MostInHalves.C (spec_MostInHalves.O N) N spec_MostInHalves.c979 979 (mkSt [(0, .one (.int .i64 v0)), (1, .one (.int .i64 v1)), (7, .one (.int .i64 v2)), (8, .one (.int .i64 v3)), (9, .one (.int .i64 v4))] [] : St D0) (onN (fun s => spec_MostInHalves.C.tidy 122 s ((onN Kn122 (blockK 0 (onN (fun s => spec_MostInHalves.C.tidy 30 s (fun s' => runC spec_MostInHalves.C (spec_MostInHalves.O N) N spec_MostInHalves.c31 31 s' spec_MostInHalves.K0)) spec_MostInHalves.K0))) .normal)) (onN Kn122 (blockK 0 (onN (fun s => spec_MostInHalves.C.tidy 30 s (fun s' => runC spec_MostInHalves.C (spec_MostInHalves.O N) N spec_MostInHalves.c31 31 s' spec_MostInHalves.K0)) spec_MostInHalves.K0)))) = spec_MostInHalves.o4 N v0 v1 v2 v3 v4 ((fun w0 w1 w2 w3 w4 => Kn122 (mkSt [(0, .one (.int .i64 w0)), (1, .one (.int .i64 w1)), (7, .one (.int .i64 w2)), (8, .one (.int .i64 w3)), (9, .one (.int .i64 w4))] [] : St D0))) := by kernel_rfl
noncomputable def spec_MostInHalves.d4 (N : Nat) (v0 : Int) (v1 : Int) (v2 : Int) (v3 : Int) (v4 : Int) (c2 : Int → Int → Int → Int → Int → Option spec_MostInHalves.R) : Option spec_MostInHalves.R := spec_MostInHalves.o4 N v0 v1 v2 v3 v4 c2
theorem spec_MostInHalves.d4.run (N : Nat) (Kn122 : St D0 → Option spec_MostInHalves.R) (v0 : Int) (v1 : Int) (v2 : Int) (v3 : Int) (v4 : Int) : runC spec_MostInHalves.C (spec_MostInHalves.O N) N spec_MostInHalves.c979 979 (mkSt [(0, .one (.int .i64 v0)), (1, .one (.int .i64 v1)), (7, .one (.int .i64 v2)), (8, .one (.int .i64 v3)), (9, .one (.int .i64 v4))] [] : St D0) (spec_MostInHalves.K979 N Kn122) = spec_MostInHalves.d4 N v0 v1 v2 v3 v4 ((fun w0 w1 w2 w3 w4 => Kn122 (mkSt [(0, .one (.int .i64 w0)), (1, .one (.int .i64 w1)), (7, .one (.int .i64 w2)), (8, .one (.int .i64 w3)), (9, .one (.int .i64 w4))] [] : St D0))) := by
  exact (spec_MostInHalves.o4.run N Kn122 v0 v1 v2 v3 v4).trans rfl
noncomputable def spec_MostInHalves.B489 (N : Nat) (Kn122 : St D0 → Option spec_MostInHalves.R) : St D0 → Option spec_MostInHalves.R := fun s' => runC spec_MostInHalves.C (spec_MostInHalves.O N) N spec_MostInHalves.c979 979 s' (spec_MostInHalves.K979 N Kn122)
noncomputable def spec_MostInHalves.K62612 (N : Nat) (Kn122 : St D0 → Option spec_MostInHalves.R) (Kn31306 : St D0 → Option spec_MostInHalves.R) : Ex → St D0 → Option spec_MostInHalves.R := (onN (fun s => spec_MostInHalves.C.tidy 31306 s ((onN Kn31306 (blockK 2 (onN (fun s => spec_MostInHalves.C.tidy 7826 s (fun s' => runC spec_MostInHalves.C (spec_MostInHalves.O N) N spec_MostInHalves.c7827 7827 s' (blockK 1 (onN (fun s => spec_MostInHalves.C.tidy 978 s (spec_MostInHalves.B489 N Kn122)) (onN (fun s => spec_MostInHalves.C.tidy 122 s ((onN Kn122 (blockK 0 (onN (fun s => spec_MostInHalves.C.tidy 30 s (fun s' => runC spec_MostInHalves.C (spec_MostInHalves.O N) N spec_MostInHalves.c31 31 s' spec_MostInHalves.K0)) spec_MostInHalves.K0))) .normal)) (onN Kn122 (blockK 0 (onN (fun s => spec_MostInHalves.C.tidy 30 s (fun s' => runC spec_MostInHalves.C (spec_MostInHalves.O N) N spec_MostInHalves.c31 31 s' spec_MostInHalves.K0)) spec_MostInHalves.K0)))))))) (blockK 1 (onN (fun s => spec_MostInHalves.C.tidy 978 s (spec_MostInHalves.B489 N Kn122)) (onN (fun s => spec_MostInHalves.C.tidy 122 s ((onN Kn122 (blockK 0 (onN (fun s => spec_MostInHalves.C.tidy 30 s (fun s' => runC spec_MostInHalves.C (spec_MostInHalves.O N) N spec_MostInHalves.c31 31 s' spec_MostInHalves.K0)) spec_MostInHalves.K0))) .normal)) (onN Kn122 (blockK 0 (onN (fun s => spec_MostInHalves.C.tidy 30 s (fun s' => runC spec_MostInHalves.C (spec_MostInHalves.O N) N spec_MostInHalves.c31 31 s' spec_MostInHalves.K0)) spec_MostInHalves.K0))))))))) .normal)) (onN Kn31306 (blockK 2 (onN (fun s => spec_MostInHalves.C.tidy 7826 s (fun s' => runC spec_MostInHalves.C (spec_MostInHalves.O N) N spec_MostInHalves.c7827 7827 s' (blockK 1 (onN (fun s => spec_MostInHalves.C.tidy 978 s (spec_MostInHalves.B489 N Kn122)) (onN (fun s => spec_MostInHalves.C.tidy 122 s ((onN Kn122 (blockK 0 (onN (fun s => spec_MostInHalves.C.tidy 30 s (fun s' => runC spec_MostInHalves.C (spec_MostInHalves.O N) N spec_MostInHalves.c31 31 s' spec_MostInHalves.K0)) spec_MostInHalves.K0))) .normal)) (onN Kn122 (blockK 0 (onN (fun s => spec_MostInHalves.C.tidy 30 s (fun s' => runC spec_MostInHalves.C (spec_MostInHalves.O N) N spec_MostInHalves.c31 31 s' spec_MostInHalves.K0)) spec_MostInHalves.K0)))))))) (blockK 1 (onN (fun s => spec_MostInHalves.C.tidy 978 s (spec_MostInHalves.B489 N Kn122)) (onN (fun s => spec_MostInHalves.C.tidy 122 s ((onN Kn122 (blockK 0 (onN (fun s => spec_MostInHalves.C.tidy 30 s (fun s' => runC spec_MostInHalves.C (spec_MostInHalves.O N) N spec_MostInHalves.c31 31 s' spec_MostInHalves.K0)) spec_MostInHalves.K0))) .normal)) (onN Kn122 (blockK 0 (onN (fun s => spec_MostInHalves.C.tidy 30 s (fun s' => runC spec_MostInHalves.C (spec_MostInHalves.O N) N spec_MostInHalves.c31 31 s' spec_MostInHalves.K0)) spec_MostInHalves.K0))))))))))
noncomputable def spec_MostInHalves.o3 (N : Nat) (v0 : Int) (v1 : Int) (v2 : Int) (v3 : Int) (v4 : Int) (v5 : Int) (v6 : List Int) (v7 : Int) (v8 : Int) (c3 : Int → Int → Int → Int → Int → Int → (List Int) → Int → Int → Option spec_MostInHalves.R) (c4 : Int → Int → Int → Int → Int → Option spec_MostInHalves.R) : Option spec_MostInHalves.R :=
 bif (decide (v8 < v7)) then
  bif (decide (0 ≤ v8)) then
   bif (decide (v8 < (v6.length : Int))) then
    (v6[(v8 : Int).toNat]?).bind fun x1 =>
    c3 v0 v1 v2 v3 v4 (w64 (v5 + x1)) v6 v7 (w64 (v8 + 1))
   else
   none
  else
  none
 else
 bif (decide (v5 > v3)) then
  c4 v0 v1 v4 v5 v4
 else
 c4 v0 v1 v2 v3 v4
theorem spec_MostInHalves.o3.run (N : Nat) (Kb489 : St D0 → Option spec_MostInHalves.R) (Kn122 : St D0 → Option spec_MostInHalves.R) (Kn31306 : St D0 → Option spec_MostInHalves.R) (v0 : Int) (v1 : Int) (v2 : Int) (v3 : Int) (v4 : Int) (v5 : Int) (v6 : List Int) (v7 : Int) (v8 : Int) : runC spec_MostInHalves.C (spec_MostInHalves.O N) N spec_MostInHalves.c62612 62612 (mkSt [(0, .one (.int .i64 v0)), (1, .one (.int .i64 v1)), (7, .one (.int .i64 v2)), (8, .one (.int .i64 v3)), (9, .one (.int .i64 v4)), (10, .one (.int .i64 v5)), (32, .one (.sl true 3 v6)), (33, .one (.int .i64 v7)), (34, .one (.int .i64 v8))] [] : St D0) (onN (fun s => spec_MostInHalves.C.tidy 31306 s ((onN Kn31306 (blockK 2 (onN (fun s => spec_MostInHalves.C.tidy 7826 s (fun s' => runC spec_MostInHalves.C (spec_MostInHalves.O N) N spec_MostInHalves.c7827 7827 s' (blockK 1 (onN (fun s => spec_MostInHalves.C.tidy 978 s Kb489) (onN (fun s => spec_MostInHalves.C.tidy 122 s ((onN Kn122 (blockK 0 (onN (fun s => spec_MostInHalves.C.tidy 30 s (fun s' => runC spec_MostInHalves.C (spec_MostInHalves.O N) N spec_MostInHalves.c31 31 s' spec_MostInHalves.K0)) spec_MostInHalves.K0))) .normal)) (onN Kn122 (blockK 0 (onN (fun s => spec_MostInHalves.C.tidy 30 s (fun s' => runC spec_MostInHalves.C (spec_MostInHalves.O N) N spec_MostInHalves.c31 31 s' spec_MostInHalves.K0)) spec_MostInHalves.K0)))))))) (blockK 1 (onN (fun s => spec_MostInHalves.C.tidy 978 s Kb489) (onN (fun s => spec_MostInHalves.C.tidy 122 s ((onN Kn122 (blockK 0 (onN (fun s => spec_MostInHalves.C.tidy 30 s (fun s' => runC spec_MostInHalves.C (spec_MostInHalves.O N) N spec_MostInHalves.c31 31 s' spec_MostInHalves.K0)) spec_MostInHalves.K0))) .normal)) (onN Kn122 (blockK 0 (onN (fun s => spec_MostInHalves.C.tidy 30 s (fun s' => runC spec_MostInHalves.C (spec_MostInHalves.O N) N spec_MostInHalves.c31 31 s' spec_MostInHalves.K0)) spec_MostInHalves.K0))))))))) .normal)) (onN Kn31306 (blockK 2 (onN (fun s => spec_MostInHalves.C.tidy 7826 s (fun s' => runC spec_MostInHalves.C (spec_MostInHalves.O N) N spec_MostInHalves.c7827 7827 s' (blockK 1 (onN (fun s => spec_MostInHalves.C.tidy 978 s Kb489) (onN (fun s => spec_MostInHalves.C.tidy 122 s ((onN Kn122 (blockK 0 (onN (fun s => spec_MostInHalves.C.tidy 30 s (fun s' => runC spec_MostInHalves.C (spec_MostInHalves.O N) N spec_MostInHalves.c31 31 s' spec_MostInHalves.K0)) spec_MostInHalves.K0))) .normal)) (onN Kn122 (blockK 0 (onN (fun s => spec_MostInHalves.C.tidy 30 s (fun s' => runC spec_MostInHalves.C (spec_MostInHalves.O N) N spec_MostInHalves.c31 31 s' spec_MostInHalves.K0)) spec_MostInHalves.K0)))))))) (blockK 1 (onN (fun s => spec_MostInHalves.C.tidy 978 s Kb489) (onN (fun s => spec_MostInHalves.C.tidy 122 s ((onN Kn122 (blockK 0 (onN (fun s => spec_MostInHalves.C.tidy 30 s (fun s' => runC spec_MostInHalves.C (spec_MostInHalves.O N) N spec_MostInHalves.c31 31 s' spec_MostInHalves.K0)) spec_MostInHalves.K0))) .normal)) (onN Kn122 (blockK 0 (onN (fun s => spec_MostInHalves.C.tidy 30 s (fun s' => runC spec_MostInHalves.C (spec_MostInHalves.O N) N spec_MostInHalves.c31 31 s' spec_MostInHalves.K0)) spec_MostInHalves.K0)))))))))) = spec_MostInHalves.o3 N v0 v1 v2 v3 v4 v5 v6 v7 v8 ((fun w0 w1 w2 w3 w4 w5 w6 w7 w8 => Kn31306 (mkSt [(0, .one (.int .i64 w0)), (1, .one (.int .i64 w1)), (7, .one (.int .i64 w2)), (8, .one (.int .i64 w3)), (9, .one (.int .i64 w4)), (10, .one (.int .i64 w5)), (32, .one (.sl true 3 w6)), (33, .one (.int .i64 w7)), (34, .one (.int .i64 w8))] [] : St D0))) ((fun w0 w1 w2 w3 w4 => Kb489 (mkSt [(0, .one (.int .i64 w0)), (1, .one (.int .i64 w1)), (7, .one (.int .i64 w2)), (8, .one (.int .i64 w3)), (9, .one (.int .i64 w4))] [] : St D0))) := by kernel_rfl
noncomputable def spec_MostInHalves.d3 (N : Nat) (v0 : Int) (v1 : Int) (v2 : Int) (v3 : Int) (v4 : Int) (v5 : Int) (v6 : List Int) (v7 : Int) (v8 : Int) (c2 : Int → Int → Int → Int → Int → Option spec_MostInHalves.R) (c3 : Int → Int → Int → Int → Int → Int → (List Int) → Int → Int → Option spec_MostInHalves.R) : Option spec_MostInHalves.R := spec_MostInHalves.o3 N v0 v1 v2 v3 v4 v5 v6 v7 v8 c3 ((fun w0 w1 w2 w3 w4 => spec_MostInHalves.d4 N w0 w1 w2 w3 w4 c2))
theorem spec_MostInHalves.d3.run (N : Nat) (Kn122 : St D0 → Option spec_MostInHalves.R) (Kn31306 : St D0 → Option spec_MostInHalves.R) (v0 : Int) (v1 : Int) (v2 : Int) (v3 : Int) (v4 : Int) (v5 : Int) (v6 : List Int) (v7 : Int) (v8 : Int) : runC spec_MostInHalves.C (spec_MostInHalves.O N) N spec_MostInHalves.c62612 62612 (mkSt [(0, .one (.int .i64 v0)), (1, .one (.int .i64 v1)), (7, .one (.int .i64 v2)), (8, .one (.int .i64 v3)), (9, .one (.int .i64 v4)), (10, .one (.int .i64 v5)), (32, .one (.sl true 3 v6)), (33, .one (.int .i64 v7)), (34, .one (.int .i64 v8))] [] : St D0) (spec_MostInHalves.K62612 N Kn122 Kn31306) = spec_MostInHalves.d3 N v0 v1 v2 v3 v4 v5 v6 v7 v8 ((fun w0 w1 w2 w3 w4 => Kn122 (mkSt [(0, .one (.int .i64 w0)), (1, .one (.int .i64 w1)), (7, .one (.int .i64 w2)), (8, .one (.int .i64 w3)), (9, .one (.int .i64 w4))] [] : St D0))) ((fun w0 w1 w2 w3 w4 w5 w6 w7 w8 => Kn31306 (mkSt [(0, .one (.int .i64 w0)), (1, .one (.int .i64 w1)), (7, .one (.int .i64 w2)), (8, .one (.int .i64 w3)), (9, .one (.int .i64 w4)), (10, .one (.int .i64 w5)), (32, .one (.sl true 3 w6)), (33, .one (.int .i64 w7)), (34, .one (.int .i64 w8))] [] : St D0))) := by
  unfold spec_MostInHalves.d3; exact (spec_MostInHalves.o3.run N (spec_MostInHalves.B489 N Kn122) Kn122 Kn31306 v0 v1 v2 v3 v4 v5 v6 v7 v8).trans (congr (congr rfl rfl) (funext fun w0 => funext fun w1 => funext fun w2 => funext fun w3 => funext fun w4 => spec_MostInHalves.d4.run N Kn122 w0 w1 w2 w3 w4))
noncomputable def spec_MostInHalves.K31306 (N : Nat) (Kn122 : St D0 → Option spec_MostInHalves.R) : Ex → St D0 → Option spec_MostInHalves.R := (blockK 2 (onN (fun s => spec_MostInHalves.C.tidy 7826 s (fun s' => runC spec_MostInHalves.C (spec_MostInHalves.O N) N spec_MostInHalves.c7827 7827 s' (blockK 1 (onN (fun s => spec_MostInHalves.C.tidy 978 s (spec_MostInHalves.B489 N Kn122)) (onN (fun s => spec_MostInHalves.C.tidy 122 s ((onN Kn122 (blockK 0 (onN (fun s => spec_MostInHalves.C.tidy 30 s (fun s' => runC spec_MostInHalves.C (spec_MostInHalves.O N) N spec_MostInHalves.c31 31 s' spec_MostInHalves.K0)) spec_MostInHalves.K0))) .normal)) (onN Kn122 (blockK 0 (onN (fun s => spec_MostInHalves.C.tidy 30 s (fun s' => runC spec_MostInHalves.C (spec_MostInHalves.O N) N spec_MostInHalves.c31 31 s' spec_MostInHalves.K0)) spec_MostInHalves.K0)))))))) (blockK 1 (onN (fun s => spec_MostInHalves.C.tidy 978 s (spec_MostInHalves.B489 N Kn122)) (onN (fun s => spec_MostInHalves.C.tidy 122 s ((onN Kn122 (blockK 0 (onN (fun s => spec_MostInHalves.C.tidy 30 s (fun s' => runC spec_MostInHalves.C (spec_MostInHalves.O N) N spec_MostInHalves.c31 31 s' spec_MostInHalves.K0)) spec_MostInHalves.K0))) .normal)) (onN Kn122 (blockK 0 (onN (fun s => spec_MostInHalves.C.tidy 30 s (fun s' => runC spec_MostInHalves.C (spec_MostInHalves.O N) N spec_MostInHalves.c31 31 s' spec_MostInHalves.K0)) spec_MostInHalves.K0))))))))
noncomputable def spec_MostInHalves.l3 (N : Nat) : Nat → Int → Int → Int → Int → Int → Int → (List Int) → Int → Int → (Int → Int → Int → Int → Int → Option spec_MostInHalves.R) → Option spec_MostInHalves.R
  | 0, _, _, _, _, _, _, _, _, _, _ => none
  | n + 1, v0, v1, v2, v3, v4, v5, v6, v7, v8, c2 => spec_MostInHalves.d3 N v0 v1 v2 v3 v4 v5 v6 v7 v8 c2 ((fun w0 w1 w2 w3 w4 w5 w6 w7 w8 => spec_MostInHalves.l3 N n w0 w1 w2 w3 w4 w5 w6 w7 w8 c2))
theorem spec_MostInHalves.loop31306 (N : Nat) (Kn122 : St D0 → Option spec_MostInHalves.R) : ∀ n, (∀ (v0 : Int) (v1 : Int) (v2 : Int) (v3 : Int) (v4 : Int) (v5 : Int) (v6 : List Int) (v7 : Int) (v8 : Int), iter (loopF spec_MostInHalves.C (spec_MostInHalves.O N) N spec_MostInHalves.c62612 31306) n (mkSt [(0, .one (.int .i64 v0)), (1, .one (.int .i64 v1)), (7, .one (.int .i64 v2)), (8, .one (.int .i64 v3)), (9, .one (.int .i64 v4)), (10, .one (.int .i64 v5)), (32, .one (.sl true 3 v6)), (33, .one (.int .i64 v7)), (34, .one (.int .i64 v8))] [] : St D0) (spec_MostInHalves.K31306 N Kn122) = spec_MostInHalves.l3 N n v0 v1 v2 v3 v4 v5 v6 v7 v8 ((fun w0 w1 w2 w3 w4 => Kn122 (mkSt [(0, .one (.int .i64 w0)), (1, .one (.int .i64 w1)), (7, .one (.int .i64 w2)), (8, .one (.int .i64 w3)), (9, .one (.int .i64 w4))] [] : St D0))))
  | 0 => (fun v0 v1 v2 v3 v4 v5 v6 v7 v8 => rfl)
  | n + 1 => (fun v0 v1 v2 v3 v4 v5 v6 v7 v8 => (spec_MostInHalves.d3.run N Kn122 (fun s => iter (loopF spec_MostInHalves.C (spec_MostInHalves.O N) N spec_MostInHalves.c62612 31306) n s (spec_MostInHalves.K31306 N Kn122)) v0 v1 v2 v3 v4 v5 v6 v7 v8).trans (show _ = spec_MostInHalves.d3 N v0 v1 v2 v3 v4 v5 v6 v7 v8 ((fun w0 w1 w2 w3 w4 => Kn122 (mkSt [(0, .one (.int .i64 w0)), (1, .one (.int .i64 w1)), (7, .one (.int .i64 w2)), (8, .one (.int .i64 w3)), (9, .one (.int .i64 w4))] [] : St D0))) ((fun w0 w1 w2 w3 w4 w5 w6 w7 w8 => spec_MostInHalves.l3 N n w0 w1 w2 w3 w4 w5 w6 w7 w8 ((fun w0 w1 w2 w3 w4 => Kn122 (mkSt [(0, .one (.int .i64 w0)), (1, .one (.int .i64 w1)), (7, .one (.int .i64 w2)), (8, .one (.int .i64 w3)), (9, .one (.int .i64 w4))] [] : St D0))))) from (congr (congr rfl rfl) (funext fun w0 => funext fun w1 => funext fun w2 => funext fun w3 => funext fun w4 => funext fun w5 => funext fun w6 => funext fun w7 => funext fun w8 => (spec_MostInHalves.loop31306 N Kn122 n) w0 w1 w2 w3 w4 w5 w6 w7 w8))))
noncomputable def spec_MostInHalves.K244 (N : Nat) (Kn122 : St D0 → Option spec_MostInHalves.R) : Ex → St D0 → Option spec_MostInHalves.R := (onN (fun s => spec_MostInHalves.C.tidy 122 s ((onN Kn122 (blockK 0 (onN (fun s => spec_MostInHalves.C.tidy 30 s (fun s' => runC spec_MostInHalves.C (spec_MostInHalves.O N) N spec_MostInHalves.c31 31 s' spec_MostInHalves.K0)) spec_MostInHalves.K0))) .normal)) (onN Kn122 (blockK 0 (onN (fun s => spec_MostInHalves.C.tidy 30 s (fun s' => runC spec_MostInHalves.C (spec_MostInHalves.O N) N spec_MostInHalves.c31 31 s' spec_MostInHalves.K0)) spec_MostInHalves.K0))))
noncomputable def spec_MostInHalves.o2 (N : Nat) (v0 : Int) (v1 : Int) (v2 : Int) (v3 : Int) (v4 : Int) (c3 : Int → Int → Int → Int → Int → Int → (List Int) → Int → Int → Option spec_MostInHalves.R) : Option spec_MostInHalves.R :=
 bif (decide (v4 < (w64 (2 * v0)))) then
  (spec_stFrom.g N v0 v4 v1).bind fun r1 =>
  c3 v0 v1 v2 v3 v4 0 r1 (r1.length : Int) 0
 else
 some (v2, v3, true)
theorem spec_MostInHalves.o2.run (N : Nat) (Kn122 : St D0 → Option spec_MostInHalves.R) (H62612 : Code) (v0 : Int) (v1 : Int) (v2 : Int) (v3 : Int) (v4 : Int) : runC spec_MostInHalves.C (spec_MostInHalves.O N) N (.seq spec_MostInHalves.c488 (.seq (.block 1 (.seq spec_MostInHalves.c3912 (.seq (.seq spec_MostInHalves.c15652 (.block 2 (.loop H62612))) spec_MostInHalves.c7827))) spec_MostInHalves.c979)) 244 (mkSt [(0, .one (.int .i64 v0)), (1, .one (.int .i64 v1)), (7, .one (.int .i64 v2)), (8, .one (.int .i64 v3)), (9, .one (.int .i64 v4))] [] : St D0) (onN (fun s => spec_MostInHalves.C.tidy 122 s ((onN Kn122 (blockK 0 (onN (fun s => spec_MostInHalves.C.tidy 30 s (fun s' => runC spec_MostInHalves.C (spec_MostInHalves.O N) N spec_MostInHalves.c31 31 s' spec_MostInHalves.K0)) spec_MostInHalves.K0))) .normal)) (onN Kn122 (blockK 0 (onN (fun s => spec_MostInHalves.C.tidy 30 s (fun s' => runC spec_MostInHalves.C (spec_MostInHalves.O N) N spec_MostInHalves.c31 31 s' spec_MostInHalves.K0)) spec_MostInHalves.K0)))) = spec_MostInHalves.o2 N v0 v1 v2 v3 v4 ((fun w0 w1 w2 w3 w4 w5 w6 w7 w8 => iter (loopF spec_MostInHalves.C (spec_MostInHalves.O N) N H62612 31306) N (mkSt [(0, .one (.int .i64 w0)), (1, .one (.int .i64 w1)), (7, .one (.int .i64 w2)), (8, .one (.int .i64 w3)), (9, .one (.int .i64 w4)), (10, .one (.int .i64 w5)), (32, .one (.sl true 3 w6)), (33, .one (.int .i64 w7)), (34, .one (.int .i64 w8))] [] : St D0) (blockK 2 (onN (fun s => spec_MostInHalves.C.tidy 7826 s (fun s' => runC spec_MostInHalves.C (spec_MostInHalves.O N) N spec_MostInHalves.c7827 7827 s' (blockK 1 (onN (fun s => spec_MostInHalves.C.tidy 978 s (fun s' => runC spec_MostInHalves.C (spec_MostInHalves.O N) N spec_MostInHalves.c979 979 s' (onN (fun s => spec_MostInHalves.C.tidy 122 s ((onN Kn122 (blockK 0 (onN (fun s => spec_MostInHalves.C.tidy 30 s (fun s' => runC spec_MostInHalves.C (spec_MostInHalves.O N) N spec_MostInHalves.c31 31 s' spec_MostInHalves.K0)) spec_MostInHalves.K0))) .normal)) (onN Kn122 (blockK 0 (onN (fun s => spec_MostInHalves.C.tidy 30 s (fun s' => runC spec_MostInHalves.C (spec_MostInHalves.O N) N spec_MostInHalves.c31 31 s' spec_MostInHalves.K0)) spec_MostInHalves.K0)))))) (onN (fun s => spec_MostInHalves.C.tidy 122 s ((onN Kn122 (blockK 0 (onN (fun s => spec_MostInHalves.C.tidy 30 s (fun s' => runC spec_MostInHalves.C (spec_MostInHalves.O N) N spec_MostInHalves.c31 31 s' spec_MostInHalves.K0)) spec_MostInHalves.K0))) .normal)) (onN Kn122 (blockK 0 (onN (fun s => spec_MostInHalves.C.tidy 30 s (fun s' => runC spec_MostInHalves.C (spec_MostInHalves.O N) N spec_MostInHalves.c31 31 s' spec_MostInHalves.K0)) spec_MostInHalves.K0)))))))) (blockK 1 (onN (fun s => spec_MostInHalves.C.tidy 978 s (fun s' => runC spec_MostInHalves.C (spec_MostInHalves.O N) N spec_MostInHalves.c979 979 s' (onN (fun s => spec_MostInHalves.C.tidy 122 s ((onN Kn122 (blockK 0 (onN (fun s => spec_MostInHalves.C.tidy 30 s (fun s' => runC spec_MostInHalves.C (spec_MostInHalves.O N) N spec_MostInHalves.c31 31 s' spec_MostInHalves.K0)) spec_MostInHalves.K0))) .normal)) (onN Kn122 (blockK 0 (onN (fun s => spec_MostInHalves.C.tidy 30 s (fun s' => runC spec_MostInHalves.C (spec_MostInHalves.O N) N spec_MostInHalves.c31 31 s' spec_MostInHalves.K0)) spec_MostInHalves.K0)))))) (onN (fun s => spec_MostInHalves.C.tidy 122 s ((onN Kn122 (blockK 0 (onN (fun s => spec_MostInHalves.C.tidy 30 s (fun s' => runC spec_MostInHalves.C (spec_MostInHalves.O N) N spec_MostInHalves.c31 31 s' spec_MostInHalves.K0)) spec_MostInHalves.K0))) .normal)) (onN Kn122 (blockK 0 (onN (fun s => spec_MostInHalves.C.tidy 30 s (fun s' => runC spec_MostInHalves.C (spec_MostInHalves.O N) N spec_MostInHalves.c31 31 s' spec_MostInHalves.K0)) spec_MostInHalves.K0)))))))))) := by kernel_rfl
noncomputable def spec_MostInHalves.d2 (N : Nat) (v0 : Int) (v1 : Int) (v2 : Int) (v3 : Int) (v4 : Int) (c2 : Int → Int → Int → Int → Int → Option spec_MostInHalves.R) : Option spec_MostInHalves.R := spec_MostInHalves.o2 N v0 v1 v2 v3 v4 ((fun w0 w1 w2 w3 w4 w5 w6 w7 w8 => spec_MostInHalves.l3 N N w0 w1 w2 w3 w4 w5 w6 w7 w8 c2))
theorem spec_MostInHalves.c244_2 : spec_MostInHalves.c244 = (.seq spec_MostInHalves.c488 (.seq (.block 1 (.seq spec_MostInHalves.c3912 (.seq (.seq spec_MostInHalves.c15652 (.block 2 (.loop spec_MostInHalves.c62612))) spec_MostInHalves.c7827))) spec_MostInHalves.c979)) := by kernel_rfl
theorem spec_MostInHalves.d2.run (N : Nat) (Kn122 : St D0 → Option spec_MostInHalves.R) (v0 : Int) (v1 : Int) (v2 : Int) (v3 : Int) (v4 : Int) : runC spec_MostInHalves.C (spec_MostInHalves.O N) N spec_MostInHalves.c244 244 (mkSt [(0, .one (.int .i64 v0)), (1, .one (.int .i64 v1)), (7, .one (.int .i64 v2)), (8, .one (.int .i64 v3)), (9, .one (.int .i64 v4))] [] : St D0) (spec_MostInHalves.K244 N Kn122) = spec_MostInHalves.d2 N v0 v1 v2 v3 v4 ((fun w0 w1 w2 w3 w4 => Kn122 (mkSt [(0, .one (.int .i64 w0)), (1, .one (.int .i64 w1)), (7, .one (.int .i64 w2)), (8, .one (.int .i64 w3)), (9, .one (.int .i64 w4))] [] : St D0))) := by
  rw [spec_MostInHalves.c244_2]; unfold spec_MostInHalves.d2; exact (spec_MostInHalves.o2.run N Kn122 spec_MostInHalves.c62612 v0 v1 v2 v3 v4).trans (congr rfl (funext fun w0 => funext fun w1 => funext fun w2 => funext fun w3 => funext fun w4 => funext fun w5 => funext fun w6 => funext fun w7 => funext fun w8 => (spec_MostInHalves.loop31306 N Kn122 N) w0 w1 w2 w3 w4 w5 w6 w7 w8))
noncomputable def spec_MostInHalves.K122 (N : Nat) : Ex → St D0 → Option spec_MostInHalves.R := (blockK 0 (onN (fun s => spec_MostInHalves.C.tidy 30 s (fun s' => runC spec_MostInHalves.C (spec_MostInHalves.O N) N spec_MostInHalves.c31 31 s' spec_MostInHalves.K0)) spec_MostInHalves.K0))
noncomputable def spec_MostInHalves.l2 (N : Nat) : Nat → Int → Int → Int → Int → Int → Option spec_MostInHalves.R
  | 0, _, _, _, _, _ => none
  | n + 1, v0, v1, v2, v3, v4 => spec_MostInHalves.d2 N v0 v1 v2 v3 v4 ((fun w0 w1 w2 w3 w4 => spec_MostInHalves.l2 N n w0 w1 w2 w3 w4))
theorem spec_MostInHalves.loop122 (N : Nat) : ∀ n, (∀ (v0 : Int) (v1 : Int) (v2 : Int) (v3 : Int) (v4 : Int), iter (loopF spec_MostInHalves.C (spec_MostInHalves.O N) N spec_MostInHalves.c244 122) n (mkSt [(0, .one (.int .i64 v0)), (1, .one (.int .i64 v1)), (7, .one (.int .i64 v2)), (8, .one (.int .i64 v3)), (9, .one (.int .i64 v4))] [] : St D0) (spec_MostInHalves.K122 N) = spec_MostInHalves.l2 N n v0 v1 v2 v3 v4)
  | 0 => (fun v0 v1 v2 v3 v4 => rfl)
  | n + 1 => (fun v0 v1 v2 v3 v4 => (spec_MostInHalves.d2.run N (fun s => iter (loopF spec_MostInHalves.C (spec_MostInHalves.O N) N spec_MostInHalves.c244 122) n s (spec_MostInHalves.K122 N)) v0 v1 v2 v3 v4).trans (show _ = spec_MostInHalves.d2 N v0 v1 v2 v3 v4 ((fun w0 w1 w2 w3 w4 => spec_MostInHalves.l2 N n w0 w1 w2 w3 w4)) from (congr rfl (funext fun w0 => funext fun w1 => funext fun w2 => funext fun w3 => funext fun w4 => (spec_MostInHalves.loop122 N n) w0 w1 w2 w3 w4))))
noncomputable def spec_MostInHalves.K13 (N : Nat) : Ex → St D0 → Option spec_MostInHalves.R := (onN (fun s => spec_MostInHalves.C.tidy 6 s (fun s' => runC spec_MostInHalves.C (spec_MostInHalves.O N) N spec_MostInHalves.c7 7 s' spec_MostInHalves.K0)) spec_MostInHalves.K0)
noncomputable def spec_MostInHalves.o1 (N : Nat) (v0 : Int) (v1 : Int) (v2 : Bool) (c2 : Int → Int → Int → Int → Int → Option spec_MostInHalves.R) : Option spec_MostInHalves.R :=
 bif v2 then
  some (0, 0, false)
 else
 c2 v0 v1 0 0 0
theorem spec_MostInHalves.o1.run (N : Nat) (H244 : Code) (v0 : Int) (v1 : Int) (v2 : Bool) : runC spec_MostInHalves.C (spec_MostInHalves.O N) N spec_MostInHalves.c13 13 (mkSt [(0, .one (.int .i64 v0)), (1, .one (.int .i64 v1)), (22, .one (.bool v2))] [] : St D0) (onN (fun s => spec_MostInHalves.C.tidy 6 s (fun s' => runC spec_MostInHalves.C (spec_MostInHalves.O N) N (.seq spec_MostInHalves.c14 (.seq (.seq spec_MostInHalves.c60 (.block 0 (.loop H244))) spec_MostInHalves.c31)) 7 s' spec_MostInHalves.K0)) spec_MostInHalves.K0) = spec_MostInHalves.o1 N v0 v1 v2 ((fun w0 w1 w2 w3 w4 => iter (loopF spec_MostInHalves.C (spec_MostInHalves.O N) N H244 122) N (mkSt [(0, .one (.int .i64 w0)), (1, .one (.int .i64 w1)), (7, .one (.int .i64 w2)), (8, .one (.int .i64 w3)), (9, .one (.int .i64 w4))] [] : St D0) (blockK 0 (onN (fun s => spec_MostInHalves.C.tidy 30 s (fun s' => runC spec_MostInHalves.C (spec_MostInHalves.O N) N spec_MostInHalves.c31 31 s' spec_MostInHalves.K0)) spec_MostInHalves.K0)))) := by kernel_rfl
noncomputable def spec_MostInHalves.d1 (N : Nat) (v0 : Int) (v1 : Int) (v2 : Bool) : Option spec_MostInHalves.R := spec_MostInHalves.o1 N v0 v1 v2 ((fun w0 w1 w2 w3 w4 => spec_MostInHalves.l2 N N w0 w1 w2 w3 w4))
theorem spec_MostInHalves.d1.run (N : Nat) (v0 : Int) (v1 : Int) (v2 : Bool) : runC spec_MostInHalves.C (spec_MostInHalves.O N) N spec_MostInHalves.c13 13 (mkSt [(0, .one (.int .i64 v0)), (1, .one (.int .i64 v1)), (22, .one (.bool v2))] [] : St D0) (spec_MostInHalves.K13 N) = spec_MostInHalves.d1 N v0 v1 v2 := by
  unfold spec_MostInHalves.d1; exact (spec_MostInHalves.o1.run N spec_MostInHalves.c244 v0 v1 v2).trans (congr rfl (funext fun w0 => funext fun w1 => funext fun w2 => funext fun w3 => funext fun w4 => (spec_MostInHalves.loop122 N N) w0 w1 w2 w3 w4))
noncomputable def spec_MostInHalves.o0 (N : Nat) (a0 : Int) (a1 : Int) (c1 : Int → Int → Bool → Option spec_MostInHalves.R) : Option spec_MostInHalves.R :=
 (spec_diHours.g N a0).bind fun r1 =>
 bif (!r1) then
  c1 a0 a1 true
 else
 (spec_l1In.g N a1 1 (w64 (2 * a0))).bind fun r2 =>
 c1 a0 a1 (!r2)
theorem spec_MostInHalves.o0.run (N : Nat) (H13 : Code) (a0 : Int) (a1 : Int) : runC spec_MostInHalves.C (spec_MostInHalves.O N) N (.seq spec_MostInHalves.c2 (.seq (.seq spec_MostInHalves.c12 H13) spec_MostInHalves.c7)) 1 (st0 [.one (.int .i64 a0), .one (.int .i64 a1)] [] : St D0) spec_MostInHalves.K0 = spec_MostInHalves.o0 N a0 a1 ((fun w0 w1 w2 => runC spec_MostInHalves.C (spec_MostInHalves.O N) N H13 13 (mkSt [(0, .one (.int .i64 w0)), (1, .one (.int .i64 w1)), (22, .one (.bool w2))] [] : St D0) (onN (fun s => spec_MostInHalves.C.tidy 6 s (fun s' => runC spec_MostInHalves.C (spec_MostInHalves.O N) N spec_MostInHalves.c7 7 s' spec_MostInHalves.K0)) spec_MostInHalves.K0))) := by kernel_rfl
noncomputable def spec_MostInHalves.B6 (N : Nat) : St D0 → Option spec_MostInHalves.R := fun s' => runC spec_MostInHalves.C (spec_MostInHalves.O N) N spec_MostInHalves.c13 13 s' (spec_MostInHalves.K13 N)
noncomputable def spec_MostInHalves.g (N : Nat) (a0 : Int) (a1 : Int) : Option spec_MostInHalves.R := spec_MostInHalves.o0 N a0 a1 ((fun w0 w1 w2 => spec_MostInHalves.d1 N w0 w1 w2))
theorem spec_MostInHalves.c1_0 : spec_MostInHalves.c1 = (.seq spec_MostInHalves.c2 (.seq (.seq spec_MostInHalves.c12 spec_MostInHalves.c13) spec_MostInHalves.c7)) := by kernel_rfl
theorem spec_MostInHalves.g.run (N : Nat) (a0 : Int) (a1 : Int) : runC spec_MostInHalves.C (spec_MostInHalves.O N) N spec_MostInHalves.c1 1 (st0 [.one (.int .i64 a0), .one (.int .i64 a1)] [] : St D0) spec_MostInHalves.K0 = spec_MostInHalves.g N a0 a1 := by
  rw [spec_MostInHalves.c1_0]; unfold spec_MostInHalves.g; exact (spec_MostInHalves.o0.run N spec_MostInHalves.c13 a0 a1).trans (congr rfl (funext fun w0 => funext fun w1 => funext fun w2 => spec_MostInHalves.d1.run N w0 w1 w2))
theorem spec_MostInHalves.good (N : Nat) (a0 : Int) (a1 : Int) (r : spec_MostInHalves.R) (h : spec_MostInHalves.g N a0 a1 = some r) : Go.PM.Good Go.Proofs.Try.prog T0 15 [.one (.int .i64 a0), .one (.int .i64 a1)] [] (spec_MostInHalves.sig.ret r) (spec_MostInHalves.sig.bs r) :=
  good_fn tabOk0 mixed0 spec_MostInHalves.sig (spec_MostInHalves.E N) Go.Proofs.Try.func15 (by kernel_rfl) (by kernel_rfl) 17656681863155 0 0 [(12, [0, 1, 22], []), (122, [0, 1, 7, 8, 9], []), (978, [0, 1, 7, 8, 9], []), (31306, [0, 1, 7, 8, 9, 10, 32, 33, 34], [])] [(false, [.any]), (false, [.any]), (false, [.any])] (by kernel_rfl) rfl ((spec_MostInHalves.g.run N a0 a1).trans h)
noncomputable def spec_MostInHalves.ent (N : Nat) : Ent Go.Proofs.Try.prog T0 := mkEnt 15 [(false, [.any]), (false, [.any])] spec_MostInHalves.sig (fun t => spec_MostInHalves.g N t.1 t.2) (fun t r h => spec_MostInHalves.good N t.1 t.2 r h)
end Go.Proofs.Ytpemffldaepbpaa.M

namespace Go.Proofs.Ytpemffldaepbpaa.M
open Go Go.PM Go.Proofs.Ytpemffldaepbpaa.P
set_option linter.unusedVariables false
set_option maxRecDepth 100000
/-! ### spec_l1Cur_half -/
abbrev spec_l1Cur_half.R : Type := Int × Int × List Int × Int × Int
abbrev spec_l1Cur_half.sig : Sig := ⟨[(false, 1)], [(50, 3)], [.ptr 0 0, .sl false 5, .int .i64, .int .u64], [(false, 1), (false, 1)], [(50, 3)], [.int .i64, .int .i64, .sl false 5, .int .i64, .int .u64]⟩
noncomputable def spec_l1Cur_half.C : Cfg D0 := ⟨Go.Proofs.Try.prog, T0, 8221, 0, 23, 1, [(28, [0, 4, 13], [0])]⟩
noncomputable def spec_l1Cur_half.E (N : Nat) : List (Ent Go.Proofs.Try.prog T0) := [spec_l1Cur_hours.ent N, spec_diHours.ent N, spec_l1Cur_one.ent N, spec_l1Cur_among.ent N, spec_l1Cur_pick.ent N]
noncomputable def spec_l1Cur_half.O (N : Nat) : Orc D0 spec_l1Cur_half.R := orcOf (spec_l1Cur_half.E N)
noncomputable def spec_l1Cur_half.K0 : Ex → St D0 → Option spec_l1Cur_half.R := exitK spec_l1Cur_half.C Go.Proofs.Try.f52.results.toList [(false, [.any]), (false, [.any])] (decOut spec_l1Cur_half.sig)
noncomputable def spec_l1Cur_half.c1 : Code := codeAt (Go.Proofs.Try.f52.body.getD .skip) []
noncomputable def spec_l1Cur_half.c2 : Code := codeAt (Go.Proofs.Try.f52.body.getD .skip) [false]
noncomputable def spec_l1Cur_half.c6 : Code := codeAt (Go.Proofs.Try.f52.body.getD .skip) [true, false]
noncomputable def spec_l1Cur_half.c15 : Code := codeAt (Go.Proofs.Try.f52.body.getD .skip) [true, true, true]
noncomputable def spec_l1Cur_half.c28 : Code := codeAt (Go.Proofs.Try.f52.body.getD .skip) [true, true, false, false]
noncomputable def spec_l1Cur_half.c29 : Code := codeAt (Go.Proofs.Try.f52.body.getD .skip) [true, true, false, true]
noncomputable def spec_l1Cur_half.K29 (N : Nat) : Ex → St D0 → Option spec_l1Cur_half.R := (onN (fun s => spec_l1Cur_half.C.tidy 14 s (fun s' => runC spec_l1Cur_half.C (spec_l1Cur_half.O N) N spec_l1Cur_half.c15 15 s' spec_l1Cur_half.K0)) spec_l1Cur_half.K0)
noncomputable def spec_l1Cur_half.o1 (N : Nat) (v0 : Int) (v1 : Bool) (v2 : List Int) (v3 : Int) (v4 : Int) : Option spec_l1Cur_half.R :=
 bif v1 then
  (spec_l1Cur_among.g N ([(-1), 0, 48, 4611686018427387904] : List Int) v2 v3 v4).bind fun r1 =>
  some (v0, r1.1, r1.2.1, r1.2.2.1, r1.2.2.2)
 else
 (spec_l1Cur_pick.g N (w64 (2 * v0)) v2 v3 v4).bind fun r2 =>
 some (v0, r2.1, r2.2.1, r2.2.2.1, r2.2.2.2)
theorem spec_l1Cur_half.o1.run (N : Nat) (v0 : Int) (v1 : Bool) (v2 : List Int) (v3 : Int) (v4 : Int) : runC spec_l1Cur_half.C (spec_l1Cur_half.O N) N spec_l1Cur_half.c29 29 (mkSt [(0, .one (.ptr 0 0)), (4, .one (.int .i64 v0)), (13, .one (.bool v1))] [(0, some (50, [.sl false 5 v2, .int .i64 v3, .int .u64 v4]))] : St D0) (onN (fun s => spec_l1Cur_half.C.tidy 14 s (fun s' => runC spec_l1Cur_half.C (spec_l1Cur_half.O N) N spec_l1Cur_half.c15 15 s' spec_l1Cur_half.K0)) spec_l1Cur_half.K0) = spec_l1Cur_half.o1 N v0 v1 v2 v3 v4 := by kernel_rfl
noncomputable def spec_l1Cur_half.d1 (N : Nat) (v0 : Int) (v1 : Bool) (v2 : List Int) (v3 : Int) (v4 : Int) : Option spec_l1Cur_half.R := spec_l1Cur_half.o1 N v0 v1 v2 v3 v4
theorem spec_l1Cur_half.d1.run (N : Nat) (v0 : Int) (v1 : Bool) (v2 : List Int) (v3 : Int) (v4 : Int) : runC spec_l1Cur_half.C (spec_l1Cur_half.O N) N spec_l1Cur_half.c29 29 (mkSt [(0, .one (.ptr 0 0)), (4, .one (.int .i64 v0)), (13, .one (.bool v1))] [(0, some (50, [.sl false 5 v2, .int .i64 v3, .int .u64 v4]))] : St D0) (spec_l1Cur_half.K29 N) = spec_l1Cur_half.d1 N v0 v1 v2 v3 v4 := by
  exact (spec_l1Cur_half.o1.run N v0 v1 v2 v3 v4).trans rfl
noncomputable def spec_l1Cur_half.o0 (N : Nat) (b0_0 : List Int) (b0_1 : Int) (b0_2 : Int) (c1 : Int → Bool → (List Int) → Int → Int → Option spec_l1Cur_half.R) : Option spec_l1Cur_half.R :=
 (spec_l1Cur_hours.g N b0_0 b0_1 b0_2).bind fun r1 =>
 (spec_diHours.g N r1.1).bind fun r2 =>
 bif (!r2) then
  c1 r1.1 true r1.2.1 r1.2.2.1 r1.2.2.2
 else
 (spec_l1Cur_one.g N 14 r1.2.1 r1.2.2.1 r1.2.2.2).bind fun r3 =>
 c1 r1.1 r3.1 r3.2.1 r3.2.2.1 r3.2.2.2
theorem spec_l1Cur_half.o0.run (N : Nat) (H29 : Code) (b0_0 : List Int) (b0_1 : Int) (b0_2 : Int) : runC spec_l1Cur_half.C (spec_l1Cur_half.O N) N (.seq spec_l1Cur_half.c2 (.seq spec_l1Cur_half.c6 (.seq (.seq spec_l1Cur_half.c28 H29) spec_l1Cur_half.c15))) 1 (st0 [.one (.ptr 0 0)] [(50, [.sl false 5 b0_0, .int .i64 b0_1, .int .u64 b0_2])] : St D0) spec_l1Cur_half.K0 = spec_l1Cur_half.o0 N b0_0 b0_1 b0_2 ((fun w0 w1 w2 w3 w4 => runC spec_l1Cur_half.C (spec_l1Cur_half.O N) N H29 29 (mkSt [(0, .one (.ptr 0 0)), (4, .one (.int .i64 w0)), (13, .one (.bool w1))] [(0, some (50, [.sl false 5 w2, .int .i64 w3, .int .u64 w4]))] : St D0) (onN (fun s => spec_l1Cur_half.C.tidy 14 s (fun s' => runC spec_l1Cur_half.C (spec_l1Cur_half.O N) N spec_l1Cur_half.c15 15 s' spec_l1Cur_half.K0)) spec_l1Cur_half.K0))) := by kernel_rfl
noncomputable def spec_l1Cur_half.B14 (N : Nat) : St D0 → Option spec_l1Cur_half.R := fun s' => runC spec_l1Cur_half.C (spec_l1Cur_half.O N) N spec_l1Cur_half.c29 29 s' (spec_l1Cur_half.K29 N)
noncomputable def spec_l1Cur_half.g (N : Nat) (b0_0 : List Int) (b0_1 : Int) (b0_2 : Int) : Option spec_l1Cur_half.R := spec_l1Cur_half.o0 N b0_0 b0_1 b0_2 ((fun w0 w1 w2 w3 w4 => spec_l1Cur_half.d1 N w0 w1 w2 w3 w4))
theorem spec_l1Cur_half.c1_0 : spec_l1Cur_half.c1 = (.seq spec_l1Cur_half.c2 (.seq spec_l1Cur_half.c6 (.seq (.seq spec_l1Cur_half.c28 spec_l1Cur_half.c29) spec_l1Cur_half.c15))) := by kernel_rfl
theorem spec_l1Cur_half.g.run (N : Nat) (b0_0 : List Int) (b0_1 : Int) (b0_2 : Int) : runC spec_l1Cur_half.C (spec_l1Cur_half.O N) N spec_l1Cur_half.c1 1 (st0 [.one (.ptr 0 0)] [(50, [.sl false 5 b0_0, .int .i64 b0_1, .int .u64 b0_2])] : St D0) spec_l1Cur_half.K0 = spec_l1Cur_half.g N b0_0 b0_1 b0_2 := by
  rw [spec_l1Cur_half.c1_0]; unfold spec_l1Cur_half.g; exact (spec_l1Cur_half.o0.run N spec_l1Cur_half.c29 b0_0 b0_1 b0_2).trans (congr rfl (funext fun w0 => funext fun w1 => funext fun w2 => funext fun w3 => funext fun w4 => spec_l1Cur_half.d1.run N w0 w1 w2 w3 w4))
theorem spec_l1Cur_half.good (N : Nat) (b0_0 : List Int) (b0_1 : Int) (b0_2 : Int) (r : spec_l1Cur_half.R) (h : spec_l1Cur_half.g N b0_0 b0_1 b0_2 = some r) : Go.PM.Good Go.Proofs.Try.prog T0 52 [.one (.ptr 0 0)] [(50, [.sl false 5 b0_0, .int .i64 b0_1, .int .u64 b0_2])] (spec_l1Cur_half.sig.ret r) (spec_l1Cur_half.sig.bs r) :=
  good_fn tabOk0 mixed0 spec_l1Cur_half.sig (spec_l1Cur_half.E N) Go.Proofs.Try.func52 (by kernel_rfl) (by kernel_rfl) 8221 0 1 [(28, [0, 4, 13], [0])] [(false, [.any]), (false, [.any])] (by kernel_rfl) rfl ((spec_l1Cur_half.g.run N b0_0 b0_1 b0_2).trans h)
noncomputable def spec_l1Cur_half.ent (N : Nat) : Ent Go.Proofs.Try.prog T0 := mkEnt 52 [(false, [.any])] spec_l1Cur_half.sig (fun t => spec_l1Cur_half.g N t.2.1 t.2.2.1 t.2.2.2) (fun t r h => spec_l1Cur_half.good N t.2.1 t.2.2.1 t.2.2.2 r h)
end Go.Proofs.Ytpemffldaepbpaa.M

namespace Go.Proofs.Ytpemffldaepbpaa.M
open Go Go.PM Go.Proofs.Ytpemffldaepbpaa.P
set_option linter.unusedVariables false
set_option maxRecDepth 100000
/-! ### spec_DrawWaitForStrokes -/
abbrev spec_DrawWaitForStrokes.R : Type := Int × Int × Int
abbrev spec_DrawWaitForStrokes.sig : Sig := ⟨[(false, 1)], [], [.sl false 5], [(false, 1), (false, 1), (false, 1)], [], [.int .i64, .int .i64, .int .i64]⟩
noncomputable def spec_DrawWaitForStrokes.C : Cfg D0 := ⟨Go.Proofs.Try.prog, T0, 253, 0, 24, 0, []⟩
noncomputable def spec_DrawWaitForStrokes.E (N : Nat) : List (Ent Go.Proofs.Try.prog T0) := [spec_l1Cur_half.ent N, spec_l1Most.ent N, spec_l1Least.ent N, spec_l1Cur_pick.ent N]
noncomputable def spec_DrawWaitForStrokes.O (N : Nat) : Orc D0 spec_DrawWaitForStrokes.R := orcOf (spec_DrawWaitForStrokes.E N)
noncomputable def spec_DrawWaitForStrokes.K0 : Ex → St D0 → Option spec_DrawWaitForStrokes.R := exitK spec_DrawWaitForStrokes.C Go.Proofs.Try.f7.results.toList [(false, [.any]), (false, [.any]), (false, [.any])] (decOut spec_DrawWaitForStrokes.sig)
noncomputable def spec_DrawWaitForStrokes.c1 : Code := codeAt (Go.Proofs.Try.f7.body.getD .skip) []
noncomputable def spec_DrawWaitForStrokes.o0 (N : Nat) (a0 : List Int) : Option spec_DrawWaitForStrokes.R :=
 (spec_l1Cur_half.g N a0 0 0).bind fun r1 =>
 (spec_l1Most.g N 1 (w64 (r1.1 + 2))).bind fun r2 =>
 (spec_l1Least.g N 30 r2).bind fun r3 =>
 (spec_l1Cur_pick.g N r3 r1.2.2.1 r1.2.2.2.1 r1.2.2.2.2).bind fun r4 =>
 some (r1.1, r1.2.1, r4.1)
theorem spec_DrawWaitForStrokes.o0.run (N : Nat) (a0 : List Int) : runC spec_DrawWaitForStrokes.C (spec_DrawWaitForStrokes.O N) N spec_DrawWaitForStrokes.c1 1 (st0 [.one (.sl false 5 a0)] [] : St D0) spec_DrawWaitForStrokes.K0 = spec_DrawWaitForStrokes.o0 N a0 := by kernel_rfl
noncomputable def spec_DrawWaitForStrokes.g (N : Nat) (a0 : List Int) : Option spec_DrawWaitForStrokes.R := spec_DrawWaitForStrokes.o0 N a0
theorem spec_DrawWaitForStrokes.g.run (N : Nat) (a0 : List Int) : runC spec_DrawWaitForStrokes.C (spec_DrawWaitForStrokes.O N) N spec_DrawWaitForStrokes.c1 1 (st0 [.one (.sl false 5 a0)] [] : St D0) spec_DrawWaitForStrokes.K0 = spec_DrawWaitForStrokes.g N a0 := by
  exact (spec_DrawWaitForStrokes.o0.run N a0).trans rfl
theorem spec_DrawWaitForStrokes.good (N : Nat) (a0 : List Int) (r : spec_DrawWaitForStrokes.R) (h : spec_DrawWaitForStrokes.g N a0 = some r) : Go.PM.Good Go.Proofs.Try.prog T0 7 [.one (.sl false 5 a0)] [] (spec_DrawWaitForStrokes.sig.ret r) (spec_DrawWaitForStrokes.sig.bs r) :=
  good_fn tabOk0 mixed0 spec_DrawWaitForStrokes.sig (spec_DrawWaitForStrokes.E N) Go.Proofs.Try.func7 (by kernel_rfl) (by kernel_rfl) 253 0 0 [] [(false, [.any]), (false, [.any]), (false, [.any])] (by kernel_rfl) rfl ((spec_DrawWaitForStrokes.g.run N a0).trans h)
noncomputable def spec_DrawWaitForStrokes.ent (N : Nat) : Ent Go.Proofs.Try.prog T0 := mkEnt 7 [(false, [.ro 5])] spec_DrawWaitForStrokes.sig (fun t => spec_DrawWaitForStrokes.g N t) (fun t r h => spec_DrawWaitForStrokes.good N t r h)
end Go.Proofs.Ytpemffldaepbpaa.M

namespace Go.Proofs.Ytpemffldaepbpaa.M
open Go Go.PM Go.Proofs.Ytpemffldaepbpaa.P
set_option linter.unusedVariables false
set_option maxRecDepth 100000
/-! ### spec_DrawHeardFrom -/
abbrev spec_DrawHeardFrom.R : Type := Int × Int × Int
abbrev spec_DrawHeardFrom.sig : Sig := ⟨[(false, 1)], [], [.sl false 5], [(false, 1), (false, 1), (false, 1)], [], [.int .i64, .int .i64, .int .i64]⟩
noncomputable def spec_DrawHeardFrom.C : Cfg D0 := ⟨Go.Proofs.Try.prog, T0, 253, 0, 21, 0, []⟩
noncomputable def spec_DrawHeardFrom.E (N : Nat) : List (Ent Go.Proofs.Try.prog T0) := [spec_l1Cur_half.ent N, spec_l1Cur_among.ent N]
noncomputable def spec_DrawHeardFrom.O (N : Nat) : Orc D0 spec_DrawHeardFrom.R := orcOf (spec_DrawHeardFrom.E N)
noncomputable def spec_DrawHeardFrom.K0 : Ex → St D0 → Option spec_DrawHeardFrom.R := exitK spec_DrawHeardFrom.C Go.Proofs.Try.f10.results.toList [(false, [.any]), (false, [.any]), (false, [.any])] (decOut spec_DrawHeardFrom.sig)
noncomputable def spec_DrawHeardFrom.c1 : Code := codeAt (Go.Proofs.Try.f10.body.getD .skip) []
noncomputable def spec_DrawHeardFrom.o0 (N : Nat) (a0 : List Int) : Option spec_DrawHeardFrom.R :=
 (spec_l1Cur_half.g N a0 0 0).bind fun r1 =>
 (spec_l1Cur_among.g N ([1, 2, 3, 5, 60, 61, 0] : List Int) r1.2.2.1 r1.2.2.2.1 r1.2.2.2.2).bind fun r2 =>
 some (r1.1, r1.2.1, r2.1)
theorem spec_DrawHeardFrom.o0.run (N : Nat) (a0 : List Int) : runC spec_DrawHeardFrom.C (spec_DrawHeardFrom.O N) N spec_DrawHeardFrom.c1 1 (st0 [.one (.sl false 5 a0)] [] : St D0) spec_DrawHeardFrom.K0 = spec_DrawHeardFrom.o0 N a0 := by kernel_rfl
noncomputable def spec_DrawHeardFrom.g (N : Nat) (a0 : List Int) : Option spec_DrawHeardFrom.R := spec_DrawHeardFrom.o0 N a0
theorem spec_DrawHeardFrom.g.run (N : Nat) (a0 : List Int) : runC spec_DrawHeardFrom.C (spec_DrawHeardFrom.O N) N spec_DrawHeardFrom.c1 1 (st0 [.one (.sl false 5 a0)] [] : St D0) spec_DrawHeardFrom.K0 = spec_DrawHeardFrom.g N a0 := by
  exact (spec_DrawHeardFrom.o0.run N a0).trans rfl
theorem spec_DrawHeardFrom.good (N : Nat) (a0 : List Int) (r : spec_DrawHeardFrom.R) (h : spec_DrawHeardFrom.g N a0 = some r) : Go.PM.Good Go.Proofs.Try.prog T0 10 [.one (.sl false 5 a0)] [] (spec_DrawHeardFrom.sig.ret r) (spec_DrawHeardFrom.sig.bs r) :=
  good_fn tabOk0 mixed0 spec_DrawHeardFrom.sig (spec_DrawHeardFrom.E N) Go.Proofs.Try.func10 (by kernel_rfl) (by kernel_rfl) 253 0 0 [] [(false, [.any]), (false, [.any]), (false, [.any])] (by kernel_rfl) rfl ((spec_DrawHeardFrom.g.run N a0).trans h)
noncomputable def spec_DrawHeardFrom.ent (N : Nat) : Ent Go.Proofs.Try.prog T0 := mkEnt 10 [(false, [.ro 5])] spec_DrawHeardFrom.sig (fun t => spec_DrawHeardFrom.g N t) (fun t r h => spec_DrawHeardFrom.good N t r h)
end Go.Proofs.Ytpemffldaepbpaa.M

namespace Go.Proofs.Ytpemffldaepbpaa.M
open Go Go.PM Go.Proofs.Ytpemffldaepbpaa.P
set_option linter.unusedVariables false
set_option maxRecDepth 100000
/-! ### spec_DrawMostInHalves -/
abbrev spec_DrawMostInHalves.R : Type := Int × Int
abbrev spec_DrawMostInHalves.sig : Sig := ⟨[(false, 1)], [], [.sl false 5], [(false, 1), (false, 1)], [], [.int .i64, .int .i64]⟩
noncomputable def spec_DrawMostInHalves.C : Cfg D0 := ⟨Go.Proofs.Try.prog, T0, 61, 0, 19, 0, []⟩
noncomputable def spec_DrawMostInHalves.E (N : Nat) : List (Ent Go.Proofs.Try.prog T0) := [spec_l1Cur_hours.ent N, spec_l1Most.ent N, spec_l1Least.ent N, spec_l1Cur_pick.ent N]
noncomputable def spec_DrawMostInHalves.O (N : Nat) : Orc D0 spec_DrawMostInHalves.R := orcOf (spec_DrawMostInHalves.E N)
noncomputable def spec_DrawMostInHalves.K0 : Ex → St D0 → Option spec_DrawMostInHalves.R := exitK spec_DrawMostInHalves.C Go.Proofs.Try.f13.results.toList [(false, [.any]), (false, [.any])] (decOut spec_DrawMostInHalves.sig)
noncomputable def spec_DrawMostInHalves.c1 : Code := codeAt (Go.Proofs.Try.f13.body.getD .skip) []
noncomputable def spec_DrawMostInHalves.o0 (N : Nat) (a0 : List Int) : Option spec_DrawMostInHalves.R :=
 (spec_l1Cur_hours.g N a0 0 0).bind fun r1 =>
 (spec_l1Most.g N 1 (w64 ((w64 (2 * r1.1)) + 2))).bind fun r2 =>
 (spec_l1Least.g N 60 r2).bind fun r3 =>
 (spec_l1Cur_pick.g N r3 r1.2.1 r1.2.2.1 r1.2.2.2).bind fun r4 =>
 some (r1.1, r4.1)
theorem spec_DrawMostInHalves.o0.run (N : Nat) (a0 : List Int) : runC spec_DrawMostInHalves.C (spec_DrawMostInHalves.O N) N spec_DrawMostInHalves.c1 1 (st0 [.one (.sl false 5 a0)] [] : St D0) spec_DrawMostInHalves.K0 = spec_DrawMostInHalves.o0 N a0 := by kernel_rfl
noncomputable def spec_DrawMostInHalves.g (N : Nat) (a0 : List Int) : Option spec_DrawMostInHalves.R := spec_DrawMostInHalves.o0 N a0
theorem spec_DrawMostInHalves.g.run (N : Nat) (a0 : List Int) : runC spec_DrawMostInHalves.C (spec_DrawMostInHalves.O N) N spec_DrawMostInHalves.c1 1 (st0 [.one (.sl false 5 a0)] [] : St D0) spec_DrawMostInHalves.K0 = spec_DrawMostInHalves.g N a0 := by
  exact (spec_DrawMostInHalves.o0.run N a0).trans rfl
theorem spec_DrawMostInHalves.good (N : Nat) (a0 : List Int) (r : spec_DrawMostInHalves.R) (h : spec_DrawMostInHalves.g N a0 = some r) : Go.PM.Good Go.Proofs.Try.prog T0 13 [.one (.sl false 5 a0)] [] (spec_DrawMostInHalves.sig.ret r) (spec_DrawMostInHalves.sig.bs r) :=
  good_fn tabOk0 mixed0 spec_DrawMostInHalves.sig (spec_DrawMostInHalves.E N) Go.Proofs.Try.func13 (by kernel_rfl) (by kernel_rfl) 61 0 0 [] [(false, [.any]), (false, [.any])] (by kernel_rfl) rfl ((spec_DrawMostInHalves.g.run N a0).trans h)
noncomputable def spec_DrawMostInHalves.ent (N : Nat) : Ent Go.Proofs.Try.prog T0 := mkEnt 13 [(false, [.ro 5])] spec_DrawMostInHalves.sig (fun t => spec_DrawMostInHalves.g N t) (fun t r h => spec_DrawMostInHalves.good N t r h)
end Go.Proofs.Ytpemffldaepbpaa.M

namespace Go.Proofs.Ytpemffldaepbpaa.M
open Go Go.PM Go.Proofs.Ytpemffldaepbpaa.P
set_option linter.unusedVariables false
set_option maxRecDepth 100000
/-! ### spec_DrawStrokesAt -/
abbrev spec_DrawStrokesAt.R : Type := Int × Int
abbrev spec_DrawStrokesAt.sig : Sig := ⟨[(false, 1)], [], [.sl false 5], [(false, 1), (false, 1)], [], [.int .i64, .int .i64]⟩
noncomputable def spec_DrawStrokesAt.C : Cfg D0 := ⟨Go.Proofs.Try.prog, T0, 29, 0, 12, 0, []⟩
noncomputable def spec_DrawStrokesAt.E (N : Nat) : List (Ent Go.Proofs.Try.prog T0) := [spec_l1Cur_half.ent N]
noncomputable def spec_DrawStrokesAt.O (N : Nat) : Orc D0 spec_DrawStrokesAt.R := orcOf (spec_DrawStrokesAt.E N)
noncomputable def spec_DrawStrokesAt.K0 : Ex → St D0 → Option spec_DrawStrokesAt.R := exitK spec_DrawStrokesAt.C Go.Proofs.Try.f16.results.toList [(false, [.any]), (false, [.any])] (decOut spec_DrawStrokesAt.sig)
noncomputable def spec_DrawStrokesAt.c1 : Code := codeAt (Go.Proofs.Try.f16.body.getD .skip) []
noncomputable def spec_DrawStrokesAt.o0 (N : Nat) (a0 : List Int) : Option spec_DrawStrokesAt.R :=
 (spec_l1Cur_half.g N a0 0 0).bind fun r1 =>
 some (r1.1, r1.2.1)
theorem spec_DrawStrokesAt.o0.run (N : Nat) (a0 : List Int) : runC spec_DrawStrokesAt.C (spec_DrawStrokesAt.O N) N spec_DrawStrokesAt.c1 1 (st0 [.one (.sl false 5 a0)] [] : St D0) spec_DrawStrokesAt.K0 = spec_DrawStrokesAt.o0 N a0 := by kernel_rfl
noncomputable def spec_DrawStrokesAt.g (N : Nat) (a0 : List Int) : Option spec_DrawStrokesAt.R := spec_DrawStrokesAt.o0 N a0
theorem spec_DrawStrokesAt.g.run (N : Nat) (a0 : List Int) : runC spec_DrawStrokesAt.C (spec_DrawStrokesAt.O N) N spec_DrawStrokesAt.c1 1 (st0 [.one (.sl false 5 a0)] [] : St D0) spec_DrawStrokesAt.K0 = spec_DrawStrokesAt.g N a0 := by
  exact (spec_DrawStrokesAt.o0.run N a0).trans rfl
theorem spec_DrawStrokesAt.good (N : Nat) (a0 : List Int) (r : spec_DrawStrokesAt.R) (h : spec_DrawStrokesAt.g N a0 = some r) : Go.PM.Good Go.Proofs.Try.prog T0 16 [.one (.sl false 5 a0)] [] (spec_DrawStrokesAt.sig.ret r) (spec_DrawStrokesAt.sig.bs r) :=
  good_fn tabOk0 mixed0 spec_DrawStrokesAt.sig (spec_DrawStrokesAt.E N) Go.Proofs.Try.func16 (by kernel_rfl) (by kernel_rfl) 29 0 0 [] [(false, [.any]), (false, [.any])] (by kernel_rfl) rfl ((spec_DrawStrokesAt.g.run N a0).trans h)
noncomputable def spec_DrawStrokesAt.ent (N : Nat) : Ent Go.Proofs.Try.prog T0 := mkEnt 16 [(false, [.ro 5])] spec_DrawStrokesAt.sig (fun t => spec_DrawStrokesAt.g N t) (fun t r h => spec_DrawStrokesAt.good N t r h)
end Go.Proofs.Ytpemffldaepbpaa.M

namespace Go.Proofs.Ytpemffldaepbpaa.M
open Go Go.PM Go.Proofs.Ytpemffldaepbpaa.P
set_option linter.unusedVariables false
set_option maxRecDepth 100000
/-! ### laws_big -/
abbrev laws_big.R : Type := Bool
abbrev laws_big.sig : Sig := ⟨[(false, 1), (false, 1)], [], [.sl false 5, .sl false 5], [(false, 1)], [], [.bool]⟩
noncomputable def laws_big.C : Cfg D0 := ⟨Go.Proofs.Try.prog, T0, 19, 0, 16, 0, []⟩
noncomputable def laws_big.E (N : Nat) : List (Ent Go.Proofs.Try.prog T0) := []
noncomputable def laws_big.O (N : Nat) : Orc D0 laws_big.R := orcOf (laws_big.E N)
noncomputable def laws_big.K0 : Ex → St D0 → Option laws_big.R := exitK laws_big.C Go.Proofs.Try.f6.results.toList [(false, [.any])] (decOut laws_big.sig)
noncomputable def laws_big.c1 : Code := codeAt (Go.Proofs.Try.f6.body.getD .skip) []
noncomputable def laws_big.o0 (N : Nat) (a0 : List Int) (a1 : List Int) : Option laws_big.R :=
 bif (decide ((a0.length : Int) > 1048576)) then
  some (true)
 else
 some ((decide ((a1.length : Int) > (w64 (1048576 - (a0.length : Int))))))
theorem laws_big.o0.run (N : Nat) (a0 : List Int) (a1 : List Int) : runC laws_big.C (laws_big.O N) N laws_big.c1 1 (st0 [.one (.sl false 5 a0), .one (.sl false 5 a1)] [] : St D0) laws_big.K0 = laws_big.o0 N a0 a1 := by kernel_rfl
noncomputable def laws_big.g (N : Nat) (a0 : List Int) (a1 : List Int) : Option laws_big.R := laws_big.o0 N a0 a1
theorem laws_big.g.run (N : Nat) (a0 : List Int) (a1 : List Int) : runC laws_big.C (laws_big.O N) N laws_big.c1 1 (st0 [.one (.sl false 5 a0), .one (.sl false 5 a1)] [] : St D0) laws_big.K0 = laws_big.g N a0 a1 := by
  exact (laws_big.o0.run N a0 a1).trans rfl
theorem laws_big.good (N : Nat) (a0 : List Int) (a1 : List Int) (r : laws_big.R) (h : laws_big.g N a0 a1 = some r) : Go.PM.Good Go.Proofs.Try.prog T0 6 [.one (.sl false 5 a0), .one (.sl false 5 a1)] [] (laws_big.sig.ret r) (laws_big.sig.bs r) :=
  good_fn tabOk0 mixed0 laws_big.sig (laws_big.E N) Go.Proofs.Try.func6 (by kernel_rfl) (by kernel_rfl) 19 0 0 [] [(false, [.any])] (by kernel_rfl) rfl ((laws_big.g.run N a0 a1).trans h)
noncomputable def laws_big.ent (N : Nat) : Ent Go.Proofs.Try.prog T0 := mkEnt 6 [(false, [.ro 5]), (false, [.ro 5])] laws_big.sig (fun t => laws_big.g N t.1 t.2) (fun t r h => laws_big.good N t.1 t.2 r h)
end Go.Proofs.Ytpemffldaepbpaa.M
