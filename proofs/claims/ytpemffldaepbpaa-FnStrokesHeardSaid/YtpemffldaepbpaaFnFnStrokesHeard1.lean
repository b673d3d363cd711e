/- What the program's functions compute, walked by the machine (part 1). No conditions but those stated. -/
import Derived.Test.YtpemffldaepbpaaPm3
import Derived.Test.YtpemffldaepbpaaProg
import Derived.Test.YtpemffldaepbpaaShelf
namespace Go.Proofs.Ytpemffldaepbpaa.M
open Go Go.PM
set_option linter.unusedVariables false
set_option maxRecDepth 100000
end Go.Proofs.Ytpemffldaepbpaa.M
namespace Go.Proofs.Ytpemffldaepbpaa.P
end Go.Proofs.Ytpemffldaepbpaa.P
namespace Go.Proofs.Ytpemffldaepbpaa.M
open Go Go.PM Go.Proofs.Ytpemffldaepbpaa.P
abbrev D0 : TypeId → Type
  | 3 => Int
  | 5 => Int
  | _ => Unit
def T0 : Tab D0 where
  size := fun e => match e with
    | 3 => 1
    | 5 => 1
    | _ => 0
  out := fun e x => match e, x with
    | 3, x => [.int .i64 x]
    | 5, x => [.int .u8 x]
    | _, _ => []
  inn := fun e ls => match e, ls with
    | 3, [.int .i64 x0] => some x0
    | 5, [.int .u8 x0] => some x0
    | _, _ => none
  kd := fun e => match e with
    | 3 => [13]
    | 5 => [14]
    | _ => []
theorem tabOk0 : TabOk T0 where
  out_len := by
    intro e x
    simp only [T0]
    split <;> first | rfl | (split <;> first | rfl | (rename_i h _ _ _ _; exact absurd HEq.rfl (fun h' => h _ rfl h')) | simp_all)
  kd_ok := by
    intro e x
    simp only [T0]
    split <;> first | rfl | (split <;> first | rfl | (rename_i h _ _ _ _; exact absurd HEq.rfl (fun h' => h _ rfl h')) | simp_all)
  inn_ok := by
    intro e ls x h C blk vs hF
    simp only [T0] at h
    split at h <;> first | (cases h; done) | (simp only [Option.some.injEq] at h; subst h; exact tab_inn hF rfl) | (split at h <;> first | (cases h; done) | (rename_i he; simp only [Option.some.injEq] at h; subst h; subst he; exact tab_inn_sl rfl hF))
theorem mixed0 : Go.Proofs.Try.prog.follows .mixedOrders = true := by kernel_rfl
end Go.Proofs.Ytpemffldaepbpaa.M

namespace Go.Proofs.Ytpemffldaepbpaa.M
open Go Go.PM Go.Proofs.Ytpemffldaepbpaa.P
set_option linter.unusedVariables false
set_option maxRecDepth 100000
/-! ### impl_within -/
abbrev impl_within.R : Type := Bool
abbrev impl_within.sig : Sig := ⟨[(false, 1), (false, 1), (false, 1)], [], [.int .i64, .int .i64, .int .i64], [(false, 1)], [], [.bool]⟩
noncomputable def impl_within.C : Cfg D0 := ⟨Go.Proofs.Try.prog, T0, 71, 0, 15, 0, [], 6528, false, []⟩
noncomputable def impl_within.E (N : Nat) : List (Ent Go.Proofs.Try.prog T0) := []
noncomputable def impl_within.O (N : Nat) : Orc D0 impl_within.R := orcOf (impl_within.E N)
noncomputable def impl_within.K0 : Ex → St D0 → Option impl_within.R := exitK impl_within.C Go.Proofs.Try.f57.results.toList [(false, [.any])] (decOut impl_within.sig)
noncomputable def impl_within.c1 : Code := codeAt (Go.Proofs.Try.f57.body.getD .skip) []
noncomputable def impl_within.o0 (N : Nat) (a0 : Int) (a1 : Int) (a2 : Int) : Option impl_within.R :=
 bif (decide (a0 ≥ a1)) then
  some ((decide (a0 ≤ a2)))
 else
 some (false)
theorem impl_within.o0.run (N : Nat) (a0 : Int) (a1 : Int) (a2 : Int) : runC impl_within.C (impl_within.O N) N impl_within.c1 1 (st0 [.one (.int .i64 a0), .one (.int .i64 a1), .one (.int .i64 a2)] [] : St D0) impl_within.K0 = impl_within.o0 N a0 a1 a2 := by kernel_rfl
noncomputable def impl_within.g (N : Nat) (a0 : Int) (a1 : Int) (a2 : Int) : Option impl_within.R := impl_within.o0 N a0 a1 a2
theorem impl_within.g.run (N : Nat) (a0 : Int) (a1 : Int) (a2 : Int) : runC impl_within.C (impl_within.O N) N impl_within.c1 1 (st0 [.one (.int .i64 a0), .one (.int .i64 a1), .one (.int .i64 a2)] [] : St D0) impl_within.K0 = impl_within.g N a0 a1 a2 := by
  exact (impl_within.o0.run N a0 a1 a2).trans rfl
theorem impl_within.good (N : Nat) (a0 : Int) (a1 : Int) (a2 : Int) (r : impl_within.R) (h : impl_within.g N a0 a1 a2 = some r) : Go.PM.Good Go.Proofs.Try.prog T0 57 [.one (.int .i64 a0), .one (.int .i64 a1), .one (.int .i64 a2)] [] (impl_within.sig.ret r) (impl_within.sig.bs r) :=
  good_fn tabOk0 mixed0 impl_within.sig (impl_within.E N) Go.Proofs.Try.func57 (by kernel_rfl) (by kernel_rfl) 71 0 0 [] 6528 false [] [(false, [.any])] (by kernel_rfl) rfl rfl ((impl_within.g.run N a0 a1 a2).trans h)
noncomputable def impl_within.ent (N : Nat) : Ent Go.Proofs.Try.prog T0 := mkEnt 57 [(false, [.any]), (false, [.any]), (false, [.any])] impl_within.sig (fun t => impl_within.g N t.1 t.2.1 t.2.2) (fun t r h => impl_within.good N t.1 t.2.1 t.2.2 r h)
end Go.Proofs.Ytpemffldaepbpaa.M

namespace Go.Proofs.Ytpemffldaepbpaa.M
open Go Go.PM Go.Proofs.Ytpemffldaepbpaa.P
set_option linter.unusedVariables false
set_option maxRecDepth 100000
/-! ### impl_isDial -/
abbrev impl_isDial.R : Type := Bool
abbrev impl_isDial.sig : Sig := ⟨[(false, 1)], [], [.int .i64], [(false, 1)], [], [.bool]⟩
noncomputable def impl_isDial.C : Cfg D0 := ⟨Go.Proofs.Try.prog, T0, 5, 0, 5, 0, [], 8, false, []⟩
noncomputable def impl_isDial.E (N : Nat) : List (Ent Go.Proofs.Try.prog T0) := [impl_within.ent N]
noncomputable def impl_isDial.O (N : Nat) : Orc D0 impl_isDial.R := orcOf (impl_isDial.E N)
noncomputable def impl_isDial.K0 : Ex → St D0 → Option impl_isDial.R := exitK impl_isDial.C Go.Proofs.Try.f66.results.toList [(false, [.any])] (decOut impl_isDial.sig)
noncomputable def impl_isDial.c1 : Code := codeAt (Go.Proofs.Try.f66.body.getD .skip) []
noncomputable def impl_isDial.o0 (N : Nat) (a0 : Int) : Option impl_isDial.R :=
 (impl_within.g N a0 2 24).bind fun r1 =>
 some (r1)
theorem impl_isDial.o0.run (N : Nat) (a0 : Int) : runC impl_isDial.C (impl_isDial.O N) N impl_isDial.c1 1 (st0 [.one (.int .i64 a0)] [] : St D0) impl_isDial.K0 = impl_isDial.o0 N a0 := by kernel_rfl
noncomputable def impl_isDial.g (N : Nat) (a0 : Int) : Option impl_isDial.R := impl_isDial.o0 N a0
theorem impl_isDial.g.run (N : Nat) (a0 : Int) : runC impl_isDial.C (impl_isDial.O N) N impl_isDial.c1 1 (st0 [.one (.int .i64 a0)] [] : St D0) impl_isDial.K0 = impl_isDial.g N a0 := by
  exact (impl_isDial.o0.run N a0).trans rfl
theorem impl_isDial.good (N : Nat) (a0 : Int) (r : impl_isDial.R) (h : impl_isDial.g N a0 = some r) : Go.PM.Good Go.Proofs.Try.prog T0 66 [.one (.int .i64 a0)] [] (impl_isDial.sig.ret r) (impl_isDial.sig.bs r) :=
  good_fn tabOk0 mixed0 impl_isDial.sig (impl_isDial.E N) Go.Proofs.Try.func66 (by kernel_rfl) (by kernel_rfl) 5 0 0 [] 8 false [] [(false, [.any])] (by kernel_rfl) rfl rfl ((impl_isDial.g.run N a0).trans h)
noncomputable def impl_isDial.ent (N : Nat) : Ent Go.Proofs.Try.prog T0 := mkEnt 66 [(false, [.any])] impl_isDial.sig (fun t => impl_isDial.g N t) (fun t r h => impl_isDial.good N t r h)
end Go.Proofs.Ytpemffldaepbpaa.M

namespace Go.Proofs.Ytpemffldaepbpaa.M
open Go Go.PM Go.Proofs.Ytpemffldaepbpaa.P
set_option linter.unusedVariables false
set_option maxRecDepth 100000
/-! ### impl_isHalf -/
abbrev impl_isHalf.R : Type := Bool
abbrev impl_isHalf.sig : Sig := ⟨[(false, 1), (false, 1)], [], [.int .i64, .int .i64], [(false, 1)], [], [.bool]⟩
noncomputable def impl_isHalf.C : Cfg D0 := ⟨Go.Proofs.Try.prog, T0, 19, 0, 14, 0, [], 800, false, []⟩
noncomputable def impl_isHalf.E (N : Nat) : List (Ent Go.Proofs.Try.prog T0) := [impl_isDial.ent N, impl_within.ent N]
noncomputable def impl_isHalf.O (N : Nat) : Orc D0 impl_isHalf.R := orcOf (impl_isHalf.E N)
noncomputable def impl_isHalf.K0 : Ex → St D0 → Option impl_isHalf.R := exitK impl_isHalf.C Go.Proofs.Try.f56.results.toList [(false, [.any])] (decOut impl_isHalf.sig)
noncomputable def impl_isHalf.c1 : Code := codeAt (Go.Proofs.Try.f56.body.getD .skip) []
noncomputable def impl_isHalf.o0 (N : Nat) (a0 : Int) (a1 : Int) : Option impl_isHalf.R :=
 (impl_isDial.g N a0).bind fun r1 =>
 bif r1 then
  (impl_within.g N a1 0 (w64 ((w64 (2 * a0)) - 1))).bind fun r2 =>
  some (r2)
 else
 some (false)
theorem impl_isHalf.o0.run (N : Nat) (a0 : Int) (a1 : Int) : runC impl_isHalf.C (impl_isHalf.O N) N impl_isHalf.c1 1 (st0 [.one (.int .i64 a0), .one (.int .i64 a1)] [] : St D0) impl_isHalf.K0 = impl_isHalf.o0 N a0 a1 := by kernel_rfl
noncomputable def impl_isHalf.g (N : Nat) (a0 : Int) (a1 : Int) : Option impl_isHalf.R := impl_isHalf.o0 N a0 a1
theorem impl_isHalf.g.run (N : Nat) (a0 : Int) (a1 : Int) : runC impl_isHalf.C (impl_isHalf.O N) N impl_isHalf.c1 1 (st0 [.one (.int .i64 a0), .one (.int .i64 a1)] [] : St D0) impl_isHalf.K0 = impl_isHalf.g N a0 a1 := by
  exact (impl_isHalf.o0.run N a0 a1).trans rfl
theorem impl_isHalf.good (N : Nat) (a0 : Int) (a1 : Int) (r : impl_isHalf.R) (h : impl_isHalf.g N a0 a1 = some r) : Go.PM.Good Go.Proofs.Try.prog T0 56 [.one (.int .i64 a0), .one (.int .i64 a1)] [] (impl_isHalf.sig.ret r) (impl_isHalf.sig.bs r) :=
  good_fn tabOk0 mixed0 impl_isHalf.sig (impl_isHalf.E N) Go.Proofs.Try.func56 (by kernel_rfl) (by kernel_rfl) 19 0 0 [] 800 false [] [(false, [.any])] (by kernel_rfl) rfl rfl ((impl_isHalf.g.run N a0 a1).trans h)
noncomputable def impl_isHalf.ent (N : Nat) : Ent Go.Proofs.Try.prog T0 := mkEnt 56 [(false, [.any]), (false, [.any])] impl_isHalf.sig (fun t => impl_isHalf.g N t.1 t.2) (fun t r h => impl_isHalf.good N t.1 t.2 r h)
end Go.Proofs.Ytpemffldaepbpaa.M

namespace Go.Proofs.Ytpemffldaepbpaa.M
open Go Go.PM Go.Proofs.Ytpemffldaepbpaa.P
set_option linter.unusedVariables false
set_option maxRecDepth 100000
/-! ### impl_strokes -/
abbrev impl_strokes.R : Type := Int
abbrev impl_strokes.sig : Sig := ⟨[(false, 1), (false, 1)], [], [.int .i64, .int .i64], [(false, 1)], [], [.int .i64]⟩
noncomputable def impl_strokes.C : Cfg D0 := ⟨Go.Proofs.Try.prog, T0, 8723, 0, 19, 0, [], 148576, false, []⟩
noncomputable def impl_strokes.E (N : Nat) : List (Ent Go.Proofs.Try.prog T0) := []
noncomputable def impl_strokes.O (N : Nat) : Orc D0 impl_strokes.R := orcOf (impl_strokes.E N)
noncomputable def impl_strokes.K0 : Ex → St D0 → Option impl_strokes.R := exitK impl_strokes.C Go.Proofs.Try.f58.results.toList [(false, [.any])] (decOut impl_strokes.sig)
noncomputable def impl_strokes.c1 : Code := codeAt (Go.Proofs.Try.f58.body.getD .skip) []
noncomputable def impl_strokes.o0 (N : Nat) (a0 : Int) (a1 : Int) : Option impl_strokes.R :=
 bif ((w64 (2 * a0)) == 0) then
  none
 else
 bif ((Int.tmod a1 (w64 (2 * a0))) == 0) then
  some (a0)
 else
 bif ((Int.tmod (Int.tmod a1 (w64 (2 * a0))) 2) == 1) then
  some (1)
 else
 some ((w64 (Int.tdiv (Int.tmod a1 (w64 (2 * a0))) 2)))
theorem impl_strokes.o0.run (N : Nat) (a0 : Int) (a1 : Int) : runC impl_strokes.C (impl_strokes.O N) N impl_strokes.c1 1 (st0 [.one (.int .i64 a0), .one (.int .i64 a1)] [] : St D0) impl_strokes.K0 = impl_strokes.o0 N a0 a1 := by kernel_rfl
noncomputable def impl_strokes.g (N : Nat) (a0 : Int) (a1 : Int) : Option impl_strokes.R := impl_strokes.o0 N a0 a1
theorem impl_strokes.g.run (N : Nat) (a0 : Int) (a1 : Int) : runC impl_strokes.C (impl_strokes.O N) N impl_strokes.c1 1 (st0 [.one (.int .i64 a0), .one (.int .i64 a1)] [] : St D0) impl_strokes.K0 = impl_strokes.g N a0 a1 := by
  exact (impl_strokes.o0.run N a0 a1).trans rfl
theorem impl_strokes.good (N : Nat) (a0 : Int) (a1 : Int) (r : impl_strokes.R) (h : impl_strokes.g N a0 a1 = some r) : Go.PM.Good Go.Proofs.Try.prog T0 58 [.one (.int .i64 a0), .one (.int .i64 a1)] [] (impl_strokes.sig.ret r) (impl_strokes.sig.bs r) :=
  good_fn tabOk0 mixed0 impl_strokes.sig (impl_strokes.E N) Go.Proofs.Try.func58 (by kernel_rfl) (by kernel_rfl) 8723 0 0 [] 148576 false [] [(false, [.any])] (by kernel_rfl) rfl rfl ((impl_strokes.g.run N a0 a1).trans h)
noncomputable def impl_strokes.ent (N : Nat) : Ent Go.Proofs.Try.prog T0 := mkEnt 58 [(false, [.any]), (false, [.any])] impl_strokes.sig (fun t => impl_strokes.g N t.1 t.2) (fun t r h => impl_strokes.good N t.1 t.2 r h)
end Go.Proofs.Ytpemffldaepbpaa.M

namespace Go.Proofs.Ytpemffldaepbpaa.M
open Go Go.PM Go.Proofs.Ytpemffldaepbpaa.P
set_option linter.unusedVariables false
set_option maxRecDepth 100000
/-! ### impl_heardFrom -/
abbrev impl_heardFrom.R : Type := List Int
abbrev impl_heardFrom.sig : Sig := ⟨[(false, 1), (false, 1), (false, 1)], [], [.int .i64, .int .i64, .int .i64], [(false, 1)], [], [.sl true 3]⟩
noncomputable def impl_heardFrom.C : Cfg D0 := ⟨Go.Proofs.Try.prog, T0, 7623, 0, 24, 0, [(58, [0, 1, 7, 10, 11], [])], 229376, false, []⟩
noncomputable def impl_heardFrom.E (N : Nat) : List (Ent Go.Proofs.Try.prog T0) := [impl_strokes.ent N]
noncomputable def impl_heardFrom.O (N : Nat) : Orc D0 impl_heardFrom.R := orcOf (impl_heardFrom.E N)
noncomputable def impl_heardFrom.K0 : Ex → St D0 → Option impl_heardFrom.R := exitK impl_heardFrom.C Go.Proofs.Try.f63.results.toList [(false, [.own 3])] (decOut impl_heardFrom.sig)
noncomputable def impl_heardFrom.c1 : Code := codeAt (Go.Proofs.Try.f63.body.getD .skip) []
noncomputable def impl_heardFrom.c2 : Code := codeAt (Go.Proofs.Try.f63.body.getD .skip) [false]
noncomputable def impl_heardFrom.c6 : Code := codeAt (Go.Proofs.Try.f63.body.getD .skip) [true, false]
noncomputable def impl_heardFrom.c15 : Code := codeAt (Go.Proofs.Try.f63.body.getD .skip) [true, true, true]
noncomputable def impl_heardFrom.c28 : Code := codeAt (Go.Proofs.Try.f63.body.getD .skip) [true, true, false, false]
noncomputable def impl_heardFrom.c116 : Code := codeAt (Go.Proofs.Try.f63.body.getD .skip) [true, true, false, true, false, false]
noncomputable def impl_heardFrom.K116 (N : Nat) (Kn58 : St D0 → Option impl_heardFrom.R) : Ex → St D0 → Option impl_heardFrom.R := (onN (fun s => impl_heardFrom.C.tidy 58 s ((onN Kn58 (blockK 0 (onN (fun s => impl_heardFrom.C.tidy 14 s (fun s' => runC impl_heardFrom.C (impl_heardFrom.O N) N impl_heardFrom.c15 15 s' impl_heardFrom.K0)) impl_heardFrom.K0))) .normal)) (onN Kn58 (blockK 0 (onN (fun s => impl_heardFrom.C.tidy 14 s (fun s' => runC impl_heardFrom.C (impl_heardFrom.O N) N impl_heardFrom.c15 15 s' impl_heardFrom.K0)) impl_heardFrom.K0))))
noncomputable def impl_heardFrom.o1 (N : Nat) (v0 : Int) (v1 : Int) (v2 : List Int) (v3 : Int) (v4 : Int) (c1 : Int → Int → (List Int) → Int → Int → Option impl_heardFrom.R) : Option impl_heardFrom.R :=
 bif (decide (v4 < v3)) then
  (impl_strokes.g N v0 (w64 (v1 + v4))).bind fun r1 =>
  bif (Nat.blt (v2.length + ([r1] : List Int).length) 17592186044416) then
   c1 v0 v1 (v2 ++ ([r1] : List Int)) v3 (w64 (v4 + 1))
  else
  none
 else
 some (v2)
theorem impl_heardFrom.o1.run (N : Nat) (Kn58 : St D0 → Option impl_heardFrom.R) (v0 : Int) (v1 : Int) (v2 : List Int) (v3 : Int) (v4 : Int) : runC impl_heardFrom.C (impl_heardFrom.O N) N impl_heardFrom.c116 116 (mkSt [(0, .one (.int .i64 v0)), (1, .one (.int .i64 v1)), (7, .one (.sl true 3 v2)), (10, .one (.int .i64 v3)), (11, .one (.int .i64 v4))] [] : St D0) (onN (fun s => impl_heardFrom.C.tidy 58 s ((onN Kn58 (blockK 0 (onN (fun s => impl_heardFrom.C.tidy 14 s (fun s' => runC impl_heardFrom.C (impl_heardFrom.O N) N impl_heardFrom.c15 15 s' impl_heardFrom.K0)) impl_heardFrom.K0))) .normal)) (onN Kn58 (blockK 0 (onN (fun s => impl_heardFrom.C.tidy 14 s (fun s' => runC impl_heardFrom.C (impl_heardFrom.O N) N impl_heardFrom.c15 15 s' impl_heardFrom.K0)) impl_heardFrom.K0)))) = impl_heardFrom.o1 N v0 v1 v2 v3 v4 ((fun w0 w1 w2 w3 w4 => Kn58 (mkSt [(0, .one (.int .i64 w0)), (1, .one (.int .i64 w1)), (7, .one (.sl true 3 w2)), (10, .one (.int .i64 w3)), (11, .one (.int .i64 w4))] [] : St D0))) := by kernel_rfl
noncomputable def impl_heardFrom.d1 (N : Nat) (v0 : Int) (v1 : Int) (v2 : List Int) (v3 : Int) (v4 : Int) (c1 : Int → Int → (List Int) → Int → Int → Option impl_heardFrom.R) : Option impl_heardFrom.R := impl_heardFrom.o1 N v0 v1 v2 v3 v4 c1
theorem impl_heardFrom.d1.run (N : Nat) (Kn58 : St D0 → Option impl_heardFrom.R) (v0 : Int) (v1 : Int) (v2 : List Int) (v3 : Int) (v4 : Int) : runC impl_heardFrom.C (impl_heardFrom.O N) N impl_heardFrom.c116 116 (mkSt [(0, .one (.int .i64 v0)), (1, .one (.int .i64 v1)), (7, .one (.sl true 3 v2)), (10, .one (.int .i64 v3)), (11, .one (.int .i64 v4))] [] : St D0) (impl_heardFrom.K116 N Kn58) = impl_heardFrom.d1 N v0 v1 v2 v3 v4 ((fun w0 w1 w2 w3 w4 => Kn58 (mkSt [(0, .one (.int .i64 w0)), (1, .one (.int .i64 w1)), (7, .one (.sl true 3 w2)), (10, .one (.int .i64 w3)), (11, .one (.int .i64 w4))] [] : St D0))) := by
  exact (impl_heardFrom.o1.run N Kn58 v0 v1 v2 v3 v4).trans rfl
noncomputable def impl_heardFrom.K58 (N : Nat) : Ex → St D0 → Option impl_heardFrom.R := (blockK 0 (onN (fun s => impl_heardFrom.C.tidy 14 s (fun s' => runC impl_heardFrom.C (impl_heardFrom.O N) N impl_heardFrom.c15 15 s' impl_heardFrom.K0)) impl_heardFrom.K0))
noncomputable def impl_heardFrom.l1 (N : Nat) : Nat → Int → Int → (List Int) → Int → Int → Option impl_heardFrom.R
  | 0, _, _, _, _, _ => none
  | n + 1, v0, v1, v2, v3, v4 => impl_heardFrom.d1 N v0 v1 v2 v3 v4 ((fun w0 w1 w2 w3 w4 => impl_heardFrom.l1 N n w0 w1 w2 w3 w4))
theorem impl_heardFrom.loop58 (N : Nat) : ∀ n, (∀ (v0 : Int) (v1 : Int) (v2 : List Int) (v3 : Int) (v4 : Int), iter (loopF impl_heardFrom.C (impl_heardFrom.O N) N impl_heardFrom.c116 58) n (mkSt [(0, .one (.int .i64 v0)), (1, .one (.int .i64 v1)), (7, .one (.sl true 3 v2)), (10, .one (.int .i64 v3)), (11, .one (.int .i64 v4))] [] : St D0) (impl_heardFrom.K58 N) = impl_heardFrom.l1 N n v0 v1 v2 v3 v4)
  | 0 => (fun v0 v1 v2 v3 v4 => rfl)
  | n + 1 => (fun v0 v1 v2 v3 v4 => (impl_heardFrom.d1.run N (fun s => iter (loopF impl_heardFrom.C (impl_heardFrom.O N) N impl_heardFrom.c116 58) n s (impl_heardFrom.K58 N)) v0 v1 v2 v3 v4).trans (show _ = impl_heardFrom.d1 N v0 v1 v2 v3 v4 ((fun w0 w1 w2 w3 w4 => impl_heardFrom.l1 N n w0 w1 w2 w3 w4)) from (congr rfl (funext fun w0 => funext fun w1 => funext fun w2 => funext fun w3 => funext fun w4 => (impl_heardFrom.loop58 N n) w0 w1 w2 w3 w4))))
noncomputable def impl_heardFrom.o0 (N : Nat) (a0 : Int) (a1 : Int) (a2 : Int) (c1 : Int → Int → (List Int) → Int → Int → Option impl_heardFrom.R) : Option impl_heardFrom.R :=
 c1 a0 a1 ([] : List Int) a2 0
theorem impl_heardFrom.o0.run (N : Nat) (H116 : Code) (a0 : Int) (a1 : Int) (a2 : Int) : runC impl_heardFrom.C (impl_heardFrom.O N) N (.seq impl_heardFrom.c2 (.seq impl_heardFrom.c6 (.seq (.seq impl_heardFrom.c28 (.block 0 (.loop H116))) impl_heardFrom.c15))) 1 (st0 [.one (.int .i64 a0), .one (.int .i64 a1), .one (.int .i64 a2)] [] : St D0) impl_heardFrom.K0 = impl_heardFrom.o0 N a0 a1 a2 ((fun w0 w1 w2 w3 w4 => iter (loopF impl_heardFrom.C (impl_heardFrom.O N) N H116 58) N (mkSt [(0, .one (.int .i64 w0)), (1, .one (.int .i64 w1)), (7, .one (.sl true 3 w2)), (10, .one (.int .i64 w3)), (11, .one (.int .i64 w4))] [] : St D0) (blockK 0 (onN (fun s => impl_heardFrom.C.tidy 14 s (fun s' => runC impl_heardFrom.C (impl_heardFrom.O N) N impl_heardFrom.c15 15 s' impl_heardFrom.K0)) impl_heardFrom.K0)))) := by kernel_rfl
noncomputable def impl_heardFrom.g (N : Nat) (a0 : Int) (a1 : Int) (a2 : Int) : Option impl_heardFrom.R := impl_heardFrom.o0 N a0 a1 a2 ((fun w0 w1 w2 w3 w4 => impl_heardFrom.l1 N N w0 w1 w2 w3 w4))
theorem impl_heardFrom.c1_0 : impl_heardFrom.c1 = (.seq impl_heardFrom.c2 (.seq impl_heardFrom.c6 (.seq (.seq impl_heardFrom.c28 (.block 0 (.loop impl_heardFrom.c116))) impl_heardFrom.c15))) := by kernel_rfl
theorem impl_heardFrom.g.run (N : Nat) (a0 : Int) (a1 : Int) (a2 : Int) : runC impl_heardFrom.C (impl_heardFrom.O N) N impl_heardFrom.c1 1 (st0 [.one (.int .i64 a0), .one (.int .i64 a1), .one (.int .i64 a2)] [] : St D0) impl_heardFrom.K0 = impl_heardFrom.g N a0 a1 a2 := by
  rw [impl_heardFrom.c1_0]; unfold impl_heardFrom.g; exact (impl_heardFrom.o0.run N impl_heardFrom.c116 a0 a1 a2).trans (congr rfl (funext fun w0 => funext fun w1 => funext fun w2 => funext fun w3 => funext fun w4 => (impl_heardFrom.loop58 N N) w0 w1 w2 w3 w4))
theorem impl_heardFrom.good (N : Nat) (a0 : Int) (a1 : Int) (a2 : Int) (r : impl_heardFrom.R) (h : impl_heardFrom.g N a0 a1 a2 = some r) : Go.PM.Good Go.Proofs.Try.prog T0 63 [.one (.int .i64 a0), .one (.int .i64 a1), .one (.int .i64 a2)] [] (impl_heardFrom.sig.ret r) (impl_heardFrom.sig.bs r) :=
  good_fn tabOk0 mixed0 impl_heardFrom.sig (impl_heardFrom.E N) Go.Proofs.Try.func63 (by kernel_rfl) (by kernel_rfl) 7623 0 0 [(58, [0, 1, 7, 10, 11], [])] 229376 false [] [(false, [.own 3])] (by kernel_rfl) rfl rfl ((impl_heardFrom.g.run N a0 a1 a2).trans h)
noncomputable def impl_heardFrom.ent (N : Nat) : Ent Go.Proofs.Try.prog T0 := mkEnt 63 [(false, [.any]), (false, [.any]), (false, [.any])] impl_heardFrom.sig (fun t => impl_heardFrom.g N t.1 t.2.1 t.2.2) (fun t r h => impl_heardFrom.good N t.1 t.2.1 t.2.2 r h)
end Go.Proofs.Ytpemffldaepbpaa.M

namespace Go.Proofs.Ytpemffldaepbpaa.M
open Go Go.PM Go.Proofs.Ytpemffldaepbpaa.P
set_option linter.unusedVariables false
set_option maxRecDepth 100000
/-! ### impl_HeardFrom -/
abbrev impl_HeardFrom.R : Type := List Int × Bool
abbrev impl_HeardFrom.sig : Sig := ⟨[(false, 1), (false, 1), (false, 1)], [], [.int .i64, .int .i64, .int .i64], [(false, 1), (false, 1)], [], [.sl true 3, .bool]⟩
noncomputable def impl_HeardFrom.C : Cfg D0 := ⟨Go.Proofs.Try.prog, T0, 65735, 0, 21, 0, [(12, [0, 1, 2, 16], [])], 926464, false, []⟩
noncomputable def impl_HeardFrom.E (N : Nat) : List (Ent Go.Proofs.Try.prog T0) := [impl_isHalf.ent N, impl_within.ent N, impl_heardFrom.ent N]
noncomputable def impl_HeardFrom.O (N : Nat) : Orc D0 impl_HeardFrom.R := orcOf (impl_HeardFrom.E N)
noncomputable def impl_HeardFrom.K0 : Ex → St D0 → Option impl_HeardFrom.R := exitK impl_HeardFrom.C Go.Proofs.Try.f11.results.toList [(false, [.own 3]), (false, [.any])] (decOut impl_HeardFrom.sig)
noncomputable def impl_HeardFrom.c1 : Code := codeAt (Go.Proofs.Try.f11.body.getD .skip) []
noncomputable def impl_HeardFrom.c2 : Code := codeAt (Go.Proofs.Try.f11.body.getD .skip) [false]
noncomputable def impl_HeardFrom.c7 : Code := codeAt (Go.Proofs.Try.f11.body.getD .skip) [true, true]
noncomputable def impl_HeardFrom.c12 : Code := codeAt (Go.Proofs.Try.f11.body.getD .skip) [true, false, false]
noncomputable def impl_HeardFrom.c13 : Code := codeAt (Go.Proofs.Try.f11.body.getD .skip) [true, false, true]
noncomputable def impl_HeardFrom.K13 (N : Nat) : Ex → St D0 → Option impl_HeardFrom.R := (onN (fun s => impl_HeardFrom.C.tidy 6 s (fun s' => runC impl_HeardFrom.C (impl_HeardFrom.O N) N impl_HeardFrom.c7 7 s' impl_HeardFrom.K0)) impl_HeardFrom.K0)
noncomputable def impl_HeardFrom.o1 (N : Nat) (v0 : Int) (v1 : Int) (v2 : Int) (v3 : Bool) : Option impl_HeardFrom.R :=
 bif v3 then
  some (([] : List Int), false)
 else
 (impl_heardFrom.g N v0 v1 v2).bind fun r1 =>
 some (r1, true)
theorem impl_HeardFrom.o1.run (N : Nat) (v0 : Int) (v1 : Int) (v2 : Int) (v3 : Bool) : runC impl_HeardFrom.C (impl_HeardFrom.O N) N impl_HeardFrom.c13 13 (mkSt [(0, .one (.int .i64 v0)), (1, .one (.int .i64 v1)), (2, .one (.int .i64 v2)), (16, .one (.bool v3))] [] : St D0) (onN (fun s => impl_HeardFrom.C.tidy 6 s (fun s' => runC impl_HeardFrom.C (impl_HeardFrom.O N) N impl_HeardFrom.c7 7 s' impl_HeardFrom.K0)) impl_HeardFrom.K0) = impl_HeardFrom.o1 N v0 v1 v2 v3 := by kernel_rfl
noncomputable def impl_HeardFrom.d1 (N : Nat) (v0 : Int) (v1 : Int) (v2 : Int) (v3 : Bool) : Option impl_HeardFrom.R := impl_HeardFrom.o1 N v0 v1 v2 v3
theorem impl_HeardFrom.d1.run (N : Nat) (v0 : Int) (v1 : Int) (v2 : Int) (v3 : Bool) : runC impl_HeardFrom.C (impl_HeardFrom.O N) N impl_HeardFrom.c13 13 (mkSt [(0, .one (.int .i64 v0)), (1, .one (.int .i64 v1)), (2, .one (.int .i64 v2)), (16, .one (.bool v3))] [] : St D0) (impl_HeardFrom.K13 N) = impl_HeardFrom.d1 N v0 v1 v2 v3 := by
  exact (impl_HeardFrom.o1.run N v0 v1 v2 v3).trans rfl
noncomputable def impl_HeardFrom.o0 (N : Nat) (a0 : Int) (a1 : Int) (a2 : Int) (c1 : Int → Int → Int → Bool → Option impl_HeardFrom.R) : Option impl_HeardFrom.R :=
 (impl_isHalf.g N a0 a1).bind fun r1 =>
 bif (!r1) then
  c1 a0 a1 a2 true
 else
 (impl_within.g N a2 1 60).bind fun r2 =>
 c1 a0 a1 a2 (!r2)
theorem impl_HeardFrom.o0.run (N : Nat) (H13 : Code) (a0 : Int) (a1 : Int) (a2 : Int) : runC impl_HeardFrom.C (impl_HeardFrom.O N) N (.seq impl_HeardFrom.c2 (.seq (.seq impl_HeardFrom.c12 H13) impl_HeardFrom.c7)) 1 (st0 [.one (.int .i64 a0), .one (.int .i64 a1), .one (.int .i64 a2)] [] : St D0) impl_HeardFrom.K0 = impl_HeardFrom.o0 N a0 a1 a2 ((fun w0 w1 w2 w3 => runC impl_HeardFrom.C (impl_HeardFrom.O N) N H13 13 (mkSt [(0, .one (.int .i64 w0)), (1, .one (.int .i64 w1)), (2, .one (.int .i64 w2)), (16, .one (.bool w3))] [] : St D0) (onN (fun s => impl_HeardFrom.C.tidy 6 s (fun s' => runC impl_HeardFrom.C (impl_HeardFrom.O N) N impl_HeardFrom.c7 7 s' impl_HeardFrom.K0)) impl_HeardFrom.K0))) := by kernel_rfl
noncomputable def impl_HeardFrom.B6 (N : Nat) : St D0 → Option impl_HeardFrom.R := fun s' => runC impl_HeardFrom.C (impl_HeardFrom.O N) N impl_HeardFrom.c13 13 s' (impl_HeardFrom.K13 N)
noncomputable def impl_HeardFrom.g (N : Nat) (a0 : Int) (a1 : Int) (a2 : Int) : Option impl_HeardFrom.R := impl_HeardFrom.o0 N a0 a1 a2 ((fun w0 w1 w2 w3 => impl_HeardFrom.d1 N w0 w1 w2 w3))
theorem impl_HeardFrom.c1_0 : impl_HeardFrom.c1 = (.seq impl_HeardFrom.c2 (.seq (.seq impl_HeardFrom.c12 impl_HeardFrom.c13) impl_HeardFrom.c7)) := by kernel_rfl
theorem impl_HeardFrom.g.run (N : Nat) (a0 : Int) (a1 : Int) (a2 : Int) : runC impl_HeardFrom.C (impl_HeardFrom.O N) N impl_HeardFrom.c1 1 (st0 [.one (.int .i64 a0), .one (.int .i64 a1), .one (.int .i64 a2)] [] : St D0) impl_HeardFrom.K0 = impl_HeardFrom.g N a0 a1 a2 := by
  rw [impl_HeardFrom.c1_0]; unfold impl_HeardFrom.g; exact (impl_HeardFrom.o0.run N impl_HeardFrom.c13 a0 a1 a2).trans (congr rfl (funext fun w0 => funext fun w1 => funext fun w2 => funext fun w3 => impl_HeardFrom.d1.run N w0 w1 w2 w3))
theorem impl_HeardFrom.good (N : Nat) (a0 : Int) (a1 : Int) (a2 : Int) (r : impl_HeardFrom.R) (h : impl_HeardFrom.g N a0 a1 a2 = some r) : Go.PM.Good Go.Proofs.Try.prog T0 11 [.one (.int .i64 a0), .one (.int .i64 a1), .one (.int .i64 a2)] [] (impl_HeardFrom.sig.ret r) (impl_HeardFrom.sig.bs r) :=
  good_fn tabOk0 mixed0 impl_HeardFrom.sig (impl_HeardFrom.E N) Go.Proofs.Try.func11 (by kernel_rfl) (by kernel_rfl) 65735 0 0 [(12, [0, 1, 2, 16], [])] 926464 false [] [(false, [.own 3]), (false, [.any])] (by kernel_rfl) rfl rfl ((impl_HeardFrom.g.run N a0 a1 a2).trans h)
noncomputable def impl_HeardFrom.ent (N : Nat) : Ent Go.Proofs.Try.prog T0 := mkEnt 11 [(false, [.any]), (false, [.any]), (false, [.any])] impl_HeardFrom.sig (fun t => impl_HeardFrom.g N t.1 t.2.1 t.2.2) (fun t r h => impl_HeardFrom.good N t.1 t.2.1 t.2.2 r h)
end Go.Proofs.Ytpemffldaepbpaa.M

namespace Go.Proofs.Ytpemffldaepbpaa.M
open Go Go.PM Go.Proofs.Ytpemffldaepbpaa.P
set_option linter.unusedVariables false
set_option maxRecDepth 100000
/-! ### spec_stAt -/
abbrev spec_stAt.R : Type := Int
abbrev spec_stAt.sig : Sig := ⟨[(false, 1), (false, 1)], [], [.int .i64, .int .i64], [(false, 1)], [], [.int .i64]⟩
noncomputable def spec_stAt.C : Cfg D0 := ⟨Go.Proofs.Try.prog, T0, 563, 0, 15, 0, [], 9280, false, []⟩
noncomputable def spec_stAt.E (N : Nat) : List (Ent Go.Proofs.Try.prog T0) := []
noncomputable def spec_stAt.O (N : Nat) : Orc D0 spec_stAt.R := orcOf (spec_stAt.E N)
noncomputable def spec_stAt.K0 : Ex → St D0 → Option spec_stAt.R := exitK spec_stAt.C Go.Proofs.Try.f61.results.toList [(false, [.any])] (decOut spec_stAt.sig)
noncomputable def spec_stAt.c1 : Code := codeAt (Go.Proofs.Try.f61.body.getD .skip) []
noncomputable def spec_stAt.o0 (N : Nat) (a0 : Int) (a1 : Int) : Option spec_stAt.R :=
 bif ((Int.tmod a1 2) == 1) then
  some (1)
 else
 bif (a1 == 0) then
  some (a0)
 else
 some ((w64 (Int.tdiv a1 2)))
theorem spec_stAt.o0.run (N : Nat) (a0 : Int) (a1 : Int) : runC spec_stAt.C (spec_stAt.O N) N spec_stAt.c1 1 (st0 [.one (.int .i64 a0), .one (.int .i64 a1)] [] : St D0) spec_stAt.K0 = spec_stAt.o0 N a0 a1 := by kernel_rfl
noncomputable def spec_stAt.g (N : Nat) (a0 : Int) (a1 : Int) : Option spec_stAt.R := spec_stAt.o0 N a0 a1
theorem spec_stAt.g.run (N : Nat) (a0 : Int) (a1 : Int) : runC spec_stAt.C (spec_stAt.O N) N spec_stAt.c1 1 (st0 [.one (.int .i64 a0), .one (.int .i64 a1)] [] : St D0) spec_stAt.K0 = spec_stAt.g N a0 a1 := by
  exact (spec_stAt.o0.run N a0 a1).trans rfl
theorem spec_stAt.good (N : Nat) (a0 : Int) (a1 : Int) (r : spec_stAt.R) (h : spec_stAt.g N a0 a1 = some r) : Go.PM.Good Go.Proofs.Try.prog T0 61 [.one (.int .i64 a0), .one (.int .i64 a1)] [] (spec_stAt.sig.ret r) (spec_stAt.sig.bs r) :=
  good_fn tabOk0 mixed0 spec_stAt.sig (spec_stAt.E N) Go.Proofs.Try.func61 (by kernel_rfl) (by kernel_rfl) 563 0 0 [] 9280 false [] [(false, [.any])] (by kernel_rfl) rfl rfl ((spec_stAt.g.run N a0 a1).trans h)
noncomputable def spec_stAt.ent (N : Nat) : Ent Go.Proofs.Try.prog T0 := mkEnt 61 [(false, [.any]), (false, [.any])] spec_stAt.sig (fun t => spec_stAt.g N t.1 t.2) (fun t r h => spec_stAt.good N t.1 t.2 r h)
end Go.Proofs.Ytpemffldaepbpaa.M

namespace Go.Proofs.Ytpemffldaepbpaa.M
open Go Go.PM Go.Proofs.Ytpemffldaepbpaa.P
set_option linter.unusedVariables false
set_option maxRecDepth 100000
/-! ### spec_stFrom -/
abbrev spec_stFrom.R : Type := List Int
abbrev spec_stFrom.sig : Sig := ⟨[(false, 1), (false, 1), (false, 1)], [], [.int .i64, .int .i64, .int .i64], [(false, 1)], [], [.sl true 3]⟩
noncomputable def spec_stFrom.C : Cfg D0 := ⟨Go.Proofs.Try.prog, T0, 2503, 0, 26, 0, [(58, [0, 1, 2, 7, 8], [])], 759296, false, []⟩
noncomputable def spec_stFrom.E (N : Nat) : List (Ent Go.Proofs.Try.prog T0) := [spec_stAt.ent N]
noncomputable def spec_stFrom.O (N : Nat) : Orc D0 spec_stFrom.R := orcOf (spec_stFrom.E N)
noncomputable def spec_stFrom.K0 : Ex → St D0 → Option spec_stFrom.R := exitK spec_stFrom.C Go.Proofs.Try.f64.results.toList [(false, [.own 3])] (decOut spec_stFrom.sig)
noncomputable def spec_stFrom.c1 : Code := codeAt (Go.Proofs.Try.f64.body.getD .skip) []
noncomputable def spec_stFrom.c2 : Code := codeAt (Go.Proofs.Try.f64.body.getD .skip) [false]
noncomputable def spec_stFrom.c6 : Code := codeAt (Go.Proofs.Try.f64.body.getD .skip) [true, false]
noncomputable def spec_stFrom.c15 : Code := codeAt (Go.Proofs.Try.f64.body.getD .skip) [true, true, true]
noncomputable def spec_stFrom.c28 : Code := codeAt (Go.Proofs.Try.f64.body.getD .skip) [true, true, false, false]
noncomputable def spec_stFrom.c116 : Code := codeAt (Go.Proofs.Try.f64.body.getD .skip) [true, true, false, true, false, false]
noncomputable def spec_stFrom.K116 (N : Nat) (Kn58 : St D0 → Option spec_stFrom.R) : Ex → St D0 → Option spec_stFrom.R := (onN (fun s => spec_stFrom.C.tidy 58 s ((onN Kn58 (blockK 0 (onN (fun s => spec_stFrom.C.tidy 14 s (fun s' => runC spec_stFrom.C (spec_stFrom.O N) N spec_stFrom.c15 15 s' spec_stFrom.K0)) spec_stFrom.K0))) .normal)) (onN Kn58 (blockK 0 (onN (fun s => spec_stFrom.C.tidy 14 s (fun s' => runC spec_stFrom.C (spec_stFrom.O N) N spec_stFrom.c15 15 s' spec_stFrom.K0)) spec_stFrom.K0))))
noncomputable def spec_stFrom.o1 (N : Nat) (v0 : Int) (v1 : Int) (v2 : Int) (v3 : Int) (c2 : Int → Int → Int → (List Int) → Int → Option spec_stFrom.R) : Option spec_stFrom.R :=
 bif (decide (v3 < v2)) then
  bif ((w64 (2 * v0)) == 0) then
   none
  else
  (spec_stAt.g N v0 (Int.tmod (w64 (v1 + v3)) (w64 (2 * v0)))).bind fun r1 =>
  bif (Nat.blt (([] : List Int).length + ([r1] : List Int).length) 17592186044416) then
   c2 v0 v1 v2 (([] : List Int) ++ ([r1] : List Int)) (w64 (v3 + 1))
  else
  none
 else
 some (([] : List Int))
theorem spec_stFrom.o1.run (N : Nat) (Kn58 : St D0 → Option spec_stFrom.R) (v0 : Int) (v1 : Int) (v2 : Int) (v3 : Int) : runC spec_stFrom.C (spec_stFrom.O N) N spec_stFrom.c116 116 (mkSt [(0, .one (.int .i64 v0)), (1, .one (.int .i64 v1)), (2, .one (.int .i64 v2)), (7, .one (.nl)), (8, .one (.int .i64 v3))] [] : St D0) (onN (fun s => spec_stFrom.C.tidy 58 s ((onN Kn58 (blockK 0 (onN (fun s => spec_stFrom.C.tidy 14 s (fun s' => runC spec_stFrom.C (spec_stFrom.O N) N spec_stFrom.c15 15 s' spec_stFrom.K0)) spec_stFrom.K0))) .normal)) (onN Kn58 (blockK 0 (onN (fun s => spec_stFrom.C.tidy 14 s (fun s' => runC spec_stFrom.C (spec_stFrom.O N) N spec_stFrom.c15 15 s' spec_stFrom.K0)) spec_stFrom.K0)))) = spec_stFrom.o1 N v0 v1 v2 v3 ((fun w0 w1 w2 w3 w4 => Kn58 (mkSt [(0, .one (.int .i64 w0)), (1, .one (.int .i64 w1)), (2, .one (.int .i64 w2)), (7, .one (.sl true 3 w3)), (8, .one (.int .i64 w4))] [] : St D0))) := by kernel_rfl
noncomputable def spec_stFrom.d1 (N : Nat) (v0 : Int) (v1 : Int) (v2 : Int) (v3 : Int) (c2 : Int → Int → Int → (List Int) → Int → Option spec_stFrom.R) : Option spec_stFrom.R := spec_stFrom.o1 N v0 v1 v2 v3 c2
theorem spec_stFrom.d1.run (N : Nat) (Kn58 : St D0 → Option spec_stFrom.R) (v0 : Int) (v1 : Int) (v2 : Int) (v3 : Int) : runC spec_stFrom.C (spec_stFrom.O N) N spec_stFrom.c116 116 (mkSt [(0, .one (.int .i64 v0)), (1, .one (.int .i64 v1)), (2, .one (.int .i64 v2)), (7, .one (.nl)), (8, .one (.int .i64 v3))] [] : St D0) (spec_stFrom.K116 N Kn58) = spec_stFrom.d1 N v0 v1 v2 v3 ((fun w0 w1 w2 w3 w4 => Kn58 (mkSt [(0, .one (.int .i64 w0)), (1, .one (.int .i64 w1)), (2, .one (.int .i64 w2)), (7, .one (.sl true 3 w3)), (8, .one (.int .i64 w4))] [] : St D0))) := by
  exact (spec_stFrom.o1.run N Kn58 v0 v1 v2 v3).trans rfl
noncomputable def spec_stFrom.o2 (N : Nat) (v0 : Int) (v1 : Int) (v2 : Int) (v3 : List Int) (v4 : Int) (c2 : Int → Int → Int → (List Int) → Int → Option spec_stFrom.R) : Option spec_stFrom.R :=
 bif (decide (v4 < v2)) then
  bif ((w64 (2 * v0)) == 0) then
   none
  else
  (spec_stAt.g N v0 (Int.tmod (w64 (v1 + v4)) (w64 (2 * v0)))).bind fun r1 =>
  bif (Nat.blt (v3.length + ([r1] : List Int).length) 17592186044416) then
   c2 v0 v1 v2 (v3 ++ ([r1] : List Int)) (w64 (v4 + 1))
  else
  none
 else
 some (v3)
theorem spec_stFrom.o2.run (N : Nat) (Kn58 : St D0 → Option spec_stFrom.R) (v0 : Int) (v1 : Int) (v2 : Int) (v3 : List Int) (v4 : Int) : runC spec_stFrom.C (spec_stFrom.O N) N spec_stFrom.c116 116 (mkSt [(0, .one (.int .i64 v0)), (1, .one (.int .i64 v1)), (2, .one (.int .i64 v2)), (7, .one (.sl true 3 v3)), (8, .one (.int .i64 v4))] [] : St D0) (onN (fun s => spec_stFrom.C.tidy 58 s ((onN Kn58 (blockK 0 (onN (fun s => spec_stFrom.C.tidy 14 s (fun s' => runC spec_stFrom.C (spec_stFrom.O N) N spec_stFrom.c15 15 s' spec_stFrom.K0)) spec_stFrom.K0))) .normal)) (onN Kn58 (blockK 0 (onN (fun s => spec_stFrom.C.tidy 14 s (fun s' => runC spec_stFrom.C (spec_stFrom.O N) N spec_stFrom.c15 15 s' spec_stFrom.K0)) spec_stFrom.K0)))) = spec_stFrom.o2 N v0 v1 v2 v3 v4 ((fun w0 w1 w2 w3 w4 => Kn58 (mkSt [(0, .one (.int .i64 w0)), (1, .one (.int .i64 w1)), (2, .one (.int .i64 w2)), (7, .one (.sl true 3 w3)), (8, .one (.int .i64 w4))] [] : St D0))) := by kernel_rfl
noncomputable def spec_stFrom.d2 (N : Nat) (v0 : Int) (v1 : Int) (v2 : Int) (v3 : List Int) (v4 : Int) (c2 : Int → Int → Int → (List Int) → Int → Option spec_stFrom.R) : Option spec_stFrom.R := spec_stFrom.o2 N v0 v1 v2 v3 v4 c2
theorem spec_stFrom.d2.run (N : Nat) (Kn58 : St D0 → Option spec_stFrom.R) (v0 : Int) (v1 : Int) (v2 : Int) (v3 : List Int) (v4 : Int) : runC spec_stFrom.C (spec_stFrom.O N) N spec_stFrom.c116 116 (mkSt [(0, .one (.int .i64 v0)), (1, .one (.int .i64 v1)), (2, .one (.int .i64 v2)), (7, .one (.sl true 3 v3)), (8, .one (.int .i64 v4))] [] : St D0) (spec_stFrom.K116 N Kn58) = spec_stFrom.d2 N v0 v1 v2 v3 v4 ((fun w0 w1 w2 w3 w4 => Kn58 (mkSt [(0, .one (.int .i64 w0)), (1, .one (.int .i64 w1)), (2, .one (.int .i64 w2)), (7, .one (.sl true 3 w3)), (8, .one (.int .i64 w4))] [] : St D0))) := by
  exact (spec_stFrom.o2.run N Kn58 v0 v1 v2 v3 v4).trans rfl
noncomputable def spec_stFrom.K58 (N : Nat) : Ex → St D0 → Option spec_stFrom.R := (blockK 0 (onN (fun s => spec_stFrom.C.tidy 14 s (fun s' => runC spec_stFrom.C (spec_stFrom.O N) N spec_stFrom.c15 15 s' spec_stFrom.K0)) spec_stFrom.K0))
mutual
noncomputable def spec_stFrom.l1 (N : Nat) : Nat → Int → Int → Int → Int → Option spec_stFrom.R
  | 0, _, _, _, _ => none
  | n + 1, v0, v1, v2, v3 => spec_stFrom.d1 N v0 v1 v2 v3 ((fun w0 w1 w2 w3 w4 => spec_stFrom.l2 N n w0 w1 w2 w3 w4))
noncomputable def spec_stFrom.l2 (N : Nat) : Nat → Int → Int → Int → (List Int) → Int → Option spec_stFrom.R
  | 0, _, _, _, _, _ => none
  | n + 1, v0, v1, v2, v3, v4 => spec_stFrom.d2 N v0 v1 v2 v3 v4 ((fun w0 w1 w2 w3 w4 => spec_stFrom.l2 N n w0 w1 w2 w3 w4))
end
theorem spec_stFrom.loop58 (N : Nat) : ∀ n, (∀ (v0 : Int) (v1 : Int) (v2 : Int) (v3 : Int), iter (loopF spec_stFrom.C (spec_stFrom.O N) N spec_stFrom.c116 58) n (mkSt [(0, .one (.int .i64 v0)), (1, .one (.int .i64 v1)), (2, .one (.int .i64 v2)), (7, .one (.nl)), (8, .one (.int .i64 v3))] [] : St D0) (spec_stFrom.K58 N) = spec_stFrom.l1 N n v0 v1 v2 v3) ∧ (∀ (v0 : Int) (v1 : Int) (v2 : Int) (v3 : List Int) (v4 : Int), iter (loopF spec_stFrom.C (spec_stFrom.O N) N spec_stFrom.c116 58) n (mkSt [(0, .one (.int .i64 v0)), (1, .one (.int .i64 v1)), (2, .one (.int .i64 v2)), (7, .one (.sl true 3 v3)), (8, .one (.int .i64 v4))] [] : St D0) (spec_stFrom.K58 N) = spec_stFrom.l2 N n v0 v1 v2 v3 v4)
  | 0 => ⟨(fun v0 v1 v2 v3 => rfl), (fun v0 v1 v2 v3 v4 => rfl)⟩
  | n + 1 => ⟨(fun v0 v1 v2 v3 => (spec_stFrom.d1.run N (fun s => iter (loopF spec_stFrom.C (spec_stFrom.O N) N spec_stFrom.c116 58) n s (spec_stFrom.K58 N)) v0 v1 v2 v3).trans (show _ = spec_stFrom.d1 N v0 v1 v2 v3 ((fun w0 w1 w2 w3 w4 => spec_stFrom.l2 N n w0 w1 w2 w3 w4)) from (congr rfl (funext fun w0 => funext fun w1 => funext fun w2 => funext fun w3 => funext fun w4 => (spec_stFrom.loop58 N n).2 w0 w1 w2 w3 w4)))), (fun v0 v1 v2 v3 v4 => (spec_stFrom.d2.run N (fun s => iter (loopF spec_stFrom.C (spec_stFrom.O N) N spec_stFrom.c116 58) n s (spec_stFrom.K58 N)) v0 v1 v2 v3 v4).trans (show _ = spec_stFrom.d2 N v0 v1 v2 v3 v4 ((fun w0 w1 w2 w3 w4 => spec_stFrom.l2 N n w0 w1 w2 w3 w4)) from (congr rfl (funext fun w0 => funext fun w1 => funext fun w2 => funext fun w3 => funext fun w4 => (spec_stFrom.loop58 N n).2 w0 w1 w2 w3 w4))))⟩
noncomputable def spec_stFrom.o0 (N : Nat) (a0 : Int) (a1 : Int) (a2 : Int) (c1 : Int → Int → Int → Int → Option spec_stFrom.R) : Option spec_stFrom.R :=
 c1 a0 a1 a2 0
theorem spec_stFrom.o0.run (N : Nat) (H116 : Code) (a0 : Int) (a1 : Int) (a2 : Int) : runC spec_stFrom.C (spec_stFrom.O N) N (.seq spec_stFrom.c2 (.seq spec_stFrom.c6 (.seq (.seq spec_stFrom.c28 (.block 0 (.loop H116))) spec_stFrom.c15))) 1 (st0 [.one (.int .i64 a0), .one (.int .i64 a1), .one (.int .i64 a2)] [] : St D0) spec_stFrom.K0 = spec_stFrom.o0 N a0 a1 a2 ((fun w0 w1 w2 w3 => iter (loopF spec_stFrom.C (spec_stFrom.O N) N H116 58) N (mkSt [(0, .one (.int .i64 w0)), (1, .one (.int .i64 w1)), (2, .one (.int .i64 w2)), (7, .one (.nl)), (8, .one (.int .i64 w3))] [] : St D0) (blockK 0 (onN (fun s => spec_stFrom.C.tidy 14 s (fun s' => runC spec_stFrom.C (spec_stFrom.O N) N spec_stFrom.c15 15 s' spec_stFrom.K0)) spec_stFrom.K0)))) := by kernel_rfl
noncomputable def spec_stFrom.g (N : Nat) (a0 : Int) (a1 : Int) (a2 : Int) : Option spec_stFrom.R := spec_stFrom.o0 N a0 a1 a2 ((fun w0 w1 w2 w3 => spec_stFrom.l1 N N w0 w1 w2 w3))
theorem spec_stFrom.c1_0 : spec_stFrom.c1 = (.seq spec_stFrom.c2 (.seq spec_stFrom.c6 (.seq (.seq spec_stFrom.c28 (.block 0 (.loop spec_stFrom.c116))) spec_stFrom.c15))) := by kernel_rfl
theorem spec_stFrom.g.run (N : Nat) (a0 : Int) (a1 : Int) (a2 : Int) : runC spec_stFrom.C (spec_stFrom.O N) N spec_stFrom.c1 1 (st0 [.one (.int .i64 a0), .one (.int .i64 a1), .one (.int .i64 a2)] [] : St D0) spec_stFrom.K0 = spec_stFrom.g N a0 a1 a2 := by
  rw [spec_stFrom.c1_0]; unfold spec_stFrom.g; exact (spec_stFrom.o0.run N spec_stFrom.c116 a0 a1 a2).trans (congr rfl (funext fun w0 => funext fun w1 => funext fun w2 => funext fun w3 => (spec_stFrom.loop58 N N).1 w0 w1 w2 w3))
theorem spec_stFrom.good (N : Nat) (a0 : Int) (a1 : Int) (a2 : Int) (r : spec_stFrom.R) (h : spec_stFrom.g N a0 a1 a2 = some r) : Go.PM.Good Go.Proofs.Try.prog T0 64 [.one (.int .i64 a0), .one (.int .i64 a1), .one (.int .i64 a2)] [] (spec_stFrom.sig.ret r) (spec_stFrom.sig.bs r) :=
  good_fn tabOk0 mixed0 spec_stFrom.sig (spec_stFrom.E N) Go.Proofs.Try.func64 (by kernel_rfl) (by kernel_rfl) 2503 0 0 [(58, [0, 1, 2, 7, 8], [])] 759296 false [] [(false, [.own 3])] (by kernel_rfl) rfl rfl ((spec_stFrom.g.run N a0 a1 a2).trans h)
noncomputable def spec_stFrom.ent (N : Nat) : Ent Go.Proofs.Try.prog T0 := mkEnt 64 [(false, [.any]), (false, [.any]), (false, [.any])] spec_stFrom.sig (fun t => spec_stFrom.g N t.1 t.2.1 t.2.2) (fun t r h => spec_stFrom.good N t.1 t.2.1 t.2.2 r h)
end Go.Proofs.Ytpemffldaepbpaa.M

namespace Go.Proofs.Ytpemffldaepbpaa.M
open Go Go.PM Go.Proofs.Ytpemffldaepbpaa.P
set_option linter.unusedVariables false
set_option maxRecDepth 100000
/-! ### laws_kSame -/
abbrev laws_kSame.R : Type := Bool
abbrev laws_kSame.sig : Sig := ⟨[(false, 1), (false, 1)], [], [.sl false 3, .sl false 3], [(false, 1)], [], [.bool]⟩
noncomputable def laws_kSame.C : Cfg D0 := ⟨Go.Proofs.Try.prog, T0, 16806963, 0, 26, 0, [(58, [0, 1, 12, 13], [])], 3344704, false, []⟩
noncomputable def laws_kSame.E (N : Nat) : List (Ent Go.Proofs.Try.prog T0) := []
noncomputable def laws_kSame.O (N : Nat) : Orc D0 laws_kSame.R := orcOf (laws_kSame.E N)
noncomputable def laws_kSame.K0 : Ex → St D0 → Option laws_kSame.R := exitK laws_kSame.C Go.Proofs.Try.f19.results.toList [(false, [.any])] (decOut laws_kSame.sig)
noncomputable def laws_kSame.c1 : Code := codeAt (Go.Proofs.Try.f19.body.getD .skip) []
noncomputable def laws_kSame.c2 : Code := codeAt (Go.Proofs.Try.f19.body.getD .skip) [false]
noncomputable def laws_kSame.c6 : Code := codeAt (Go.Proofs.Try.f19.body.getD .skip) [true, false]
noncomputable def laws_kSame.c15 : Code := codeAt (Go.Proofs.Try.f19.body.getD .skip) [true, true, true]
noncomputable def laws_kSame.c28 : Code := codeAt (Go.Proofs.Try.f19.body.getD .skip) [true, true, false, false]
noncomputable def laws_kSame.c116 : Code := codeAt (Go.Proofs.Try.f19.body.getD .skip) [true, true, false, true, false, false]
noncomputable def laws_kSame.K116 (N : Nat) (Kn58 : St D0 → Option laws_kSame.R) : Ex → St D0 → Option laws_kSame.R := (onN (fun s => laws_kSame.C.tidy 58 s ((onN Kn58 (blockK 0 (onN (fun s => laws_kSame.C.tidy 14 s (fun s' => runC laws_kSame.C (laws_kSame.O N) N laws_kSame.c15 15 s' laws_kSame.K0)) laws_kSame.K0))) .normal)) (onN Kn58 (blockK 0 (onN (fun s => laws_kSame.C.tidy 14 s (fun s' => runC laws_kSame.C (laws_kSame.O N) N laws_kSame.c15 15 s' laws_kSame.K0)) laws_kSame.K0))))
noncomputable def laws_kSame.o1 (N : Nat) (v0 : List Int) (v1 : List Int) (v2 : Int) (v3 : Int) (c1 : (List Int) → (List Int) → Int → Int → Option laws_kSame.R) : Option laws_kSame.R :=
 bif (decide (v3 < v2)) then
  bif (decide (0 ≤ v3)) then
   bif (decide (v3 < (v0.length : Int))) then
    (v0[(v3 : Int).toNat]?).bind fun x1 =>
    bif (decide (0 ≤ v3)) then
     bif (decide (v3 < (v1.length : Int))) then
      (v1[(v3 : Int).toNat]?).bind fun x2 =>
      bif (x1 != x2) then
       some (false)
      else
      c1 v0 v1 v2 (w64 (v3 + 1))
     else
     none
    else
    none
   else
   none
  else
  none
 else
 some (true)
theorem laws_kSame.o1.run (N : Nat) (Kn58 : St D0 → Option laws_kSame.R) (v0 : List Int) (v1 : List Int) (v2 : Int) (v3 : Int) : runC laws_kSame.C (laws_kSame.O N) N laws_kSame.c116 116 (mkSt [(0, .one (.sl false 3 v0)), (1, .one (.sl false 3 v1)), (12, .one (.int .i64 v2)), (13, .one (.int .i64 v3))] [] : St D0) (onN (fun s => laws_kSame.C.tidy 58 s ((onN Kn58 (blockK 0 (onN (fun s => laws_kSame.C.tidy 14 s (fun s' => runC laws_kSame.C (laws_kSame.O N) N laws_kSame.c15 15 s' laws_kSame.K0)) laws_kSame.K0))) .normal)) (onN Kn58 (blockK 0 (onN (fun s => laws_kSame.C.tidy 14 s (fun s' => runC laws_kSame.C (laws_kSame.O N) N laws_kSame.c15 15 s' laws_kSame.K0)) laws_kSame.K0)))) = laws_kSame.o1 N v0 v1 v2 v3 ((fun w0 w1 w2 w3 => Kn58 (mkSt [(0, .one (.sl false 3 w0)), (1, .one (.sl false 3 w1)), (12, .one (.int .i64 w2)), (13, .one (.int .i64 w3))] [] : St D0))) := by kernel_rfl
noncomputable def laws_kSame.d1 (N : Nat) (v0 : List Int) (v1 : List Int) (v2 : Int) (v3 : Int) (c1 : (List Int) → (List Int) → Int → Int → Option laws_kSame.R) : Option laws_kSame.R := laws_kSame.o1 N v0 v1 v2 v3 c1
theorem laws_kSame.d1.run (N : Nat) (Kn58 : St D0 → Option laws_kSame.R) (v0 : List Int) (v1 : List Int) (v2 : Int) (v3 : Int) : runC laws_kSame.C (laws_kSame.O N) N laws_kSame.c116 116 (mkSt [(0, .one (.sl false 3 v0)), (1, .one (.sl false 3 v1)), (12, .one (.int .i64 v2)), (13, .one (.int .i64 v3))] [] : St D0) (laws_kSame.K116 N Kn58) = laws_kSame.d1 N v0 v1 v2 v3 ((fun w0 w1 w2 w3 => Kn58 (mkSt [(0, .one (.sl false 3 w0)), (1, .one (.sl false 3 w1)), (12, .one (.int .i64 w2)), (13, .one (.int .i64 w3))] [] : St D0))) := by
  exact (laws_kSame.o1.run N Kn58 v0 v1 v2 v3).trans rfl
noncomputable def laws_kSame.K58 (N : Nat) : Ex → St D0 → Option laws_kSame.R := (blockK 0 (onN (fun s => laws_kSame.C.tidy 14 s (fun s' => runC laws_kSame.C (laws_kSame.O N) N laws_kSame.c15 15 s' laws_kSame.K0)) laws_kSame.K0))
noncomputable def laws_kSame.l1 (N : Nat) : Nat → (List Int) → (List Int) → Int → Int → Option laws_kSame.R
  | 0, _, _, _, _ => none
  | n + 1, v0, v1, v2, v3 => laws_kSame.d1 N v0 v1 v2 v3 ((fun w0 w1 w2 w3 => laws_kSame.l1 N n w0 w1 w2 w3))
theorem laws_kSame.loop58 (N : Nat) : ∀ n, (∀ (v0 : List Int) (v1 : List Int) (v2 : Int) (v3 : Int), iter (loopF laws_kSame.C (laws_kSame.O N) N laws_kSame.c116 58) n (mkSt [(0, .one (.sl false 3 v0)), (1, .one (.sl false 3 v1)), (12, .one (.int .i64 v2)), (13, .one (.int .i64 v3))] [] : St D0) (laws_kSame.K58 N) = laws_kSame.l1 N n v0 v1 v2 v3)
  | 0 => (fun v0 v1 v2 v3 => rfl)
  | n + 1 => (fun v0 v1 v2 v3 => (laws_kSame.d1.run N (fun s => iter (loopF laws_kSame.C (laws_kSame.O N) N laws_kSame.c116 58) n s (laws_kSame.K58 N)) v0 v1 v2 v3).trans (show _ = laws_kSame.d1 N v0 v1 v2 v3 ((fun w0 w1 w2 w3 => laws_kSame.l1 N n w0 w1 w2 w3)) from (congr rfl (funext fun w0 => funext fun w1 => funext fun w2 => funext fun w3 => (laws_kSame.loop58 N n) w0 w1 w2 w3))))
noncomputable def laws_kSame.o0 (N : Nat) (a0 : List Int) (a1 : List Int) (c1 : (List Int) → (List Int) → Int → Int → Option laws_kSame.R) : Option laws_kSame.R :=
 bif ((a0.length : Int) != (a1.length : Int)) then
  some (false)
 else
 c1 a0 a1 (a0.length : Int) 0
theorem laws_kSame.o0.run (N : Nat) (H116 : Code) (a0 : List Int) (a1 : List Int) : runC laws_kSame.C (laws_kSame.O N) N (.seq laws_kSame.c2 (.seq laws_kSame.c6 (.seq (.seq laws_kSame.c28 (.block 0 (.loop H116))) laws_kSame.c15))) 1 (st0 [.one (.sl false 3 a0), .one (.sl false 3 a1)] [] : St D0) laws_kSame.K0 = laws_kSame.o0 N a0 a1 ((fun w0 w1 w2 w3 => iter (loopF laws_kSame.C (laws_kSame.O N) N H116 58) N (mkSt [(0, .one (.sl false 3 w0)), (1, .one (.sl false 3 w1)), (12, .one (.int .i64 w2)), (13, .one (.int .i64 w3))] [] : St D0) (blockK 0 (onN (fun s => laws_kSame.C.tidy 14 s (fun s' => runC laws_kSame.C (laws_kSame.O N) N laws_kSame.c15 15 s' laws_kSame.K0)) laws_kSame.K0)))) := by kernel_rfl
noncomputable def laws_kSame.g (N : Nat) (a0 : List Int) (a1 : List Int) : Option laws_kSame.R := laws_kSame.o0 N a0 a1 ((fun w0 w1 w2 w3 => laws_kSame.l1 N N w0 w1 w2 w3))
theorem laws_kSame.c1_0 : laws_kSame.c1 = (.seq laws_kSame.c2 (.seq laws_kSame.c6 (.seq (.seq laws_kSame.c28 (.block 0 (.loop laws_kSame.c116))) laws_kSame.c15))) := by kernel_rfl
theorem laws_kSame.g.run (N : Nat) (a0 : List Int) (a1 : List Int) : runC laws_kSame.C (laws_kSame.O N) N laws_kSame.c1 1 (st0 [.one (.sl false 3 a0), .one (.sl false 3 a1)] [] : St D0) laws_kSame.K0 = laws_kSame.g N a0 a1 := by
  rw [laws_kSame.c1_0]; unfold laws_kSame.g; exact (laws_kSame.o0.run N laws_kSame.c116 a0 a1).trans (congr rfl (funext fun w0 => funext fun w1 => funext fun w2 => funext fun w3 => (laws_kSame.loop58 N N) w0 w1 w2 w3))
theorem laws_kSame.good (N : Nat) (a0 : List Int) (a1 : List Int) (r : laws_kSame.R) (h : laws_kSame.g N a0 a1 = some r) : Go.PM.Good Go.Proofs.Try.prog T0 19 [.one (.sl false 3 a0), .one (.sl false 3 a1)] [] (laws_kSame.sig.ret r) (laws_kSame.sig.bs r) :=
  good_fn tabOk0 mixed0 laws_kSame.sig (laws_kSame.E N) Go.Proofs.Try.func19 (by kernel_rfl) (by kernel_rfl) 16806963 0 0 [(58, [0, 1, 12, 13], [])] 3344704 false [] [(false, [.any])] (by kernel_rfl) rfl rfl ((laws_kSame.g.run N a0 a1).trans h)
noncomputable def laws_kSame.ent (N : Nat) : Ent Go.Proofs.Try.prog T0 := mkEnt 19 [(false, [.ro 3]), (false, [.ro 3])] laws_kSame.sig (fun t => laws_kSame.g N t.1 t.2) (fun t r h => laws_kSame.good N t.1 t.2 r h)
end Go.Proofs.Ytpemffldaepbpaa.M

namespace Go.Proofs.Ytpemffldaepbpaa.M
open Go Go.PM Go.Proofs.Ytpemffldaepbpaa.P
set_option linter.unusedVariables false
set_option maxRecDepth 100000
/-! ### spec_l1In -/
abbrev spec_l1In.R : Type := Bool
abbrev spec_l1In.sig : Sig := ⟨[(false, 1), (false, 1), (false, 1)], [], [.int .i64, .int .i64, .int .i64], [(false, 1)], [], [.bool]⟩
noncomputable def spec_l1In.C : Cfg D0 := ⟨Go.Proofs.Try.prog, T0, 71, 0, 15, 0, [], 6528, false, []⟩
noncomputable def spec_l1In.E (N : Nat) : List (Ent Go.Proofs.Try.prog T0) := []
noncomputable def spec_l1In.O (N : Nat) : Orc D0 spec_l1In.R := orcOf (spec_l1In.E N)
noncomputable def spec_l1In.K0 : Ex → St D0 → Option spec_l1In.R := exitK spec_l1In.C Go.Proofs.Try.f60.results.toList [(false, [.any])] (decOut spec_l1In.sig)
noncomputable def spec_l1In.c1 : Code := codeAt (Go.Proofs.Try.f60.body.getD .skip) []
noncomputable def spec_l1In.o0 (N : Nat) (a0 : Int) (a1 : Int) (a2 : Int) : Option spec_l1In.R :=
 bif (decide (a0 ≥ a1)) then
  some ((decide (a0 ≤ a2)))
 else
 some (false)
theorem spec_l1In.o0.run (N : Nat) (a0 : Int) (a1 : Int) (a2 : Int) : runC spec_l1In.C (spec_l1In.O N) N spec_l1In.c1 1 (st0 [.one (.int .i64 a0), .one (.int .i64 a1), .one (.int .i64 a2)] [] : St D0) spec_l1In.K0 = spec_l1In.o0 N a0 a1 a2 := by kernel_rfl
noncomputable def spec_l1In.g (N : Nat) (a0 : Int) (a1 : Int) (a2 : Int) : Option spec_l1In.R := spec_l1In.o0 N a0 a1 a2
theorem spec_l1In.g.run (N : Nat) (a0 : Int) (a1 : Int) (a2 : Int) : runC spec_l1In.C (spec_l1In.O N) N spec_l1In.c1 1 (st0 [.one (.int .i64 a0), .one (.int .i64 a1), .one (.int .i64 a2)] [] : St D0) spec_l1In.K0 = spec_l1In.g N a0 a1 a2 := by
  exact (spec_l1In.o0.run N a0 a1 a2).trans rfl
theorem spec_l1In.good (N : Nat) (a0 : Int) (a1 : Int) (a2 : Int) (r : spec_l1In.R) (h : spec_l1In.g N a0 a1 a2 = some r) : Go.PM.Good Go.Proofs.Try.prog T0 60 [.one (.int .i64 a0), .one (.int .i64 a1), .one (.int .i64 a2)] [] (spec_l1In.sig.ret r) (spec_l1In.sig.bs r) :=
  good_fn tabOk0 mixed0 spec_l1In.sig (spec_l1In.E N) Go.Proofs.Try.func60 (by kernel_rfl) (by kernel_rfl) 71 0 0 [] 6528 false [] [(false, [.any])] (by kernel_rfl) rfl rfl ((spec_l1In.g.run N a0 a1 a2).trans h)
noncomputable def spec_l1In.ent (N : Nat) : Ent Go.Proofs.Try.prog T0 := mkEnt 60 [(false, [.any]), (false, [.any]), (false, [.any])] spec_l1In.sig (fun t => spec_l1In.g N t.1 t.2.1 t.2.2) (fun t r h => spec_l1In.good N t.1 t.2.1 t.2.2 r h)
end Go.Proofs.Ytpemffldaepbpaa.M

namespace Go.Proofs.Ytpemffldaepbpaa.M
open Go Go.PM Go.Proofs.Ytpemffldaepbpaa.P
set_option linter.unusedVariables false
set_option maxRecDepth 100000
/-! ### spec_diHours -/
abbrev spec_diHours.R : Type := Bool
abbrev spec_diHours.sig : Sig := ⟨[(false, 1)], [], [.int .i64], [(false, 1)], [], [.bool]⟩
noncomputable def spec_diHours.C : Cfg D0 := ⟨Go.Proofs.Try.prog, T0, 5, 0, 5, 0, [], 8, false, []⟩
noncomputable def spec_diHours.E (N : Nat) : List (Ent Go.Proofs.Try.prog T0) := [spec_l1In.ent N]
noncomputable def spec_diHours.O (N : Nat) : Orc D0 spec_diHours.R := orcOf (spec_diHours.E N)
noncomputable def spec_diHours.K0 : Ex → St D0 → Option spec_diHours.R := exitK spec_diHours.C Go.Proofs.Try.f68.results.toList [(false, [.any])] (decOut spec_diHours.sig)
noncomputable def spec_diHours.c1 : Code := codeAt (Go.Proofs.Try.f68.body.getD .skip) []
noncomputable def spec_diHours.o0 (N : Nat) (a0 : Int) : Option spec_diHours.R :=
 (spec_l1In.g N a0 2 24).bind fun r1 =>
 some (r1)
theorem spec_diHours.o0.run (N : Nat) (a0 : Int) : runC spec_diHours.C (spec_diHours.O N) N spec_diHours.c1 1 (st0 [.one (.int .i64 a0)] [] : St D0) spec_diHours.K0 = spec_diHours.o0 N a0 := by kernel_rfl
noncomputable def spec_diHours.g (N : Nat) (a0 : Int) : Option spec_diHours.R := spec_diHours.o0 N a0
theorem spec_diHours.g.run (N : Nat) (a0 : Int) : runC spec_diHours.C (spec_diHours.O N) N spec_diHours.c1 1 (st0 [.one (.int .i64 a0)] [] : St D0) spec_diHours.K0 = spec_diHours.g N a0 := by
  exact (spec_diHours.o0.run N a0).trans rfl
theorem spec_diHours.good (N : Nat) (a0 : Int) (r : spec_diHours.R) (h : spec_diHours.g N a0 = some r) : Go.PM.Good Go.Proofs.Try.prog T0 68 [.one (.int .i64 a0)] [] (spec_diHours.sig.ret r) (spec_diHours.sig.bs r) :=
  good_fn tabOk0 mixed0 spec_diHours.sig (spec_diHours.E N) Go.Proofs.Try.func68 (by kernel_rfl) (by kernel_rfl) 5 0 0 [] 8 false [] [(false, [.any])] (by kernel_rfl) rfl rfl ((spec_diHours.g.run N a0).trans h)
noncomputable def spec_diHours.ent (N : Nat) : Ent Go.Proofs.Try.prog T0 := mkEnt 68 [(false, [.any])] spec_diHours.sig (fun t => spec_diHours.g N t) (fun t r h => spec_diHours.good N t r h)
end Go.Proofs.Ytpemffldaepbpaa.M

namespace Go.Proofs.Ytpemffldaepbpaa.M
open Go Go.PM Go.Proofs.Ytpemffldaepbpaa.P
set_option linter.unusedVariables false
set_option maxRecDepth 100000
/-! ### spec_stHalf -/
abbrev spec_stHalf.R : Type := Bool
abbrev spec_stHalf.sig : Sig := ⟨[(false, 1), (false, 1)], [], [.int .i64, .int .i64], [(false, 1)], [], [.bool]⟩
noncomputable def spec_stHalf.C : Cfg D0 := ⟨Go.Proofs.Try.prog, T0, 19, 0, 14, 0, [], 800, false, []⟩
noncomputable def spec_stHalf.E (N : Nat) : List (Ent Go.Proofs.Try.prog T0) := [spec_diHours.ent N, spec_l1In.ent N]
noncomputable def spec_stHalf.O (N : Nat) : Orc D0 spec_stHalf.R := orcOf (spec_stHalf.E N)
noncomputable def spec_stHalf.K0 : Ex → St D0 → Option spec_stHalf.R := exitK spec_stHalf.C Go.Proofs.Try.f59.results.toList [(false, [.any])] (decOut spec_stHalf.sig)
noncomputable def spec_stHalf.c1 : Code := codeAt (Go.Proofs.Try.f59.body.getD .skip) []
noncomputable def spec_stHalf.o0 (N : Nat) (a0 : Int) (a1 : Int) : Option spec_stHalf.R :=
 (spec_diHours.g N a0).bind fun r1 =>
 bif r1 then
  (spec_l1In.g N a1 0 (w64 ((w64 (2 * a0)) - 1))).bind fun r2 =>
  some (r2)
 else
 some (false)
theorem spec_stHalf.o0.run (N : Nat) (a0 : Int) (a1 : Int) : runC spec_stHalf.C (spec_stHalf.O N) N spec_stHalf.c1 1 (st0 [.one (.int .i64 a0), .one (.int .i64 a1)] [] : St D0) spec_stHalf.K0 = spec_stHalf.o0 N a0 a1 := by kernel_rfl
noncomputable def spec_stHalf.g (N : Nat) (a0 : Int) (a1 : Int) : Option spec_stHalf.R := spec_stHalf.o0 N a0 a1
theorem spec_stHalf.g.run (N : Nat) (a0 : Int) (a1 : Int) : runC spec_stHalf.C (spec_stHalf.O N) N spec_stHalf.c1 1 (st0 [.one (.int .i64 a0), .one (.int .i64 a1)] [] : St D0) spec_stHalf.K0 = spec_stHalf.g N a0 a1 := by
  exact (spec_stHalf.o0.run N a0 a1).trans rfl
theorem spec_stHalf.good (N : Nat) (a0 : Int) (a1 : Int) (r : spec_stHalf.R) (h : spec_stHalf.g N a0 a1 = some r) : Go.PM.Good Go.Proofs.Try.prog T0 59 [.one (.int .i64 a0), .one (.int .i64 a1)] [] (spec_stHalf.sig.ret r) (spec_stHalf.sig.bs r) :=
  good_fn tabOk0 mixed0 spec_stHalf.sig (spec_stHalf.E N) Go.Proofs.Try.func59 (by kernel_rfl) (by kernel_rfl) 19 0 0 [] 800 false [] [(false, [.any])] (by kernel_rfl) rfl rfl ((spec_stHalf.g.run N a0 a1).trans h)
noncomputable def spec_stHalf.ent (N : Nat) : Ent Go.Proofs.Try.prog T0 := mkEnt 59 [(false, [.any]), (false, [.any])] spec_stHalf.sig (fun t => spec_stHalf.g N t.1 t.2) (fun t r h => spec_stHalf.good N t.1 t.2 r h)
end Go.Proofs.Ytpemffldaepbpaa.M

namespace Go.Proofs.Ytpemffldaepbpaa.M
open Go Go.PM Go.Proofs.Ytpemffldaepbpaa.P
set_option linter.unusedVariables false
set_option maxRecDepth 100000
/-! ### impl_isHeardList_1 -/
abbrev impl_isHeardList_1.R : Type := Bool
abbrev impl_isHeardList_1.sig : Sig := ⟨[(false, 1)], [], [.int .i64], [(false, 1)], [], [.bool]⟩
noncomputable def impl_isHeardList_1.C : Cfg D0 := ⟨Go.Proofs.Try.prog, T0, 5, 0, 6, 0, [], 8, false, []⟩
noncomputable def impl_isHeardList_1.E (N : Nat) : List (Ent Go.Proofs.Try.prog T0) := [impl_within.ent N]
noncomputable def impl_isHeardList_1.O (N : Nat) : Orc D0 impl_isHeardList_1.R := orcOf (impl_isHeardList_1.E N)
noncomputable def impl_isHeardList_1.K0 : Ex → St D0 → Option impl_isHeardList_1.R := exitK impl_isHeardList_1.C Go.Proofs.Try.f91.results.toList [(false, [.any])] (decOut impl_isHeardList_1.sig)
noncomputable def impl_isHeardList_1.c1 : Code := codeAt (Go.Proofs.Try.f91.body.getD .skip) []
noncomputable def impl_isHeardList_1.o0 (N : Nat) (a0 : Int) : Option impl_isHeardList_1.R :=
 (impl_within.g N a0 1 24).bind fun r1 =>
 some ((!r1))
theorem impl_isHeardList_1.o0.run (N : Nat) (a0 : Int) : runC impl_isHeardList_1.C (impl_isHeardList_1.O N) N impl_isHeardList_1.c1 1 (st0 [.one (.int .i64 a0)] [] : St D0) impl_isHeardList_1.K0 = impl_isHeardList_1.o0 N a0 := by kernel_rfl
noncomputable def impl_isHeardList_1.g (N : Nat) (a0 : Int) : Option impl_isHeardList_1.R := impl_isHeardList_1.o0 N a0
theorem impl_isHeardList_1.g.run (N : Nat) (a0 : Int) : runC impl_isHeardList_1.C (impl_isHeardList_1.O N) N impl_isHeardList_1.c1 1 (st0 [.one (.int .i64 a0)] [] : St D0) impl_isHeardList_1.K0 = impl_isHeardList_1.g N a0 := by
  exact (impl_isHeardList_1.o0.run N a0).trans rfl
theorem impl_isHeardList_1.good (N : Nat) (a0 : Int) (r : impl_isHeardList_1.R) (h : impl_isHeardList_1.g N a0 = some r) : Go.PM.Good Go.Proofs.Try.prog T0 91 [.one (.int .i64 a0)] [] (impl_isHeardList_1.sig.ret r) (impl_isHeardList_1.sig.bs r) :=
  good_fn tabOk0 mixed0 impl_isHeardList_1.sig (impl_isHeardList_1.E N) Go.Proofs.Try.func91 (by kernel_rfl) (by kernel_rfl) 5 0 0 [] 8 false [] [(false, [.any])] (by kernel_rfl) rfl rfl ((impl_isHeardList_1.g.run N a0).trans h)
noncomputable def impl_isHeardList_1.ent (N : Nat) : Ent Go.Proofs.Try.prog T0 := mkEnt 91 [(false, [.any])] impl_isHeardList_1.sig (fun t => impl_isHeardList_1.g N t) (fun t r h => impl_isHeardList_1.good N t r h)
end Go.Proofs.Ytpemffldaepbpaa.M

namespace Go.Proofs.Ytpemffldaepbpaa.M
open Go Go.PM Go.Proofs.Ytpemffldaepbpaa.P
set_option linter.unusedVariables false
set_option maxRecDepth 100000
/-! ### slices_IndexFunc_int_int -/
abbrev slices_IndexFunc_int_int.R : Type := Int
abbrev slices_IndexFunc_int_int.sig : Sig := ⟨[(false, 1), (false, 1)], [], [.sl false 3, .fn 91 []], [(false, 1)], [], [.int .i64]⟩
noncomputable def slices_IndexFunc_int_int.C : Cfg D0 := ⟨Go.Proofs.Try.prog, T0, 66483, 0, 19, 0, [(26, [0, 1, 7, 8], [])], 14400, false, []⟩
noncomputable def slices_IndexFunc_int_int.E (N : Nat) : List (Ent Go.Proofs.Try.prog T0) := [impl_isHeardList_1.ent N]
noncomputable def slices_IndexFunc_int_int.O (N : Nat) : Orc D0 slices_IndexFunc_int_int.R := orcOf (slices_IndexFunc_int_int.E N)
noncomputable def slices_IndexFunc_int_int.K0 : Ex → St D0 → Option slices_IndexFunc_int_int.R := exitK slices_IndexFunc_int_int.C Go.Proofs.Try.f95.results.toList [(false, [.any])] (decOut slices_IndexFunc_int_int.sig)
noncomputable def slices_IndexFunc_int_int.c1 : Code := codeAt (Go.Proofs.Try.f95.body.getD .skip) []
noncomputable def slices_IndexFunc_int_int.c2 : Code := codeAt (Go.Proofs.Try.f95.body.getD .skip) [false]
noncomputable def slices_IndexFunc_int_int.c7 : Code := codeAt (Go.Proofs.Try.f95.body.getD .skip) [true, true]
noncomputable def slices_IndexFunc_int_int.c12 : Code := codeAt (Go.Proofs.Try.f95.body.getD .skip) [true, false, false]
noncomputable def slices_IndexFunc_int_int.c52 : Code := codeAt (Go.Proofs.Try.f95.body.getD .skip) [true, false, true, false, false]
noncomputable def slices_IndexFunc_int_int.K52 (N : Nat) (Kn26 : St D0 → Option slices_IndexFunc_int_int.R) : Ex → St D0 → Option slices_IndexFunc_int_int.R := (onN (fun s => slices_IndexFunc_int_int.C.tidy 26 s ((onN Kn26 (blockK 0 (onN (fun s => slices_IndexFunc_int_int.C.tidy 6 s (fun s' => runC slices_IndexFunc_int_int.C (slices_IndexFunc_int_int.O N) N slices_IndexFunc_int_int.c7 7 s' slices_IndexFunc_int_int.K0)) slices_IndexFunc_int_int.K0))) .normal)) (onN Kn26 (blockK 0 (onN (fun s => slices_IndexFunc_int_int.C.tidy 6 s (fun s' => runC slices_IndexFunc_int_int.C (slices_IndexFunc_int_int.O N) N slices_IndexFunc_int_int.c7 7 s' slices_IndexFunc_int_int.K0)) slices_IndexFunc_int_int.K0))))
noncomputable def slices_IndexFunc_int_int.o1 (N : Nat) (v0 : List Int) (v1 : Int) (v2 : Int) (c1 : (List Int) → Int → Int → Option slices_IndexFunc_int_int.R) : Option slices_IndexFunc_int_int.R :=
 bif (decide (v2 < v1)) then
  bif (decide (0 ≤ v2)) then
   bif (decide (v2 < (v0.length : Int))) then
    (v0[(v2 : Int).toNat]?).bind fun x1 =>
    (impl_isHeardList_1.g N x1).bind fun r2 =>
    bif r2 then
     some (v2)
    else
    c1 v0 v1 (w64 (v2 + 1))
   else
   none
  else
  none
 else
 some ((-1))
theorem slices_IndexFunc_int_int.o1.run (N : Nat) (Kn26 : St D0 → Option slices_IndexFunc_int_int.R) (v0 : List Int) (v1 : Int) (v2 : Int) : runC slices_IndexFunc_int_int.C (slices_IndexFunc_int_int.O N) N slices_IndexFunc_int_int.c52 52 (mkSt [(0, .one (.sl false 3 v0)), (1, .one (.fn 91 [])), (7, .one (.int .i64 v1)), (8, .one (.int .i64 v2))] [] : St D0) (onN (fun s => slices_IndexFunc_int_int.C.tidy 26 s ((onN Kn26 (blockK 0 (onN (fun s => slices_IndexFunc_int_int.C.tidy 6 s (fun s' => runC slices_IndexFunc_int_int.C (slices_IndexFunc_int_int.O N) N slices_IndexFunc_int_int.c7 7 s' slices_IndexFunc_int_int.K0)) slices_IndexFunc_int_int.K0))) .normal)) (onN Kn26 (blockK 0 (onN (fun s => slices_IndexFunc_int_int.C.tidy 6 s (fun s' => runC slices_IndexFunc_int_int.C (slices_IndexFunc_int_int.O N) N slices_IndexFunc_int_int.c7 7 s' slices_IndexFunc_int_int.K0)) slices_IndexFunc_int_int.K0)))) = slices_IndexFunc_int_int.o1 N v0 v1 v2 ((fun w0 w1 w2 => Kn26 (mkSt [(0, .one (.sl false 3 w0)), (1, .one (.fn 91 [])), (7, .one (.int .i64 w1)), (8, .one (.int .i64 w2))] [] : St D0))) := by kernel_rfl
noncomputable def slices_IndexFunc_int_int.d1 (N : Nat) (v0 : List Int) (v1 : Int) (v2 : Int) (c1 : (List Int) → Int → Int → Option slices_IndexFunc_int_int.R) : Option slices_IndexFunc_int_int.R := slices_IndexFunc_int_int.o1 N v0 v1 v2 c1
theorem slices_IndexFunc_int_int.d1.run (N : Nat) (Kn26 : St D0 → Option slices_IndexFunc_int_int.R) (v0 : List Int) (v1 : Int) (v2 : Int) : runC slices_IndexFunc_int_int.C (slices_IndexFunc_int_int.O N) N slices_IndexFunc_int_int.c52 52 (mkSt [(0, .one (.sl false 3 v0)), (1, .one (.fn 91 [])), (7, .one (.int .i64 v1)), (8, .one (.int .i64 v2))] [] : St D0) (slices_IndexFunc_int_int.K52 N Kn26) = slices_IndexFunc_int_int.d1 N v0 v1 v2 ((fun w0 w1 w2 => Kn26 (mkSt [(0, .one (.sl false 3 w0)), (1, .one (.fn 91 [])), (7, .one (.int .i64 w1)), (8, .one (.int .i64 w2))] [] : St D0))) := by
  exact (slices_IndexFunc_int_int.o1.run N Kn26 v0 v1 v2).trans rfl
noncomputable def slices_IndexFunc_int_int.K26 (N : Nat) : Ex → St D0 → Option slices_IndexFunc_int_int.R := (blockK 0 (onN (fun s => slices_IndexFunc_int_int.C.tidy 6 s (fun s' => runC slices_IndexFunc_int_int.C (slices_IndexFunc_int_int.O N) N slices_IndexFunc_int_int.c7 7 s' slices_IndexFunc_int_int.K0)) slices_IndexFunc_int_int.K0))
noncomputable def slices_IndexFunc_int_int.l1 (N : Nat) : Nat → (List Int) → Int → Int → Option slices_IndexFunc_int_int.R
  | 0, _, _, _ => none
  | n + 1, v0, v1, v2 => slices_IndexFunc_int_int.d1 N v0 v1 v2 ((fun w0 w1 w2 => slices_IndexFunc_int_int.l1 N n w0 w1 w2))
theorem slices_IndexFunc_int_int.loop26 (N : Nat) : ∀ n, (∀ (v0 : List Int) (v1 : Int) (v2 : Int), iter (loopF slices_IndexFunc_int_int.C (slices_IndexFunc_int_int.O N) N slices_IndexFunc_int_int.c52 26) n (mkSt [(0, .one (.sl false 3 v0)), (1, .one (.fn 91 [])), (7, .one (.int .i64 v1)), (8, .one (.int .i64 v2))] [] : St D0) (slices_IndexFunc_int_int.K26 N) = slices_IndexFunc_int_int.l1 N n v0 v1 v2)
  | 0 => (fun v0 v1 v2 => rfl)
  | n + 1 => (fun v0 v1 v2 => (slices_IndexFunc_int_int.d1.run N (fun s => iter (loopF slices_IndexFunc_int_int.C (slices_IndexFunc_int_int.O N) N slices_IndexFunc_int_int.c52 26) n s (slices_IndexFunc_int_int.K26 N)) v0 v1 v2).trans (show _ = slices_IndexFunc_int_int.d1 N v0 v1 v2 ((fun w0 w1 w2 => slices_IndexFunc_int_int.l1 N n w0 w1 w2)) from (congr rfl (funext fun w0 => funext fun w1 => funext fun w2 => (slices_IndexFunc_int_int.loop26 N n) w0 w1 w2))))
noncomputable def slices_IndexFunc_int_int.o0 (N : Nat) (a0 : List Int) (c1 : (List Int) → Int → Int → Option slices_IndexFunc_int_int.R) : Option slices_IndexFunc_int_int.R :=
 c1 a0 (a0.length : Int) 0
theorem slices_IndexFunc_int_int.o0.run (N : Nat) (H52 : Code) (a0 : List Int) : runC slices_IndexFunc_int_int.C (slices_IndexFunc_int_int.O N) N (.seq slices_IndexFunc_int_int.c2 (.seq (.seq slices_IndexFunc_int_int.c12 (.block 0 (.loop H52))) slices_IndexFunc_int_int.c7)) 1 (st0 [.one (.sl false 3 a0), .one (.fn 91 [])] [] : St D0) slices_IndexFunc_int_int.K0 = slices_IndexFunc_int_int.o0 N a0 ((fun w0 w1 w2 => iter (loopF slices_IndexFunc_int_int.C (slices_IndexFunc_int_int.O N) N H52 26) N (mkSt [(0, .one (.sl false 3 w0)), (1, .one (.fn 91 [])), (7, .one (.int .i64 w1)), (8, .one (.int .i64 w2))] [] : St D0) (blockK 0 (onN (fun s => slices_IndexFunc_int_int.C.tidy 6 s (fun s' => runC slices_IndexFunc_int_int.C (slices_IndexFunc_int_int.O N) N slices_IndexFunc_int_int.c7 7 s' slices_IndexFunc_int_int.K0)) slices_IndexFunc_int_int.K0)))) := by kernel_rfl
noncomputable def slices_IndexFunc_int_int.g (N : Nat) (a0 : List Int) : Option slices_IndexFunc_int_int.R := slices_IndexFunc_int_int.o0 N a0 ((fun w0 w1 w2 => slices_IndexFunc_int_int.l1 N N w0 w1 w2))
theorem slices_IndexFunc_int_int.c1_0 : slices_IndexFunc_int_int.c1 = (.seq slices_IndexFunc_int_int.c2 (.seq (.seq slices_IndexFunc_int_int.c12 (.block 0 (.loop slices_IndexFunc_int_int.c52))) slices_IndexFunc_int_int.c7)) := by kernel_rfl
theorem slices_IndexFunc_int_int.g.run (N : Nat) (a0 : List Int) : runC slices_IndexFunc_int_int.C (slices_IndexFunc_int_int.O N) N slices_IndexFunc_int_int.c1 1 (st0 [.one (.sl false 3 a0), .one (.fn 91 [])] [] : St D0) slices_IndexFunc_int_int.K0 = slices_IndexFunc_int_int.g N a0 := by
  rw [slices_IndexFunc_int_int.c1_0]; unfold slices_IndexFunc_int_int.g; exact (slices_IndexFunc_int_int.o0.run N slices_IndexFunc_int_int.c52 a0).trans (congr rfl (funext fun w0 => funext fun w1 => funext fun w2 => (slices_IndexFunc_int_int.loop26 N N) w0 w1 w2))
theorem slices_IndexFunc_int_int.good (N : Nat) (a0 : List Int) (r : slices_IndexFunc_int_int.R) (h : slices_IndexFunc_int_int.g N a0 = some r) : Go.PM.Good Go.Proofs.Try.prog T0 95 [.one (.sl false 3 a0), .one (.fn 91 [])] [] (slices_IndexFunc_int_int.sig.ret r) (slices_IndexFunc_int_int.sig.bs r) :=
  good_fn tabOk0 mixed0 slices_IndexFunc_int_int.sig (slices_IndexFunc_int_int.E N) Go.Proofs.Try.func95 (by kernel_rfl) (by kernel_rfl) 66483 0 0 [(26, [0, 1, 7, 8], [])] 14400 false [] [(false, [.any])] (by kernel_rfl) rfl rfl ((slices_IndexFunc_int_int.g.run N a0).trans h)
noncomputable def slices_IndexFunc_int_int.ent (N : Nat) : Ent Go.Proofs.Try.prog T0 := mkEnt 95 [(false, [.ro 3]), (false, [.any])] slices_IndexFunc_int_int.sig (fun t => slices_IndexFunc_int_int.g N t.1) (fun t r h => slices_IndexFunc_int_int.good N t.1 r h)
end Go.Proofs.Ytpemffldaepbpaa.M

namespace Go.Proofs.Ytpemffldaepbpaa.M
open Go Go.PM Go.Proofs.Ytpemffldaepbpaa.P
set_option linter.unusedVariables false
set_option maxRecDepth 100000
/-! ### slices_ContainsFunc_int_int -/
abbrev slices_ContainsFunc_int_int.R : Type := Bool
abbrev slices_ContainsFunc_int_int.sig : Sig := ⟨[(false, 1), (false, 1)], [], [.sl false 3, .fn 91 []], [(false, 1)], [], [.bool]⟩
noncomputable def slices_ContainsFunc_int_int.C : Cfg D0 := ⟨Go.Proofs.Try.prog, T0, 19, 0, 9, 0, [], 96, false, []⟩
noncomputable def slices_ContainsFunc_int_int.E (N : Nat) : List (Ent Go.Proofs.Try.prog T0) := [slices_IndexFunc_int_int.ent N]
noncomputable def slices_ContainsFunc_int_int.O (N : Nat) : Orc D0 slices_ContainsFunc_int_int.R := orcOf (slices_ContainsFunc_int_int.E N)
noncomputable def slices_ContainsFunc_int_int.K0 : Ex → St D0 → Option slices_ContainsFunc_int_int.R := exitK slices_ContainsFunc_int_int.C Go.Proofs.Try.f90.results.toList [(false, [.any])] (decOut slices_ContainsFunc_int_int.sig)
noncomputable def slices_ContainsFunc_int_int.c1 : Code := codeAt (Go.Proofs.Try.f90.body.getD .skip) []
noncomputable def slices_ContainsFunc_int_int.o0 (N : Nat) (a0 : List Int) : Option slices_ContainsFunc_int_int.R :=
 (slices_IndexFunc_int_int.g N a0).bind fun r1 =>
 some ((decide (r1 ≥ 0)))
theorem slices_ContainsFunc_int_int.o0.run (N : Nat) (a0 : List Int) : runC slices_ContainsFunc_int_int.C (slices_ContainsFunc_int_int.O N) N slices_ContainsFunc_int_int.c1 1 (st0 [.one (.sl false 3 a0), .one (.fn 91 [])] [] : St D0) slices_ContainsFunc_int_int.K0 = slices_ContainsFunc_int_int.o0 N a0 := by kernel_rfl
noncomputable def slices_ContainsFunc_int_int.g (N : Nat) (a0 : List Int) : Option slices_ContainsFunc_int_int.R := slices_ContainsFunc_int_int.o0 N a0
theorem slices_ContainsFunc_int_int.g.run (N : Nat) (a0 : List Int) : runC slices_ContainsFunc_int_int.C (slices_ContainsFunc_int_int.O N) N slices_ContainsFunc_int_int.c1 1 (st0 [.one (.sl false 3 a0), .one (.fn 91 [])] [] : St D0) slices_ContainsFunc_int_int.K0 = slices_ContainsFunc_int_int.g N a0 := by
  exact (slices_ContainsFunc_int_int.o0.run N a0).trans rfl
theorem slices_ContainsFunc_int_int.good (N : Nat) (a0 : List Int) (r : slices_ContainsFunc_int_int.R) (h : slices_ContainsFunc_int_int.g N a0 = some r) : Go.PM.Good Go.Proofs.Try.prog T0 90 [.one (.sl false 3 a0), .one (.fn 91 [])] [] (slices_ContainsFunc_int_int.sig.ret r) (slices_ContainsFunc_int_int.sig.bs r) :=
  good_fn tabOk0 mixed0 slices_ContainsFunc_int_int.sig (slices_ContainsFunc_int_int.E N) Go.Proofs.Try.func90 (by kernel_rfl) (by kernel_rfl) 19 0 0 [] 96 false [] [(false, [.any])] (by kernel_rfl) rfl rfl ((slices_ContainsFunc_int_int.g.run N a0).trans h)
noncomputable def slices_ContainsFunc_int_int.ent (N : Nat) : Ent Go.Proofs.Try.prog T0 := mkEnt 90 [(false, [.ro 3]), (false, [.any])] slices_ContainsFunc_int_int.sig (fun t => slices_ContainsFunc_int_int.g N t.1) (fun t r h => slices_ContainsFunc_int_int.good N t.1 r h)
end Go.Proofs.Ytpemffldaepbpaa.M

namespace Go.Proofs.Ytpemffldaepbpaa.M
open Go Go.PM Go.Proofs.Ytpemffldaepbpaa.P
set_option linter.unusedVariables false
set_option maxRecDepth 100000
/-! ### impl_isHeardList -/
abbrev impl_isHeardList.R : Type := Bool
abbrev impl_isHeardList.sig : Sig := ⟨[(false, 1), (false, 1)], [], [.int .i64, .sl false 3], [(false, 1)], [], [.bool]⟩
noncomputable def impl_isHeardList.C : Cfg D0 := ⟨Go.Proofs.Try.prog, T0, 19, 0, 17, 0, [], 8480, false, []⟩
noncomputable def impl_isHeardList.E (N : Nat) : List (Ent Go.Proofs.Try.prog T0) := [impl_isDial.ent N, impl_within.ent N, slices_ContainsFunc_int_int.ent N]
noncomputable def impl_isHeardList.O (N : Nat) : Orc D0 impl_isHeardList.R := orcOf (impl_isHeardList.E N)
noncomputable def impl_isHeardList.K0 : Ex → St D0 → Option impl_isHeardList.R := exitK impl_isHeardList.C Go.Proofs.Try.f75.results.toList [(false, [.any])] (decOut impl_isHeardList.sig)
noncomputable def impl_isHeardList.c1 : Code := codeAt (Go.Proofs.Try.f75.body.getD .skip) []
noncomputable def impl_isHeardList.o0 (N : Nat) (a0 : Int) (a1 : List Int) : Option impl_isHeardList.R :=
 (impl_isDial.g N a0).bind fun r1 =>
 bif r1 then
  (impl_within.g N (a1.length : Int) 1 60).bind fun r2 =>
  bif r2 then
   (slices_ContainsFunc_int_int.g N a1).bind fun r3 =>
   some ((!r3))
  else
  some (false)
 else
 some (false)
theorem impl_isHeardList.o0.run (N : Nat) (a0 : Int) (a1 : List Int) : runC impl_isHeardList.C (impl_isHeardList.O N) N impl_isHeardList.c1 1 (st0 [.one (.int .i64 a0), .one (.sl false 3 a1)] [] : St D0) impl_isHeardList.K0 = impl_isHeardList.o0 N a0 a1 := by kernel_rfl
noncomputable def impl_isHeardList.g (N : Nat) (a0 : Int) (a1 : List Int) : Option impl_isHeardList.R := impl_isHeardList.o0 N a0 a1
theorem impl_isHeardList.g.run (N : Nat) (a0 : Int) (a1 : List Int) : runC impl_isHeardList.C (impl_isHeardList.O N) N impl_isHeardList.c1 1 (st0 [.one (.int .i64 a0), .one (.sl false 3 a1)] [] : St D0) impl_isHeardList.K0 = impl_isHeardList.g N a0 a1 := by
  exact (impl_isHeardList.o0.run N a0 a1).trans rfl
theorem impl_isHeardList.good (N : Nat) (a0 : Int) (a1 : List Int) (r : impl_isHeardList.R) (h : impl_isHeardList.g N a0 a1 = some r) : Go.PM.Good Go.Proofs.Try.prog T0 75 [.one (.int .i64 a0), .one (.sl false 3 a1)] [] (impl_isHeardList.sig.ret r) (impl_isHeardList.sig.bs r) :=
  good_fn tabOk0 mixed0 impl_isHeardList.sig (impl_isHeardList.E N) Go.Proofs.Try.func75 (by kernel_rfl) (by kernel_rfl) 19 0 0 [] 8480 false [] [(false, [.any])] (by kernel_rfl) rfl rfl ((impl_isHeardList.g.run N a0 a1).trans h)
noncomputable def impl_isHeardList.ent (N : Nat) : Ent Go.Proofs.Try.prog T0 := mkEnt 75 [(false, [.any]), (false, [.ro 3])] impl_isHeardList.sig (fun t => impl_isHeardList.g N t.1 t.2) (fun t r h => impl_isHeardList.good N t.1 t.2 r h)
end Go.Proofs.Ytpemffldaepbpaa.M

namespace Go.Proofs.Ytpemffldaepbpaa.M
open Go Go.PM Go.Proofs.Ytpemffldaepbpaa.P
set_option linter.unusedVariables false
set_option maxRecDepth 100000
/-! ### slices_Equal_int_int -/
abbrev slices_Equal_int_int.R : Type := Bool
abbrev slices_Equal_int_int.sig : Sig := ⟨[(false, 1), (false, 1)], [], [.sl false 3, .sl false 3], [(false, 1)], [], [.bool]⟩
noncomputable def slices_Equal_int_int.C : Cfg D0 := ⟨Go.Proofs.Try.prog, T0, 16806963, 0, 26, 0, [(58, [0, 1, 12, 13], [])], 3344704, false, []⟩
noncomputable def slices_Equal_int_int.E (N : Nat) : List (Ent Go.Proofs.Try.prog T0) := []
noncomputable def slices_Equal_int_int.O (N : Nat) : Orc D0 slices_Equal_int_int.R := orcOf (slices_Equal_int_int.E N)
noncomputable def slices_Equal_int_int.K0 : Ex → St D0 → Option slices_Equal_int_int.R := exitK slices_Equal_int_int.C Go.Proofs.Try.f88.results.toList [(false, [.any])] (decOut slices_Equal_int_int.sig)
noncomputable def slices_Equal_int_int.c1 : Code := codeAt (Go.Proofs.Try.f88.body.getD .skip) []
noncomputable def slices_Equal_int_int.c2 : Code := codeAt (Go.Proofs.Try.f88.body.getD .skip) [false]
noncomputable def slices_Equal_int_int.c6 : Code := codeAt (Go.Proofs.Try.f88.body.getD .skip) [true, false]
noncomputable def slices_Equal_int_int.c15 : Code := codeAt (Go.Proofs.Try.f88.body.getD .skip) [true, true, true]
noncomputable def slices_Equal_int_int.c28 : Code := codeAt (Go.Proofs.Try.f88.body.getD .skip) [true, true, false, false]
noncomputable def slices_Equal_int_int.c116 : Code := codeAt (Go.Proofs.Try.f88.body.getD .skip) [true, true, false, true, false, false]
noncomputable def slices_Equal_int_int.K116 (N : Nat) (Kn58 : St D0 → Option slices_Equal_int_int.R) : Ex → St D0 → Option slices_Equal_int_int.R := (onN (fun s => slices_Equal_int_int.C.tidy 58 s ((onN Kn58 (blockK 0 (onN (fun s => slices_Equal_int_int.C.tidy 14 s (fun s' => runC slices_Equal_int_int.C (slices_Equal_int_int.O N) N slices_Equal_int_int.c15 15 s' slices_Equal_int_int.K0)) slices_Equal_int_int.K0))) .normal)) (onN Kn58 (blockK 0 (onN (fun s => slices_Equal_int_int.C.tidy 14 s (fun s' => runC slices_Equal_int_int.C (slices_Equal_int_int.O N) N slices_Equal_int_int.c15 15 s' slices_Equal_int_int.K0)) slices_Equal_int_int.K0))))
noncomputable def slices_Equal_int_int.o1 (N : Nat) (v0 : List Int) (v1 : List Int) (v2 : Int) (v3 : Int) (c1 : (List Int) → (List Int) → Int → Int → Option slices_Equal_int_int.R) : Option slices_Equal_int_int.R :=
 bif (decide (v3 < v2)) then
  bif (decide (0 ≤ v3)) then
   bif (decide (v3 < (v0.length : Int))) then
    (v0[(v3 : Int).toNat]?).bind fun x1 =>
    bif (decide (0 ≤ v3)) then
     bif (decide (v3 < (v1.length : Int))) then
      (v1[(v3 : Int).toNat]?).bind fun x2 =>
      bif (x1 != x2) then
       some (false)
      else
      c1 v0 v1 v2 (w64 (v3 + 1))
     else
     none
    else
    none
   else
   none
  else
  none
 else
 some (true)
theorem slices_Equal_int_int.o1.run (N : Nat) (Kn58 : St D0 → Option slices_Equal_int_int.R) (v0 : List Int) (v1 : List Int) (v2 : Int) (v3 : Int) : runC slices_Equal_int_int.C (slices_Equal_int_int.O N) N slices_Equal_int_int.c116 116 (mkSt [(0, .one (.sl false 3 v0)), (1, .one (.sl false 3 v1)), (12, .one (.int .i64 v2)), (13, .one (.int .i64 v3))] [] : St D0) (onN (fun s => slices_Equal_int_int.C.tidy 58 s ((onN Kn58 (blockK 0 (onN (fun s => slices_Equal_int_int.C.tidy 14 s (fun s' => runC slices_Equal_int_int.C (slices_Equal_int_int.O N) N slices_Equal_int_int.c15 15 s' slices_Equal_int_int.K0)) slices_Equal_int_int.K0))) .normal)) (onN Kn58 (blockK 0 (onN (fun s => slices_Equal_int_int.C.tidy 14 s (fun s' => runC slices_Equal_int_int.C (slices_Equal_int_int.O N) N slices_Equal_int_int.c15 15 s' slices_Equal_int_int.K0)) slices_Equal_int_int.K0)))) = slices_Equal_int_int.o1 N v0 v1 v2 v3 ((fun w0 w1 w2 w3 => Kn58 (mkSt [(0, .one (.sl false 3 w0)), (1, .one (.sl false 3 w1)), (12, .one (.int .i64 w2)), (13, .one (.int .i64 w3))] [] : St D0))) := by kernel_rfl
noncomputable def slices_Equal_int_int.d1 (N : Nat) (v0 : List Int) (v1 : List Int) (v2 : Int) (v3 : Int) (c1 : (List Int) → (List Int) → Int → Int → Option slices_Equal_int_int.R) : Option slices_Equal_int_int.R := slices_Equal_int_int.o1 N v0 v1 v2 v3 c1
theorem slices_Equal_int_int.d1.run (N : Nat) (Kn58 : St D0 → Option slices_Equal_int_int.R) (v0 : List Int) (v1 : List Int) (v2 : Int) (v3 : Int) : runC slices_Equal_int_int.C (slices_Equal_int_int.O N) N slices_Equal_int_int.c116 116 (mkSt [(0, .one (.sl false 3 v0)), (1, .one (.sl false 3 v1)), (12, .one (.int .i64 v2)), (13, .one (.int .i64 v3))] [] : St D0) (slices_Equal_int_int.K116 N Kn58) = slices_Equal_int_int.d1 N v0 v1 v2 v3 ((fun w0 w1 w2 w3 => Kn58 (mkSt [(0, .one (.sl false 3 w0)), (1, .one (.sl false 3 w1)), (12, .one (.int .i64 w2)), (13, .one (.int .i64 w3))] [] : St D0))) := by
  exact (slices_Equal_int_int.o1.run N Kn58 v0 v1 v2 v3).trans rfl
noncomputable def slices_Equal_int_int.K58 (N : Nat) : Ex → St D0 → Option slices_Equal_int_int.R := (blockK 0 (onN (fun s => slices_Equal_int_int.C.tidy 14 s (fun s' => runC slices_Equal_int_int.C (slices_Equal_int_int.O N) N slices_Equal_int_int.c15 15 s' slices_Equal_int_int.K0)) slices_Equal_int_int.K0))
noncomputable def slices_Equal_int_int.l1 (N : Nat) : Nat → (List Int) → (List Int) → Int → Int → Option slices_Equal_int_int.R
  | 0, _, _, _, _ => none
  | n + 1, v0, v1, v2, v3 => slices_Equal_int_int.d1 N v0 v1 v2 v3 ((fun w0 w1 w2 w3 => slices_Equal_int_int.l1 N n w0 w1 w2 w3))
theorem slices_Equal_int_int.loop58 (N : Nat) : ∀ n, (∀ (v0 : List Int) (v1 : List Int) (v2 : Int) (v3 : Int), iter (loopF slices_Equal_int_int.C (slices_Equal_int_int.O N) N slices_Equal_int_int.c116 58) n (mkSt [(0, .one (.sl false 3 v0)), (1, .one (.sl false 3 v1)), (12, .one (.int .i64 v2)), (13, .one (.int .i64 v3))] [] : St D0) (slices_Equal_int_int.K58 N) = slices_Equal_int_int.l1 N n v0 v1 v2 v3)
  | 0 => (fun v0 v1 v2 v3 => rfl)
  | n + 1 => (fun v0 v1 v2 v3 => (slices_Equal_int_int.d1.run N (fun s => iter (loopF slices_Equal_int_int.C (slices_Equal_int_int.O N) N slices_Equal_int_int.c116 58) n s (slices_Equal_int_int.K58 N)) v0 v1 v2 v3).trans (show _ = slices_Equal_int_int.d1 N v0 v1 v2 v3 ((fun w0 w1 w2 w3 => slices_Equal_int_int.l1 N n w0 w1 w2 w3)) from (congr rfl (funext fun w0 => funext fun w1 => funext fun w2 => funext fun w3 => (slices_Equal_int_int.loop58 N n) w0 w1 w2 w3))))
noncomputable def slices_Equal_int_int.o0 (N : Nat) (a0 : List Int) (a1 : List Int) (c1 : (List Int) → (List Int) → Int → Int → Option slices_Equal_int_int.R) : Option slices_Equal_int_int.R :=
 bif ((a0.length : Int) != (a1.length : Int)) then
  some (false)
 else
 c1 a0 a1 (a0.length : Int) 0
theorem slices_Equal_int_int.o0.run (N : Nat) (H116 : Code) (a0 : List Int) (a1 : List Int) : runC slices_Equal_int_int.C (slices_Equal_int_int.O N) N (.seq slices_Equal_int_int.c2 (.seq slices_Equal_int_int.c6 (.seq (.seq slices_Equal_int_int.c28 (.block 0 (.loop H116))) slices_Equal_int_int.c15))) 1 (st0 [.one (.sl false 3 a0), .one (.sl false 3 a1)] [] : St D0) slices_Equal_int_int.K0 = slices_Equal_int_int.o0 N a0 a1 ((fun w0 w1 w2 w3 => iter (loopF slices_Equal_int_int.C (slices_Equal_int_int.O N) N H116 58) N (mkSt [(0, .one (.sl false 3 w0)), (1, .one (.sl false 3 w1)), (12, .one (.int .i64 w2)), (13, .one (.int .i64 w3))] [] : St D0) (blockK 0 (onN (fun s => slices_Equal_int_int.C.tidy 14 s (fun s' => runC slices_Equal_int_int.C (slices_Equal_int_int.O N) N slices_Equal_int_int.c15 15 s' slices_Equal_int_int.K0)) slices_Equal_int_int.K0)))) := by kernel_rfl
noncomputable def slices_Equal_int_int.g (N : Nat) (a0 : List Int) (a1 : List Int) : Option slices_Equal_int_int.R := slices_Equal_int_int.o0 N a0 a1 ((fun w0 w1 w2 w3 => slices_Equal_int_int.l1 N N w0 w1 w2 w3))
theorem slices_Equal_int_int.c1_0 : slices_Equal_int_int.c1 = (.seq slices_Equal_int_int.c2 (.seq slices_Equal_int_int.c6 (.seq (.seq slices_Equal_int_int.c28 (.block 0 (.loop slices_Equal_int_int.c116))) slices_Equal_int_int.c15))) := by kernel_rfl
theorem slices_Equal_int_int.g.run (N : Nat) (a0 : List Int) (a1 : List Int) : runC slices_Equal_int_int.C (slices_Equal_int_int.O N) N slices_Equal_int_int.c1 1 (st0 [.one (.sl false 3 a0), .one (.sl false 3 a1)] [] : St D0) slices_Equal_int_int.K0 = slices_Equal_int_int.g N a0 a1 := by
  rw [slices_Equal_int_int.c1_0]; unfold slices_Equal_int_int.g; exact (slices_Equal_int_int.o0.run N slices_Equal_int_int.c116 a0 a1).trans (congr rfl (funext fun w0 => funext fun w1 => funext fun w2 => funext fun w3 => (slices_Equal_int_int.loop58 N N) w0 w1 w2 w3))
theorem slices_Equal_int_int.good (N : Nat) (a0 : List Int) (a1 : List Int) (r : slices_Equal_int_int.R) (h : slices_Equal_int_int.g N a0 a1 = some r) : Go.PM.Good Go.Proofs.Try.prog T0 88 [.one (.sl false 3 a0), .one (.sl false 3 a1)] [] (slices_Equal_int_int.sig.ret r) (slices_Equal_int_int.sig.bs r) :=
  good_fn tabOk0 mixed0 slices_Equal_int_int.sig (slices_Equal_int_int.E N) Go.Proofs.Try.func88 (by kernel_rfl) (by kernel_rfl) 16806963 0 0 [(58, [0, 1, 12, 13], [])] 3344704 false [] [(false, [.any])] (by kernel_rfl) rfl rfl ((slices_Equal_int_int.g.run N a0 a1).trans h)
noncomputable def slices_Equal_int_int.ent (N : Nat) : Ent Go.Proofs.Try.prog T0 := mkEnt 88 [(false, [.ro 3]), (false, [.ro 3])] slices_Equal_int_int.sig (fun t => slices_Equal_int_int.g N t.1 t.2) (fun t r h => slices_Equal_int_int.good N t.1 t.2 r h)
end Go.Proofs.Ytpemffldaepbpaa.M

namespace Go.Proofs.Ytpemffldaepbpaa.M
open Go Go.PM Go.Proofs.Ytpemffldaepbpaa.P
set_option linter.unusedVariables false
set_option maxRecDepth 100000
/-! ### impl_halvesOf -/
abbrev impl_halvesOf.R : Type := List Int
abbrev impl_halvesOf.sig : Sig := ⟨[(false, 1), (false, 1)], [], [.int .i64, .sl false 3], [(false, 1)], [], [.sl true 3]⟩
noncomputable def impl_halvesOf.C : Cfg D0 := ⟨Go.Proofs.Try.prog, T0, 527987, 0, 26, 0, [(58, [0, 1, 5, 9, 10], [])], 319744, false, []⟩
noncomputable def impl_halvesOf.E (N : Nat) : List (Ent Go.Proofs.Try.prog T0) := [impl_heardFrom.ent N, slices_Equal_int_int.ent N]
noncomputable def impl_halvesOf.O (N : Nat) : Orc D0 impl_halvesOf.R := orcOf (impl_halvesOf.E N)
noncomputable def impl_halvesOf.K0 : Ex → St D0 → Option impl_halvesOf.R := exitK impl_halvesOf.C Go.Proofs.Try.f73.results.toList [(false, [.own 3])] (decOut impl_halvesOf.sig)
noncomputable def impl_halvesOf.c1 : Code := codeAt (Go.Proofs.Try.f73.body.getD .skip) []
noncomputable def impl_halvesOf.c2 : Code := codeAt (Go.Proofs.Try.f73.body.getD .skip) [false]
noncomputable def impl_halvesOf.c6 : Code := codeAt (Go.Proofs.Try.f73.body.getD .skip) [true, false]
noncomputable def impl_halvesOf.c15 : Code := codeAt (Go.Proofs.Try.f73.body.getD .skip) [true, true, true]
noncomputable def impl_halvesOf.c28 : Code := codeAt (Go.Proofs.Try.f73.body.getD .skip) [true, true, false, false]
noncomputable def impl_halvesOf.c116 : Code := codeAt (Go.Proofs.Try.f73.body.getD .skip) [true, true, false, true, false, false]
noncomputable def impl_halvesOf.K116 (N : Nat) (Kn58 : St D0 → Option impl_halvesOf.R) : Ex → St D0 → Option impl_halvesOf.R := (onN (fun s => impl_halvesOf.C.tidy 58 s ((onN Kn58 (blockK 0 (onN (fun s => impl_halvesOf.C.tidy 14 s (fun s' => runC impl_halvesOf.C (impl_halvesOf.O N) N impl_halvesOf.c15 15 s' impl_halvesOf.K0)) impl_halvesOf.K0))) .normal)) (onN Kn58 (blockK 0 (onN (fun s => impl_halvesOf.C.tidy 14 s (fun s' => runC impl_halvesOf.C (impl_halvesOf.O N) N impl_halvesOf.c15 15 s' impl_halvesOf.K0)) impl_halvesOf.K0))))
noncomputable def impl_halvesOf.o1 (N : Nat) (v0 : Int) (v1 : List Int) (v2 : List Int) (v3 : Int) (v4 : Int) (c1 : Int → (List Int) → (List Int) → Int → Int → Option impl_halvesOf.R) : Option impl_halvesOf.R :=
 bif (decide (v4 < v3)) then
  (impl_heardFrom.g N v0 v4 (v1.length : Int)).bind fun r1 =>
  (slices_Equal_int_int.g N r1 v1).bind fun r2 =>
  bif r2 then
   bif (Nat.blt (v2.length + ([v4] : List Int).length) 17592186044416) then
    c1 v0 v1 (v2 ++ ([v4] : List Int)) v3 (w64 (v4 + 1))
   else
   none
  else
  c1 v0 v1 v2 v3 (w64 (v4 + 1))
 else
 some (v2)
theorem impl_halvesOf.o1.run (N : Nat) (Kn58 : St D0 → Option impl_halvesOf.R) (v0 : Int) (v1 : List Int) (v2 : List Int) (v3 : Int) (v4 : Int) : runC impl_halvesOf.C (impl_halvesOf.O N) N impl_halvesOf.c116 116 (mkSt [(0, .one (.int .i64 v0)), (1, .one (.sl false 3 v1)), (5, .one (.sl true 3 v2)), (9, .one (.int .i64 v3)), (10, .one (.int .i64 v4))] [] : St D0) (onN (fun s => impl_halvesOf.C.tidy 58 s ((onN Kn58 (blockK 0 (onN (fun s => impl_halvesOf.C.tidy 14 s (fun s' => runC impl_halvesOf.C (impl_halvesOf.O N) N impl_halvesOf.c15 15 s' impl_halvesOf.K0)) impl_halvesOf.K0))) .normal)) (onN Kn58 (blockK 0 (onN (fun s => impl_halvesOf.C.tidy 14 s (fun s' => runC impl_halvesOf.C (impl_halvesOf.O N) N impl_halvesOf.c15 15 s' impl_halvesOf.K0)) impl_halvesOf.K0)))) = impl_halvesOf.o1 N v0 v1 v2 v3 v4 ((fun w0 w1 w2 w3 w4 => Kn58 (mkSt [(0, .one (.int .i64 w0)), (1, .one (.sl false 3 w1)), (5, .one (.sl true 3 w2)), (9, .one (.int .i64 w3)), (10, .one (.int .i64 w4))] [] : St D0))) := by kernel_rfl
noncomputable def impl_halvesOf.d1 (N : Nat) (v0 : Int) (v1 : List Int) (v2 : List Int) (v3 : Int) (v4 : Int) (c1 : Int → (List Int) → (List Int) → Int → Int → Option impl_halvesOf.R) : Option impl_halvesOf.R := impl_halvesOf.o1 N v0 v1 v2 v3 v4 c1
theorem impl_halvesOf.d1.run (N : Nat) (Kn58 : St D0 → Option impl_halvesOf.R) (v0 : Int) (v1 : List Int) (v2 : List Int) (v3 : Int) (v4 : Int) : runC impl_halvesOf.C (impl_halvesOf.O N) N impl_halvesOf.c116 116 (mkSt [(0, .one (.int .i64 v0)), (1, .one (.sl false 3 v1)), (5, .one (.sl true 3 v2)), (9, .one (.int .i64 v3)), (10, .one (.int .i64 v4))] [] : St D0) (impl_halvesOf.K116 N Kn58) = impl_halvesOf.d1 N v0 v1 v2 v3 v4 ((fun w0 w1 w2 w3 w4 => Kn58 (mkSt [(0, .one (.int .i64 w0)), (1, .one (.sl false 3 w1)), (5, .one (.sl true 3 w2)), (9, .one (.int .i64 w3)), (10, .one (.int .i64 w4))] [] : St D0))) := by
  exact (impl_halvesOf.o1.run N Kn58 v0 v1 v2 v3 v4).trans rfl
noncomputable def impl_halvesOf.K58 (N : Nat) : Ex → St D0 → Option impl_halvesOf.R := (blockK 0 (onN (fun s => impl_halvesOf.C.tidy 14 s (fun s' => runC impl_halvesOf.C (impl_halvesOf.O N) N impl_halvesOf.c15 15 s' impl_halvesOf.K0)) impl_halvesOf.K0))
noncomputable def impl_halvesOf.l1 (N : Nat) : Nat → Int → (List Int) → (List Int) → Int → Int → Option impl_halvesOf.R
  | 0, _, _, _, _, _ => none
  | n + 1, v0, v1, v2, v3, v4 => impl_halvesOf.d1 N v0 v1 v2 v3 v4 ((fun w0 w1 w2 w3 w4 => impl_halvesOf.l1 N n w0 w1 w2 w3 w4))
theorem impl_halvesOf.loop58 (N : Nat) : ∀ n, (∀ (v0 : Int) (v1 : List Int) (v2 : List Int) (v3 : Int) (v4 : Int), iter (loopF impl_halvesOf.C (impl_halvesOf.O N) N impl_halvesOf.c116 58) n (mkSt [(0, .one (.int .i64 v0)), (1, .one (.sl false 3 v1)), (5, .one (.sl true 3 v2)), (9, .one (.int .i64 v3)), (10, .one (.int .i64 v4))] [] : St D0) (impl_halvesOf.K58 N) = impl_halvesOf.l1 N n v0 v1 v2 v3 v4)
  | 0 => (fun v0 v1 v2 v3 v4 => rfl)
  | n + 1 => (fun v0 v1 v2 v3 v4 => (impl_halvesOf.d1.run N (fun s => iter (loopF impl_halvesOf.C (impl_halvesOf.O N) N impl_halvesOf.c116 58) n s (impl_halvesOf.K58 N)) v0 v1 v2 v3 v4).trans (show _ = impl_halvesOf.d1 N v0 v1 v2 v3 v4 ((fun w0 w1 w2 w3 w4 => impl_halvesOf.l1 N n w0 w1 w2 w3 w4)) from (congr rfl (funext fun w0 => funext fun w1 => funext fun w2 => funext fun w3 => funext fun w4 => (impl_halvesOf.loop58 N n) w0 w1 w2 w3 w4))))
noncomputable def impl_halvesOf.o0 (N : Nat) (a0 : Int) (a1 : List Int) (c1 : Int → (List Int) → (List Int) → Int → Int → Option impl_halvesOf.R) : Option impl_halvesOf.R :=
 c1 a0 a1 ([] : List Int) (w64 (2 * a0)) 0
theorem impl_halvesOf.o0.run (N : Nat) (H116 : Code) (a0 : Int) (a1 : List Int) : runC impl_halvesOf.C (impl_halvesOf.O N) N (.seq impl_halvesOf.c2 (.seq impl_halvesOf.c6 (.seq (.seq impl_halvesOf.c28 (.block 0 (.loop H116))) impl_halvesOf.c15))) 1 (st0 [.one (.int .i64 a0), .one (.sl false 3 a1)] [] : St D0) impl_halvesOf.K0 = impl_halvesOf.o0 N a0 a1 ((fun w0 w1 w2 w3 w4 => iter (loopF impl_halvesOf.C (impl_halvesOf.O N) N H116 58) N (mkSt [(0, .one (.int .i64 w0)), (1, .one (.sl false 3 w1)), (5, .one (.sl true 3 w2)), (9, .one (.int .i64 w3)), (10, .one (.int .i64 w4))] [] : St D0) (blockK 0 (onN (fun s => impl_halvesOf.C.tidy 14 s (fun s' => runC impl_halvesOf.C (impl_halvesOf.O N) N impl_halvesOf.c15 15 s' impl_halvesOf.K0)) impl_halvesOf.K0)))) := by kernel_rfl
noncomputable def impl_halvesOf.g (N : Nat) (a0 : Int) (a1 : List Int) : Option impl_halvesOf.R := impl_halvesOf.o0 N a0 a1 ((fun w0 w1 w2 w3 w4 => impl_halvesOf.l1 N N w0 w1 w2 w3 w4))
theorem impl_halvesOf.c1_0 : impl_halvesOf.c1 = (.seq impl_halvesOf.c2 (.seq impl_halvesOf.c6 (.seq (.seq impl_halvesOf.c28 (.block 0 (.loop impl_halvesOf.c116))) impl_halvesOf.c15))) := by kernel_rfl
theorem impl_halvesOf.g.run (N : Nat) (a0 : Int) (a1 : List Int) : runC impl_halvesOf.C (impl_halvesOf.O N) N impl_halvesOf.c1 1 (st0 [.one (.int .i64 a0), .one (.sl false 3 a1)] [] : St D0) impl_halvesOf.K0 = impl_halvesOf.g N a0 a1 := by
  rw [impl_halvesOf.c1_0]; unfold impl_halvesOf.g; exact (impl_halvesOf.o0.run N impl_halvesOf.c116 a0 a1).trans (congr rfl (funext fun w0 => funext fun w1 => funext fun w2 => funext fun w3 => funext fun w4 => (impl_halvesOf.loop58 N N) w0 w1 w2 w3 w4))
theorem impl_halvesOf.good (N : Nat) (a0 : Int) (a1 : List Int) (r : impl_halvesOf.R) (h : impl_halvesOf.g N a0 a1 = some r) : Go.PM.Good Go.Proofs.Try.prog T0 73 [.one (.int .i64 a0), .one (.sl false 3 a1)] [] (impl_halvesOf.sig.ret r) (impl_halvesOf.sig.bs r) :=
  good_fn tabOk0 mixed0 impl_halvesOf.sig (impl_halvesOf.E N) Go.Proofs.Try.func73 (by kernel_rfl) (by kernel_rfl) 527987 0 0 [(58, [0, 1, 5, 9, 10], [])] 319744 false [] [(false, [.own 3])] (by kernel_rfl) rfl rfl ((impl_halvesOf.g.run N a0 a1).trans h)
noncomputable def impl_halvesOf.ent (N : Nat) : Ent Go.Proofs.Try.prog T0 := mkEnt 73 [(false, [.any]), (false, [.ro 3])] impl_halvesOf.sig (fun t => impl_halvesOf.g N t.1 t.2) (fun t r h => impl_halvesOf.good N t.1 t.2 r h)
end Go.Proofs.Ytpemffldaepbpaa.M

namespace Go.Proofs.Ytpemffldaepbpaa.M
open Go Go.PM Go.Proofs.Ytpemffldaepbpaa.P
set_option linter.unusedVariables false
set_option maxRecDepth 100000
/-! ### impl_HalvesOfHeard -/
abbrev impl_HalvesOfHeard.R : Type := List Int × Bool
abbrev impl_HalvesOfHeard.sig : Sig := ⟨[(false, 1), (false, 1)], [], [.int .i64, .sl false 3], [(false, 1), (false, 1)], [], [.sl true 3, .bool]⟩
noncomputable def impl_HalvesOfHeard.C : Cfg D0 := ⟨Go.Proofs.Try.prog, T0, 563, 0, 13, 0, [], 3264, false, []⟩
noncomputable def impl_HalvesOfHeard.E (N : Nat) : List (Ent Go.Proofs.Try.prog T0) := [impl_isHeardList.ent N, impl_halvesOf.ent N]
noncomputable def impl_HalvesOfHeard.O (N : Nat) : Orc D0 impl_HalvesOfHeard.R := orcOf (impl_HalvesOfHeard.E N)
noncomputable def impl_HalvesOfHeard.K0 : Ex → St D0 → Option impl_HalvesOfHeard.R := exitK impl_HalvesOfHeard.C Go.Proofs.Try.f27.results.toList [(false, [.own 3]), (false, [.any])] (decOut impl_HalvesOfHeard.sig)
noncomputable def impl_HalvesOfHeard.c1 : Code := codeAt (Go.Proofs.Try.f27.body.getD .skip) []
noncomputable def impl_HalvesOfHeard.o0 (N : Nat) (a0 : Int) (a1 : List Int) : Option impl_HalvesOfHeard.R :=
 (impl_isHeardList.g N a0 a1).bind fun r1 =>
 bif (!r1) then
  some (([] : List Int), false)
 else
 (impl_halvesOf.g N a0 a1).bind fun r2 =>
 some (r2, true)
theorem impl_HalvesOfHeard.o0.run (N : Nat) (a0 : Int) (a1 : List Int) : runC impl_HalvesOfHeard.C (impl_HalvesOfHeard.O N) N impl_HalvesOfHeard.c1 1 (st0 [.one (.int .i64 a0), .one (.sl false 3 a1)] [] : St D0) impl_HalvesOfHeard.K0 = impl_HalvesOfHeard.o0 N a0 a1 := by kernel_rfl
noncomputable def impl_HalvesOfHeard.g (N : Nat) (a0 : Int) (a1 : List Int) : Option impl_HalvesOfHeard.R := impl_HalvesOfHeard.o0 N a0 a1
theorem impl_HalvesOfHeard.g.run (N : Nat) (a0 : Int) (a1 : List Int) : runC impl_HalvesOfHeard.C (impl_HalvesOfHeard.O N) N impl_HalvesOfHeard.c1 1 (st0 [.one (.int .i64 a0), .one (.sl false 3 a1)] [] : St D0) impl_HalvesOfHeard.K0 = impl_HalvesOfHeard.g N a0 a1 := by
  exact (impl_HalvesOfHeard.o0.run N a0 a1).trans rfl
theorem impl_HalvesOfHeard.good (N : Nat) (a0 : Int) (a1 : List Int) (r : impl_HalvesOfHeard.R) (h : impl_HalvesOfHeard.g N a0 a1 = some r) : Go.PM.Good Go.Proofs.Try.prog T0 27 [.one (.int .i64 a0), .one (.sl false 3 a1)] [] (impl_HalvesOfHeard.sig.ret r) (impl_HalvesOfHeard.sig.bs r) :=
  good_fn tabOk0 mixed0 impl_HalvesOfHeard.sig (impl_HalvesOfHeard.E N) Go.Proofs.Try.func27 (by kernel_rfl) (by kernel_rfl) 563 0 0 [] 3264 false [] [(false, [.own 3]), (false, [.any])] (by kernel_rfl) rfl rfl ((impl_HalvesOfHeard.g.run N a0 a1).trans h)
noncomputable def impl_HalvesOfHeard.ent (N : Nat) : Ent Go.Proofs.Try.prog T0 := mkEnt 27 [(false, [.any]), (false, [.ro 3])] impl_HalvesOfHeard.sig (fun t => impl_HalvesOfHeard.g N t.1 t.2) (fun t r h => impl_HalvesOfHeard.good N t.1 t.2 r h)
end Go.Proofs.Ytpemffldaepbpaa.M

namespace Go.Proofs.Ytpemffldaepbpaa.M
open Go Go.PM Go.Proofs.Ytpemffldaepbpaa.P
set_option linter.unusedVariables false
set_option maxRecDepth 100000
/-! ### spec_l1All -/
abbrev spec_l1All.R : Type := Bool
abbrev spec_l1All.sig : Sig := ⟨[(false, 1), (false, 1), (false, 1)], [], [.sl false 3, .int .i64, .int .i64], [(false, 1)], [], [.bool]⟩
noncomputable def spec_l1All.C : Cfg D0 := ⟨Go.Proofs.Try.prog, T0, 532295, 0, 21, 0, [(26, [1, 2, 9, 10, 11], [])], 229376, false, []⟩
noncomputable def spec_l1All.E (N : Nat) : List (Ent Go.Proofs.Try.prog T0) := [spec_l1In.ent N]
noncomputable def spec_l1All.O (N : Nat) : Orc D0 spec_l1All.R := orcOf (spec_l1All.E N)
noncomputable def spec_l1All.K0 : Ex → St D0 → Option spec_l1All.R := exitK spec_l1All.C Go.Proofs.Try.f92.results.toList [(false, [.any])] (decOut spec_l1All.sig)
noncomputable def spec_l1All.c1 : Code := codeAt (Go.Proofs.Try.f92.body.getD .skip) []
noncomputable def spec_l1All.c2 : Code := codeAt (Go.Proofs.Try.f92.body.getD .skip) [false]
noncomputable def spec_l1All.c7 : Code := codeAt (Go.Proofs.Try.f92.body.getD .skip) [true, true]
noncomputable def spec_l1All.c12 : Code := codeAt (Go.Proofs.Try.f92.body.getD .skip) [true, false, false]
noncomputable def spec_l1All.c52 : Code := codeAt (Go.Proofs.Try.f92.body.getD .skip) [true, false, true, false, false]
noncomputable def spec_l1All.K52 (N : Nat) (Kn26 : St D0 → Option spec_l1All.R) : Ex → St D0 → Option spec_l1All.R := (onN (fun s => spec_l1All.C.tidy 26 s ((onN Kn26 (blockK 0 (onN (fun s => spec_l1All.C.tidy 6 s (fun s' => runC spec_l1All.C (spec_l1All.O N) N spec_l1All.c7 7 s' spec_l1All.K0)) spec_l1All.K0))) .normal)) (onN Kn26 (blockK 0 (onN (fun s => spec_l1All.C.tidy 6 s (fun s' => runC spec_l1All.C (spec_l1All.O N) N spec_l1All.c7 7 s' spec_l1All.K0)) spec_l1All.K0))))
noncomputable def spec_l1All.o1 (N : Nat) (v0 : Int) (v1 : Int) (v2 : List Int) (v3 : Int) (v4 : Int) (c1 : Int → Int → (List Int) → Int → Int → Option spec_l1All.R) : Option spec_l1All.R :=
 bif (decide (v4 < v3)) then
  bif (decide (0 ≤ v4)) then
   bif (decide (v4 < (v2.length : Int))) then
    (v2[(v4 : Int).toNat]?).bind fun x1 =>
    (spec_l1In.g N x1 v0 v1).bind fun r2 =>
    bif (!r2) then
     some (false)
    else
    c1 v0 v1 v2 v3 (w64 (v4 + 1))
   else
   none
  else
  none
 else
 some (true)
theorem spec_l1All.o1.run (N : Nat) (Kn26 : St D0 → Option spec_l1All.R) (v0 : Int) (v1 : Int) (v2 : List Int) (v3 : Int) (v4 : Int) : runC spec_l1All.C (spec_l1All.O N) N spec_l1All.c52 52 (mkSt [(1, .one (.int .i64 v0)), (2, .one (.int .i64 v1)), (9, .one (.sl false 3 v2)), (10, .one (.int .i64 v3)), (11, .one (.int .i64 v4))] [] : St D0) (onN (fun s => spec_l1All.C.tidy 26 s ((onN Kn26 (blockK 0 (onN (fun s => spec_l1All.C.tidy 6 s (fun s' => runC spec_l1All.C (spec_l1All.O N) N spec_l1All.c7 7 s' spec_l1All.K0)) spec_l1All.K0))) .normal)) (onN Kn26 (blockK 0 (onN (fun s => spec_l1All.C.tidy 6 s (fun s' => runC spec_l1All.C (spec_l1All.O N) N spec_l1All.c7 7 s' spec_l1All.K0)) spec_l1All.K0)))) = spec_l1All.o1 N v0 v1 v2 v3 v4 ((fun w0 w1 w2 w3 w4 => Kn26 (mkSt [(1, .one (.int .i64 w0)), (2, .one (.int .i64 w1)), (9, .one (.sl false 3 w2)), (10, .one (.int .i64 w3)), (11, .one (.int .i64 w4))] [] : St D0))) := by kernel_rfl
noncomputable def spec_l1All.d1 (N : Nat) (v0 : Int) (v1 : Int) (v2 : List Int) (v3 : Int) (v4 : Int) (c1 : Int → Int → (List Int) → Int → Int → Option spec_l1All.R) : Option spec_l1All.R := spec_l1All.o1 N v0 v1 v2 v3 v4 c1
theorem spec_l1All.d1.run (N : Nat) (Kn26 : St D0 → Option spec_l1All.R) (v0 : Int) (v1 : Int) (v2 : List Int) (v3 : Int) (v4 : Int) : runC spec_l1All.C (spec_l1All.O N) N spec_l1All.c52 52 (mkSt [(1, .one (.int .i64 v0)), (2, .one (.int .i64 v1)), (9, .one (.sl false 3 v2)), (10, .one (.int .i64 v3)), (11, .one (.int .i64 v4))] [] : St D0) (spec_l1All.K52 N Kn26) = spec_l1All.d1 N v0 v1 v2 v3 v4 ((fun w0 w1 w2 w3 w4 => Kn26 (mkSt [(1, .one (.int .i64 w0)), (2, .one (.int .i64 w1)), (9, .one (.sl false 3 w2)), (10, .one (.int .i64 w3)), (11, .one (.int .i64 w4))] [] : St D0))) := by
  exact (spec_l1All.o1.run N Kn26 v0 v1 v2 v3 v4).trans rfl
noncomputable def spec_l1All.K26 (N : Nat) : Ex → St D0 → Option spec_l1All.R := (blockK 0 (onN (fun s => spec_l1All.C.tidy 6 s (fun s' => runC spec_l1All.C (spec_l1All.O N) N spec_l1All.c7 7 s' spec_l1All.K0)) spec_l1All.K0))
noncomputable def spec_l1All.l1 (N : Nat) : Nat → Int → Int → (List Int) → Int → Int → Option spec_l1All.R
  | 0, _, _, _, _, _ => none
  | n + 1, v0, v1, v2, v3, v4 => spec_l1All.d1 N v0 v1 v2 v3 v4 ((fun w0 w1 w2 w3 w4 => spec_l1All.l1 N n w0 w1 w2 w3 w4))
theorem spec_l1All.loop26 (N : Nat) : ∀ n, (∀ (v0 : Int) (v1 : Int) (v2 : List Int) (v3 : Int) (v4 : Int), iter (loopF spec_l1All.C (spec_l1All.O N) N spec_l1All.c52 26) n (mkSt [(1, .one (.int .i64 v0)), (2, .one (.int .i64 v1)), (9, .one (.sl false 3 v2)), (10, .one (.int .i64 v3)), (11, .one (.int .i64 v4))] [] : St D0) (spec_l1All.K26 N) = spec_l1All.l1 N n v0 v1 v2 v3 v4)
  | 0 => (fun v0 v1 v2 v3 v4 => rfl)
  | n + 1 => (fun v0 v1 v2 v3 v4 => (spec_l1All.d1.run N (fun s => iter (loopF spec_l1All.C (spec_l1All.O N) N spec_l1All.c52 26) n s (spec_l1All.K26 N)) v0 v1 v2 v3 v4).trans (show _ = spec_l1All.d1 N v0 v1 v2 v3 v4 ((fun w0 w1 w2 w3 w4 => spec_l1All.l1 N n w0 w1 w2 w3 w4)) from (congr rfl (funext fun w0 => funext fun w1 => funext fun w2 => funext fun w3 => funext fun w4 => (spec_l1All.loop26 N n) w0 w1 w2 w3 w4))))
noncomputable def spec_l1All.o0 (N : Nat) (a0 : List Int) (a1 : Int) (a2 : Int) (c1 : Int → Int → (List Int) → Int → Int → Option spec_l1All.R) : Option spec_l1All.R :=
 c1 a1 a2 a0 (a0.length : Int) 0
theorem spec_l1All.o0.run (N : Nat) (H52 : Code) (a0 : List Int) (a1 : Int) (a2 : Int) : runC spec_l1All.C (spec_l1All.O N) N (.seq spec_l1All.c2 (.seq (.seq spec_l1All.c12 (.block 0 (.loop H52))) spec_l1All.c7)) 1 (st0 [.one (.sl false 3 a0), .one (.int .i64 a1), .one (.int .i64 a2)] [] : St D0) spec_l1All.K0 = spec_l1All.o0 N a0 a1 a2 ((fun w0 w1 w2 w3 w4 => iter (loopF spec_l1All.C (spec_l1All.O N) N H52 26) N (mkSt [(1, .one (.int .i64 w0)), (2, .one (.int .i64 w1)), (9, .one (.sl false 3 w2)), (10, .one (.int .i64 w3)), (11, .one (.int .i64 w4))] [] : St D0) (blockK 0 (onN (fun s => spec_l1All.C.tidy 6 s (fun s' => runC spec_l1All.C (spec_l1All.O N) N spec_l1All.c7 7 s' spec_l1All.K0)) spec_l1All.K0)))) := by kernel_rfl
noncomputable def spec_l1All.g (N : Nat) (a0 : List Int) (a1 : Int) (a2 : Int) : Option spec_l1All.R := spec_l1All.o0 N a0 a1 a2 ((fun w0 w1 w2 w3 w4 => spec_l1All.l1 N N w0 w1 w2 w3 w4))
theorem spec_l1All.c1_0 : spec_l1All.c1 = (.seq spec_l1All.c2 (.seq (.seq spec_l1All.c12 (.block 0 (.loop spec_l1All.c52))) spec_l1All.c7)) := by kernel_rfl
theorem spec_l1All.g.run (N : Nat) (a0 : List Int) (a1 : Int) (a2 : Int) : runC spec_l1All.C (spec_l1All.O N) N spec_l1All.c1 1 (st0 [.one (.sl false 3 a0), .one (.int .i64 a1), .one (.int .i64 a2)] [] : St D0) spec_l1All.K0 = spec_l1All.g N a0 a1 a2 := by
  rw [spec_l1All.c1_0]; unfold spec_l1All.g; exact (spec_l1All.o0.run N spec_l1All.c52 a0 a1 a2).trans (congr rfl (funext fun w0 => funext fun w1 => funext fun w2 => funext fun w3 => funext fun w4 => (spec_l1All.loop26 N N) w0 w1 w2 w3 w4))
theorem spec_l1All.good (N : Nat) (a0 : List Int) (a1 : Int) (a2 : Int) (r : spec_l1All.R) (h : spec_l1All.g N a0 a1 a2 = some r) : Go.PM.Good Go.Proofs.Try.prog T0 92 [.one (.sl false 3 a0), .one (.int .i64 a1), .one (.int .i64 a2)] [] (spec_l1All.sig.ret r) (spec_l1All.sig.bs r) :=
  good_fn tabOk0 mixed0 spec_l1All.sig (spec_l1All.E N) Go.Proofs.Try.func92 (by kernel_rfl) (by kernel_rfl) 532295 0 0 [(26, [1, 2, 9, 10, 11], [])] 229376 false [] [(false, [.any])] (by kernel_rfl) rfl rfl ((spec_l1All.g.run N a0 a1 a2).trans h)
noncomputable def spec_l1All.ent (N : Nat) : Ent Go.Proofs.Try.prog T0 := mkEnt 92 [(false, [.ro 3]), (false, [.any]), (false, [.any])] spec_l1All.sig (fun t => spec_l1All.g N t.1 t.2.1 t.2.2) (fun t r h => spec_l1All.good N t.1 t.2.1 t.2.2 r h)
end Go.Proofs.Ytpemffldaepbpaa.M

namespace Go.Proofs.Ytpemffldaepbpaa.M
open Go Go.PM Go.Proofs.Ytpemffldaepbpaa.P
set_option linter.unusedVariables false
set_option maxRecDepth 100000
/-! ### spec_stHeard -/
abbrev spec_stHeard.R : Type := Bool
abbrev spec_stHeard.sig : Sig := ⟨[(false, 1), (false, 1)], [], [.int .i64, .sl false 3], [(false, 1)], [], [.bool]⟩
noncomputable def spec_stHeard.C : Cfg D0 := ⟨Go.Proofs.Try.prog, T0, 19, 0, 16, 0, [], 8480, false, []⟩
noncomputable def spec_stHeard.E (N : Nat) : List (Ent Go.Proofs.Try.prog T0) := [spec_diHours.ent N, spec_l1In.ent N, spec_l1All.ent N]
noncomputable def spec_stHeard.O (N : Nat) : Orc D0 spec_stHeard.R := orcOf (spec_stHeard.E N)
noncomputable def spec_stHeard.K0 : Ex → St D0 → Option spec_stHeard.R := exitK spec_stHeard.C Go.Proofs.Try.f79.results.toList [(false, [.any])] (decOut spec_stHeard.sig)
noncomputable def spec_stHeard.c1 : Code := codeAt (Go.Proofs.Try.f79.body.getD .skip) []
noncomputable def spec_stHeard.o0 (N : Nat) (a0 : Int) (a1 : List Int) : Option spec_stHeard.R :=
 (spec_diHours.g N a0).bind fun r1 =>
 bif r1 then
  (spec_l1In.g N (a1.length : Int) 1 60).bind fun r2 =>
  bif r2 then
   (spec_l1All.g N a1 1 24).bind fun r3 =>
   some (r3)
  else
  some (false)
 else
 some (false)
theorem spec_stHeard.o0.run (N : Nat) (a0 : Int) (a1 : List Int) : runC spec_stHeard.C (spec_stHeard.O N) N spec_stHeard.c1 1 (st0 [.one (.int .i64 a0), .one (.sl false 3 a1)] [] : St D0) spec_stHeard.K0 = spec_stHeard.o0 N a0 a1 := by kernel_rfl
noncomputable def spec_stHeard.g (N : Nat) (a0 : Int) (a1 : List Int) : Option spec_stHeard.R := spec_stHeard.o0 N a0 a1
theorem spec_stHeard.g.run (N : Nat) (a0 : Int) (a1 : List Int) : runC spec_stHeard.C (spec_stHeard.O N) N spec_stHeard.c1 1 (st0 [.one (.int .i64 a0), .one (.sl false 3 a1)] [] : St D0) spec_stHeard.K0 = spec_stHeard.g N a0 a1 := by
  exact (spec_stHeard.o0.run N a0 a1).trans rfl
theorem spec_stHeard.good (N : Nat) (a0 : Int) (a1 : List Int) (r : spec_stHeard.R) (h : spec_stHeard.g N a0 a1 = some r) : Go.PM.Good Go.Proofs.Try.prog T0 79 [.one (.int .i64 a0), .one (.sl false 3 a1)] [] (spec_stHeard.sig.ret r) (spec_stHeard.sig.bs r) :=
  good_fn tabOk0 mixed0 spec_stHeard.sig (spec_stHeard.E N) Go.Proofs.Try.func79 (by kernel_rfl) (by kernel_rfl) 19 0 0 [] 8480 false [] [(false, [.any])] (by kernel_rfl) rfl rfl ((spec_stHeard.g.run N a0 a1).trans h)
noncomputable def spec_stHeard.ent (N : Nat) : Ent Go.Proofs.Try.prog T0 := mkEnt 79 [(false, [.any]), (false, [.ro 3])] spec_stHeard.sig (fun t => spec_stHeard.g N t.1 t.2) (fun t r h => spec_stHeard.good N t.1 t.2 r h)
end Go.Proofs.Ytpemffldaepbpaa.M

namespace Go.Proofs.Ytpemffldaepbpaa.M
open Go Go.PM Go.Proofs.Ytpemffldaepbpaa.P
set_option linter.unusedVariables false
set_option maxRecDepth 100000
/-! ### spec_l1Same -/
abbrev spec_l1Same.R : Type := Bool
abbrev spec_l1Same.sig : Sig := ⟨[(false, 1), (false, 1)], [], [.sl false 3, .sl false 3], [(false, 1)], [], [.bool]⟩
noncomputable def spec_l1Same.C : Cfg D0 := ⟨Go.Proofs.Try.prog, T0, 16806963, 0, 26, 0, [(58, [0, 1, 12, 13], [])], 3344704, false, []⟩
noncomputable def spec_l1Same.E (N : Nat) : List (Ent Go.Proofs.Try.prog T0) := []
noncomputable def spec_l1Same.O (N : Nat) : Orc D0 spec_l1Same.R := orcOf (spec_l1Same.E N)
noncomputable def spec_l1Same.K0 : Ex → St D0 → Option spec_l1Same.R := exitK spec_l1Same.C Go.Proofs.Try.f89.results.toList [(false, [.any])] (decOut spec_l1Same.sig)
noncomputable def spec_l1Same.c1 : Code := codeAt (Go.Proofs.Try.f89.body.getD .skip) []
noncomputable def spec_l1Same.c2 : Code := codeAt (Go.Proofs.Try.f89.body.getD .skip) [false]
noncomputable def spec_l1Same.c6 : Code := codeAt (Go.Proofs.Try.f89.body.getD .skip) [true, false]
noncomputable def spec_l1Same.c15 : Code := codeAt (Go.Proofs.Try.f89.body.getD .skip) [true, true, true]
noncomputable def spec_l1Same.c28 : Code := codeAt (Go.Proofs.Try.f89.body.getD .skip) [true, true, false, false]
noncomputable def spec_l1Same.c116 : Code := codeAt (Go.Proofs.Try.f89.body.getD .skip) [true, true, false, true, false, false]
noncomputable def spec_l1Same.K116 (N : Nat) (Kn58 : St D0 → Option spec_l1Same.R) : Ex → St D0 → Option spec_l1Same.R := (onN (fun s => spec_l1Same.C.tidy 58 s ((onN Kn58 (blockK 0 (onN (fun s => spec_l1Same.C.tidy 14 s (fun s' => runC spec_l1Same.C (spec_l1Same.O N) N spec_l1Same.c15 15 s' spec_l1Same.K0)) spec_l1Same.K0))) .normal)) (onN Kn58 (blockK 0 (onN (fun s => spec_l1Same.C.tidy 14 s (fun s' => runC spec_l1Same.C (spec_l1Same.O N) N spec_l1Same.c15 15 s' spec_l1Same.K0)) spec_l1Same.K0))))
noncomputable def spec_l1Same.o1 (N : Nat) (v0 : List Int) (v1 : List Int) (v2 : Int) (v3 : Int) (c1 : (List Int) → (List Int) → Int → Int → Option spec_l1Same.R) : Option spec_l1Same.R :=
 bif (decide (v3 < v2)) then
  bif (decide (0 ≤ v3)) then
   bif (decide (v3 < (v0.length : Int))) then
    (v0[(v3 : Int).toNat]?).bind fun x1 =>
    bif (decide (0 ≤ v3)) then
     bif (decide (v3 < (v1.length : Int))) then
      (v1[(v3 : Int).toNat]?).bind fun x2 =>
      bif (x1 != x2) then
       some (false)
      else
      c1 v0 v1 v2 (w64 (v3 + 1))
     else
     none
    else
    none
   else
   none
  else
  none
 else
 some (true)
theorem spec_l1Same.o1.run (N : Nat) (Kn58 : St D0 → Option spec_l1Same.R) (v0 : List Int) (v1 : List Int) (v2 : Int) (v3 : Int) : runC spec_l1Same.C (spec_l1Same.O N) N spec_l1Same.c116 116 (mkSt [(0, .one (.sl false 3 v0)), (1, .one (.sl false 3 v1)), (12, .one (.int .i64 v2)), (13, .one (.int .i64 v3))] [] : St D0) (onN (fun s => spec_l1Same.C.tidy 58 s ((onN Kn58 (blockK 0 (onN (fun s => spec_l1Same.C.tidy 14 s (fun s' => runC spec_l1Same.C (spec_l1Same.O N) N spec_l1Same.c15 15 s' spec_l1Same.K0)) spec_l1Same.K0))) .normal)) (onN Kn58 (blockK 0 (onN (fun s => spec_l1Same.C.tidy 14 s (fun s' => runC spec_l1Same.C (spec_l1Same.O N) N spec_l1Same.c15 15 s' spec_l1Same.K0)) spec_l1Same.K0)))) = spec_l1Same.o1 N v0 v1 v2 v3 ((fun w0 w1 w2 w3 => Kn58 (mkSt [(0, .one (.sl false 3 w0)), (1, .one (.sl false 3 w1)), (12, .one (.int .i64 w2)), (13, .one (.int .i64 w3))] [] : St D0))) := by kernel_rfl
noncomputable def spec_l1Same.d1 (N : Nat) (v0 : List Int) (v1 : List Int) (v2 : Int) (v3 : Int) (c1 : (List Int) → (List Int) → Int → Int → Option spec_l1Same.R) : Option spec_l1Same.R := spec_l1Same.o1 N v0 v1 v2 v3 c1
theorem spec_l1Same.d1.run (N : Nat) (Kn58 : St D0 → Option spec_l1Same.R) (v0 : List Int) (v1 : List Int) (v2 : Int) (v3 : Int) : runC spec_l1Same.C (spec_l1Same.O N) N spec_l1Same.c116 116 (mkSt [(0, .one (.sl false 3 v0)), (1, .one (.sl false 3 v1)), (12, .one (.int .i64 v2)), (13, .one (.int .i64 v3))] [] : St D0) (spec_l1Same.K116 N Kn58) = spec_l1Same.d1 N v0 v1 v2 v3 ((fun w0 w1 w2 w3 => Kn58 (mkSt [(0, .one (.sl false 3 w0)), (1, .one (.sl false 3 w1)), (12, .one (.int .i64 w2)), (13, .one (.int .i64 w3))] [] : St D0))) := by
  exact (spec_l1Same.o1.run N Kn58 v0 v1 v2 v3).trans rfl
noncomputable def spec_l1Same.K58 (N : Nat) : Ex → St D0 → Option spec_l1Same.R := (blockK 0 (onN (fun s => spec_l1Same.C.tidy 14 s (fun s' => runC spec_l1Same.C (spec_l1Same.O N) N spec_l1Same.c15 15 s' spec_l1Same.K0)) spec_l1Same.K0))
noncomputable def spec_l1Same.l1 (N : Nat) : Nat → (List Int) → (List Int) → Int → Int → Option spec_l1Same.R
  | 0, _, _, _, _ => none
  | n + 1, v0, v1, v2, v3 => spec_l1Same.d1 N v0 v1 v2 v3 ((fun w0 w1 w2 w3 => spec_l1Same.l1 N n w0 w1 w2 w3))
theorem spec_l1Same.loop58 (N : Nat) : ∀ n, (∀ (v0 : List Int) (v1 : List Int) (v2 : Int) (v3 : Int), iter (loopF spec_l1Same.C (spec_l1Same.O N) N spec_l1Same.c116 58) n (mkSt [(0, .one (.sl false 3 v0)), (1, .one (.sl false 3 v1)), (12, .one (.int .i64 v2)), (13, .one (.int .i64 v3))] [] : St D0) (spec_l1Same.K58 N) = spec_l1Same.l1 N n v0 v1 v2 v3)
  | 0 => (fun v0 v1 v2 v3 => rfl)
  | n + 1 => (fun v0 v1 v2 v3 => (spec_l1Same.d1.run N (fun s => iter (loopF spec_l1Same.C (spec_l1Same.O N) N spec_l1Same.c116 58) n s (spec_l1Same.K58 N)) v0 v1 v2 v3).trans (show _ = spec_l1Same.d1 N v0 v1 v2 v3 ((fun w0 w1 w2 w3 => spec_l1Same.l1 N n w0 w1 w2 w3)) from (congr rfl (funext fun w0 => funext fun w1 => funext fun w2 => funext fun w3 => (spec_l1Same.loop58 N n) w0 w1 w2 w3))))
noncomputable def spec_l1Same.o0 (N : Nat) (a0 : List Int) (a1 : List Int) (c1 : (List Int) → (List Int) → Int → Int → Option spec_l1Same.R) : Option spec_l1Same.R :=
 bif ((a0.length : Int) != (a1.length : Int)) then
  some (false)
 else
 c1 a0 a1 (a0.length : Int) 0
theorem spec_l1Same.o0.run (N : Nat) (H116 : Code) (a0 : List Int) (a1 : List Int) : runC spec_l1Same.C (spec_l1Same.O N) N (.seq spec_l1Same.c2 (.seq spec_l1Same.c6 (.seq (.seq spec_l1Same.c28 (.block 0 (.loop H116))) spec_l1Same.c15))) 1 (st0 [.one (.sl false 3 a0), .one (.sl false 3 a1)] [] : St D0) spec_l1Same.K0 = spec_l1Same.o0 N a0 a1 ((fun w0 w1 w2 w3 => iter (loopF spec_l1Same.C (spec_l1Same.O N) N H116 58) N (mkSt [(0, .one (.sl false 3 w0)), (1, .one (.sl false 3 w1)), (12, .one (.int .i64 w2)), (13, .one (.int .i64 w3))] [] : St D0) (blockK 0 (onN (fun s => spec_l1Same.C.tidy 14 s (fun s' => runC spec_l1Same.C (spec_l1Same.O N) N spec_l1Same.c15 15 s' spec_l1Same.K0)) spec_l1Same.K0)))) := by kernel_rfl
noncomputable def spec_l1Same.g (N : Nat) (a0 : List Int) (a1 : List Int) : Option spec_l1Same.R := spec_l1Same.o0 N a0 a1 ((fun w0 w1 w2 w3 => spec_l1Same.l1 N N w0 w1 w2 w3))
theorem spec_l1Same.c1_0 : spec_l1Same.c1 = (.seq spec_l1Same.c2 (.seq spec_l1Same.c6 (.seq (.seq spec_l1Same.c28 (.block 0 (.loop spec_l1Same.c116))) spec_l1Same.c15))) := by kernel_rfl
theorem spec_l1Same.g.run (N : Nat) (a0 : List Int) (a1 : List Int) : runC spec_l1Same.C (spec_l1Same.O N) N spec_l1Same.c1 1 (st0 [.one (.sl false 3 a0), .one (.sl false 3 a1)] [] : St D0) spec_l1Same.K0 = spec_l1Same.g N a0 a1 := by
  rw [spec_l1Same.c1_0]; unfold spec_l1Same.g; exact (spec_l1Same.o0.run N spec_l1Same.c116 a0 a1).trans (congr rfl (funext fun w0 => funext fun w1 => funext fun w2 => funext fun w3 => (spec_l1Same.loop58 N N) w0 w1 w2 w3))
theorem spec_l1Same.good (N : Nat) (a0 : List Int) (a1 : List Int) (r : spec_l1Same.R) (h : spec_l1Same.g N a0 a1 = some r) : Go.PM.Good Go.Proofs.Try.prog T0 89 [.one (.sl false 3 a0), .one (.sl false 3 a1)] [] (spec_l1Same.sig.ret r) (spec_l1Same.sig.bs r) :=
  good_fn tabOk0 mixed0 spec_l1Same.sig (spec_l1Same.E N) Go.Proofs.Try.func89 (by kernel_rfl) (by kernel_rfl) 16806963 0 0 [(58, [0, 1, 12, 13], [])] 3344704 false [] [(false, [.any])] (by kernel_rfl) rfl rfl ((spec_l1Same.g.run N a0 a1).trans h)
noncomputable def spec_l1Same.ent (N : Nat) : Ent Go.Proofs.Try.prog T0 := mkEnt 89 [(false, [.ro 3]), (false, [.ro 3])] spec_l1Same.sig (fun t => spec_l1Same.g N t.1 t.2) (fun t r h => spec_l1Same.good N t.1 t.2 r h)
end Go.Proofs.Ytpemffldaepbpaa.M

namespace Go.Proofs.Ytpemffldaepbpaa.M
open Go Go.PM Go.Proofs.Ytpemffldaepbpaa.P
set_option linter.unusedVariables false
set_option maxRecDepth 100000
/-! ### spec_stHalves -/
abbrev spec_stHalves.R : Type := List Int
abbrev spec_stHalves.sig : Sig := ⟨[(false, 1), (false, 1)], [], [.int .i64, .sl false 3], [(false, 1)], [], [.sl true 3]⟩
noncomputable def spec_stHalves.C : Cfg D0 := ⟨Go.Proofs.Try.prog, T0, 525427, 0, 25, 0, [(58, [0, 1, 5, 6], []), (466, [0, 1, 5, 6], [])], 321920, false, []⟩
noncomputable def spec_stHalves.E (N : Nat) : List (Ent Go.Proofs.Try.prog T0) := [spec_stFrom.ent N, spec_l1Same.ent N]
noncomputable def spec_stHalves.O (N : Nat) : Orc D0 spec_stHalves.R := orcOf (spec_stHalves.E N)
noncomputable def spec_stHalves.K0 : Ex → St D0 → Option spec_stHalves.R := exitK spec_stHalves.C Go.Proofs.Try.f74.results.toList [(false, [.own 3])] (decOut spec_stHalves.sig)
noncomputable def spec_stHalves.c1 : Code := codeAt (Go.Proofs.Try.f74.body.getD .skip) []
noncomputable def spec_stHalves.c2 : Code := codeAt (Go.Proofs.Try.f74.body.getD .skip) [false]
noncomputable def spec_stHalves.c6 : Code := codeAt (Go.Proofs.Try.f74.body.getD .skip) [true, false]
noncomputable def spec_stHalves.c15 : Code := codeAt (Go.Proofs.Try.f74.body.getD .skip) [true, true, true]
noncomputable def spec_stHalves.c28 : Code := codeAt (Go.Proofs.Try.f74.body.getD .skip) [true, true, false, false]
noncomputable def spec_stHalves.c116 : Code := codeAt (Go.Proofs.Try.f74.body.getD .skip) [true, true, false, true, false, false]
noncomputable def spec_stHalves.c232 : Code := codeAt (Go.Proofs.Try.f74.body.getD .skip) [true, true, false, true, false, false, false]
noncomputable def spec_stHalves.c466 : Code := codeAt (Go.Proofs.Try.f74.body.getD .skip) [true, true, false, true, false, false, true, false]
noncomputable def spec_stHalves.c467 : Code := codeAt (Go.Proofs.Try.f74.body.getD .skip) [true, true, false, true, false, false, true, true]
noncomputable def spec_stHalves.K467 (N : Nat) (Kn58 : St D0 → Option spec_stHalves.R) : Ex → St D0 → Option spec_stHalves.R := (onN (fun s => spec_stHalves.C.tidy 58 s ((onN Kn58 (blockK 0 (onN (fun s => spec_stHalves.C.tidy 14 s (fun s' => runC spec_stHalves.C (spec_stHalves.O N) N spec_stHalves.c15 15 s' spec_stHalves.K0)) spec_stHalves.K0))) .normal)) (onN Kn58 (blockK 0 (onN (fun s => spec_stHalves.C.tidy 14 s (fun s' => runC spec_stHalves.C (spec_stHalves.O N) N spec_stHalves.c15 15 s' spec_stHalves.K0)) spec_stHalves.K0))))
noncomputable def spec_stHalves.o2 (N : Nat) (v0 : Int) (v1 : List Int) (v2 : List Int) (v3 : Int) (c4 : Int → (List Int) → (List Int) → Int → Option spec_stHalves.R) : Option spec_stHalves.R :=
 c4 v0 v1 v2 (w64 (v3 + 1))
theorem spec_stHalves.o2.run (N : Nat) (Kn58 : St D0 → Option spec_stHalves.R) (v0 : Int) (v1 : List Int) (v2 : List Int) (v3 : Int) : runC spec_stHalves.C (spec_stHalves.O N) N spec_stHalves.c467 467 (mkSt [(0, .one (.int .i64 v0)), (1, .one (.sl false 3 v1)), (5, .one (.sl true 3 v2)), (6, .one (.int .i64 v3))] [] : St D0) (onN (fun s => spec_stHalves.C.tidy 58 s ((onN Kn58 (blockK 0 (onN (fun s => spec_stHalves.C.tidy 14 s (fun s' => runC spec_stHalves.C (spec_stHalves.O N) N spec_stHalves.c15 15 s' spec_stHalves.K0)) spec_stHalves.K0))) .normal)) (onN Kn58 (blockK 0 (onN (fun s => spec_stHalves.C.tidy 14 s (fun s' => runC spec_stHalves.C (spec_stHalves.O N) N spec_stHalves.c15 15 s' spec_stHalves.K0)) spec_stHalves.K0)))) = spec_stHalves.o2 N v0 v1 v2 v3 ((fun w0 w1 w2 w3 => Kn58 (mkSt [(0, .one (.int .i64 w0)), (1, .one (.sl false 3 w1)), (5, .one (.sl true 3 w2)), (6, .one (.int .i64 w3))] [] : St D0))) := by kernel_rfl
noncomputable def spec_stHalves.d2 (N : Nat) (v0 : Int) (v1 : List Int) (v2 : List Int) (v3 : Int) (c4 : Int → (List Int) → (List Int) → Int → Option spec_stHalves.R) : Option spec_stHalves.R := spec_stHalves.o2 N v0 v1 v2 v3 c4
theorem spec_stHalves.d2.run (N : Nat) (Kn58 : St D0 → Option spec_stHalves.R) (v0 : Int) (v1 : List Int) (v2 : List Int) (v3 : Int) : runC spec_stHalves.C (spec_stHalves.O N) N spec_stHalves.c467 467 (mkSt [(0, .one (.int .i64 v0)), (1, .one (.sl false 3 v1)), (5, .one (.sl true 3 v2)), (6, .one (.int .i64 v3))] [] : St D0) (spec_stHalves.K467 N Kn58) = spec_stHalves.d2 N v0 v1 v2 v3 ((fun w0 w1 w2 w3 => Kn58 (mkSt [(0, .one (.int .i64 w0)), (1, .one (.sl false 3 w1)), (5, .one (.sl true 3 w2)), (6, .one (.int .i64 w3))] [] : St D0))) := by
  exact (spec_stHalves.o2.run N Kn58 v0 v1 v2 v3).trans rfl
noncomputable def spec_stHalves.o3 (N : Nat) (v0 : Int) (v1 : List Int) (v2 : Int) (c1 : Int → (List Int) → Int → Option spec_stHalves.R) : Option spec_stHalves.R :=
 c1 v0 v1 (w64 (v2 + 1))
theorem spec_stHalves.o3.run (N : Nat) (Kn58 : St D0 → Option spec_stHalves.R) (v0 : Int) (v1 : List Int) (v2 : Int) : runC spec_stHalves.C (spec_stHalves.O N) N spec_stHalves.c467 467 (mkSt [(0, .one (.int .i64 v0)), (1, .one (.sl false 3 v1)), (5, .one (.nl)), (6, .one (.int .i64 v2))] [] : St D0) (onN (fun s => spec_stHalves.C.tidy 58 s ((onN Kn58 (blockK 0 (onN (fun s => spec_stHalves.C.tidy 14 s (fun s' => runC spec_stHalves.C (spec_stHalves.O N) N spec_stHalves.c15 15 s' spec_stHalves.K0)) spec_stHalves.K0))) .normal)) (onN Kn58 (blockK 0 (onN (fun s => spec_stHalves.C.tidy 14 s (fun s' => runC spec_stHalves.C (spec_stHalves.O N) N spec_stHalves.c15 15 s' spec_stHalves.K0)) spec_stHalves.K0)))) = spec_stHalves.o3 N v0 v1 v2 ((fun w0 w1 w2 => Kn58 (mkSt [(0, .one (.int .i64 w0)), (1, .one (.sl false 3 w1)), (5, .one (.nl)), (6, .one (.int .i64 w2))] [] : St D0))) := by kernel_rfl
noncomputable def spec_stHalves.d3 (N : Nat) (v0 : Int) (v1 : List Int) (v2 : Int) (c1 : Int → (List Int) → Int → Option spec_stHalves.R) : Option spec_stHalves.R := spec_stHalves.o3 N v0 v1 v2 c1
theorem spec_stHalves.d3.run (N : Nat) (Kn58 : St D0 → Option spec_stHalves.R) (v0 : Int) (v1 : List Int) (v2 : Int) : runC spec_stHalves.C (spec_stHalves.O N) N spec_stHalves.c467 467 (mkSt [(0, .one (.int .i64 v0)), (1, .one (.sl false 3 v1)), (5, .one (.nl)), (6, .one (.int .i64 v2))] [] : St D0) (spec_stHalves.K467 N Kn58) = spec_stHalves.d3 N v0 v1 v2 ((fun w0 w1 w2 => Kn58 (mkSt [(0, .one (.int .i64 w0)), (1, .one (.sl false 3 w1)), (5, .one (.nl)), (6, .one (.int .i64 w2))] [] : St D0))) := by
  exact (spec_stHalves.o3.run N Kn58 v0 v1 v2).trans rfl
noncomputable def spec_stHalves.K116 (N : Nat) (Kn58 : St D0 → Option spec_stHalves.R) : Ex → St D0 → Option spec_stHalves.R := (onN (fun s => spec_stHalves.C.tidy 58 s ((onN Kn58 (blockK 0 (onN (fun s => spec_stHalves.C.tidy 14 s (fun s' => runC spec_stHalves.C (spec_stHalves.O N) N spec_stHalves.c15 15 s' spec_stHalves.K0)) spec_stHalves.K0))) .normal)) (onN Kn58 (blockK 0 (onN (fun s => spec_stHalves.C.tidy 14 s (fun s' => runC spec_stHalves.C (spec_stHalves.O N) N spec_stHalves.c15 15 s' spec_stHalves.K0)) spec_stHalves.K0))))
noncomputable def spec_stHalves.o1 (N : Nat) (v0 : Int) (v1 : List Int) (v2 : Int) (c2 : Int → (List Int) → (List Int) → Int → Option spec_stHalves.R) (c3 : Int → (List Int) → Int → Option spec_stHalves.R) : Option spec_stHalves.R :=
 bif (decide (v2 < (w64 (2 * v0)))) then
  (spec_stFrom.g N v0 v2 (v1.length : Int)).bind fun r1 =>
  (spec_l1Same.g N r1 v1).bind fun r2 =>
  bif r2 then
   bif (Nat.blt (([] : List Int).length + ([v2] : List Int).length) 17592186044416) then
    c2 v0 v1 (([] : List Int) ++ ([v2] : List Int)) v2
   else
   none
  else
  c3 v0 v1 v2
 else
 some (([] : List Int))
theorem spec_stHalves.o1.run (N : Nat) (Kn58 : St D0 → Option spec_stHalves.R) (H467 : Code) (v0 : Int) (v1 : List Int) (v2 : Int) : runC spec_stHalves.C (spec_stHalves.O N) N (.seq spec_stHalves.c232 (.seq spec_stHalves.c466 H467)) 116 (mkSt [(0, .one (.int .i64 v0)), (1, .one (.sl false 3 v1)), (5, .one (.nl)), (6, .one (.int .i64 v2))] [] : St D0) (onN (fun s => spec_stHalves.C.tidy 58 s ((onN Kn58 (blockK 0 (onN (fun s => spec_stHalves.C.tidy 14 s (fun s' => runC spec_stHalves.C (spec_stHalves.O N) N spec_stHalves.c15 15 s' spec_stHalves.K0)) spec_stHalves.K0))) .normal)) (onN Kn58 (blockK 0 (onN (fun s => spec_stHalves.C.tidy 14 s (fun s' => runC spec_stHalves.C (spec_stHalves.O N) N spec_stHalves.c15 15 s' spec_stHalves.K0)) spec_stHalves.K0)))) = spec_stHalves.o1 N v0 v1 v2 ((fun w0 w1 w2 w3 => runC spec_stHalves.C (spec_stHalves.O N) N H467 467 (mkSt [(0, .one (.int .i64 w0)), (1, .one (.sl false 3 w1)), (5, .one (.sl true 3 w2)), (6, .one (.int .i64 w3))] [] : St D0) (onN (fun s => spec_stHalves.C.tidy 58 s ((onN Kn58 (blockK 0 (onN (fun s => spec_stHalves.C.tidy 14 s (fun s' => runC spec_stHalves.C (spec_stHalves.O N) N spec_stHalves.c15 15 s' spec_stHalves.K0)) spec_stHalves.K0))) .normal)) (onN Kn58 (blockK 0 (onN (fun s => spec_stHalves.C.tidy 14 s (fun s' => runC spec_stHalves.C (spec_stHalves.O N) N spec_stHalves.c15 15 s' spec_stHalves.K0)) spec_stHalves.K0)))))) ((fun w0 w1 w2 => runC spec_stHalves.C (spec_stHalves.O N) N H467 467 (mkSt [(0, .one (.int .i64 w0)), (1, .one (.sl false 3 w1)), (5, .one (.nl)), (6, .one (.int .i64 w2))] [] : St D0) (onN (fun s => spec_stHalves.C.tidy 58 s ((onN Kn58 (blockK 0 (onN (fun s => spec_stHalves.C.tidy 14 s (fun s' => runC spec_stHalves.C (spec_stHalves.O N) N spec_stHalves.c15 15 s' spec_stHalves.K0)) spec_stHalves.K0))) .normal)) (onN Kn58 (blockK 0 (onN (fun s => spec_stHalves.C.tidy 14 s (fun s' => runC spec_stHalves.C (spec_stHalves.O N) N spec_stHalves.c15 15 s' spec_stHalves.K0)) spec_stHalves.K0)))))) := by kernel_rfl
noncomputable def spec_stHalves.B233 (N : Nat) (Kn58 : St D0 → Option spec_stHalves.R) : St D0 → Option spec_stHalves.R := fun s' => runC spec_stHalves.C (spec_stHalves.O N) N spec_stHalves.c467 467 s' (spec_stHalves.K467 N Kn58)
noncomputable def spec_stHalves.d1 (N : Nat) (v0 : Int) (v1 : List Int) (v2 : Int) (c1 : Int → (List Int) → Int → Option spec_stHalves.R) (c4 : Int → (List Int) → (List Int) → Int → Option spec_stHalves.R) : Option spec_stHalves.R := spec_stHalves.o1 N v0 v1 v2 ((fun w0 w1 w2 w3 => spec_stHalves.d2 N w0 w1 w2 w3 c4)) ((fun w0 w1 w2 => spec_stHalves.d3 N w0 w1 w2 c1))
theorem spec_stHalves.c116_1 : spec_stHalves.c116 = (.seq spec_stHalves.c232 (.seq spec_stHalves.c466 spec_stHalves.c467)) := by kernel_rfl
theorem spec_stHalves.d1.run (N : Nat) (Kn58 : St D0 → Option spec_stHalves.R) (v0 : Int) (v1 : List Int) (v2 : Int) : runC spec_stHalves.C (spec_stHalves.O N) N spec_stHalves.c116 116 (mkSt [(0, .one (.int .i64 v0)), (1, .one (.sl false 3 v1)), (5, .one (.nl)), (6, .one (.int .i64 v2))] [] : St D0) (spec_stHalves.K116 N Kn58) = spec_stHalves.d1 N v0 v1 v2 ((fun w0 w1 w2 => Kn58 (mkSt [(0, .one (.int .i64 w0)), (1, .one (.sl false 3 w1)), (5, .one (.nl)), (6, .one (.int .i64 w2))] [] : St D0))) ((fun w0 w1 w2 w3 => Kn58 (mkSt [(0, .one (.int .i64 w0)), (1, .one (.sl false 3 w1)), (5, .one (.sl true 3 w2)), (6, .one (.int .i64 w3))] [] : St D0))) := by
  rw [spec_stHalves.c116_1]; unfold spec_stHalves.d1; exact (spec_stHalves.o1.run N Kn58 spec_stHalves.c467 v0 v1 v2).trans (congr (congr rfl (funext fun w0 => funext fun w1 => funext fun w2 => funext fun w3 => spec_stHalves.d2.run N Kn58 w0 w1 w2 w3)) (funext fun w0 => funext fun w1 => funext fun w2 => spec_stHalves.d3.run N Kn58 w0 w1 w2))
noncomputable def spec_stHalves.o4 (N : Nat) (v0 : Int) (v1 : List Int) (v2 : List Int) (v3 : Int) (c2 : Int → (List Int) → (List Int) → Int → Option spec_stHalves.R) : Option spec_stHalves.R :=
 bif (decide (v3 < (w64 (2 * v0)))) then
  (spec_stFrom.g N v0 v3 (v1.length : Int)).bind fun r1 =>
  (spec_l1Same.g N r1 v1).bind fun r2 =>
  bif r2 then
   bif (Nat.blt (v2.length + ([v3] : List Int).length) 17592186044416) then
    c2 v0 v1 (v2 ++ ([v3] : List Int)) v3
   else
   none
  else
  c2 v0 v1 v2 v3
 else
 some (v2)
theorem spec_stHalves.o4.run (N : Nat) (Kn58 : St D0 → Option spec_stHalves.R) (H467 : Code) (v0 : Int) (v1 : List Int) (v2 : List Int) (v3 : Int) : runC spec_stHalves.C (spec_stHalves.O N) N (.seq spec_stHalves.c232 (.seq spec_stHalves.c466 H467)) 116 (mkSt [(0, .one (.int .i64 v0)), (1, .one (.sl false 3 v1)), (5, .one (.sl true 3 v2)), (6, .one (.int .i64 v3))] [] : St D0) (onN (fun s => spec_stHalves.C.tidy 58 s ((onN Kn58 (blockK 0 (onN (fun s => spec_stHalves.C.tidy 14 s (fun s' => runC spec_stHalves.C (spec_stHalves.O N) N spec_stHalves.c15 15 s' spec_stHalves.K0)) spec_stHalves.K0))) .normal)) (onN Kn58 (blockK 0 (onN (fun s => spec_stHalves.C.tidy 14 s (fun s' => runC spec_stHalves.C (spec_stHalves.O N) N spec_stHalves.c15 15 s' spec_stHalves.K0)) spec_stHalves.K0)))) = spec_stHalves.o4 N v0 v1 v2 v3 ((fun w0 w1 w2 w3 => runC spec_stHalves.C (spec_stHalves.O N) N H467 467 (mkSt [(0, .one (.int .i64 w0)), (1, .one (.sl false 3 w1)), (5, .one (.sl true 3 w2)), (6, .one (.int .i64 w3))] [] : St D0) (onN (fun s => spec_stHalves.C.tidy 58 s ((onN Kn58 (blockK 0 (onN (fun s => spec_stHalves.C.tidy 14 s (fun s' => runC spec_stHalves.C (spec_stHalves.O N) N spec_stHalves.c15 15 s' spec_stHalves.K0)) spec_stHalves.K0))) .normal)) (onN Kn58 (blockK 0 (onN (fun s => spec_stHalves.C.tidy 14 s (fun s' => runC spec_stHalves.C (spec_stHalves.O N) N spec_stHalves.c15 15 s' spec_stHalves.K0)) spec_stHalves.K0)))))) := by kernel_rfl
noncomputable def spec_stHalves.d4 (N : Nat) (v0 : Int) (v1 : List Int) (v2 : List Int) (v3 : Int) (c4 : Int → (List Int) → (List Int) → Int → Option spec_stHalves.R) : Option spec_stHalves.R := spec_stHalves.o4 N v0 v1 v2 v3 ((fun w0 w1 w2 w3 => spec_stHalves.d2 N w0 w1 w2 w3 c4))
theorem spec_stHalves.c116_4 : spec_stHalves.c116 = (.seq spec_stHalves.c232 (.seq spec_stHalves.c466 spec_stHalves.c467)) := by kernel_rfl
theorem spec_stHalves.d4.run (N : Nat) (Kn58 : St D0 → Option spec_stHalves.R) (v0 : Int) (v1 : List Int) (v2 : List Int) (v3 : Int) : runC spec_stHalves.C (spec_stHalves.O N) N spec_stHalves.c116 116 (mkSt [(0, .one (.int .i64 v0)), (1, .one (.sl false 3 v1)), (5, .one (.sl true 3 v2)), (6, .one (.int .i64 v3))] [] : St D0) (spec_stHalves.K116 N Kn58) = spec_stHalves.d4 N v0 v1 v2 v3 ((fun w0 w1 w2 w3 => Kn58 (mkSt [(0, .one (.int .i64 w0)), (1, .one (.sl false 3 w1)), (5, .one (.sl true 3 w2)), (6, .one (.int .i64 w3))] [] : St D0))) := by
  rw [spec_stHalves.c116_4]; unfold spec_stHalves.d4; exact (spec_stHalves.o4.run N Kn58 spec_stHalves.c467 v0 v1 v2 v3).trans (congr rfl (funext fun w0 => funext fun w1 => funext fun w2 => funext fun w3 => spec_stHalves.d2.run N Kn58 w0 w1 w2 w3))
noncomputable def spec_stHalves.K58 (N : Nat) : Ex → St D0 → Option spec_stHalves.R := (blockK 0 (onN (fun s => spec_stHalves.C.tidy 14 s (fun s' => runC spec_stHalves.C (spec_stHalves.O N) N spec_stHalves.c15 15 s' spec_stHalves.K0)) spec_stHalves.K0))
mutual
noncomputable def spec_stHalves.l1 (N : Nat) : Nat → Int → (List Int) → Int → Option spec_stHalves.R
  | 0, _, _, _ => none
  | n + 1, v0, v1, v2 => spec_stHalves.d1 N v0 v1 v2 ((fun w0 w1 w2 => spec_stHalves.l1 N n w0 w1 w2)) ((fun w0 w1 w2 w3 => spec_stHalves.l4 N n w0 w1 w2 w3))
noncomputable def spec_stHalves.l4 (N : Nat) : Nat → Int → (List Int) → (List Int) → Int → Option spec_stHalves.R
  | 0, _, _, _, _ => none
  | n + 1, v0, v1, v2, v3 => spec_stHalves.d4 N v0 v1 v2 v3 ((fun w0 w1 w2 w3 => spec_stHalves.l4 N n w0 w1 w2 w3))
end
theorem spec_stHalves.loop58 (N : Nat) : ∀ n, (∀ (v0 : Int) (v1 : List Int) (v2 : Int), iter (loopF spec_stHalves.C (spec_stHalves.O N) N spec_stHalves.c116 58) n (mkSt [(0, .one (.int .i64 v0)), (1, .one (.sl false 3 v1)), (5, .one (.nl)), (6, .one (.int .i64 v2))] [] : St D0) (spec_stHalves.K58 N) = spec_stHalves.l1 N n v0 v1 v2) ∧ (∀ (v0 : Int) (v1 : List Int) (v2 : List Int) (v3 : Int), iter (loopF spec_stHalves.C (spec_stHalves.O N) N spec_stHalves.c116 58) n (mkSt [(0, .one (.int .i64 v0)), (1, .one (.sl false 3 v1)), (5, .one (.sl true 3 v2)), (6, .one (.int .i64 v3))] [] : St D0) (spec_stHalves.K58 N) = spec_stHalves.l4 N n v0 v1 v2 v3)
  | 0 => ⟨(fun v0 v1 v2 => rfl), (fun v0 v1 v2 v3 => rfl)⟩
  | n + 1 => ⟨(fun v0 v1 v2 => (spec_stHalves.d1.run N (fun s => iter (loopF spec_stHalves.C (spec_stHalves.O N) N spec_stHalves.c116 58) n s (spec_stHalves.K58 N)) v0 v1 v2).trans (show _ = spec_stHalves.d1 N v0 v1 v2 ((fun w0 w1 w2 => spec_stHalves.l1 N n w0 w1 w2)) ((fun w0 w1 w2 w3 => spec_stHalves.l4 N n w0 w1 w2 w3)) from (congr (congr rfl (funext fun w0 => funext fun w1 => funext fun w2 => (spec_stHalves.loop58 N n).1 w0 w1 w2)) (funext fun w0 => funext fun w1 => funext fun w2 => funext fun w3 => (spec_stHalves.loop58 N n).2 w0 w1 w2 w3)))), (fun v0 v1 v2 v3 => (spec_stHalves.d4.run N (fun s => iter (loopF spec_stHalves.C (spec_stHalves.O N) N spec_stHalves.c116 58) n s (spec_stHalves.K58 N)) v0 v1 v2 v3).trans (show _ = spec_stHalves.d4 N v0 v1 v2 v3 ((fun w0 w1 w2 w3 => spec_stHalves.l4 N n w0 w1 w2 w3)) from (congr rfl (funext fun w0 => funext fun w1 => funext fun w2 => funext fun w3 => (spec_stHalves.loop58 N n).2 w0 w1 w2 w3))))⟩
noncomputable def spec_stHalves.o0 (N : Nat) (a0 : Int) (a1 : List Int) (c1 : Int → (List Int) → Int → Option spec_stHalves.R) : Option spec_stHalves.R :=
 c1 a0 a1 0
theorem spec_stHalves.o0.run (N : Nat) (H116 : Code) (a0 : Int) (a1 : List Int) : runC spec_stHalves.C (spec_stHalves.O N) N (.seq spec_stHalves.c2 (.seq spec_stHalves.c6 (.seq (.seq spec_stHalves.c28 (.block 0 (.loop H116))) spec_stHalves.c15))) 1 (st0 [.one (.int .i64 a0), .one (.sl false 3 a1)] [] : St D0) spec_stHalves.K0 = spec_stHalves.o0 N a0 a1 ((fun w0 w1 w2 => iter (loopF spec_stHalves.C (spec_stHalves.O N) N H116 58) N (mkSt [(0, .one (.int .i64 w0)), (1, .one (.sl false 3 w1)), (5, .one (.nl)), (6, .one (.int .i64 w2))] [] : St D0) (blockK 0 (onN (fun s => spec_stHalves.C.tidy 14 s (fun s' => runC spec_stHalves.C (spec_stHalves.O N) N spec_stHalves.c15 15 s' spec_stHalves.K0)) spec_stHalves.K0)))) := by kernel_rfl
noncomputable def spec_stHalves.g (N : Nat) (a0 : Int) (a1 : List Int) : Option spec_stHalves.R := spec_stHalves.o0 N a0 a1 ((fun w0 w1 w2 => spec_stHalves.l1 N N w0 w1 w2))
theorem spec_stHalves.c1_0 : spec_stHalves.c1 = (.seq spec_stHalves.c2 (.seq spec_stHalves.c6 (.seq (.seq spec_stHalves.c28 (.block 0 (.loop spec_stHalves.c116))) spec_stHalves.c15))) := by kernel_rfl
theorem spec_stHalves.g.run (N : Nat) (a0 : Int) (a1 : List Int) : runC spec_stHalves.C (spec_stHalves.O N) N spec_stHalves.c1 1 (st0 [.one (.int .i64 a0), .one (.sl false 3 a1)] [] : St D0) spec_stHalves.K0 = spec_stHalves.g N a0 a1 := by
  rw [spec_stHalves.c1_0]; unfold spec_stHalves.g; exact (spec_stHalves.o0.run N spec_stHalves.c116 a0 a1).trans (congr rfl (funext fun w0 => funext fun w1 => funext fun w2 => (spec_stHalves.loop58 N N).1 w0 w1 w2))
theorem spec_stHalves.good (N : Nat) (a0 : Int) (a1 : List Int) (r : spec_stHalves.R) (h : spec_stHalves.g N a0 a1 = some r) : Go.PM.Good Go.Proofs.Try.prog T0 74 [.one (.int .i64 a0), .one (.sl false 3 a1)] [] (spec_stHalves.sig.ret r) (spec_stHalves.sig.bs r) :=
  good_fn tabOk0 mixed0 spec_stHalves.sig (spec_stHalves.E N) Go.Proofs.Try.func74 (by kernel_rfl) (by kernel_rfl) 525427 0 0 [(58, [0, 1, 5, 6], []), (466, [0, 1, 5, 6], [])] 321920 false [] [(false, [.own 3])] (by kernel_rfl) rfl rfl ((spec_stHalves.g.run N a0 a1).trans h)
noncomputable def spec_stHalves.ent (N : Nat) : Ent Go.Proofs.Try.prog T0 := mkEnt 74 [(false, [.any]), (false, [.ro 3])] spec_stHalves.sig (fun t => spec_stHalves.g N t.1 t.2) (fun t r h => spec_stHalves.good N t.1 t.2 r h)
end Go.Proofs.Ytpemffldaepbpaa.M

namespace Go.Proofs.Ytpemffldaepbpaa.M
open Go Go.PM Go.Proofs.Ytpemffldaepbpaa.P
set_option linter.unusedVariables false
set_option maxRecDepth 100000
/-! ### spec_HalvesOfHeard -/
abbrev spec_HalvesOfHeard.R : Type := List Int × Bool
abbrev spec_HalvesOfHeard.sig : Sig := ⟨[(false, 1), (false, 1)], [], [.int .i64, .sl false 3], [(false, 1), (false, 1)], [], [.sl true 3, .bool]⟩
noncomputable def spec_HalvesOfHeard.C : Cfg D0 := ⟨Go.Proofs.Try.prog, T0, 563, 0, 13, 0, [], 3264, false, []⟩
noncomputable def spec_HalvesOfHeard.E (N : Nat) : List (Ent Go.Proofs.Try.prog T0) := [spec_stHeard.ent N, spec_stHalves.ent N]
noncomputable def spec_HalvesOfHeard.O (N : Nat) : Orc D0 spec_HalvesOfHeard.R := orcOf (spec_HalvesOfHeard.E N)
noncomputable def spec_HalvesOfHeard.K0 : Ex → St D0 → Option spec_HalvesOfHeard.R := exitK spec_HalvesOfHeard.C Go.Proofs.Try.f40.results.toList [(false, [.own 3]), (false, [.any])] (decOut spec_HalvesOfHeard.sig)
noncomputable def spec_HalvesOfHeard.c1 : Code := codeAt (Go.Proofs.Try.f40.body.getD .skip) []
noncomputable def spec_HalvesOfHeard.o0 (N : Nat) (a0 : Int) (a1 : List Int) : Option spec_HalvesOfHeard.R :=
 (spec_stHeard.g N a0 a1).bind fun r1 =>
 bif (!r1) then
  some (([] : List Int), false)
 else
 (spec_stHalves.g N a0 a1).bind fun r2 =>
 some (r2, true)
theorem spec_HalvesOfHeard.o0.run (N : Nat) (a0 : Int) (a1 : List Int) : runC spec_HalvesOfHeard.C (spec_HalvesOfHeard.O N) N spec_HalvesOfHeard.c1 1 (st0 [.one (.int .i64 a0), .one (.sl false 3 a1)] [] : St D0) spec_HalvesOfHeard.K0 = spec_HalvesOfHeard.o0 N a0 a1 := by kernel_rfl
noncomputable def spec_HalvesOfHeard.g (N : Nat) (a0 : Int) (a1 : List Int) : Option spec_HalvesOfHeard.R := spec_HalvesOfHeard.o0 N a0 a1
theorem spec_HalvesOfHeard.g.run (N : Nat) (a0 : Int) (a1 : List Int) : runC spec_HalvesOfHeard.C (spec_HalvesOfHeard.O N) N spec_HalvesOfHeard.c1 1 (st0 [.one (.int .i64 a0), .one (.sl false 3 a1)] [] : St D0) spec_HalvesOfHeard.K0 = spec_HalvesOfHeard.g N a0 a1 := by
  exact (spec_HalvesOfHeard.o0.run N a0 a1).trans rfl
theorem spec_HalvesOfHeard.good (N : Nat) (a0 : Int) (a1 : List Int) (r : spec_HalvesOfHeard.R) (h : spec_HalvesOfHeard.g N a0 a1 = some r) : Go.PM.Good Go.Proofs.Try.prog T0 40 [.one (.int .i64 a0), .one (.sl false 3 a1)] [] (spec_HalvesOfHeard.sig.ret r) (spec_HalvesOfHeard.sig.bs r) :=
  good_fn tabOk0 mixed0 spec_HalvesOfHeard.sig (spec_HalvesOfHeard.E N) Go.Proofs.Try.func40 (by kernel_rfl) (by kernel_rfl) 563 0 0 [] 3264 false [] [(false, [.own 3]), (false, [.any])] (by kernel_rfl) rfl rfl ((spec_HalvesOfHeard.g.run N a0 a1).trans h)
noncomputable def spec_HalvesOfHeard.ent (N : Nat) : Ent Go.Proofs.Try.prog T0 := mkEnt 40 [(false, [.any]), (false, [.ro 3])] spec_HalvesOfHeard.sig (fun t => spec_HalvesOfHeard.g N t.1 t.2) (fun t r h => spec_HalvesOfHeard.good N t.1 t.2 r h)
end Go.Proofs.Ytpemffldaepbpaa.M

namespace Go.Proofs.Ytpemffldaepbpaa.M
open Go Go.PM Go.Proofs.Ytpemffldaepbpaa.P
set_option linter.unusedVariables false
set_option maxRecDepth 100000
/-! ### impl_IsHeard -/
abbrev impl_IsHeard.R : Type := Bool × Bool
abbrev impl_IsHeard.sig : Sig := ⟨[(false, 1), (false, 1)], [], [.int .i64, .sl false 3], [(false, 1), (false, 1)], [], [.bool, .bool]⟩
noncomputable def impl_IsHeard.C : Cfg D0 := ⟨Go.Proofs.Try.prog, T0, 243, 0, 18, 0, [], 17920, false, []⟩
noncomputable def impl_IsHeard.E (N : Nat) : List (Ent Go.Proofs.Try.prog T0) := [impl_HalvesOfHeard.ent N]
noncomputable def impl_IsHeard.O (N : Nat) : Orc D0 impl_IsHeard.R := orcOf (impl_IsHeard.E N)
noncomputable def impl_IsHeard.K0 : Ex → St D0 → Option impl_IsHeard.R := exitK impl_IsHeard.C Go.Proofs.Try.f41.results.toList [(false, [.any]), (false, [.any])] (decOut impl_IsHeard.sig)
noncomputable def impl_IsHeard.c1 : Code := codeAt (Go.Proofs.Try.f41.body.getD .skip) []
noncomputable def impl_IsHeard.o0 (N : Nat) (a0 : Int) (a1 : List Int) : Option impl_IsHeard.R :=
 (impl_HalvesOfHeard.g N a0 a1).bind fun r1 =>
 some ((decide ((r1.1.length : Int) > 0)), r1.2)
theorem impl_IsHeard.o0.run (N : Nat) (a0 : Int) (a1 : List Int) : runC impl_IsHeard.C (impl_IsHeard.O N) N impl_IsHeard.c1 1 (st0 [.one (.int .i64 a0), .one (.sl false 3 a1)] [] : St D0) impl_IsHeard.K0 = impl_IsHeard.o0 N a0 a1 := by kernel_rfl
noncomputable def impl_IsHeard.g (N : Nat) (a0 : Int) (a1 : List Int) : Option impl_IsHeard.R := impl_IsHeard.o0 N a0 a1
theorem impl_IsHeard.g.run (N : Nat) (a0 : Int) (a1 : List Int) : runC impl_IsHeard.C (impl_IsHeard.O N) N impl_IsHeard.c1 1 (st0 [.one (.int .i64 a0), .one (.sl false 3 a1)] [] : St D0) impl_IsHeard.K0 = impl_IsHeard.g N a0 a1 := by
  exact (impl_IsHeard.o0.run N a0 a1).trans rfl
theorem impl_IsHeard.good (N : Nat) (a0 : Int) (a1 : List Int) (r : impl_IsHeard.R) (h : impl_IsHeard.g N a0 a1 = some r) : Go.PM.Good Go.Proofs.Try.prog T0 41 [.one (.int .i64 a0), .one (.sl false 3 a1)] [] (impl_IsHeard.sig.ret r) (impl_IsHeard.sig.bs r) :=
  good_fn tabOk0 mixed0 impl_IsHeard.sig (impl_IsHeard.E N) Go.Proofs.Try.func41 (by kernel_rfl) (by kernel_rfl) 243 0 0 [] 17920 false [] [(false, [.any]), (false, [.any])] (by kernel_rfl) rfl rfl ((impl_IsHeard.g.run N a0 a1).trans h)
noncomputable def impl_IsHeard.ent (N : Nat) : Ent Go.Proofs.Try.prog T0 := mkEnt 41 [(false, [.any]), (false, [.ro 3])] impl_IsHeard.sig (fun t => impl_IsHeard.g N t.1 t.2) (fun t r h => impl_IsHeard.good N t.1 t.2 r h)
end Go.Proofs.Ytpemffldaepbpaa.M

namespace Go.Proofs.Ytpemffldaepbpaa.M
open Go Go.PM Go.Proofs.Ytpemffldaepbpaa.P
set_option linter.unusedVariables false
set_option maxRecDepth 100000
/-! ### spec_IsHeard -/
abbrev spec_IsHeard.R : Type := Bool × Bool
abbrev spec_IsHeard.sig : Sig := ⟨[(false, 1), (false, 1)], [], [.int .i64, .sl false 3], [(false, 1), (false, 1)], [], [.bool, .bool]⟩
noncomputable def spec_IsHeard.C : Cfg D0 := ⟨Go.Proofs.Try.prog, T0, 563, 0, 15, 0, [], 3264, false, []⟩
noncomputable def spec_IsHeard.E (N : Nat) : List (Ent Go.Proofs.Try.prog T0) := [spec_stHeard.ent N, spec_stHalves.ent N]
noncomputable def spec_IsHeard.O (N : Nat) : Orc D0 spec_IsHeard.R := orcOf (spec_IsHeard.E N)
noncomputable def spec_IsHeard.K0 : Ex → St D0 → Option spec_IsHeard.R := exitK spec_IsHeard.C Go.Proofs.Try.f42.results.toList [(false, [.any]), (false, [.any])] (decOut spec_IsHeard.sig)
noncomputable def spec_IsHeard.c1 : Code := codeAt (Go.Proofs.Try.f42.body.getD .skip) []
noncomputable def spec_IsHeard.o0 (N : Nat) (a0 : Int) (a1 : List Int) : Option spec_IsHeard.R :=
 (spec_stHeard.g N a0 a1).bind fun r1 =>
 bif (!r1) then
  some (false, false)
 else
 (spec_stHalves.g N a0 a1).bind fun r2 =>
 some ((decide ((r2.length : Int) > 0)), true)
theorem spec_IsHeard.o0.run (N : Nat) (a0 : Int) (a1 : List Int) : runC spec_IsHeard.C (spec_IsHeard.O N) N spec_IsHeard.c1 1 (st0 [.one (.int .i64 a0), .one (.sl false 3 a1)] [] : St D0) spec_IsHeard.K0 = spec_IsHeard.o0 N a0 a1 := by kernel_rfl
noncomputable def spec_IsHeard.g (N : Nat) (a0 : Int) (a1 : List Int) : Option spec_IsHeard.R := spec_IsHeard.o0 N a0 a1
theorem spec_IsHeard.g.run (N : Nat) (a0 : Int) (a1 : List Int) : runC spec_IsHeard.C (spec_IsHeard.O N) N spec_IsHeard.c1 1 (st0 [.one (.int .i64 a0), .one (.sl false 3 a1)] [] : St D0) spec_IsHeard.K0 = spec_IsHeard.g N a0 a1 := by
  exact (spec_IsHeard.o0.run N a0 a1).trans rfl
theorem spec_IsHeard.good (N : Nat) (a0 : Int) (a1 : List Int) (r : spec_IsHeard.R) (h : spec_IsHeard.g N a0 a1 = some r) : Go.PM.Good Go.Proofs.Try.prog T0 42 [.one (.int .i64 a0), .one (.sl false 3 a1)] [] (spec_IsHeard.sig.ret r) (spec_IsHeard.sig.bs r) :=
  good_fn tabOk0 mixed0 spec_IsHeard.sig (spec_IsHeard.E N) Go.Proofs.Try.func42 (by kernel_rfl) (by kernel_rfl) 563 0 0 [] 3264 false [] [(false, [.any]), (false, [.any])] (by kernel_rfl) rfl rfl ((spec_IsHeard.g.run N a0 a1).trans h)
noncomputable def spec_IsHeard.ent (N : Nat) : Ent Go.Proofs.Try.prog T0 := mkEnt 42 [(false, [.any]), (false, [.ro 3])] spec_IsHeard.sig (fun t => spec_IsHeard.g N t.1 t.2) (fun t r h => spec_IsHeard.good N t.1 t.2 r h)
end Go.Proofs.Ytpemffldaepbpaa.M

namespace Go.Proofs.Ytpemffldaepbpaa.M
open Go Go.PM Go.Proofs.Ytpemffldaepbpaa.P
set_option linter.unusedVariables false
set_option maxRecDepth 100000
open Go.RowKit Go.Lib Go.Sort
/-! ### slices_Sort_int_int_r -/
abbrev slices_Sort_int_int_r.R : Type := List Int
abbrev slices_Sort_int_int_r.sig : Sig := ⟨[(false, 1)], [(3, 1)], [.bs 0, .row 3], [], [(3, 1)], [.row 3]⟩
noncomputable def slices_Sort_int_int_r.g (N : Nat) (a0 : Nat) (b0 : List Int) : Option slices_Sort_int_int_r.R := bif Nat.beq a0 b0.length && Nat.blt b0.length 4611686018427387904 then some (b0.mergeSort fun x y => decide (x ≤ y)) else none
theorem slices_Sort_int_int_r.good (N : Nat) (a0 : Nat) (b0 : List Int) (r : slices_Sort_int_int_r.R) (h : slices_Sort_int_int_r.g N a0 b0 = some r) : Go.PM.Good Go.Proofs.Try.prog T0 80 [.one (.bs 0 a0)] [(3, [.row 3 b0])] (slices_Sort_int_int_r.sig.ret r) (slices_Sort_int_int_r.sig.bs r) := by
  obtain ⟨hb, h⟩ := bif_some h
  simp only [Bool.and_eq_true] at hb
  have e0 := Nat.eq_of_beq_eq_true hb.1
  have e1 : b0.length < 4611686018427387904 := by simpa [Nat.blt_eq] using hb.2
  cases Option.some.inj h
  subst e0
  refine good_inrow (D := D0) tabOk0 ⟨_, Go.Proofs.Try.func80, by kernel_rfl, rfl⟩ (e := 3) rfl [] b0.length b0 (b0.mergeSort fun x y => decide (x ≤ y)) (.tup []) ?_
  intro w g cp cur hw hc hm hn hr
  letI : Inhabited (D0 3) := inferInstanceAs (Inhabited Int)
  have o1 : OneC T0 3 (fun x : D0 3 => Value.int .i64 x) := oneC_int (T := T0) (e := 3) .i64 (fun x : D0 3 => (x : Int)) rfl (fun _ => rfl)
  have hcl : b0.length ≤ cur.size := by rw [hc]; show _ ≤ cp * 1; omega
  have hH := o1.holds (xs := b0) tabOk0 (hr fun _ _ => none) hw
  refine (Go.Proofs.Try.slices_Sort_int g 0 cp b0 w hH (Array.getElem?_eq_some_iff.1 hw).1 e1).mono ?_
  rintro e w' ⟨rfl, n, os, rfl⟩
  obtain ⟨cur', k1, k2, k3, k4, k5⟩ := world_row (ys := (b0.mergeSort fun x y => decide (x ≤ y))) tabOk0 o1 hw (by rw [List.length_mergeSort]; exact hcl) n os
  exact ⟨_, cur', rfl, .none g cp, k1, k2, k3, k4, rfl, rfl, rfl, k5⟩
noncomputable def slices_Sort_int_int_r.ent (N : Nat) : Ent Go.Proofs.Try.prog T0 := mkEnt 80 [(false, [.any])] slices_Sort_int_int_r.sig (fun t => slices_Sort_int_int_r.g N t.1 t.2) (fun t r h => slices_Sort_int_int_r.good N t.1 t.2 r h)
end Go.Proofs.Ytpemffldaepbpaa.M

namespace Go.Proofs.Ytpemffldaepbpaa.M
open Go Go.PM Go.Proofs.Ytpemffldaepbpaa.P
set_option linter.unusedVariables false
set_option maxRecDepth 100000
open Go.RowKit Go.Lib Go.Sort
/-! ### slices_Compact_int_int_r -/
abbrev slices_Compact_int_int_r.R : Type := Nat × List Int
abbrev slices_Compact_int_int_r.sig : Sig := ⟨[(false, 1)], [(3, 1)], [.bs 0, .row 3], [(false, 1)], [(3, 1)], [.bs 0, .row 3]⟩
noncomputable def slices_Compact_int_int_r.g (N : Nat) (a0 : Nat) (b0 : List Int) : Option slices_Compact_int_int_r.R := bif Nat.beq a0 b0.length && Nat.blt b0.length 4611686018427387904 then some ((Lib.compact b0).length, (Lib.compact b0 ++ List.replicate (b0.length - (Lib.compact b0).length) 0)) else none
theorem slices_Compact_int_int_r.good (N : Nat) (a0 : Nat) (b0 : List Int) (r : slices_Compact_int_int_r.R) (h : slices_Compact_int_int_r.g N a0 b0 = some r) : Go.PM.Good Go.Proofs.Try.prog T0 81 [.one (.bs 0 a0)] [(3, [.row 3 b0])] (slices_Compact_int_int_r.sig.ret r) (slices_Compact_int_int_r.sig.bs r) := by
  obtain ⟨hb, h⟩ := bif_some h
  simp only [Bool.and_eq_true] at hb
  have e0 := Nat.eq_of_beq_eq_true hb.1
  have e1 : b0.length < 4611686018427387904 := by simpa [Nat.blt_eq] using hb.2
  cases Option.some.inj h
  subst e0
  refine good_inrow (D := D0) tabOk0 ⟨_, Go.Proofs.Try.func81, by kernel_rfl, rfl⟩ (e := 3) rfl [] b0.length b0 (Lib.compact b0 ++ List.replicate (b0.length - (Lib.compact b0).length) 0) (.one (.bs 0 (Lib.compact b0).length)) ?_
  intro w g cp cur hw hc hm hn hr
  letI : Inhabited (D0 3) := inferInstanceAs (Inhabited Int)
  have o1 : OneC T0 3 (fun x : D0 3 => Value.int .i64 x) := oneC_int (T := T0) (e := 3) .i64 (fun x : D0 3 => (x : Int)) rfl (fun _ => rfl)
  have hcl : b0.length ≤ cur.size := by rw [hc]; show _ ≤ cp * 1; omega
  have hH := o1.holds (xs := b0) tabOk0 (hr fun _ _ => none) hw
  have hle : (Lib.compact b0).length ≤ b0.length := compact_length_le b0
  refine (Go.Proofs.Try.slices_Compact_int g 0 cp b0 w hH (by omega) hn).mono ?_
  rintro e w' ⟨rfl, n, rfl⟩
  obtain ⟨cur', k1, k2, k3, k4, k5⟩ := world_row (ys := (Lib.compact b0 ++ List.replicate (b0.length - (Lib.compact b0).length) 0)) tabOk0 o1 hw (by rw [List.length_append, List.length_replicate]; omega) n #[]
  rw [grow_empty] at k1 k4 k5
  exact ⟨_, cur', rfl, .sl _ g cp (by omega), k1, k2, k3, k4, rfl, rfl, rfl, k5⟩
noncomputable def slices_Compact_int_int_r.ent (N : Nat) : Ent Go.Proofs.Try.prog T0 := mkEnt 81 [(false, [.any])] slices_Compact_int_int_r.sig (fun t => slices_Compact_int_int_r.g N t.1 t.2) (fun t r h => slices_Compact_int_int_r.good N t.1 t.2 r h)
end Go.Proofs.Ytpemffldaepbpaa.M

namespace Go.Proofs.Ytpemffldaepbpaa.M
open Go Go.PM Go.Proofs.Ytpemffldaepbpaa.P
set_option linter.unusedVariables false
set_option maxRecDepth 100000
open Go.RowKit Go.Lib Go.Sort
/-! ### slices_Sort_int_int_e -/
abbrev slices_Sort_int_int_e.R : Type := Unit
abbrev slices_Sort_int_int_e.sig : Sig := ⟨[(false, 1)], [], [.sl false 3], [], [], []⟩
noncomputable def slices_Sort_int_int_e.g (N : Nat) (a0 : List Int) : Option slices_Sort_int_int_e.R := bif Nat.beq a0.length 0 then some () else none
theorem slices_Sort_int_int_e.good (N : Nat) (a0 : List Int) (r : slices_Sort_int_int_e.R) (h : slices_Sort_int_int_e.g N a0 = some r) : Go.PM.Good Go.Proofs.Try.prog T0 80 [.one (.sl false 3 a0)] [] (slices_Sort_int_int_e.sig.ret r) (slices_Sort_int_int_e.sig.bs r) := by
  obtain ⟨hb, h⟩ := bif_some h
  have e0 : a0 = [] := List.eq_nil_of_length_eq_zero (Nat.eq_of_beq_eq_true hb)
  subst e0
  cases Option.some.inj h
  refine good_still (T := T0) ⟨_, Go.Proofs.Try.func80, by kernel_rfl, rfl⟩ _ (ret := .tup []) rfl rfl ?_
  intro w C blk vargs hsz hrep hag
  obtain ⟨A, cp, hv⟩ := rep_nil (hrep 0)
  have ev : vargs = #[.slice A 0 cp] := (args1 hsz).trans (by rw [hv])
  rw [ev]
  refine (Go.Proofs.Try.slices_Sort_int_none A cp w).mono ?_
  rintro e w' ⟨rfl, rfl⟩
  exact ⟨_, rfl, ⟨#[], rfl, .nil⟩, Below.refl _ _⟩
noncomputable def slices_Sort_int_int_e.ent (N : Nat) : Ent Go.Proofs.Try.prog T0 := mkEnt 80 [(false, [.ro 3])] slices_Sort_int_int_e.sig (fun t => slices_Sort_int_int_e.g N t) (fun t r h => slices_Sort_int_int_e.good N t r h)
end Go.Proofs.Ytpemffldaepbpaa.M

namespace Go.Proofs.Ytpemffldaepbpaa.M
open Go Go.PM Go.Proofs.Ytpemffldaepbpaa.P
set_option linter.unusedVariables false
set_option maxRecDepth 100000
open Go.RowKit Go.Lib Go.Sort
/-! ### slices_Compact_int_int_e -/
abbrev slices_Compact_int_int_e.R : Type := List Int
abbrev slices_Compact_int_int_e.sig : Sig := ⟨[(false, 1)], [], [.sl false 3], [(false, 1)], [], [.sl false 3]⟩
noncomputable def slices_Compact_int_int_e.g (N : Nat) (a0 : List Int) : Option slices_Compact_int_int_e.R := bif Nat.beq a0.length 0 then some ([] : List Int) else none
theorem slices_Compact_int_int_e.good (N : Nat) (a0 : List Int) (r : slices_Compact_int_int_e.R) (h : slices_Compact_int_int_e.g N a0 = some r) : Go.PM.Good Go.Proofs.Try.prog T0 81 [.one (.sl false 3 a0)] [] (slices_Compact_int_int_e.sig.ret r) (slices_Compact_int_int_e.sig.bs r) := by
  obtain ⟨hb, h⟩ := bif_some h
  have e0 : a0 = [] := List.eq_nil_of_length_eq_zero (Nat.eq_of_beq_eq_true hb)
  subst e0
  cases Option.some.inj h
  refine good_still (T := T0) ⟨_, Go.Proofs.Try.func81, by kernel_rfl, rfl⟩ _ (ret := .one (.sl false 3 [])) rfl rfl ?_
  intro w C blk vargs hsz hrep hag
  obtain ⟨A, cp, hv⟩ := rep_nil (hrep 0)
  have ev : vargs = #[.slice A 0 cp] := (args1 hsz).trans (by rw [hv])
  rw [ev]
  refine (Go.Proofs.Try.slices_Compact_int_empty A cp w).mono ?_
  rintro e w' ⟨rfl, rfl⟩
  exact ⟨_, rfl, nil_rep .., Below.refl _ _⟩
noncomputable def slices_Compact_int_int_e.ent (N : Nat) : Ent Go.Proofs.Try.prog T0 := mkEnt 81 [(false, [.ro 3])] slices_Compact_int_int_e.sig (fun t => slices_Compact_int_int_e.g N t) (fun t r h => slices_Compact_int_int_e.good N t r h)
end Go.Proofs.Ytpemffldaepbpaa.M

namespace Go.Proofs.Ytpemffldaepbpaa.M
open Go Go.PM Go.Proofs.Ytpemffldaepbpaa.P
set_option linter.unusedVariables false
set_option maxRecDepth 100000
/-! ### impl_NextHeard -/
abbrev impl_NextHeard.R : Type := List Int × Bool
abbrev impl_NextHeard.sig : Sig := ⟨[(false, 1), (false, 1)], [], [.int .i64, .sl false 3], [(false, 1), (false, 1)], [], [.sl false 3, .bool]⟩
noncomputable def impl_NextHeard.C : Cfg D0 := ⟨Go.Proofs.Try.prog, T0, 987507, 0, 36, 0, [(122, [0, 1, 6, 16, 17, 18], [])], 21533607424, true, [(62, true, 6, [], []), (126, false, 4, [5], [])]⟩
noncomputable def impl_NextHeard.E (N : Nat) : List (Ent Go.Proofs.Try.prog T0) := [impl_isHeardList.ent N, impl_halvesOf.ent N, impl_strokes.ent N, slices_Sort_int_int_e.ent N, slices_Compact_int_int_e.ent N, slices_Sort_int_int_r.ent N, slices_Compact_int_int_r.ent N]
noncomputable def impl_NextHeard.O (N : Nat) : Orc D0 impl_NextHeard.R := orcOf (impl_NextHeard.E N)
noncomputable def impl_NextHeard.K0 : Ex → St D0 → Option impl_NextHeard.R := exitK impl_NextHeard.C Go.Proofs.Try.f43.results.toList [(false, [.ro 3]), (false, [.any])] (decOut impl_NextHeard.sig)
noncomputable def impl_NextHeard.c1 : Code := codeAt (Go.Proofs.Try.f43.body.getD .skip) []
noncomputable def impl_NextHeard.c2 : Code := codeAt (Go.Proofs.Try.f43.body.getD .skip) [false]
noncomputable def impl_NextHeard.c6 : Code := codeAt (Go.Proofs.Try.f43.body.getD .skip) [true, false]
noncomputable def impl_NextHeard.c14 : Code := codeAt (Go.Proofs.Try.f43.body.getD .skip) [true, true, false]
noncomputable def impl_NextHeard.c31 : Code := codeAt (Go.Proofs.Try.f43.body.getD .skip) [true, true, true, true]
noncomputable def impl_NextHeard.c60 : Code := codeAt (Go.Proofs.Try.f43.body.getD .skip) [true, true, true, false, false]
noncomputable def impl_NextHeard.c244 : Code := codeAt (Go.Proofs.Try.f43.body.getD .skip) [true, true, true, false, true, false, false]
noncomputable def impl_NextHeard.K244 (N : Nat) (Kn122 : St D0 → Option impl_NextHeard.R) : Ex → St D0 → Option impl_NextHeard.R := (onN (fun s => impl_NextHeard.C.tidy 122 s ((onN Kn122 (blockK 0 (onN (fun s => impl_NextHeard.C.tidy 30 s (fun s' => runC impl_NextHeard.C (impl_NextHeard.O N) N impl_NextHeard.c31 31 s' impl_NextHeard.K0)) impl_NextHeard.K0))) .normal)) (onN Kn122 (blockK 0 (onN (fun s => impl_NextHeard.C.tidy 30 s (fun s' => runC impl_NextHeard.C (impl_NextHeard.O N) N impl_NextHeard.c31 31 s' impl_NextHeard.K0)) impl_NextHeard.K0))))
noncomputable def impl_NextHeard.o1 (N : Nat) (v0 : Int) (v1 : List Int) (v2 : List Int) (v3 : List Int) (v4 : Int) (v5 : Int) (c1 : Int → (List Int) → (List Int) → (List Int) → Int → Int → Option impl_NextHeard.R) : Option impl_NextHeard.R :=
 bif (decide (v5 < v4)) then
  bif (decide (0 ≤ v5)) then
   bif (decide (v5 < (v3.length : Int))) then
    (v3[(v5 : Int).toNat]?).bind fun x1 =>
    (impl_strokes.g N v0 (w64 (x1 + (v1.length : Int)))).bind fun r2 =>
    bif (Nat.blt (v2.length + ([r2] : List Int).length) 17592186044416) then
     c1 v0 v1 (v2 ++ ([r2] : List Int)) v3 v4 (w64 (v5 + 1))
    else
    none
   else
   none
  else
  none
 else
 bif (Nat.blt 0 v2.length) then
  (slices_Sort_int_int_r.g N v2.length v2).bind fun r3 =>
  (slices_Compact_int_int_r.g N v2.length r3).bind fun r4 =>
  bif (Nat.ble r4.1 r4.2.length) then
   some ((r4.2.take r4.1), true)
  else
  none
 else
 (slices_Sort_int_int_e.g N v2).bind fun r5 =>
 (slices_Compact_int_int_e.g N v2).bind fun r6 =>
 some (r6, true)
theorem impl_NextHeard.o1.run (N : Nat) (Kn122 : St D0 → Option impl_NextHeard.R) (v0 : Int) (v1 : List Int) (v2 : List Int) (v3 : List Int) (v4 : Int) (v5 : Int) : runC impl_NextHeard.C (impl_NextHeard.O N) N impl_NextHeard.c244 244 (mkSt [(0, .one (.int .i64 v0)), (1, .one (.sl false 3 v1)), (6, .one (.sl true 3 v2)), (16, .one (.sl true 3 v3)), (17, .one (.int .i64 v4)), (18, .one (.int .i64 v5))] [] : St D0) (onN (fun s => impl_NextHeard.C.tidy 122 s ((onN Kn122 (blockK 0 (onN (fun s => impl_NextHeard.C.tidy 30 s (fun s' => runC impl_NextHeard.C (impl_NextHeard.O N) N impl_NextHeard.c31 31 s' impl_NextHeard.K0)) impl_NextHeard.K0))) .normal)) (onN Kn122 (blockK 0 (onN (fun s => impl_NextHeard.C.tidy 30 s (fun s' => runC impl_NextHeard.C (impl_NextHeard.O N) N impl_NextHeard.c31 31 s' impl_NextHeard.K0)) impl_NextHeard.K0)))) = impl_NextHeard.o1 N v0 v1 v2 v3 v4 v5 ((fun w0 w1 w2 w3 w4 w5 => Kn122 (mkSt [(0, .one (.int .i64 w0)), (1, .one (.sl false 3 w1)), (6, .one (.sl true 3 w2)), (16, .one (.sl true 3 w3)), (17, .one (.int .i64 w4)), (18, .one (.int .i64 w5))] [] : St D0))) := by kernel_rfl
noncomputable def impl_NextHeard.d1 (N : Nat) (v0 : Int) (v1 : List Int) (v2 : List Int) (v3 : List Int) (v4 : Int) (v5 : Int) (c1 : Int → (List Int) → (List Int) → (List Int) → Int → Int → Option impl_NextHeard.R) : Option impl_NextHeard.R := impl_NextHeard.o1 N v0 v1 v2 v3 v4 v5 c1
theorem impl_NextHeard.d1.run (N : Nat) (Kn122 : St D0 → Option impl_NextHeard.R) (v0 : Int) (v1 : List Int) (v2 : List Int) (v3 : List Int) (v4 : Int) (v5 : Int) : runC impl_NextHeard.C (impl_NextHeard.O N) N impl_NextHeard.c244 244 (mkSt [(0, .one (.int .i64 v0)), (1, .one (.sl false 3 v1)), (6, .one (.sl true 3 v2)), (16, .one (.sl true 3 v3)), (17, .one (.int .i64 v4)), (18, .one (.int .i64 v5))] [] : St D0) (impl_NextHeard.K244 N Kn122) = impl_NextHeard.d1 N v0 v1 v2 v3 v4 v5 ((fun w0 w1 w2 w3 w4 w5 => Kn122 (mkSt [(0, .one (.int .i64 w0)), (1, .one (.sl false 3 w1)), (6, .one (.sl true 3 w2)), (16, .one (.sl true 3 w3)), (17, .one (.int .i64 w4)), (18, .one (.int .i64 w5))] [] : St D0))) := by
  exact (impl_NextHeard.o1.run N Kn122 v0 v1 v2 v3 v4 v5).trans rfl
noncomputable def impl_NextHeard.K122 (N : Nat) : Ex → St D0 → Option impl_NextHeard.R := (blockK 0 (onN (fun s => impl_NextHeard.C.tidy 30 s (fun s' => runC impl_NextHeard.C (impl_NextHeard.O N) N impl_NextHeard.c31 31 s' impl_NextHeard.K0)) impl_NextHeard.K0))
noncomputable def impl_NextHeard.l1 (N : Nat) : Nat → Int → (List Int) → (List Int) → (List Int) → Int → Int → Option impl_NextHeard.R
  | 0, _, _, _, _, _, _ => none
  | n + 1, v0, v1, v2, v3, v4, v5 => impl_NextHeard.d1 N v0 v1 v2 v3 v4 v5 ((fun w0 w1 w2 w3 w4 w5 => impl_NextHeard.l1 N n w0 w1 w2 w3 w4 w5))
theorem impl_NextHeard.loop122 (N : Nat) : ∀ n, (∀ (v0 : Int) (v1 : List Int) (v2 : List Int) (v3 : List Int) (v4 : Int) (v5 : Int), iter (loopF impl_NextHeard.C (impl_NextHeard.O N) N impl_NextHeard.c244 122) n (mkSt [(0, .one (.int .i64 v0)), (1, .one (.sl false 3 v1)), (6, .one (.sl true 3 v2)), (16, .one (.sl true 3 v3)), (17, .one (.int .i64 v4)), (18, .one (.int .i64 v5))] [] : St D0) (impl_NextHeard.K122 N) = impl_NextHeard.l1 N n v0 v1 v2 v3 v4 v5)
  | 0 => (fun v0 v1 v2 v3 v4 v5 => rfl)
  | n + 1 => (fun v0 v1 v2 v3 v4 v5 => (impl_NextHeard.d1.run N (fun s => iter (loopF impl_NextHeard.C (impl_NextHeard.O N) N impl_NextHeard.c244 122) n s (impl_NextHeard.K122 N)) v0 v1 v2 v3 v4 v5).trans (show _ = impl_NextHeard.d1 N v0 v1 v2 v3 v4 v5 ((fun w0 w1 w2 w3 w4 w5 => impl_NextHeard.l1 N n w0 w1 w2 w3 w4 w5)) from (congr rfl (funext fun w0 => funext fun w1 => funext fun w2 => funext fun w3 => funext fun w4 => funext fun w5 => (impl_NextHeard.loop122 N n) w0 w1 w2 w3 w4 w5))))
noncomputable def impl_NextHeard.o0 (N : Nat) (a0 : Int) (a1 : List Int) (c1 : Int → (List Int) → (List Int) → (List Int) → Int → Int → Option impl_NextHeard.R) : Option impl_NextHeard.R :=
 (impl_isHeardList.g N a0 a1).bind fun r1 =>
 bif (!r1) then
  some (([] : List Int), false)
 else
 (impl_halvesOf.g N a0 a1).bind fun r2 =>
 c1 a0 a1 ([] : List Int) r2 (r2.length : Int) 0
theorem impl_NextHeard.o0.run (N : Nat) (H244 : Code) (a0 : Int) (a1 : List Int) : runC impl_NextHeard.C (impl_NextHeard.O N) N (.seq impl_NextHeard.c2 (.seq impl_NextHeard.c6 (.seq impl_NextHeard.c14 (.seq (.seq impl_NextHeard.c60 (.block 0 (.loop H244))) impl_NextHeard.c31)))) 1 (st0 [.one (.int .i64 a0), .one (.sl false 3 a1)] [] : St D0) impl_NextHeard.K0 = impl_NextHeard.o0 N a0 a1 ((fun w0 w1 w2 w3 w4 w5 => iter (loopF impl_NextHeard.C (impl_NextHeard.O N) N H244 122) N (mkSt [(0, .one (.int .i64 w0)), (1, .one (.sl false 3 w1)), (6, .one (.sl true 3 w2)), (16, .one (.sl true 3 w3)), (17, .one (.int .i64 w4)), (18, .one (.int .i64 w5))] [] : St D0) (blockK 0 (onN (fun s => impl_NextHeard.C.tidy 30 s (fun s' => runC impl_NextHeard.C (impl_NextHeard.O N) N impl_NextHeard.c31 31 s' impl_NextHeard.K0)) impl_NextHeard.K0)))) := by kernel_rfl
noncomputable def impl_NextHeard.g (N : Nat) (a0 : Int) (a1 : List Int) : Option impl_NextHeard.R := impl_NextHeard.o0 N a0 a1 ((fun w0 w1 w2 w3 w4 w5 => impl_NextHeard.l1 N N w0 w1 w2 w3 w4 w5))
theorem impl_NextHeard.c1_0 : impl_NextHeard.c1 = (.seq impl_NextHeard.c2 (.seq impl_NextHeard.c6 (.seq impl_NextHeard.c14 (.seq (.seq impl_NextHeard.c60 (.block 0 (.loop impl_NextHeard.c244))) impl_NextHeard.c31)))) := by kernel_rfl
theorem impl_NextHeard.g.run (N : Nat) (a0 : Int) (a1 : List Int) : runC impl_NextHeard.C (impl_NextHeard.O N) N impl_NextHeard.c1 1 (st0 [.one (.int .i64 a0), .one (.sl false 3 a1)] [] : St D0) impl_NextHeard.K0 = impl_NextHeard.g N a0 a1 := by
  rw [impl_NextHeard.c1_0]; unfold impl_NextHeard.g; exact (impl_NextHeard.o0.run N impl_NextHeard.c244 a0 a1).trans (congr rfl (funext fun w0 => funext fun w1 => funext fun w2 => funext fun w3 => funext fun w4 => funext fun w5 => (impl_NextHeard.loop122 N N) w0 w1 w2 w3 w4 w5))
theorem impl_NextHeard.good (N : Nat) (a0 : Int) (a1 : List Int) (r : impl_NextHeard.R) (h : impl_NextHeard.g N a0 a1 = some r) : Go.PM.Good Go.Proofs.Try.prog T0 43 [.one (.int .i64 a0), .one (.sl false 3 a1)] [] (impl_NextHeard.sig.ret r) (impl_NextHeard.sig.bs r) :=
  good_fn tabOk0 mixed0 impl_NextHeard.sig (impl_NextHeard.E N) Go.Proofs.Try.func43 (by kernel_rfl) (by kernel_rfl) 987507 0 0 [(122, [0, 1, 6, 16, 17, 18], [])] 21533607424 true [(62, true, 6, [], []), (126, false, 4, [5], [])] [(false, [.ro 3]), (false, [.any])] (by kernel_rfl) rfl rfl ((impl_NextHeard.g.run N a0 a1).trans h)
noncomputable def impl_NextHeard.ent (N : Nat) : Ent Go.Proofs.Try.prog T0 := mkEnt 43 [(false, [.any]), (false, [.ro 3])] impl_NextHeard.sig (fun t => impl_NextHeard.g N t.1 t.2) (fun t r h => impl_NextHeard.good N t.1 t.2 r h)
end Go.Proofs.Ytpemffldaepbpaa.M

namespace Go.Proofs.Ytpemffldaepbpaa.M
open Go Go.PM Go.Proofs.Ytpemffldaepbpaa.P
set_option linter.unusedVariables false
set_option maxRecDepth 100000
/-! ### spec_l1Has -/
abbrev spec_l1Has.R : Type := Bool
abbrev spec_l1Has.sig : Sig := ⟨[(false, 1), (false, 1)], [], [.sl false 3, .int .i64], [(false, 1)], [], [.bool]⟩
noncomputable def spec_l1Has.C : Cfg D0 := ⟨Go.Proofs.Try.prog, T0, 34771, 0, 17, 0, [(26, [1, 7, 8, 9], [])], 24576, false, []⟩
noncomputable def spec_l1Has.E (N : Nat) : List (Ent Go.Proofs.Try.prog T0) := []
noncomputable def spec_l1Has.O (N : Nat) : Orc D0 spec_l1Has.R := orcOf (spec_l1Has.E N)
noncomputable def spec_l1Has.K0 : Ex → St D0 → Option spec_l1Has.R := exitK spec_l1Has.C Go.Proofs.Try.f82.results.toList [(false, [.any])] (decOut spec_l1Has.sig)
noncomputable def spec_l1Has.c1 : Code := codeAt (Go.Proofs.Try.f82.body.getD .skip) []
noncomputable def spec_l1Has.c2 : Code := codeAt (Go.Proofs.Try.f82.body.getD .skip) [false]
noncomputable def spec_l1Has.c7 : Code := codeAt (Go.Proofs.Try.f82.body.getD .skip) [true, true]
noncomputable def spec_l1Has.c12 : Code := codeAt (Go.Proofs.Try.f82.body.getD .skip) [true, false, false]
noncomputable def spec_l1Has.c52 : Code := codeAt (Go.Proofs.Try.f82.body.getD .skip) [true, false, true, false, false]
noncomputable def spec_l1Has.K52 (N : Nat) (Kn26 : St D0 → Option spec_l1Has.R) : Ex → St D0 → Option spec_l1Has.R := (onN (fun s => spec_l1Has.C.tidy 26 s ((onN Kn26 (blockK 0 (onN (fun s => spec_l1Has.C.tidy 6 s (fun s' => runC spec_l1Has.C (spec_l1Has.O N) N spec_l1Has.c7 7 s' spec_l1Has.K0)) spec_l1Has.K0))) .normal)) (onN Kn26 (blockK 0 (onN (fun s => spec_l1Has.C.tidy 6 s (fun s' => runC spec_l1Has.C (spec_l1Has.O N) N spec_l1Has.c7 7 s' spec_l1Has.K0)) spec_l1Has.K0))))
noncomputable def spec_l1Has.o1 (N : Nat) (v0 : Int) (v1 : List Int) (v2 : Int) (v3 : Int) (c1 : Int → (List Int) → Int → Int → Option spec_l1Has.R) : Option spec_l1Has.R :=
 bif (decide (v3 < v2)) then
  bif (decide (0 ≤ v3)) then
   bif (decide (v3 < (v1.length : Int))) then
    (v1[(v3 : Int).toNat]?).bind fun x1 =>
    bif (x1 == v0) then
     some (true)
    else
    c1 v0 v1 v2 (w64 (v3 + 1))
   else
   none
  else
  none
 else
 some (false)
theorem spec_l1Has.o1.run (N : Nat) (Kn26 : St D0 → Option spec_l1Has.R) (v0 : Int) (v1 : List Int) (v2 : Int) (v3 : Int) : runC spec_l1Has.C (spec_l1Has.O N) N spec_l1Has.c52 52 (mkSt [(1, .one (.int .i64 v0)), (7, .one (.sl false 3 v1)), (8, .one (.int .i64 v2)), (9, .one (.int .i64 v3))] [] : St D0) (onN (fun s => spec_l1Has.C.tidy 26 s ((onN Kn26 (blockK 0 (onN (fun s => spec_l1Has.C.tidy 6 s (fun s' => runC spec_l1Has.C (spec_l1Has.O N) N spec_l1Has.c7 7 s' spec_l1Has.K0)) spec_l1Has.K0))) .normal)) (onN Kn26 (blockK 0 (onN (fun s => spec_l1Has.C.tidy 6 s (fun s' => runC spec_l1Has.C (spec_l1Has.O N) N spec_l1Has.c7 7 s' spec_l1Has.K0)) spec_l1Has.K0)))) = spec_l1Has.o1 N v0 v1 v2 v3 ((fun w0 w1 w2 w3 => Kn26 (mkSt [(1, .one (.int .i64 w0)), (7, .one (.sl false 3 w1)), (8, .one (.int .i64 w2)), (9, .one (.int .i64 w3))] [] : St D0))) := by kernel_rfl
noncomputable def spec_l1Has.d1 (N : Nat) (v0 : Int) (v1 : List Int) (v2 : Int) (v3 : Int) (c1 : Int → (List Int) → Int → Int → Option spec_l1Has.R) : Option spec_l1Has.R := spec_l1Has.o1 N v0 v1 v2 v3 c1
theorem spec_l1Has.d1.run (N : Nat) (Kn26 : St D0 → Option spec_l1Has.R) (v0 : Int) (v1 : List Int) (v2 : Int) (v3 : Int) : runC spec_l1Has.C (spec_l1Has.O N) N spec_l1Has.c52 52 (mkSt [(1, .one (.int .i64 v0)), (7, .one (.sl false 3 v1)), (8, .one (.int .i64 v2)), (9, .one (.int .i64 v3))] [] : St D0) (spec_l1Has.K52 N Kn26) = spec_l1Has.d1 N v0 v1 v2 v3 ((fun w0 w1 w2 w3 => Kn26 (mkSt [(1, .one (.int .i64 w0)), (7, .one (.sl false 3 w1)), (8, .one (.int .i64 w2)), (9, .one (.int .i64 w3))] [] : St D0))) := by
  exact (spec_l1Has.o1.run N Kn26 v0 v1 v2 v3).trans rfl
noncomputable def spec_l1Has.K26 (N : Nat) : Ex → St D0 → Option spec_l1Has.R := (blockK 0 (onN (fun s => spec_l1Has.C.tidy 6 s (fun s' => runC spec_l1Has.C (spec_l1Has.O N) N spec_l1Has.c7 7 s' spec_l1Has.K0)) spec_l1Has.K0))
noncomputable def spec_l1Has.l1 (N : Nat) : Nat → Int → (List Int) → Int → Int → Option spec_l1Has.R
  | 0, _, _, _, _ => none
  | n + 1, v0, v1, v2, v3 => spec_l1Has.d1 N v0 v1 v2 v3 ((fun w0 w1 w2 w3 => spec_l1Has.l1 N n w0 w1 w2 w3))
theorem spec_l1Has.loop26 (N : Nat) : ∀ n, (∀ (v0 : Int) (v1 : List Int) (v2 : Int) (v3 : Int), iter (loopF spec_l1Has.C (spec_l1Has.O N) N spec_l1Has.c52 26) n (mkSt [(1, .one (.int .i64 v0)), (7, .one (.sl false 3 v1)), (8, .one (.int .i64 v2)), (9, .one (.int .i64 v3))] [] : St D0) (spec_l1Has.K26 N) = spec_l1Has.l1 N n v0 v1 v2 v3)
  | 0 => (fun v0 v1 v2 v3 => rfl)
  | n + 1 => (fun v0 v1 v2 v3 => (spec_l1Has.d1.run N (fun s => iter (loopF spec_l1Has.C (spec_l1Has.O N) N spec_l1Has.c52 26) n s (spec_l1Has.K26 N)) v0 v1 v2 v3).trans (show _ = spec_l1Has.d1 N v0 v1 v2 v3 ((fun w0 w1 w2 w3 => spec_l1Has.l1 N n w0 w1 w2 w3)) from (congr rfl (funext fun w0 => funext fun w1 => funext fun w2 => funext fun w3 => (spec_l1Has.loop26 N n) w0 w1 w2 w3))))
noncomputable def spec_l1Has.o0 (N : Nat) (a0 : List Int) (a1 : Int) (c1 : Int → (List Int) → Int → Int → Option spec_l1Has.R) : Option spec_l1Has.R :=
 c1 a1 a0 (a0.length : Int) 0
theorem spec_l1Has.o0.run (N : Nat) (H52 : Code) (a0 : List Int) (a1 : Int) : runC spec_l1Has.C (spec_l1Has.O N) N (.seq spec_l1Has.c2 (.seq (.seq spec_l1Has.c12 (.block 0 (.loop H52))) spec_l1Has.c7)) 1 (st0 [.one (.sl false 3 a0), .one (.int .i64 a1)] [] : St D0) spec_l1Has.K0 = spec_l1Has.o0 N a0 a1 ((fun w0 w1 w2 w3 => iter (loopF spec_l1Has.C (spec_l1Has.O N) N H52 26) N (mkSt [(1, .one (.int .i64 w0)), (7, .one (.sl false 3 w1)), (8, .one (.int .i64 w2)), (9, .one (.int .i64 w3))] [] : St D0) (blockK 0 (onN (fun s => spec_l1Has.C.tidy 6 s (fun s' => runC spec_l1Has.C (spec_l1Has.O N) N spec_l1Has.c7 7 s' spec_l1Has.K0)) spec_l1Has.K0)))) := by kernel_rfl
noncomputable def spec_l1Has.g (N : Nat) (a0 : List Int) (a1 : Int) : Option spec_l1Has.R := spec_l1Has.o0 N a0 a1 ((fun w0 w1 w2 w3 => spec_l1Has.l1 N N w0 w1 w2 w3))
theorem spec_l1Has.c1_0 : spec_l1Has.c1 = (.seq spec_l1Has.c2 (.seq (.seq spec_l1Has.c12 (.block 0 (.loop spec_l1Has.c52))) spec_l1Has.c7)) := by kernel_rfl
theorem spec_l1Has.g.run (N : Nat) (a0 : List Int) (a1 : Int) : runC spec_l1Has.C (spec_l1Has.O N) N spec_l1Has.c1 1 (st0 [.one (.sl false 3 a0), .one (.int .i64 a1)] [] : St D0) spec_l1Has.K0 = spec_l1Has.g N a0 a1 := by
  rw [spec_l1Has.c1_0]; unfold spec_l1Has.g; exact (spec_l1Has.o0.run N spec_l1Has.c52 a0 a1).trans (congr rfl (funext fun w0 => funext fun w1 => funext fun w2 => funext fun w3 => (spec_l1Has.loop26 N N) w0 w1 w2 w3))
theorem spec_l1Has.good (N : Nat) (a0 : List Int) (a1 : Int) (r : spec_l1Has.R) (h : spec_l1Has.g N a0 a1 = some r) : Go.PM.Good Go.Proofs.Try.prog T0 82 [.one (.sl false 3 a0), .one (.int .i64 a1)] [] (spec_l1Has.sig.ret r) (spec_l1Has.sig.bs r) :=
  good_fn tabOk0 mixed0 spec_l1Has.sig (spec_l1Has.E N) Go.Proofs.Try.func82 (by kernel_rfl) (by kernel_rfl) 34771 0 0 [(26, [1, 7, 8, 9], [])] 24576 false [] [(false, [.any])] (by kernel_rfl) rfl rfl ((spec_l1Has.g.run N a0 a1).trans h)
noncomputable def spec_l1Has.ent (N : Nat) : Ent Go.Proofs.Try.prog T0 := mkEnt 82 [(false, [.ro 3]), (false, [.any])] spec_l1Has.sig (fun t => spec_l1Has.g N t.1 t.2) (fun t r h => spec_l1Has.good N t.1 t.2 r h)
end Go.Proofs.Ytpemffldaepbpaa.M

namespace Go.Proofs.Ytpemffldaepbpaa.M
open Go Go.PM Go.Proofs.Ytpemffldaepbpaa.P
set_option linter.unusedVariables false
set_option maxRecDepth 100000
/-! ### spec_l1Put -/
abbrev spec_l1Put.R : Type := List Int
abbrev spec_l1Put.sig : Sig := ⟨[(false, 1), (false, 1)], [], [.sl false 3, .int .i64], [(false, 1)], [], [.sl false 3]⟩
noncomputable def spec_l1Put.C : Cfg D0 := ⟨Go.Proofs.Try.prog, T0, 4295229555, 0, 48, 0, [(28, [0, 1, 5], []), (60, [0, 1, 5, 32], []), (112, [0, 1, 5], [])], 52880919310720, false, []⟩
noncomputable def spec_l1Put.E (N : Nat) : List (Ent Go.Proofs.Try.prog T0) := []
noncomputable def spec_l1Put.O (N : Nat) : Orc D0 spec_l1Put.R := orcOf (spec_l1Put.E N)
noncomputable def spec_l1Put.K0 : Ex → St D0 → Option spec_l1Put.R := exitK spec_l1Put.C Go.Proofs.Try.f83.results.toList [(false, [.ro 3])] (decOut spec_l1Put.sig)
noncomputable def spec_l1Put.c1 : Code := codeAt (Go.Proofs.Try.f83.body.getD .skip) []
noncomputable def spec_l1Put.c2 : Code := codeAt (Go.Proofs.Try.f83.body.getD .skip) [false]
noncomputable def spec_l1Put.c6 : Code := codeAt (Go.Proofs.Try.f83.body.getD .skip) [true, false]
noncomputable def spec_l1Put.c15 : Code := codeAt (Go.Proofs.Try.f83.body.getD .skip) [true, true, true]
noncomputable def spec_l1Put.c31 : Code := codeAt (Go.Proofs.Try.f83.body.getD .skip) [true, true, true, true]
noncomputable def spec_l1Put.c56 : Code := codeAt (Go.Proofs.Try.f83.body.getD .skip) [true, true, false, false, false]
noncomputable def spec_l1Put.c60 : Code := codeAt (Go.Proofs.Try.f83.body.getD .skip) [true, true, true, false, false]
noncomputable def spec_l1Put.c61 : Code := codeAt (Go.Proofs.Try.f83.body.getD .skip) [true, true, true, false, true]
noncomputable def spec_l1Put.c112 : Code := codeAt (Go.Proofs.Try.f83.body.getD .skip) [true, true, false, false, false, false]
noncomputable def spec_l1Put.c113 : Code := codeAt (Go.Proofs.Try.f83.body.getD .skip) [true, true, false, false, false, true]
noncomputable def spec_l1Put.K113 (N : Nat) (Kn28 : St D0 → Option spec_l1Put.R) : Ex → St D0 → Option spec_l1Put.R := (onN (fun s => spec_l1Put.C.tidy 28 s ((onN Kn28 (blockK 0 (onN (fun s => spec_l1Put.C.tidy 14 s (fun s' => runC spec_l1Put.C (spec_l1Put.O N) N spec_l1Put.c15 15 s' spec_l1Put.K0)) spec_l1Put.K0))) .normal)) (onN Kn28 (blockK 0 (onN (fun s => spec_l1Put.C.tidy 14 s (fun s' => runC spec_l1Put.C (spec_l1Put.O N) N spec_l1Put.c15 15 s' spec_l1Put.K0)) spec_l1Put.K0))))
noncomputable def spec_l1Put.o2 (N : Nat) (v0 : List Int) (v1 : Int) (v2 : Int) (c1 : (List Int) → Int → Int → Option spec_l1Put.R) : Option spec_l1Put.R :=
 c1 v0 v1 (w64 (v2 + 1))
theorem spec_l1Put.o2.run (N : Nat) (Kn28 : St D0 → Option spec_l1Put.R) (v0 : List Int) (v1 : Int) (v2 : Int) : runC spec_l1Put.C (spec_l1Put.O N) N spec_l1Put.c113 113 (mkSt [(0, .one (.sl false 3 v0)), (1, .one (.int .i64 v1)), (5, .one (.int .i64 v2))] [] : St D0) (onN (fun s => spec_l1Put.C.tidy 28 s ((onN Kn28 (blockK 0 (onN (fun s => spec_l1Put.C.tidy 14 s (fun s' => runC spec_l1Put.C (spec_l1Put.O N) N spec_l1Put.c15 15 s' spec_l1Put.K0)) spec_l1Put.K0))) .normal)) (onN Kn28 (blockK 0 (onN (fun s => spec_l1Put.C.tidy 14 s (fun s' => runC spec_l1Put.C (spec_l1Put.O N) N spec_l1Put.c15 15 s' spec_l1Put.K0)) spec_l1Put.K0)))) = spec_l1Put.o2 N v0 v1 v2 ((fun w0 w1 w2 => Kn28 (mkSt [(0, .one (.sl false 3 w0)), (1, .one (.int .i64 w1)), (5, .one (.int .i64 w2))] [] : St D0))) := by kernel_rfl
noncomputable def spec_l1Put.d2 (N : Nat) (v0 : List Int) (v1 : Int) (v2 : Int) (c1 : (List Int) → Int → Int → Option spec_l1Put.R) : Option spec_l1Put.R := spec_l1Put.o2 N v0 v1 v2 c1
theorem spec_l1Put.d2.run (N : Nat) (Kn28 : St D0 → Option spec_l1Put.R) (v0 : List Int) (v1 : Int) (v2 : Int) : runC spec_l1Put.C (spec_l1Put.O N) N spec_l1Put.c113 113 (mkSt [(0, .one (.sl false 3 v0)), (1, .one (.int .i64 v1)), (5, .one (.int .i64 v2))] [] : St D0) (spec_l1Put.K113 N Kn28) = spec_l1Put.d2 N v0 v1 v2 ((fun w0 w1 w2 => Kn28 (mkSt [(0, .one (.sl false 3 w0)), (1, .one (.int .i64 w1)), (5, .one (.int .i64 w2))] [] : St D0))) := by
  exact (spec_l1Put.o2.run N Kn28 v0 v1 v2).trans rfl
noncomputable def spec_l1Put.K61 (N : Nat) : Ex → St D0 → Option spec_l1Put.R := (onN (fun s => spec_l1Put.C.tidy 30 s (fun s' => runC spec_l1Put.C (spec_l1Put.O N) N spec_l1Put.c31 31 s' spec_l1Put.K0)) spec_l1Put.K0)
noncomputable def spec_l1Put.o3 (N : Nat) (v0 : List Int) (v1 : Int) (v2 : Int) (v3 : Bool) : Option spec_l1Put.R :=
 bif v3 then
  some (v0)
 else
 bif (decide (0 ≤ v2)) then
  bif (decide (v2 ≤ (v0.length : Int))) then
   bif (decide (0 ≤ v2)) then
    bif (Nat.blt (([] : List Int).length + ((v0.take (v2 : Int).toNat).drop (0 : Int).toNat).length) 17592186044416) then
     bif (Nat.blt ((([] : List Int) ++ ((v0.take (v2 : Int).toNat).drop (0 : Int).toNat)).length + ([v1] : List Int).length) 17592186044416) then
      bif (decide (0 ≤ (v0.length : Int))) then
       bif (decide ((v0.length : Int) ≤ (v0.length : Int))) then
        bif (decide (0 ≤ v2)) then
         bif (decide (v2 ≤ (v0.length : Int))) then
          bif (Nat.blt (((([] : List Int) ++ ((v0.take (v2 : Int).toNat).drop (0 : Int).toNat)) ++ ([v1] : List Int)).length + ((v0.take ((v0.length : Int) : Int).toNat).drop (v2 : Int).toNat).length) 17592186044416) then
           some ((((([] : List Int) ++ ((v0.take (v2 : Int).toNat).drop (0 : Int).toNat)) ++ ([v1] : List Int)) ++ ((v0.take ((v0.length : Int) : Int).toNat).drop (v2 : Int).toNat)))
          else
          none
         else
         none
        else
        none
       else
       none
      else
      none
     else
     none
    else
    none
   else
   none
  else
  none
 else
 none
theorem spec_l1Put.o3.run (N : Nat) (v0 : List Int) (v1 : Int) (v2 : Int) (v3 : Bool) : runC spec_l1Put.C (spec_l1Put.O N) N spec_l1Put.c61 61 (mkSt [(0, .one (.sl false 3 v0)), (1, .one (.int .i64 v1)), (5, .one (.int .i64 v2)), (32, .one (.bool v3))] [] : St D0) (onN (fun s => spec_l1Put.C.tidy 30 s (fun s' => runC spec_l1Put.C (spec_l1Put.O N) N spec_l1Put.c31 31 s' spec_l1Put.K0)) spec_l1Put.K0) = spec_l1Put.o3 N v0 v1 v2 v3 := by kernel_rfl
noncomputable def spec_l1Put.d3 (N : Nat) (v0 : List Int) (v1 : Int) (v2 : Int) (v3 : Bool) : Option spec_l1Put.R := spec_l1Put.o3 N v0 v1 v2 v3
theorem spec_l1Put.d3.run (N : Nat) (v0 : List Int) (v1 : Int) (v2 : Int) (v3 : Bool) : runC spec_l1Put.C (spec_l1Put.O N) N spec_l1Put.c61 61 (mkSt [(0, .one (.sl false 3 v0)), (1, .one (.int .i64 v1)), (5, .one (.int .i64 v2)), (32, .one (.bool v3))] [] : St D0) (spec_l1Put.K61 N) = spec_l1Put.d3 N v0 v1 v2 v3 := by
  exact (spec_l1Put.o3.run N v0 v1 v2 v3).trans rfl
noncomputable def spec_l1Put.K56 (N : Nat) (Kn28 : St D0 → Option spec_l1Put.R) : Ex → St D0 → Option spec_l1Put.R := (onN (fun s => spec_l1Put.C.tidy 28 s ((onN Kn28 (blockK 0 (onN (fun s => spec_l1Put.C.tidy 14 s (fun s' => runC spec_l1Put.C (spec_l1Put.O N) N spec_l1Put.c15 15 s' spec_l1Put.K0)) spec_l1Put.K0))) .normal)) (onN Kn28 (blockK 0 (onN (fun s => spec_l1Put.C.tidy 14 s (fun s' => runC spec_l1Put.C (spec_l1Put.O N) N spec_l1Put.c15 15 s' spec_l1Put.K0)) spec_l1Put.K0))))
noncomputable def spec_l1Put.o1 (N : Nat) (v0 : List Int) (v1 : Int) (v2 : Int) (c2 : (List Int) → Int → Int → Option spec_l1Put.R) (c3 : (List Int) → Int → Int → Bool → Option spec_l1Put.R) : Option spec_l1Put.R :=
 bif (decide (v2 < (v0.length : Int))) then
  bif (decide (0 ≤ v2)) then
   bif (decide (v2 < (v0.length : Int))) then
    (v0[(v2 : Int).toNat]?).bind fun x1 =>
    bif (decide (x1 < v1)) then
     c2 v0 v1 v2
    else
    bif (decide (v2 < (v0.length : Int))) then
     bif (decide (0 ≤ v2)) then
      bif (decide (v2 < (v0.length : Int))) then
       (v0[(v2 : Int).toNat]?).bind fun x2 =>
       c3 v0 v1 v2 (x2 == v1)
      else
      none
     else
     none
    else
    c3 v0 v1 v2 false
   else
   none
  else
  none
 else
 bif (decide (v2 < (v0.length : Int))) then
  bif (decide (0 ≤ v2)) then
   bif (decide (v2 < (v0.length : Int))) then
    (v0[(v2 : Int).toNat]?).bind fun x3 =>
    c3 v0 v1 v2 (x3 == v1)
   else
   none
  else
  none
 else
 c3 v0 v1 v2 false
theorem spec_l1Put.o1.run (N : Nat) (Kn28 : St D0 → Option spec_l1Put.R) (H61 : Code) (H113 : Code) (v0 : List Int) (v1 : Int) (v2 : Int) : runC spec_l1Put.C (spec_l1Put.O N) N (.seq spec_l1Put.c112 H113) 56 (mkSt [(0, .one (.sl false 3 v0)), (1, .one (.int .i64 v1)), (5, .one (.int .i64 v2))] [] : St D0) (onN (fun s => spec_l1Put.C.tidy 28 s ((onN Kn28 (blockK 0 (onN (fun s => spec_l1Put.C.tidy 14 s (fun s' => runC spec_l1Put.C (spec_l1Put.O N) N (.seq (.seq spec_l1Put.c60 H61) spec_l1Put.c31) 15 s' spec_l1Put.K0)) spec_l1Put.K0))) .normal)) (onN Kn28 (blockK 0 (onN (fun s => spec_l1Put.C.tidy 14 s (fun s' => runC spec_l1Put.C (spec_l1Put.O N) N (.seq (.seq spec_l1Put.c60 H61) spec_l1Put.c31) 15 s' spec_l1Put.K0)) spec_l1Put.K0)))) = spec_l1Put.o1 N v0 v1 v2 ((fun w0 w1 w2 => runC spec_l1Put.C (spec_l1Put.O N) N H113 113 (mkSt [(0, .one (.sl false 3 w0)), (1, .one (.int .i64 w1)), (5, .one (.int .i64 w2))] [] : St D0) (onN (fun s => spec_l1Put.C.tidy 28 s ((onN Kn28 (blockK 0 (onN (fun s => spec_l1Put.C.tidy 14 s (fun s' => runC spec_l1Put.C (spec_l1Put.O N) N (.seq (.seq spec_l1Put.c60 H61) spec_l1Put.c31) 15 s' spec_l1Put.K0)) spec_l1Put.K0))) .normal)) (onN Kn28 (blockK 0 (onN (fun s => spec_l1Put.C.tidy 14 s (fun s' => runC spec_l1Put.C (spec_l1Put.O N) N (.seq (.seq spec_l1Put.c60 H61) spec_l1Put.c31) 15 s' spec_l1Put.K0)) spec_l1Put.K0)))))) ((fun w0 w1 w2 w3 => runC spec_l1Put.C (spec_l1Put.O N) N H61 61 (mkSt [(0, .one (.sl false 3 w0)), (1, .one (.int .i64 w1)), (5, .one (.int .i64 w2)), (32, .one (.bool w3))] [] : St D0) (onN (fun s => spec_l1Put.C.tidy 30 s (fun s' => runC spec_l1Put.C (spec_l1Put.O N) N spec_l1Put.c31 31 s' spec_l1Put.K0)) spec_l1Put.K0))) := by kernel_rfl
noncomputable def spec_l1Put.B30 (N : Nat) : St D0 → Option spec_l1Put.R := fun s' => runC spec_l1Put.C (spec_l1Put.O N) N spec_l1Put.c61 61 s' (spec_l1Put.K61 N)
noncomputable def spec_l1Put.B56 (N : Nat) (Kn28 : St D0 → Option spec_l1Put.R) : St D0 → Option spec_l1Put.R := fun s' => runC spec_l1Put.C (spec_l1Put.O N) N spec_l1Put.c113 113 s' (spec_l1Put.K113 N Kn28)
noncomputable def spec_l1Put.d1 (N : Nat) (v0 : List Int) (v1 : Int) (v2 : Int) (c1 : (List Int) → Int → Int → Option spec_l1Put.R) : Option spec_l1Put.R := spec_l1Put.o1 N v0 v1 v2 ((fun w0 w1 w2 => spec_l1Put.d2 N w0 w1 w2 c1)) ((fun w0 w1 w2 w3 => spec_l1Put.d3 N w0 w1 w2 w3))
theorem spec_l1Put.c56_1 : spec_l1Put.c56 = (.seq spec_l1Put.c112 spec_l1Put.c113) := by kernel_rfl
theorem spec_l1Put.d1.run (N : Nat) (Kn28 : St D0 → Option spec_l1Put.R) (v0 : List Int) (v1 : Int) (v2 : Int) : runC spec_l1Put.C (spec_l1Put.O N) N spec_l1Put.c56 56 (mkSt [(0, .one (.sl false 3 v0)), (1, .one (.int .i64 v1)), (5, .one (.int .i64 v2))] [] : St D0) (spec_l1Put.K56 N Kn28) = spec_l1Put.d1 N v0 v1 v2 ((fun w0 w1 w2 => Kn28 (mkSt [(0, .one (.sl false 3 w0)), (1, .one (.int .i64 w1)), (5, .one (.int .i64 w2))] [] : St D0))) := by
  rw [spec_l1Put.c56_1]; unfold spec_l1Put.d1; exact (spec_l1Put.o1.run N Kn28 spec_l1Put.c61 spec_l1Put.c113 v0 v1 v2).trans (congr (congr rfl (funext fun w0 => funext fun w1 => funext fun w2 => spec_l1Put.d2.run N Kn28 w0 w1 w2)) (funext fun w0 => funext fun w1 => funext fun w2 => funext fun w3 => spec_l1Put.d3.run N w0 w1 w2 w3))
noncomputable def spec_l1Put.K28 (N : Nat) : Ex → St D0 → Option spec_l1Put.R := (blockK 0 (onN (fun s => spec_l1Put.C.tidy 14 s (fun s' => runC spec_l1Put.C (spec_l1Put.O N) N spec_l1Put.c15 15 s' spec_l1Put.K0)) spec_l1Put.K0))
noncomputable def spec_l1Put.l1 (N : Nat) : Nat → (List Int) → Int → Int → Option spec_l1Put.R
  | 0, _, _, _ => none
  | n + 1, v0, v1, v2 => spec_l1Put.d1 N v0 v1 v2 ((fun w0 w1 w2 => spec_l1Put.l1 N n w0 w1 w2))
theorem spec_l1Put.loop28 (N : Nat) : ∀ n, (∀ (v0 : List Int) (v1 : Int) (v2 : Int), iter (loopF spec_l1Put.C (spec_l1Put.O N) N spec_l1Put.c56 28) n (mkSt [(0, .one (.sl false 3 v0)), (1, .one (.int .i64 v1)), (5, .one (.int .i64 v2))] [] : St D0) (spec_l1Put.K28 N) = spec_l1Put.l1 N n v0 v1 v2)
  | 0 => (fun v0 v1 v2 => rfl)
  | n + 1 => (fun v0 v1 v2 => (spec_l1Put.d1.run N (fun s => iter (loopF spec_l1Put.C (spec_l1Put.O N) N spec_l1Put.c56 28) n s (spec_l1Put.K28 N)) v0 v1 v2).trans (show _ = spec_l1Put.d1 N v0 v1 v2 ((fun w0 w1 w2 => spec_l1Put.l1 N n w0 w1 w2)) from (congr rfl (funext fun w0 => funext fun w1 => funext fun w2 => (spec_l1Put.loop28 N n) w0 w1 w2))))
noncomputable def spec_l1Put.o0 (N : Nat) (a0 : List Int) (a1 : Int) (c1 : (List Int) → Int → Int → Option spec_l1Put.R) : Option spec_l1Put.R :=
 c1 a0 a1 0
theorem spec_l1Put.o0.run (N : Nat) (H56 : Code) (a0 : List Int) (a1 : Int) : runC spec_l1Put.C (spec_l1Put.O N) N (.seq spec_l1Put.c2 (.seq spec_l1Put.c6 (.seq (.block 0 (.loop H56)) spec_l1Put.c15))) 1 (st0 [.one (.sl false 3 a0), .one (.int .i64 a1)] [] : St D0) spec_l1Put.K0 = spec_l1Put.o0 N a0 a1 ((fun w0 w1 w2 => iter (loopF spec_l1Put.C (spec_l1Put.O N) N H56 28) N (mkSt [(0, .one (.sl false 3 w0)), (1, .one (.int .i64 w1)), (5, .one (.int .i64 w2))] [] : St D0) (blockK 0 (onN (fun s => spec_l1Put.C.tidy 14 s (fun s' => runC spec_l1Put.C (spec_l1Put.O N) N spec_l1Put.c15 15 s' spec_l1Put.K0)) spec_l1Put.K0)))) := by kernel_rfl
noncomputable def spec_l1Put.g (N : Nat) (a0 : List Int) (a1 : Int) : Option spec_l1Put.R := spec_l1Put.o0 N a0 a1 ((fun w0 w1 w2 => spec_l1Put.l1 N N w0 w1 w2))
theorem spec_l1Put.c1_0 : spec_l1Put.c1 = (.seq spec_l1Put.c2 (.seq spec_l1Put.c6 (.seq (.block 0 (.loop spec_l1Put.c56)) spec_l1Put.c15))) := by kernel_rfl
theorem spec_l1Put.g.run (N : Nat) (a0 : List Int) (a1 : Int) : runC spec_l1Put.C (spec_l1Put.O N) N spec_l1Put.c1 1 (st0 [.one (.sl false 3 a0), .one (.int .i64 a1)] [] : St D0) spec_l1Put.K0 = spec_l1Put.g N a0 a1 := by
  rw [spec_l1Put.c1_0]; unfold spec_l1Put.g; exact (spec_l1Put.o0.run N spec_l1Put.c56 a0 a1).trans (congr rfl (funext fun w0 => funext fun w1 => funext fun w2 => (spec_l1Put.loop28 N N) w0 w1 w2))
theorem spec_l1Put.good (N : Nat) (a0 : List Int) (a1 : Int) (r : spec_l1Put.R) (h : spec_l1Put.g N a0 a1 = some r) : Go.PM.Good Go.Proofs.Try.prog T0 83 [.one (.sl false 3 a0), .one (.int .i64 a1)] [] (spec_l1Put.sig.ret r) (spec_l1Put.sig.bs r) :=
  good_fn tabOk0 mixed0 spec_l1Put.sig (spec_l1Put.E N) Go.Proofs.Try.func83 (by kernel_rfl) (by kernel_rfl) 4295229555 0 0 [(28, [0, 1, 5], []), (60, [0, 1, 5, 32], []), (112, [0, 1, 5], [])] 52880919310720 false [] [(false, [.ro 3])] (by kernel_rfl) rfl rfl ((spec_l1Put.g.run N a0 a1).trans h)
noncomputable def spec_l1Put.ent (N : Nat) : Ent Go.Proofs.Try.prog T0 := mkEnt 83 [(false, [.ro 3]), (false, [.any])] spec_l1Put.sig (fun t => spec_l1Put.g N t.1 t.2) (fun t r h => spec_l1Put.good N t.1 t.2 r h)
end Go.Proofs.Ytpemffldaepbpaa.M

namespace Go.Proofs.Ytpemffldaepbpaa.M
open Go Go.PM Go.Proofs.Ytpemffldaepbpaa.P
set_option linter.unusedVariables false
set_option maxRecDepth 100000
/-! ### spec_NextHeard -/
abbrev spec_NextHeard.R : Type := List Int × Bool
abbrev spec_NextHeard.sig : Sig := ⟨[(false, 1), (false, 1)], [], [.int .i64, .sl false 3], [(false, 1), (false, 1)], [], [.sl false 3, .bool]⟩
noncomputable def spec_NextHeard.C : Cfg D0 := ⟨Go.Proofs.Try.prog, T0, 17180861299, 0, 40, 0, [(122, [0, 1, 6, 16, 17, 18], [])], 109685296128, false, []⟩
noncomputable def spec_NextHeard.E (N : Nat) : List (Ent Go.Proofs.Try.prog T0) := [spec_stHeard.ent N, spec_stHalves.ent N, spec_stAt.ent N, spec_l1Has.ent N, spec_l1Put.ent N]
noncomputable def spec_NextHeard.O (N : Nat) : Orc D0 spec_NextHeard.R := orcOf (spec_NextHeard.E N)
noncomputable def spec_NextHeard.K0 : Ex → St D0 → Option spec_NextHeard.R := exitK spec_NextHeard.C Go.Proofs.Try.f44.results.toList [(false, [.ro 3]), (false, [.any])] (decOut spec_NextHeard.sig)
noncomputable def spec_NextHeard.c1 : Code := codeAt (Go.Proofs.Try.f44.body.getD .skip) []
noncomputable def spec_NextHeard.c2 : Code := codeAt (Go.Proofs.Try.f44.body.getD .skip) [false]
noncomputable def spec_NextHeard.c6 : Code := codeAt (Go.Proofs.Try.f44.body.getD .skip) [true, false]
noncomputable def spec_NextHeard.c14 : Code := codeAt (Go.Proofs.Try.f44.body.getD .skip) [true, true, false]
noncomputable def spec_NextHeard.c31 : Code := codeAt (Go.Proofs.Try.f44.body.getD .skip) [true, true, true, true]
noncomputable def spec_NextHeard.c60 : Code := codeAt (Go.Proofs.Try.f44.body.getD .skip) [true, true, true, false, false]
noncomputable def spec_NextHeard.c244 : Code := codeAt (Go.Proofs.Try.f44.body.getD .skip) [true, true, true, false, true, false, false]
noncomputable def spec_NextHeard.K244 (N : Nat) (Kn122 : St D0 → Option spec_NextHeard.R) : Ex → St D0 → Option spec_NextHeard.R := (onN (fun s => spec_NextHeard.C.tidy 122 s ((onN Kn122 (blockK 0 (onN (fun s => spec_NextHeard.C.tidy 30 s (fun s' => runC spec_NextHeard.C (spec_NextHeard.O N) N spec_NextHeard.c31 31 s' spec_NextHeard.K0)) spec_NextHeard.K0))) .normal)) (onN Kn122 (blockK 0 (onN (fun s => spec_NextHeard.C.tidy 30 s (fun s' => runC spec_NextHeard.C (spec_NextHeard.O N) N spec_NextHeard.c31 31 s' spec_NextHeard.K0)) spec_NextHeard.K0))))
noncomputable def spec_NextHeard.o1 (N : Nat) (v0 : Int) (v1 : List Int) (v2 : List Int) (v3 : Int) (v4 : Int) (c2 : Int → (List Int) → (List Int) → (List Int) → Int → Int → Option spec_NextHeard.R) (c1 : Int → (List Int) → (List Int) → Int → Int → Option spec_NextHeard.R) : Option spec_NextHeard.R :=
 bif (decide (v4 < v3)) then
  bif (decide (0 ≤ v4)) then
   bif (decide (v4 < (v2.length : Int))) then
    (v2[(v4 : Int).toNat]?).bind fun x1 =>
    bif ((w64 (2 * v0)) == 0) then
     none
    else
    (spec_stAt.g N v0 (Int.tmod (w64 (x1 + (v1.length : Int))) (w64 (2 * v0)))).bind fun r2 =>
    (spec_l1Has.g N ([] : List Int) r2).bind fun r3 =>
    bif (!r3) then
     (spec_l1Put.g N ([] : List Int) r2).bind fun r4 =>
     c2 v0 v1 r4 v2 v3 (w64 (v4 + 1))
    else
    c1 v0 v1 v2 v3 (w64 (v4 + 1))
   else
   none
  else
  none
 else
 some (([] : List Int), true)
theorem spec_NextHeard.o1.run (N : Nat) (Kn122 : St D0 → Option spec_NextHeard.R) (v0 : Int) (v1 : List Int) (v2 : List Int) (v3 : Int) (v4 : Int) : runC spec_NextHeard.C (spec_NextHeard.O N) N spec_NextHeard.c244 244 (mkSt [(0, .one (.int .i64 v0)), (1, .one (.sl false 3 v1)), (6, .one (.nl)), (16, .one (.sl true 3 v2)), (17, .one (.int .i64 v3)), (18, .one (.int .i64 v4))] [] : St D0) (onN (fun s => spec_NextHeard.C.tidy 122 s ((onN Kn122 (blockK 0 (onN (fun s => spec_NextHeard.C.tidy 30 s (fun s' => runC spec_NextHeard.C (spec_NextHeard.O N) N spec_NextHeard.c31 31 s' spec_NextHeard.K0)) spec_NextHeard.K0))) .normal)) (onN Kn122 (blockK 0 (onN (fun s => spec_NextHeard.C.tidy 30 s (fun s' => runC spec_NextHeard.C (spec_NextHeard.O N) N spec_NextHeard.c31 31 s' spec_NextHeard.K0)) spec_NextHeard.K0)))) = spec_NextHeard.o1 N v0 v1 v2 v3 v4 ((fun w0 w1 w2 w3 w4 w5 => Kn122 (mkSt [(0, .one (.int .i64 w0)), (1, .one (.sl false 3 w1)), (6, .one (.sl false 3 w2)), (16, .one (.sl true 3 w3)), (17, .one (.int .i64 w4)), (18, .one (.int .i64 w5))] [] : St D0))) ((fun w0 w1 w2 w3 w4 => Kn122 (mkSt [(0, .one (.int .i64 w0)), (1, .one (.sl false 3 w1)), (6, .one (.nl)), (16, .one (.sl true 3 w2)), (17, .one (.int .i64 w3)), (18, .one (.int .i64 w4))] [] : St D0))) := by kernel_rfl
noncomputable def spec_NextHeard.d1 (N : Nat) (v0 : Int) (v1 : List Int) (v2 : List Int) (v3 : Int) (v4 : Int) (c1 : Int → (List Int) → (List Int) → Int → Int → Option spec_NextHeard.R) (c2 : Int → (List Int) → (List Int) → (List Int) → Int → Int → Option spec_NextHeard.R) : Option spec_NextHeard.R := spec_NextHeard.o1 N v0 v1 v2 v3 v4 c2 c1
theorem spec_NextHeard.d1.run (N : Nat) (Kn122 : St D0 → Option spec_NextHeard.R) (v0 : Int) (v1 : List Int) (v2 : List Int) (v3 : Int) (v4 : Int) : runC spec_NextHeard.C (spec_NextHeard.O N) N spec_NextHeard.c244 244 (mkSt [(0, .one (.int .i64 v0)), (1, .one (.sl false 3 v1)), (6, .one (.nl)), (16, .one (.sl true 3 v2)), (17, .one (.int .i64 v3)), (18, .one (.int .i64 v4))] [] : St D0) (spec_NextHeard.K244 N Kn122) = spec_NextHeard.d1 N v0 v1 v2 v3 v4 ((fun w0 w1 w2 w3 w4 => Kn122 (mkSt [(0, .one (.int .i64 w0)), (1, .one (.sl false 3 w1)), (6, .one (.nl)), (16, .one (.sl true 3 w2)), (17, .one (.int .i64 w3)), (18, .one (.int .i64 w4))] [] : St D0))) ((fun w0 w1 w2 w3 w4 w5 => Kn122 (mkSt [(0, .one (.int .i64 w0)), (1, .one (.sl false 3 w1)), (6, .one (.sl false 3 w2)), (16, .one (.sl true 3 w3)), (17, .one (.int .i64 w4)), (18, .one (.int .i64 w5))] [] : St D0))) := by
  exact (spec_NextHeard.o1.run N Kn122 v0 v1 v2 v3 v4).trans rfl
noncomputable def spec_NextHeard.o2 (N : Nat) (v0 : Int) (v1 : List Int) (v2 : List Int) (v3 : List Int) (v4 : Int) (v5 : Int) (c2 : Int → (List Int) → (List Int) → (List Int) → Int → Int → Option spec_NextHeard.R) : Option spec_NextHeard.R :=
 bif (decide (v5 < v4)) then
  bif (decide (0 ≤ v5)) then
   bif (decide (v5 < (v3.length : Int))) then
    (v3[(v5 : Int).toNat]?).bind fun x1 =>
    bif ((w64 (2 * v0)) == 0) then
     none
    else
    (spec_stAt.g N v0 (Int.tmod (w64 (x1 + (v1.length : Int))) (w64 (2 * v0)))).bind fun r2 =>
    (spec_l1Has.g N v2 r2).bind fun r3 =>
    bif (!r3) then
     (spec_l1Put.g N v2 r2).bind fun r4 =>
     c2 v0 v1 r4 v3 v4 (w64 (v5 + 1))
    else
    c2 v0 v1 v2 v3 v4 (w64 (v5 + 1))
   else
   none
  else
  none
 else
 some (v2, true)
theorem spec_NextHeard.o2.run (N : Nat) (Kn122 : St D0 → Option spec_NextHeard.R) (v0 : Int) (v1 : List Int) (v2 : List Int) (v3 : List Int) (v4 : Int) (v5 : Int) : runC spec_NextHeard.C (spec_NextHeard.O N) N spec_NextHeard.c244 244 (mkSt [(0, .one (.int .i64 v0)), (1, .one (.sl false 3 v1)), (6, .one (.sl false 3 v2)), (16, .one (.sl true 3 v3)), (17, .one (.int .i64 v4)), (18, .one (.int .i64 v5))] [] : St D0) (onN (fun s => spec_NextHeard.C.tidy 122 s ((onN Kn122 (blockK 0 (onN (fun s => spec_NextHeard.C.tidy 30 s (fun s' => runC spec_NextHeard.C (spec_NextHeard.O N) N spec_NextHeard.c31 31 s' spec_NextHeard.K0)) spec_NextHeard.K0))) .normal)) (onN Kn122 (blockK 0 (onN (fun s => spec_NextHeard.C.tidy 30 s (fun s' => runC spec_NextHeard.C (spec_NextHeard.O N) N spec_NextHeard.c31 31 s' spec_NextHeard.K0)) spec_NextHeard.K0)))) = spec_NextHeard.o2 N v0 v1 v2 v3 v4 v5 ((fun w0 w1 w2 w3 w4 w5 => Kn122 (mkSt [(0, .one (.int .i64 w0)), (1, .one (.sl false 3 w1)), (6, .one (.sl false 3 w2)), (16, .one (.sl true 3 w3)), (17, .one (.int .i64 w4)), (18, .one (.int .i64 w5))] [] : St D0))) := by kernel_rfl
noncomputable def spec_NextHeard.d2 (N : Nat) (v0 : Int) (v1 : List Int) (v2 : List Int) (v3 : List Int) (v4 : Int) (v5 : Int) (c2 : Int → (List Int) → (List Int) → (List Int) → Int → Int → Option spec_NextHeard.R) : Option spec_NextHeard.R := spec_NextHeard.o2 N v0 v1 v2 v3 v4 v5 c2
theorem spec_NextHeard.d2.run (N : Nat) (Kn122 : St D0 → Option spec_NextHeard.R) (v0 : Int) (v1 : List Int) (v2 : List Int) (v3 : List Int) (v4 : Int) (v5 : Int) : runC spec_NextHeard.C (spec_NextHeard.O N) N spec_NextHeard.c244 244 (mkSt [(0, .one (.int .i64 v0)), (1, .one (.sl false 3 v1)), (6, .one (.sl false 3 v2)), (16, .one (.sl true 3 v3)), (17, .one (.int .i64 v4)), (18, .one (.int .i64 v5))] [] : St D0) (spec_NextHeard.K244 N Kn122) = spec_NextHeard.d2 N v0 v1 v2 v3 v4 v5 ((fun w0 w1 w2 w3 w4 w5 => Kn122 (mkSt [(0, .one (.int .i64 w0)), (1, .one (.sl false 3 w1)), (6, .one (.sl false 3 w2)), (16, .one (.sl true 3 w3)), (17, .one (.int .i64 w4)), (18, .one (.int .i64 w5))] [] : St D0))) := by
  exact (spec_NextHeard.o2.run N Kn122 v0 v1 v2 v3 v4 v5).trans rfl
noncomputable def spec_NextHeard.K122 (N : Nat) : Ex → St D0 → Option spec_NextHeard.R := (blockK 0 (onN (fun s => spec_NextHeard.C.tidy 30 s (fun s' => runC spec_NextHeard.C (spec_NextHeard.O N) N spec_NextHeard.c31 31 s' spec_NextHeard.K0)) spec_NextHeard.K0))
mutual
noncomputable def spec_NextHeard.l1 (N : Nat) : Nat → Int → (List Int) → (List Int) → Int → Int → Option spec_NextHeard.R
  | 0, _, _, _, _, _ => none
  | n + 1, v0, v1, v2, v3, v4 => spec_NextHeard.d1 N v0 v1 v2 v3 v4 ((fun w0 w1 w2 w3 w4 => spec_NextHeard.l1 N n w0 w1 w2 w3 w4)) ((fun w0 w1 w2 w3 w4 w5 => spec_NextHeard.l2 N n w0 w1 w2 w3 w4 w5))
noncomputable def spec_NextHeard.l2 (N : Nat) : Nat → Int → (List Int) → (List Int) → (List Int) → Int → Int → Option spec_NextHeard.R
  | 0, _, _, _, _, _, _ => none
  | n + 1, v0, v1, v2, v3, v4, v5 => spec_NextHeard.d2 N v0 v1 v2 v3 v4 v5 ((fun w0 w1 w2 w3 w4 w5 => spec_NextHeard.l2 N n w0 w1 w2 w3 w4 w5))
end
theorem spec_NextHeard.loop122 (N : Nat) : ∀ n, (∀ (v0 : Int) (v1 : List Int) (v2 : List Int) (v3 : Int) (v4 : Int), iter (loopF spec_NextHeard.C (spec_NextHeard.O N) N spec_NextHeard.c244 122) n (mkSt [(0, .one (.int .i64 v0)), (1, .one (.sl false 3 v1)), (6, .one (.nl)), (16, .one (.sl true 3 v2)), (17, .one (.int .i64 v3)), (18, .one (.int .i64 v4))] [] : St D0) (spec_NextHeard.K122 N) = spec_NextHeard.l1 N n v0 v1 v2 v3 v4) ∧ (∀ (v0 : Int) (v1 : List Int) (v2 : List Int) (v3 : List Int) (v4 : Int) (v5 : Int), iter (loopF spec_NextHeard.C (spec_NextHeard.O N) N spec_NextHeard.c244 122) n (mkSt [(0, .one (.int .i64 v0)), (1, .one (.sl false 3 v1)), (6, .one (.sl false 3 v2)), (16, .one (.sl true 3 v3)), (17, .one (.int .i64 v4)), (18, .one (.int .i64 v5))] [] : St D0) (spec_NextHeard.K122 N) = spec_NextHeard.l2 N n v0 v1 v2 v3 v4 v5)
  | 0 => ⟨(fun v0 v1 v2 v3 v4 => rfl), (fun v0 v1 v2 v3 v4 v5 => rfl)⟩
  | n + 1 => ⟨(fun v0 v1 v2 v3 v4 => (spec_NextHeard.d1.run N (fun s => iter (loopF spec_NextHeard.C (spec_NextHeard.O N) N spec_NextHeard.c244 122) n s (spec_NextHeard.K122 N)) v0 v1 v2 v3 v4).trans (show _ = spec_NextHeard.d1 N v0 v1 v2 v3 v4 ((fun w0 w1 w2 w3 w4 => spec_NextHeard.l1 N n w0 w1 w2 w3 w4)) ((fun w0 w1 w2 w3 w4 w5 => spec_NextHeard.l2 N n w0 w1 w2 w3 w4 w5)) from (congr (congr rfl (funext fun w0 => funext fun w1 => funext fun w2 => funext fun w3 => funext fun w4 => (spec_NextHeard.loop122 N n).1 w0 w1 w2 w3 w4)) (funext fun w0 => funext fun w1 => funext fun w2 => funext fun w3 => funext fun w4 => funext fun w5 => (spec_NextHeard.loop122 N n).2 w0 w1 w2 w3 w4 w5)))), (fun v0 v1 v2 v3 v4 v5 => (spec_NextHeard.d2.run N (fun s => iter (loopF spec_NextHeard.C (spec_NextHeard.O N) N spec_NextHeard.c244 122) n s (spec_NextHeard.K122 N)) v0 v1 v2 v3 v4 v5).trans (show _ = spec_NextHeard.d2 N v0 v1 v2 v3 v4 v5 ((fun w0 w1 w2 w3 w4 w5 => spec_NextHeard.l2 N n w0 w1 w2 w3 w4 w5)) from (congr rfl (funext fun w0 => funext fun w1 => funext fun w2 => funext fun w3 => funext fun w4 => funext fun w5 => (spec_NextHeard.loop122 N n).2 w0 w1 w2 w3 w4 w5))))⟩
noncomputable def spec_NextHeard.o0 (N : Nat) (a0 : Int) (a1 : List Int) (c1 : Int → (List Int) → (List Int) → Int → Int → Option spec_NextHeard.R) : Option spec_NextHeard.R :=
 (spec_stHeard.g N a0 a1).bind fun r1 =>
 bif (!r1) then
  some (([] : List Int), false)
 else
 (spec_stHalves.g N a0 a1).bind fun r2 =>
 c1 a0 a1 r2 (r2.length : Int) 0
theorem spec_NextHeard.o0.run (N : Nat) (H244 : Code) (a0 : Int) (a1 : List Int) : runC spec_NextHeard.C (spec_NextHeard.O N) N (.seq spec_NextHeard.c2 (.seq spec_NextHeard.c6 (.seq spec_NextHeard.c14 (.seq (.seq spec_NextHeard.c60 (.block 0 (.loop H244))) spec_NextHeard.c31)))) 1 (st0 [.one (.int .i64 a0), .one (.sl false 3 a1)] [] : St D0) spec_NextHeard.K0 = spec_NextHeard.o0 N a0 a1 ((fun w0 w1 w2 w3 w4 => iter (loopF spec_NextHeard.C (spec_NextHeard.O N) N H244 122) N (mkSt [(0, .one (.int .i64 w0)), (1, .one (.sl false 3 w1)), (6, .one (.nl)), (16, .one (.sl true 3 w2)), (17, .one (.int .i64 w3)), (18, .one (.int .i64 w4))] [] : St D0) (blockK 0 (onN (fun s => spec_NextHeard.C.tidy 30 s (fun s' => runC spec_NextHeard.C (spec_NextHeard.O N) N spec_NextHeard.c31 31 s' spec_NextHeard.K0)) spec_NextHeard.K0)))) := by kernel_rfl
noncomputable def spec_NextHeard.g (N : Nat) (a0 : Int) (a1 : List Int) : Option spec_NextHeard.R := spec_NextHeard.o0 N a0 a1 ((fun w0 w1 w2 w3 w4 => spec_NextHeard.l1 N N w0 w1 w2 w3 w4))
theorem spec_NextHeard.c1_0 : spec_NextHeard.c1 = (.seq spec_NextHeard.c2 (.seq spec_NextHeard.c6 (.seq spec_NextHeard.c14 (.seq (.seq spec_NextHeard.c60 (.block 0 (.loop spec_NextHeard.c244))) spec_NextHeard.c31)))) := by kernel_rfl
theorem spec_NextHeard.g.run (N : Nat) (a0 : Int) (a1 : List Int) : runC spec_NextHeard.C (spec_NextHeard.O N) N spec_NextHeard.c1 1 (st0 [.one (.int .i64 a0), .one (.sl false 3 a1)] [] : St D0) spec_NextHeard.K0 = spec_NextHeard.g N a0 a1 := by
  rw [spec_NextHeard.c1_0]; unfold spec_NextHeard.g; exact (spec_NextHeard.o0.run N spec_NextHeard.c244 a0 a1).trans (congr rfl (funext fun w0 => funext fun w1 => funext fun w2 => funext fun w3 => funext fun w4 => (spec_NextHeard.loop122 N N).1 w0 w1 w2 w3 w4))
theorem spec_NextHeard.good (N : Nat) (a0 : Int) (a1 : List Int) (r : spec_NextHeard.R) (h : spec_NextHeard.g N a0 a1 = some r) : Go.PM.Good Go.Proofs.Try.prog T0 44 [.one (.int .i64 a0), .one (.sl false 3 a1)] [] (spec_NextHeard.sig.ret r) (spec_NextHeard.sig.bs r) :=
  good_fn tabOk0 mixed0 spec_NextHeard.sig (spec_NextHeard.E N) Go.Proofs.Try.func44 (by kernel_rfl) (by kernel_rfl) 17180861299 0 0 [(122, [0, 1, 6, 16, 17, 18], [])] 109685296128 false [] [(false, [.ro 3]), (false, [.any])] (by kernel_rfl) rfl rfl ((spec_NextHeard.g.run N a0 a1).trans h)
noncomputable def spec_NextHeard.ent (N : Nat) : Ent Go.Proofs.Try.prog T0 := mkEnt 44 [(false, [.any]), (false, [.ro 3])] spec_NextHeard.sig (fun t => spec_NextHeard.g N t.1 t.2) (fun t r h => spec_NextHeard.good N t.1 t.2 r h)
end Go.Proofs.Ytpemffldaepbpaa.M

namespace Go.Proofs.Ytpemffldaepbpaa.M
open Go Go.PM Go.Proofs.Ytpemffldaepbpaa.P
set_option linter.unusedVariables false
set_option maxRecDepth 100000
/-! ### laws_kHas -/
abbrev laws_kHas.R : Type := Bool
abbrev laws_kHas.sig : Sig := ⟨[(false, 1), (false, 1)], [], [.sl false 3, .int .i64], [(false, 1)], [], [.bool]⟩
noncomputable def laws_kHas.C : Cfg D0 := ⟨Go.Proofs.Try.prog, T0, 34771, 0, 17, 0, [(26, [1, 7, 8, 9], [])], 24576, false, []⟩
noncomputable def laws_kHas.E (N : Nat) : List (Ent Go.Proofs.Try.prog T0) := []
noncomputable def laws_kHas.O (N : Nat) : Orc D0 laws_kHas.R := orcOf (laws_kHas.E N)
noncomputable def laws_kHas.K0 : Ex → St D0 → Option laws_kHas.R := exitK laws_kHas.C Go.Proofs.Try.f45.results.toList [(false, [.any])] (decOut laws_kHas.sig)
noncomputable def laws_kHas.c1 : Code := codeAt (Go.Proofs.Try.f45.body.getD .skip) []
noncomputable def laws_kHas.c2 : Code := codeAt (Go.Proofs.Try.f45.body.getD .skip) [false]
noncomputable def laws_kHas.c7 : Code := codeAt (Go.Proofs.Try.f45.body.getD .skip) [true, true]
noncomputable def laws_kHas.c12 : Code := codeAt (Go.Proofs.Try.f45.body.getD .skip) [true, false, false]
noncomputable def laws_kHas.c52 : Code := codeAt (Go.Proofs.Try.f45.body.getD .skip) [true, false, true, false, false]
noncomputable def laws_kHas.K52 (N : Nat) (Kn26 : St D0 → Option laws_kHas.R) : Ex → St D0 → Option laws_kHas.R := (onN (fun s => laws_kHas.C.tidy 26 s ((onN Kn26 (blockK 0 (onN (fun s => laws_kHas.C.tidy 6 s (fun s' => runC laws_kHas.C (laws_kHas.O N) N laws_kHas.c7 7 s' laws_kHas.K0)) laws_kHas.K0))) .normal)) (onN Kn26 (blockK 0 (onN (fun s => laws_kHas.C.tidy 6 s (fun s' => runC laws_kHas.C (laws_kHas.O N) N laws_kHas.c7 7 s' laws_kHas.K0)) laws_kHas.K0))))
noncomputable def laws_kHas.o1 (N : Nat) (v0 : Int) (v1 : List Int) (v2 : Int) (v3 : Int) (c1 : Int → (List Int) → Int → Int → Option laws_kHas.R) : Option laws_kHas.R :=
 bif (decide (v3 < v2)) then
  bif (decide (0 ≤ v3)) then
   bif (decide (v3 < (v1.length : Int))) then
    (v1[(v3 : Int).toNat]?).bind fun x1 =>
    bif (x1 == v0) then
     some (true)
    else
    c1 v0 v1 v2 (w64 (v3 + 1))
   else
   none
  else
  none
 else
 some (false)
theorem laws_kHas.o1.run (N : Nat) (Kn26 : St D0 → Option laws_kHas.R) (v0 : Int) (v1 : List Int) (v2 : Int) (v3 : Int) : runC laws_kHas.C (laws_kHas.O N) N laws_kHas.c52 52 (mkSt [(1, .one (.int .i64 v0)), (7, .one (.sl false 3 v1)), (8, .one (.int .i64 v2)), (9, .one (.int .i64 v3))] [] : St D0) (onN (fun s => laws_kHas.C.tidy 26 s ((onN Kn26 (blockK 0 (onN (fun s => laws_kHas.C.tidy 6 s (fun s' => runC laws_kHas.C (laws_kHas.O N) N laws_kHas.c7 7 s' laws_kHas.K0)) laws_kHas.K0))) .normal)) (onN Kn26 (blockK 0 (onN (fun s => laws_kHas.C.tidy 6 s (fun s' => runC laws_kHas.C (laws_kHas.O N) N laws_kHas.c7 7 s' laws_kHas.K0)) laws_kHas.K0)))) = laws_kHas.o1 N v0 v1 v2 v3 ((fun w0 w1 w2 w3 => Kn26 (mkSt [(1, .one (.int .i64 w0)), (7, .one (.sl false 3 w1)), (8, .one (.int .i64 w2)), (9, .one (.int .i64 w3))] [] : St D0))) := by kernel_rfl
noncomputable def laws_kHas.d1 (N : Nat) (v0 : Int) (v1 : List Int) (v2 : Int) (v3 : Int) (c1 : Int → (List Int) → Int → Int → Option laws_kHas.R) : Option laws_kHas.R := laws_kHas.o1 N v0 v1 v2 v3 c1
theorem laws_kHas.d1.run (N : Nat) (Kn26 : St D0 → Option laws_kHas.R) (v0 : Int) (v1 : List Int) (v2 : Int) (v3 : Int) : runC laws_kHas.C (laws_kHas.O N) N laws_kHas.c52 52 (mkSt [(1, .one (.int .i64 v0)), (7, .one (.sl false 3 v1)), (8, .one (.int .i64 v2)), (9, .one (.int .i64 v3))] [] : St D0) (laws_kHas.K52 N Kn26) = laws_kHas.d1 N v0 v1 v2 v3 ((fun w0 w1 w2 w3 => Kn26 (mkSt [(1, .one (.int .i64 w0)), (7, .one (.sl false 3 w1)), (8, .one (.int .i64 w2)), (9, .one (.int .i64 w3))] [] : St D0))) := by
  exact (laws_kHas.o1.run N Kn26 v0 v1 v2 v3).trans rfl
noncomputable def laws_kHas.K26 (N : Nat) : Ex → St D0 → Option laws_kHas.R := (blockK 0 (onN (fun s => laws_kHas.C.tidy 6 s (fun s' => runC laws_kHas.C (laws_kHas.O N) N laws_kHas.c7 7 s' laws_kHas.K0)) laws_kHas.K0))
noncomputable def laws_kHas.l1 (N : Nat) : Nat → Int → (List Int) → Int → Int → Option laws_kHas.R
  | 0, _, _, _, _ => none
  | n + 1, v0, v1, v2, v3 => laws_kHas.d1 N v0 v1 v2 v3 ((fun w0 w1 w2 w3 => laws_kHas.l1 N n w0 w1 w2 w3))
theorem laws_kHas.loop26 (N : Nat) : ∀ n, (∀ (v0 : Int) (v1 : List Int) (v2 : Int) (v3 : Int), iter (loopF laws_kHas.C (laws_kHas.O N) N laws_kHas.c52 26) n (mkSt [(1, .one (.int .i64 v0)), (7, .one (.sl false 3 v1)), (8, .one (.int .i64 v2)), (9, .one (.int .i64 v3))] [] : St D0) (laws_kHas.K26 N) = laws_kHas.l1 N n v0 v1 v2 v3)
  | 0 => (fun v0 v1 v2 v3 => rfl)
  | n + 1 => (fun v0 v1 v2 v3 => (laws_kHas.d1.run N (fun s => iter (loopF laws_kHas.C (laws_kHas.O N) N laws_kHas.c52 26) n s (laws_kHas.K26 N)) v0 v1 v2 v3).trans (show _ = laws_kHas.d1 N v0 v1 v2 v3 ((fun w0 w1 w2 w3 => laws_kHas.l1 N n w0 w1 w2 w3)) from (congr rfl (funext fun w0 => funext fun w1 => funext fun w2 => funext fun w3 => (laws_kHas.loop26 N n) w0 w1 w2 w3))))
noncomputable def laws_kHas.o0 (N : Nat) (a0 : List Int) (a1 : Int) (c1 : Int → (List Int) → Int → Int → Option laws_kHas.R) : Option laws_kHas.R :=
 c1 a1 a0 (a0.length : Int) 0
theorem laws_kHas.o0.run (N : Nat) (H52 : Code) (a0 : List Int) (a1 : Int) : runC laws_kHas.C (laws_kHas.O N) N (.seq laws_kHas.c2 (.seq (.seq laws_kHas.c12 (.block 0 (.loop H52))) laws_kHas.c7)) 1 (st0 [.one (.sl false 3 a0), .one (.int .i64 a1)] [] : St D0) laws_kHas.K0 = laws_kHas.o0 N a0 a1 ((fun w0 w1 w2 w3 => iter (loopF laws_kHas.C (laws_kHas.O N) N H52 26) N (mkSt [(1, .one (.int .i64 w0)), (7, .one (.sl false 3 w1)), (8, .one (.int .i64 w2)), (9, .one (.int .i64 w3))] [] : St D0) (blockK 0 (onN (fun s => laws_kHas.C.tidy 6 s (fun s' => runC laws_kHas.C (laws_kHas.O N) N laws_kHas.c7 7 s' laws_kHas.K0)) laws_kHas.K0)))) := by kernel_rfl
noncomputable def laws_kHas.g (N : Nat) (a0 : List Int) (a1 : Int) : Option laws_kHas.R := laws_kHas.o0 N a0 a1 ((fun w0 w1 w2 w3 => laws_kHas.l1 N N w0 w1 w2 w3))
theorem laws_kHas.c1_0 : laws_kHas.c1 = (.seq laws_kHas.c2 (.seq (.seq laws_kHas.c12 (.block 0 (.loop laws_kHas.c52))) laws_kHas.c7)) := by kernel_rfl
theorem laws_kHas.g.run (N : Nat) (a0 : List Int) (a1 : Int) : runC laws_kHas.C (laws_kHas.O N) N laws_kHas.c1 1 (st0 [.one (.sl false 3 a0), .one (.int .i64 a1)] [] : St D0) laws_kHas.K0 = laws_kHas.g N a0 a1 := by
  rw [laws_kHas.c1_0]; unfold laws_kHas.g; exact (laws_kHas.o0.run N laws_kHas.c52 a0 a1).trans (congr rfl (funext fun w0 => funext fun w1 => funext fun w2 => funext fun w3 => (laws_kHas.loop26 N N) w0 w1 w2 w3))
theorem laws_kHas.good (N : Nat) (a0 : List Int) (a1 : Int) (r : laws_kHas.R) (h : laws_kHas.g N a0 a1 = some r) : Go.PM.Good Go.Proofs.Try.prog T0 45 [.one (.sl false 3 a0), .one (.int .i64 a1)] [] (laws_kHas.sig.ret r) (laws_kHas.sig.bs r) :=
  good_fn tabOk0 mixed0 laws_kHas.sig (laws_kHas.E N) Go.Proofs.Try.func45 (by kernel_rfl) (by kernel_rfl) 34771 0 0 [(26, [1, 7, 8, 9], [])] 24576 false [] [(false, [.any])] (by kernel_rfl) rfl rfl ((laws_kHas.g.run N a0 a1).trans h)
noncomputable def laws_kHas.ent (N : Nat) : Ent Go.Proofs.Try.prog T0 := mkEnt 45 [(false, [.ro 3]), (false, [.any])] laws_kHas.sig (fun t => laws_kHas.g N t.1 t.2) (fun t r h => laws_kHas.good N t.1 t.2 r h)
end Go.Proofs.Ytpemffldaepbpaa.M

namespace Go.Proofs.Ytpemffldaepbpaa.M
open Go Go.PM Go.Proofs.Ytpemffldaepbpaa.P
set_option linter.unusedVariables false
set_option maxRecDepth 100000
/-! ### impl_knownAfter -/
abbrev impl_knownAfter.R : Type := Int
abbrev impl_knownAfter.sig : Sig := ⟨[(false, 1), (false, 1)], [], [.int .i64, .int .i64], [(false, 1)], [], [.int .i64]⟩
noncomputable def impl_knownAfter.C : Cfg D0 := ⟨Go.Proofs.Try.prog, T0, 8243, 0, 17, 0, [(28, [0, 1, 5], [])], 17344, false, []⟩
noncomputable def impl_knownAfter.E (N : Nat) : List (Ent Go.Proofs.Try.prog T0) := [impl_heardFrom.ent N, impl_halvesOf.ent N]
noncomputable def impl_knownAfter.O (N : Nat) : Orc D0 impl_knownAfter.R := orcOf (impl_knownAfter.E N)
noncomputable def impl_knownAfter.K0 : Ex → St D0 → Option impl_knownAfter.R := exitK impl_knownAfter.C Go.Proofs.Try.f84.results.toList [(false, [.any])] (decOut impl_knownAfter.sig)
noncomputable def impl_knownAfter.c1 : Code := codeAt (Go.Proofs.Try.f84.body.getD .skip) []
noncomputable def impl_knownAfter.c2 : Code := codeAt (Go.Proofs.Try.f84.body.getD .skip) [false]
noncomputable def impl_knownAfter.c6 : Code := codeAt (Go.Proofs.Try.f84.body.getD .skip) [true, false]
noncomputable def impl_knownAfter.c15 : Code := codeAt (Go.Proofs.Try.f84.body.getD .skip) [true, true, true]
noncomputable def impl_knownAfter.c56 : Code := codeAt (Go.Proofs.Try.f84.body.getD .skip) [true, true, false, false, false]
noncomputable def impl_knownAfter.K56 (N : Nat) (Kn28 : St D0 → Option impl_knownAfter.R) : Ex → St D0 → Option impl_knownAfter.R := (onN (fun s => impl_knownAfter.C.tidy 28 s ((onN Kn28 (blockK 0 (onN (fun s => impl_knownAfter.C.tidy 14 s (fun s' => runC impl_knownAfter.C (impl_knownAfter.O N) N impl_knownAfter.c15 15 s' impl_knownAfter.K0)) impl_knownAfter.K0))) .normal)) (onN Kn28 (blockK 0 (onN (fun s => impl_knownAfter.C.tidy 14 s (fun s' => runC impl_knownAfter.C (impl_knownAfter.O N) N impl_knownAfter.c15 15 s' impl_knownAfter.K0)) impl_knownAfter.K0))))
noncomputable def impl_knownAfter.o1 (N : Nat) (v0 : Int) (v1 : Int) (v2 : Int) (c1 : Int → Int → Int → Option impl_knownAfter.R) : Option impl_knownAfter.R :=
 (impl_heardFrom.g N v0 v1 v2).bind fun r1 =>
 (impl_halvesOf.g N v0 r1).bind fun r2 =>
 bif (decide ((r2.length : Int) > 1)) then
  c1 v0 v1 (w64 (v2 + 1))
 else
 some (v2)
theorem impl_knownAfter.o1.run (N : Nat) (Kn28 : St D0 → Option impl_knownAfter.R) (v0 : Int) (v1 : Int) (v2 : Int) : runC impl_knownAfter.C (impl_knownAfter.O N) N impl_knownAfter.c56 56 (mkSt [(0, .one (.int .i64 v0)), (1, .one (.int .i64 v1)), (5, .one (.int .i64 v2))] [] : St D0) (onN (fun s => impl_knownAfter.C.tidy 28 s ((onN Kn28 (blockK 0 (onN (fun s => impl_knownAfter.C.tidy 14 s (fun s' => runC impl_knownAfter.C (impl_knownAfter.O N) N impl_knownAfter.c15 15 s' impl_knownAfter.K0)) impl_knownAfter.K0))) .normal)) (onN Kn28 (blockK 0 (onN (fun s => impl_knownAfter.C.tidy 14 s (fun s' => runC impl_knownAfter.C (impl_knownAfter.O N) N impl_knownAfter.c15 15 s' impl_knownAfter.K0)) impl_knownAfter.K0)))) = impl_knownAfter.o1 N v0 v1 v2 ((fun w0 w1 w2 => Kn28 (mkSt [(0, .one (.int .i64 w0)), (1, .one (.int .i64 w1)), (5, .one (.int .i64 w2))] [] : St D0))) := by kernel_rfl
noncomputable def impl_knownAfter.d1 (N : Nat) (v0 : Int) (v1 : Int) (v2 : Int) (c1 : Int → Int → Int → Option impl_knownAfter.R) : Option impl_knownAfter.R := impl_knownAfter.o1 N v0 v1 v2 c1
theorem impl_knownAfter.d1.run (N : Nat) (Kn28 : St D0 → Option impl_knownAfter.R) (v0 : Int) (v1 : Int) (v2 : Int) : runC impl_knownAfter.C (impl_knownAfter.O N) N impl_knownAfter.c56 56 (mkSt [(0, .one (.int .i64 v0)), (1, .one (.int .i64 v1)), (5, .one (.int .i64 v2))] [] : St D0) (impl_knownAfter.K56 N Kn28) = impl_knownAfter.d1 N v0 v1 v2 ((fun w0 w1 w2 => Kn28 (mkSt [(0, .one (.int .i64 w0)), (1, .one (.int .i64 w1)), (5, .one (.int .i64 w2))] [] : St D0))) := by
  exact (impl_knownAfter.o1.run N Kn28 v0 v1 v2).trans rfl
noncomputable def impl_knownAfter.K28 (N : Nat) : Ex → St D0 → Option impl_knownAfter.R := (blockK 0 (onN (fun s => impl_knownAfter.C.tidy 14 s (fun s' => runC impl_knownAfter.C (impl_knownAfter.O N) N impl_knownAfter.c15 15 s' impl_knownAfter.K0)) impl_knownAfter.K0))
noncomputable def impl_knownAfter.l1 (N : Nat) : Nat → Int → Int → Int → Option impl_knownAfter.R
  | 0, _, _, _ => none
  | n + 1, v0, v1, v2 => impl_knownAfter.d1 N v0 v1 v2 ((fun w0 w1 w2 => impl_knownAfter.l1 N n w0 w1 w2))
theorem impl_knownAfter.loop28 (N : Nat) : ∀ n, (∀ (v0 : Int) (v1 : Int) (v2 : Int), iter (loopF impl_knownAfter.C (impl_knownAfter.O N) N impl_knownAfter.c56 28) n (mkSt [(0, .one (.int .i64 v0)), (1, .one (.int .i64 v1)), (5, .one (.int .i64 v2))] [] : St D0) (impl_knownAfter.K28 N) = impl_knownAfter.l1 N n v0 v1 v2)
  | 0 => (fun v0 v1 v2 => rfl)
  | n + 1 => (fun v0 v1 v2 => (impl_knownAfter.d1.run N (fun s => iter (loopF impl_knownAfter.C (impl_knownAfter.O N) N impl_knownAfter.c56 28) n s (impl_knownAfter.K28 N)) v0 v1 v2).trans (show _ = impl_knownAfter.d1 N v0 v1 v2 ((fun w0 w1 w2 => impl_knownAfter.l1 N n w0 w1 w2)) from (congr rfl (funext fun w0 => funext fun w1 => funext fun w2 => (impl_knownAfter.loop28 N n) w0 w1 w2))))
noncomputable def impl_knownAfter.o0 (N : Nat) (a0 : Int) (a1 : Int) (c1 : Int → Int → Int → Option impl_knownAfter.R) : Option impl_knownAfter.R :=
 c1 a0 a1 1
theorem impl_knownAfter.o0.run (N : Nat) (H56 : Code) (a0 : Int) (a1 : Int) : runC impl_knownAfter.C (impl_knownAfter.O N) N (.seq impl_knownAfter.c2 (.seq impl_knownAfter.c6 (.seq (.block 0 (.loop H56)) impl_knownAfter.c15))) 1 (st0 [.one (.int .i64 a0), .one (.int .i64 a1)] [] : St D0) impl_knownAfter.K0 = impl_knownAfter.o0 N a0 a1 ((fun w0 w1 w2 => iter (loopF impl_knownAfter.C (impl_knownAfter.O N) N H56 28) N (mkSt [(0, .one (.int .i64 w0)), (1, .one (.int .i64 w1)), (5, .one (.int .i64 w2))] [] : St D0) (blockK 0 (onN (fun s => impl_knownAfter.C.tidy 14 s (fun s' => runC impl_knownAfter.C (impl_knownAfter.O N) N impl_knownAfter.c15 15 s' impl_knownAfter.K0)) impl_knownAfter.K0)))) := by kernel_rfl
noncomputable def impl_knownAfter.g (N : Nat) (a0 : Int) (a1 : Int) : Option impl_knownAfter.R := impl_knownAfter.o0 N a0 a1 ((fun w0 w1 w2 => impl_knownAfter.l1 N N w0 w1 w2))
theorem impl_knownAfter.c1_0 : impl_knownAfter.c1 = (.seq impl_knownAfter.c2 (.seq impl_knownAfter.c6 (.seq (.block 0 (.loop impl_knownAfter.c56)) impl_knownAfter.c15))) := by kernel_rfl
theorem impl_knownAfter.g.run (N : Nat) (a0 : Int) (a1 : Int) : runC impl_knownAfter.C (impl_knownAfter.O N) N impl_knownAfter.c1 1 (st0 [.one (.int .i64 a0), .one (.int .i64 a1)] [] : St D0) impl_knownAfter.K0 = impl_knownAfter.g N a0 a1 := by
  rw [impl_knownAfter.c1_0]; unfold impl_knownAfter.g; exact (impl_knownAfter.o0.run N impl_knownAfter.c56 a0 a1).trans (congr rfl (funext fun w0 => funext fun w1 => funext fun w2 => (impl_knownAfter.loop28 N N) w0 w1 w2))
theorem impl_knownAfter.good (N : Nat) (a0 : Int) (a1 : Int) (r : impl_knownAfter.R) (h : impl_knownAfter.g N a0 a1 = some r) : Go.PM.Good Go.Proofs.Try.prog T0 84 [.one (.int .i64 a0), .one (.int .i64 a1)] [] (impl_knownAfter.sig.ret r) (impl_knownAfter.sig.bs r) :=
  good_fn tabOk0 mixed0 impl_knownAfter.sig (impl_knownAfter.E N) Go.Proofs.Try.func84 (by kernel_rfl) (by kernel_rfl) 8243 0 0 [(28, [0, 1, 5], [])] 17344 false [] [(false, [.any])] (by kernel_rfl) rfl rfl ((impl_knownAfter.g.run N a0 a1).trans h)
noncomputable def impl_knownAfter.ent (N : Nat) : Ent Go.Proofs.Try.prog T0 := mkEnt 84 [(false, [.any]), (false, [.any])] impl_knownAfter.sig (fun t => impl_knownAfter.g N t.1 t.2) (fun t r h => impl_knownAfter.good N t.1 t.2 r h)
end Go.Proofs.Ytpemffldaepbpaa.M

namespace Go.Proofs.Ytpemffldaepbpaa.M
open Go Go.PM Go.Proofs.Ytpemffldaepbpaa.P
set_option linter.unusedVariables false
set_option maxRecDepth 100000
/-! ### impl_KnownAfter -/
abbrev impl_KnownAfter.R : Type := Int × Bool
abbrev impl_KnownAfter.sig : Sig := ⟨[(false, 1), (false, 1)], [], [.int .i64, .int .i64], [(false, 1), (false, 1)], [], [.int .i64, .bool]⟩
noncomputable def impl_KnownAfter.C : Cfg D0 := ⟨Go.Proofs.Try.prog, T0, 563, 0, 13, 0, [], 3264, false, []⟩
noncomputable def impl_KnownAfter.E (N : Nat) : List (Ent Go.Proofs.Try.prog T0) := [impl_isHalf.ent N, impl_knownAfter.ent N]
noncomputable def impl_KnownAfter.O (N : Nat) : Orc D0 impl_KnownAfter.R := orcOf (impl_KnownAfter.E N)
noncomputable def impl_KnownAfter.K0 : Ex → St D0 → Option impl_KnownAfter.R := exitK impl_KnownAfter.C Go.Proofs.Try.f47.results.toList [(false, [.any]), (false, [.any])] (decOut impl_KnownAfter.sig)
noncomputable def impl_KnownAfter.c1 : Code := codeAt (Go.Proofs.Try.f47.body.getD .skip) []
noncomputable def impl_KnownAfter.o0 (N : Nat) (a0 : Int) (a1 : Int) : Option impl_KnownAfter.R :=
 (impl_isHalf.g N a0 a1).bind fun r1 =>
 bif (!r1) then
  some (0, false)
 else
 (impl_knownAfter.g N a0 a1).bind fun r2 =>
 some (r2, true)
theorem impl_KnownAfter.o0.run (N : Nat) (a0 : Int) (a1 : Int) : runC impl_KnownAfter.C (impl_KnownAfter.O N) N impl_KnownAfter.c1 1 (st0 [.one (.int .i64 a0), .one (.int .i64 a1)] [] : St D0) impl_KnownAfter.K0 = impl_KnownAfter.o0 N a0 a1 := by kernel_rfl
noncomputable def impl_KnownAfter.g (N : Nat) (a0 : Int) (a1 : Int) : Option impl_KnownAfter.R := impl_KnownAfter.o0 N a0 a1
theorem impl_KnownAfter.g.run (N : Nat) (a0 : Int) (a1 : Int) : runC impl_KnownAfter.C (impl_KnownAfter.O N) N impl_KnownAfter.c1 1 (st0 [.one (.int .i64 a0), .one (.int .i64 a1)] [] : St D0) impl_KnownAfter.K0 = impl_KnownAfter.g N a0 a1 := by
  exact (impl_KnownAfter.o0.run N a0 a1).trans rfl
theorem impl_KnownAfter.good (N : Nat) (a0 : Int) (a1 : Int) (r : impl_KnownAfter.R) (h : impl_KnownAfter.g N a0 a1 = some r) : Go.PM.Good Go.Proofs.Try.prog T0 47 [.one (.int .i64 a0), .one (.int .i64 a1)] [] (impl_KnownAfter.sig.ret r) (impl_KnownAfter.sig.bs r) :=
  good_fn tabOk0 mixed0 impl_KnownAfter.sig (impl_KnownAfter.E N) Go.Proofs.Try.func47 (by kernel_rfl) (by kernel_rfl) 563 0 0 [] 3264 false [] [(false, [.any]), (false, [.any])] (by kernel_rfl) rfl rfl ((impl_KnownAfter.g.run N a0 a1).trans h)
noncomputable def impl_KnownAfter.ent (N : Nat) : Ent Go.Proofs.Try.prog T0 := mkEnt 47 [(false, [.any]), (false, [.any])] impl_KnownAfter.sig (fun t => impl_KnownAfter.g N t.1 t.2) (fun t r h => impl_KnownAfter.good N t.1 t.2 r h)
end Go.Proofs.Ytpemffldaepbpaa.M

namespace Go.Proofs.Ytpemffldaepbpaa.M
open Go Go.PM Go.Proofs.Ytpemffldaepbpaa.P
set_option linter.unusedVariables false
set_option maxRecDepth 100000
/-! ### spec_stKnown -/
abbrev spec_stKnown.R : Type := Int
abbrev spec_stKnown.sig : Sig := ⟨[(false, 1), (false, 1)], [], [.int .i64, .int .i64], [(false, 1)], [], [.int .i64]⟩
noncomputable def spec_stKnown.C : Cfg D0 := ⟨Go.Proofs.Try.prog, T0, 131251, 0, 19, 0, [(26, [0, 1, 5], [])], 15680, false, []⟩
noncomputable def spec_stKnown.E (N : Nat) : List (Ent Go.Proofs.Try.prog T0) := [spec_stFrom.ent N, spec_stHalves.ent N]
noncomputable def spec_stKnown.O (N : Nat) : Orc D0 spec_stKnown.R := orcOf (spec_stKnown.E N)
noncomputable def spec_stKnown.K0 : Ex → St D0 → Option spec_stKnown.R := exitK spec_stKnown.C Go.Proofs.Try.f85.results.toList [(false, [.any])] (decOut spec_stKnown.sig)
noncomputable def spec_stKnown.c1 : Code := codeAt (Go.Proofs.Try.f85.body.getD .skip) []
noncomputable def spec_stKnown.c2 : Code := codeAt (Go.Proofs.Try.f85.body.getD .skip) [false]
noncomputable def spec_stKnown.c7 : Code := codeAt (Go.Proofs.Try.f85.body.getD .skip) [true, true]
noncomputable def spec_stKnown.c12 : Code := codeAt (Go.Proofs.Try.f85.body.getD .skip) [true, false, false]
noncomputable def spec_stKnown.c52 : Code := codeAt (Go.Proofs.Try.f85.body.getD .skip) [true, false, true, false, false]
noncomputable def spec_stKnown.K52 (N : Nat) (Kn26 : St D0 → Option spec_stKnown.R) : Ex → St D0 → Option spec_stKnown.R := (onN (fun s => spec_stKnown.C.tidy 26 s ((onN Kn26 (blockK 0 (onN (fun s => spec_stKnown.C.tidy 6 s (fun s' => runC spec_stKnown.C (spec_stKnown.O N) N spec_stKnown.c7 7 s' spec_stKnown.K0)) spec_stKnown.K0))) .normal)) (onN Kn26 (blockK 0 (onN (fun s => spec_stKnown.C.tidy 6 s (fun s' => runC spec_stKnown.C (spec_stKnown.O N) N spec_stKnown.c7 7 s' spec_stKnown.K0)) spec_stKnown.K0))))
noncomputable def spec_stKnown.o1 (N : Nat) (v0 : Int) (v1 : Int) (v2 : Int) (c1 : Int → Int → Int → Option spec_stKnown.R) : Option spec_stKnown.R :=
 bif (decide (v2 ≤ 60)) then
  (spec_stFrom.g N v0 v1 v2).bind fun r1 =>
  (spec_stHalves.g N v0 r1).bind fun r2 =>
  bif ((r2.length : Int) == 1) then
   some (v2)
  else
  c1 v0 v1 (w64 (v2 + 1))
 else
 some (0)
theorem spec_stKnown.o1.run (N : Nat) (Kn26 : St D0 → Option spec_stKnown.R) (v0 : Int) (v1 : Int) (v2 : Int) : runC spec_stKnown.C (spec_stKnown.O N) N spec_stKnown.c52 52 (mkSt [(0, .one (.int .i64 v0)), (1, .one (.int .i64 v1)), (5, .one (.int .i64 v2))] [] : St D0) (onN (fun s => spec_stKnown.C.tidy 26 s ((onN Kn26 (blockK 0 (onN (fun s => spec_stKnown.C.tidy 6 s (fun s' => runC spec_stKnown.C (spec_stKnown.O N) N spec_stKnown.c7 7 s' spec_stKnown.K0)) spec_stKnown.K0))) .normal)) (onN Kn26 (blockK 0 (onN (fun s => spec_stKnown.C.tidy 6 s (fun s' => runC spec_stKnown.C (spec_stKnown.O N) N spec_stKnown.c7 7 s' spec_stKnown.K0)) spec_stKnown.K0)))) = spec_stKnown.o1 N v0 v1 v2 ((fun w0 w1 w2 => Kn26 (mkSt [(0, .one (.int .i64 w0)), (1, .one (.int .i64 w1)), (5, .one (.int .i64 w2))] [] : St D0))) := by kernel_rfl
noncomputable def spec_stKnown.d1 (N : Nat) (v0 : Int) (v1 : Int) (v2 : Int) (c1 : Int → Int → Int → Option spec_stKnown.R) : Option spec_stKnown.R := spec_stKnown.o1 N v0 v1 v2 c1
theorem spec_stKnown.d1.run (N : Nat) (Kn26 : St D0 → Option spec_stKnown.R) (v0 : Int) (v1 : Int) (v2 : Int) : runC spec_stKnown.C (spec_stKnown.O N) N spec_stKnown.c52 52 (mkSt [(0, .one (.int .i64 v0)), (1, .one (.int .i64 v1)), (5, .one (.int .i64 v2))] [] : St D0) (spec_stKnown.K52 N Kn26) = spec_stKnown.d1 N v0 v1 v2 ((fun w0 w1 w2 => Kn26 (mkSt [(0, .one (.int .i64 w0)), (1, .one (.int .i64 w1)), (5, .one (.int .i64 w2))] [] : St D0))) := by
  exact (spec_stKnown.o1.run N Kn26 v0 v1 v2).trans rfl
noncomputable def spec_stKnown.K26 (N : Nat) : Ex → St D0 → Option spec_stKnown.R := (blockK 0 (onN (fun s => spec_stKnown.C.tidy 6 s (fun s' => runC spec_stKnown.C (spec_stKnown.O N) N spec_stKnown.c7 7 s' spec_stKnown.K0)) spec_stKnown.K0))
noncomputable def spec_stKnown.l1 (N : Nat) : Nat → Int → Int → Int → Option spec_stKnown.R
  | 0, _, _, _ => none
  | n + 1, v0, v1, v2 => spec_stKnown.d1 N v0 v1 v2 ((fun w0 w1 w2 => spec_stKnown.l1 N n w0 w1 w2))
theorem spec_stKnown.loop26 (N : Nat) : ∀ n, (∀ (v0 : Int) (v1 : Int) (v2 : Int), iter (loopF spec_stKnown.C (spec_stKnown.O N) N spec_stKnown.c52 26) n (mkSt [(0, .one (.int .i64 v0)), (1, .one (.int .i64 v1)), (5, .one (.int .i64 v2))] [] : St D0) (spec_stKnown.K26 N) = spec_stKnown.l1 N n v0 v1 v2)
  | 0 => (fun v0 v1 v2 => rfl)
  | n + 1 => (fun v0 v1 v2 => (spec_stKnown.d1.run N (fun s => iter (loopF spec_stKnown.C (spec_stKnown.O N) N spec_stKnown.c52 26) n s (spec_stKnown.K26 N)) v0 v1 v2).trans (show _ = spec_stKnown.d1 N v0 v1 v2 ((fun w0 w1 w2 => spec_stKnown.l1 N n w0 w1 w2)) from (congr rfl (funext fun w0 => funext fun w1 => funext fun w2 => (spec_stKnown.loop26 N n) w0 w1 w2))))
noncomputable def spec_stKnown.o0 (N : Nat) (a0 : Int) (a1 : Int) (c1 : Int → Int → Int → Option spec_stKnown.R) : Option spec_stKnown.R :=
 c1 a0 a1 1
theorem spec_stKnown.o0.run (N : Nat) (H52 : Code) (a0 : Int) (a1 : Int) : runC spec_stKnown.C (spec_stKnown.O N) N (.seq spec_stKnown.c2 (.seq (.seq spec_stKnown.c12 (.block 0 (.loop H52))) spec_stKnown.c7)) 1 (st0 [.one (.int .i64 a0), .one (.int .i64 a1)] [] : St D0) spec_stKnown.K0 = spec_stKnown.o0 N a0 a1 ((fun w0 w1 w2 => iter (loopF spec_stKnown.C (spec_stKnown.O N) N H52 26) N (mkSt [(0, .one (.int .i64 w0)), (1, .one (.int .i64 w1)), (5, .one (.int .i64 w2))] [] : St D0) (blockK 0 (onN (fun s => spec_stKnown.C.tidy 6 s (fun s' => runC spec_stKnown.C (spec_stKnown.O N) N spec_stKnown.c7 7 s' spec_stKnown.K0)) spec_stKnown.K0)))) := by kernel_rfl
noncomputable def spec_stKnown.g (N : Nat) (a0 : Int) (a1 : Int) : Option spec_stKnown.R := spec_stKnown.o0 N a0 a1 ((fun w0 w1 w2 => spec_stKnown.l1 N N w0 w1 w2))
theorem spec_stKnown.c1_0 : spec_stKnown.c1 = (.seq spec_stKnown.c2 (.seq (.seq spec_stKnown.c12 (.block 0 (.loop spec_stKnown.c52))) spec_stKnown.c7)) := by kernel_rfl
theorem spec_stKnown.g.run (N : Nat) (a0 : Int) (a1 : Int) : runC spec_stKnown.C (spec_stKnown.O N) N spec_stKnown.c1 1 (st0 [.one (.int .i64 a0), .one (.int .i64 a1)] [] : St D0) spec_stKnown.K0 = spec_stKnown.g N a0 a1 := by
  rw [spec_stKnown.c1_0]; unfold spec_stKnown.g; exact (spec_stKnown.o0.run N spec_stKnown.c52 a0 a1).trans (congr rfl (funext fun w0 => funext fun w1 => funext fun w2 => (spec_stKnown.loop26 N N) w0 w1 w2))
theorem spec_stKnown.good (N : Nat) (a0 : Int) (a1 : Int) (r : spec_stKnown.R) (h : spec_stKnown.g N a0 a1 = some r) : Go.PM.Good Go.Proofs.Try.prog T0 85 [.one (.int .i64 a0), .one (.int .i64 a1)] [] (spec_stKnown.sig.ret r) (spec_stKnown.sig.bs r) :=
  good_fn tabOk0 mixed0 spec_stKnown.sig (spec_stKnown.E N) Go.Proofs.Try.func85 (by kernel_rfl) (by kernel_rfl) 131251 0 0 [(26, [0, 1, 5], [])] 15680 false [] [(false, [.any])] (by kernel_rfl) rfl rfl ((spec_stKnown.g.run N a0 a1).trans h)
noncomputable def spec_stKnown.ent (N : Nat) : Ent Go.Proofs.Try.prog T0 := mkEnt 85 [(false, [.any]), (false, [.any])] spec_stKnown.sig (fun t => spec_stKnown.g N t.1 t.2) (fun t r h => spec_stKnown.good N t.1 t.2 r h)
end Go.Proofs.Ytpemffldaepbpaa.M

namespace Go.Proofs.Ytpemffldaepbpaa.M
open Go Go.PM Go.Proofs.Ytpemffldaepbpaa.P
set_option linter.unusedVariables false
set_option maxRecDepth 100000
/-! ### spec_KnownAfter -/
abbrev spec_KnownAfter.R : Type := Int × Bool
abbrev spec_KnownAfter.sig : Sig := ⟨[(false, 1), (false, 1)], [], [.int .i64, .int .i64], [(false, 1), (false, 1)], [], [.int .i64, .bool]⟩
noncomputable def spec_KnownAfter.C : Cfg D0 := ⟨Go.Proofs.Try.prog, T0, 32819, 0, 19, 0, [(12, [0, 1, 15], [])], 202944, false, []⟩
noncomputable def spec_KnownAfter.E (N : Nat) : List (Ent Go.Proofs.Try.prog T0) := [spec_stHalf.ent N, spec_stKnown.ent N]
noncomputable def spec_KnownAfter.O (N : Nat) : Orc D0 spec_KnownAfter.R := orcOf (spec_KnownAfter.E N)
noncomputable def spec_KnownAfter.K0 : Ex → St D0 → Option spec_KnownAfter.R := exitK spec_KnownAfter.C Go.Proofs.Try.f48.results.toList [(false, [.any]), (false, [.any])] (decOut spec_KnownAfter.sig)
noncomputable def spec_KnownAfter.c1 : Code := codeAt (Go.Proofs.Try.f48.body.getD .skip) []
noncomputable def spec_KnownAfter.c2 : Code := codeAt (Go.Proofs.Try.f48.body.getD .skip) [false]
noncomputable def spec_KnownAfter.c7 : Code := codeAt (Go.Proofs.Try.f48.body.getD .skip) [true, true]
noncomputable def spec_KnownAfter.c12 : Code := codeAt (Go.Proofs.Try.f48.body.getD .skip) [true, false, false]
noncomputable def spec_KnownAfter.c13 : Code := codeAt (Go.Proofs.Try.f48.body.getD .skip) [true, false, true]
noncomputable def spec_KnownAfter.K13 (N : Nat) : Ex → St D0 → Option spec_KnownAfter.R := (onN (fun s => spec_KnownAfter.C.tidy 6 s (fun s' => runC spec_KnownAfter.C (spec_KnownAfter.O N) N spec_KnownAfter.c7 7 s' spec_KnownAfter.K0)) spec_KnownAfter.K0)
noncomputable def spec_KnownAfter.o1 (N : Nat) (v0 : Int) (v1 : Int) (v2 : Bool) : Option spec_KnownAfter.R :=
 bif v2 then
  some (0, false)
 else
 (spec_stKnown.g N v0 v1).bind fun r1 =>
 some (r1, true)
theorem spec_KnownAfter.o1.run (N : Nat) (v0 : Int) (v1 : Int) (v2 : Bool) : runC spec_KnownAfter.C (spec_KnownAfter.O N) N spec_KnownAfter.c13 13 (mkSt [(0, .one (.int .i64 v0)), (1, .one (.int .i64 v1)), (15, .one (.bool v2))] [] : St D0) (onN (fun s => spec_KnownAfter.C.tidy 6 s (fun s' => runC spec_KnownAfter.C (spec_KnownAfter.O N) N spec_KnownAfter.c7 7 s' spec_KnownAfter.K0)) spec_KnownAfter.K0) = spec_KnownAfter.o1 N v0 v1 v2 := by kernel_rfl
noncomputable def spec_KnownAfter.d1 (N : Nat) (v0 : Int) (v1 : Int) (v2 : Bool) : Option spec_KnownAfter.R := spec_KnownAfter.o1 N v0 v1 v2
theorem spec_KnownAfter.d1.run (N : Nat) (v0 : Int) (v1 : Int) (v2 : Bool) : runC spec_KnownAfter.C (spec_KnownAfter.O N) N spec_KnownAfter.c13 13 (mkSt [(0, .one (.int .i64 v0)), (1, .one (.int .i64 v1)), (15, .one (.bool v2))] [] : St D0) (spec_KnownAfter.K13 N) = spec_KnownAfter.d1 N v0 v1 v2 := by
  exact (spec_KnownAfter.o1.run N v0 v1 v2).trans rfl
noncomputable def spec_KnownAfter.o0 (N : Nat) (a0 : Int) (a1 : Int) (c1 : Int → Int → Bool → Option spec_KnownAfter.R) : Option spec_KnownAfter.R :=
 (spec_stHalf.g N a0 a1).bind fun r1 =>
 bif (!r1) then
  c1 a0 a1 true
 else
 (spec_stKnown.g N a0 a1).bind fun r2 =>
 c1 a0 a1 (r2 == 0)
theorem spec_KnownAfter.o0.run (N : Nat) (H13 : Code) (a0 : Int) (a1 : Int) : runC spec_KnownAfter.C (spec_KnownAfter.O N) N (.seq spec_KnownAfter.c2 (.seq (.seq spec_KnownAfter.c12 H13) spec_KnownAfter.c7)) 1 (st0 [.one (.int .i64 a0), .one (.int .i64 a1)] [] : St D0) spec_KnownAfter.K0 = spec_KnownAfter.o0 N a0 a1 ((fun w0 w1 w2 => runC spec_KnownAfter.C (spec_KnownAfter.O N) N H13 13 (mkSt [(0, .one (.int .i64 w0)), (1, .one (.int .i64 w1)), (15, .one (.bool w2))] [] : St D0) (onN (fun s => spec_KnownAfter.C.tidy 6 s (fun s' => runC spec_KnownAfter.C (spec_KnownAfter.O N) N spec_KnownAfter.c7 7 s' spec_KnownAfter.K0)) spec_KnownAfter.K0))) := by kernel_rfl
noncomputable def spec_KnownAfter.B6 (N : Nat) : St D0 → Option spec_KnownAfter.R := fun s' => runC spec_KnownAfter.C (spec_KnownAfter.O N) N spec_KnownAfter.c13 13 s' (spec_KnownAfter.K13 N)
noncomputable def spec_KnownAfter.g (N : Nat) (a0 : Int) (a1 : Int) : Option spec_KnownAfter.R := spec_KnownAfter.o0 N a0 a1 ((fun w0 w1 w2 => spec_KnownAfter.d1 N w0 w1 w2))
theorem spec_KnownAfter.c1_0 : spec_KnownAfter.c1 = (.seq spec_KnownAfter.c2 (.seq (.seq spec_KnownAfter.c12 spec_KnownAfter.c13) spec_KnownAfter.c7)) := by kernel_rfl
theorem spec_KnownAfter.g.run (N : Nat) (a0 : Int) (a1 : Int) : runC spec_KnownAfter.C (spec_KnownAfter.O N) N spec_KnownAfter.c1 1 (st0 [.one (.int .i64 a0), .one (.int .i64 a1)] [] : St D0) spec_KnownAfter.K0 = spec_KnownAfter.g N a0 a1 := by
  rw [spec_KnownAfter.c1_0]; unfold spec_KnownAfter.g; exact (spec_KnownAfter.o0.run N spec_KnownAfter.c13 a0 a1).trans (congr rfl (funext fun w0 => funext fun w1 => funext fun w2 => spec_KnownAfter.d1.run N w0 w1 w2))
theorem spec_KnownAfter.good (N : Nat) (a0 : Int) (a1 : Int) (r : spec_KnownAfter.R) (h : spec_KnownAfter.g N a0 a1 = some r) : Go.PM.Good Go.Proofs.Try.prog T0 48 [.one (.int .i64 a0), .one (.int .i64 a1)] [] (spec_KnownAfter.sig.ret r) (spec_KnownAfter.sig.bs r) :=
  good_fn tabOk0 mixed0 spec_KnownAfter.sig (spec_KnownAfter.E N) Go.Proofs.Try.func48 (by kernel_rfl) (by kernel_rfl) 32819 0 0 [(12, [0, 1, 15], [])] 202944 false [] [(false, [.any]), (false, [.any])] (by kernel_rfl) rfl rfl ((spec_KnownAfter.g.run N a0 a1).trans h)
noncomputable def spec_KnownAfter.ent (N : Nat) : Ent Go.Proofs.Try.prog T0 := mkEnt 48 [(false, [.any]), (false, [.any])] spec_KnownAfter.sig (fun t => spec_KnownAfter.g N t.1 t.2) (fun t r h => spec_KnownAfter.good N t.1 t.2 r h)
end Go.Proofs.Ytpemffldaepbpaa.M

namespace Go.Proofs.Ytpemffldaepbpaa.M
open Go Go.PM Go.Proofs.Ytpemffldaepbpaa.P
set_option linter.unusedVariables false
set_option maxRecDepth 100000
/-! ### impl_LongestUnknown -/
abbrev impl_LongestUnknown.R : Type := List Int × Int × Bool
abbrev impl_LongestUnknown.sig : Sig := ⟨[(false, 1)], [], [.int .i64], [(false, 1), (false, 1), (false, 1)], [], [.sl true 3, .int .i64, .bool]⟩
noncomputable def impl_LongestUnknown.C : Cfg D0 := ⟨Go.Proofs.Try.prog, T0, 276941309, 0, 36, 0, [(122, [0, 5, 6, 14, 15], []), (31334, [0, 5, 6, 7, 8, 14, 15], [])], 208413184, false, []⟩
noncomputable def impl_LongestUnknown.E (N : Nat) : List (Ent Go.Proofs.Try.prog T0) := [impl_isDial.ent N, impl_knownAfter.ent N]
noncomputable def impl_LongestUnknown.O (N : Nat) : Orc D0 impl_LongestUnknown.R := orcOf (impl_LongestUnknown.E N)
noncomputable def impl_LongestUnknown.K0 : Ex → St D0 → Option impl_LongestUnknown.R := exitK impl_LongestUnknown.C Go.Proofs.Try.f50.results.toList [(false, [.own 3]), (false, [.any]), (false, [.any])] (decOut impl_LongestUnknown.sig)
noncomputable def impl_LongestUnknown.c1 : Code := codeAt (Go.Proofs.Try.f50.body.getD .skip) []
noncomputable def impl_LongestUnknown.c2 : Code := codeAt (Go.Proofs.Try.f50.body.getD .skip) [false]
noncomputable def impl_LongestUnknown.c6 : Code := codeAt (Go.Proofs.Try.f50.body.getD .skip) [true, false]
noncomputable def impl_LongestUnknown.c14 : Code := codeAt (Go.Proofs.Try.f50.body.getD .skip) [true, true, false]
noncomputable def impl_LongestUnknown.c31 : Code := codeAt (Go.Proofs.Try.f50.body.getD .skip) [true, true, true, true]
noncomputable def impl_LongestUnknown.c60 : Code := codeAt (Go.Proofs.Try.f50.body.getD .skip) [true, true, true, false, false]
noncomputable def impl_LongestUnknown.c244 : Code := codeAt (Go.Proofs.Try.f50.body.getD .skip) [true, true, true, false, true, false, false]
noncomputable def impl_LongestUnknown.c488 : Code := codeAt (Go.Proofs.Try.f50.body.getD .skip) [true, true, true, false, true, false, false, false]
noncomputable def impl_LongestUnknown.c978 : Code := codeAt (Go.Proofs.Try.f50.body.getD .skip) [true, true, true, false, true, false, false, true, false]
noncomputable def impl_LongestUnknown.c1959 : Code := codeAt (Go.Proofs.Try.f50.body.getD .skip) [true, true, true, false, true, false, false, true, true, true]
noncomputable def impl_LongestUnknown.c7832 : Code := codeAt (Go.Proofs.Try.f50.body.getD .skip) [true, true, true, false, true, false, false, true, true, false, false, false]
noncomputable def impl_LongestUnknown.c15666 : Code := codeAt (Go.Proofs.Try.f50.body.getD .skip) [true, true, true, false, true, false, false, true, true, false, false, true, false]
noncomputable def impl_LongestUnknown.c31334 : Code := codeAt (Go.Proofs.Try.f50.body.getD .skip) [true, true, true, false, true, false, false, true, true, false, false, true, true, false]
noncomputable def impl_LongestUnknown.c31335 : Code := codeAt (Go.Proofs.Try.f50.body.getD .skip) [true, true, true, false, true, false, false, true, true, false, false, true, true, true]
noncomputable def impl_LongestUnknown.K31335 (N : Nat) (Kn122 : St D0 → Option impl_LongestUnknown.R) : Ex → St D0 → Option impl_LongestUnknown.R := (blockK 1 (onN (fun s => impl_LongestUnknown.C.tidy 1958 s (fun s' => runC impl_LongestUnknown.C (impl_LongestUnknown.O N) N impl_LongestUnknown.c1959 1959 s' (onN (fun s => impl_LongestUnknown.C.tidy 122 s ((onN Kn122 (blockK 0 (onN (fun s => impl_LongestUnknown.C.tidy 30 s (fun s' => runC impl_LongestUnknown.C (impl_LongestUnknown.O N) N impl_LongestUnknown.c31 31 s' impl_LongestUnknown.K0)) impl_LongestUnknown.K0))) .normal)) (onN Kn122 (blockK 0 (onN (fun s => impl_LongestUnknown.C.tidy 30 s (fun s' => runC impl_LongestUnknown.C (impl_LongestUnknown.O N) N impl_LongestUnknown.c31 31 s' impl_LongestUnknown.K0)) impl_LongestUnknown.K0)))))) (onN (fun s => impl_LongestUnknown.C.tidy 122 s ((onN Kn122 (blockK 0 (onN (fun s => impl_LongestUnknown.C.tidy 30 s (fun s' => runC impl_LongestUnknown.C (impl_LongestUnknown.O N) N impl_LongestUnknown.c31 31 s' impl_LongestUnknown.K0)) impl_LongestUnknown.K0))) .normal)) (onN Kn122 (blockK 0 (onN (fun s => impl_LongestUnknown.C.tidy 30 s (fun s' => runC impl_LongestUnknown.C (impl_LongestUnknown.O N) N impl_LongestUnknown.c31 31 s' impl_LongestUnknown.K0)) impl_LongestUnknown.K0))))))
noncomputable def impl_LongestUnknown.o2 (N : Nat) (v0 : Int) (v1 : List Int) (v2 : Int) (v3 : Int) (v4 : Int) (v5 : Int) (v6 : Int) (c1 : Int → (List Int) → Int → Int → Int → Option impl_LongestUnknown.R) : Option impl_LongestUnknown.R :=
 bif (v4 == v2) then
  bif (Nat.blt (v1.length + ([v3] : List Int).length) 17592186044416) then
   c1 v0 (v1 ++ ([v3] : List Int)) v2 v5 (w64 (v6 + 1))
  else
  none
 else
 c1 v0 v1 v2 v5 (w64 (v6 + 1))
theorem impl_LongestUnknown.o2.run (N : Nat) (Kn122 : St D0 → Option impl_LongestUnknown.R) (v0 : Int) (v1 : List Int) (v2 : Int) (v3 : Int) (v4 : Int) (v5 : Int) (v6 : Int) : runC impl_LongestUnknown.C (impl_LongestUnknown.O N) N impl_LongestUnknown.c31335 31335 (mkSt [(0, .one (.int .i64 v0)), (5, .one (.sl true 3 v1)), (6, .one (.int .i64 v2)), (7, .one (.int .i64 v3)), (8, .one (.int .i64 v4)), (14, .one (.int .i64 v5)), (15, .one (.int .i64 v6))] [] : St D0) (blockK 1 (onN (fun s => impl_LongestUnknown.C.tidy 1958 s (fun s' => runC impl_LongestUnknown.C (impl_LongestUnknown.O N) N impl_LongestUnknown.c1959 1959 s' (onN (fun s => impl_LongestUnknown.C.tidy 122 s ((onN Kn122 (blockK 0 (onN (fun s => impl_LongestUnknown.C.tidy 30 s (fun s' => runC impl_LongestUnknown.C (impl_LongestUnknown.O N) N impl_LongestUnknown.c31 31 s' impl_LongestUnknown.K0)) impl_LongestUnknown.K0))) .normal)) (onN Kn122 (blockK 0 (onN (fun s => impl_LongestUnknown.C.tidy 30 s (fun s' => runC impl_LongestUnknown.C (impl_LongestUnknown.O N) N impl_LongestUnknown.c31 31 s' impl_LongestUnknown.K0)) impl_LongestUnknown.K0)))))) (onN (fun s => impl_LongestUnknown.C.tidy 122 s ((onN Kn122 (blockK 0 (onN (fun s => impl_LongestUnknown.C.tidy 30 s (fun s' => runC impl_LongestUnknown.C (impl_LongestUnknown.O N) N impl_LongestUnknown.c31 31 s' impl_LongestUnknown.K0)) impl_LongestUnknown.K0))) .normal)) (onN Kn122 (blockK 0 (onN (fun s => impl_LongestUnknown.C.tidy 30 s (fun s' => runC impl_LongestUnknown.C (impl_LongestUnknown.O N) N impl_LongestUnknown.c31 31 s' impl_LongestUnknown.K0)) impl_LongestUnknown.K0)))))) = impl_LongestUnknown.o2 N v0 v1 v2 v3 v4 v5 v6 ((fun w0 w1 w2 w3 w4 => Kn122 (mkSt [(0, .one (.int .i64 w0)), (5, .one (.sl true 3 w1)), (6, .one (.int .i64 w2)), (14, .one (.int .i64 w3)), (15, .one (.int .i64 w4))] [] : St D0))) := by kernel_rfl
noncomputable def impl_LongestUnknown.d2 (N : Nat) (v0 : Int) (v1 : List Int) (v2 : Int) (v3 : Int) (v4 : Int) (v5 : Int) (v6 : Int) (c1 : Int → (List Int) → Int → Int → Int → Option impl_LongestUnknown.R) : Option impl_LongestUnknown.R := impl_LongestUnknown.o2 N v0 v1 v2 v3 v4 v5 v6 c1
theorem impl_LongestUnknown.d2.run (N : Nat) (Kn122 : St D0 → Option impl_LongestUnknown.R) (v0 : Int) (v1 : List Int) (v2 : Int) (v3 : Int) (v4 : Int) (v5 : Int) (v6 : Int) : runC impl_LongestUnknown.C (impl_LongestUnknown.O N) N impl_LongestUnknown.c31335 31335 (mkSt [(0, .one (.int .i64 v0)), (5, .one (.sl true 3 v1)), (6, .one (.int .i64 v2)), (7, .one (.int .i64 v3)), (8, .one (.int .i64 v4)), (14, .one (.int .i64 v5)), (15, .one (.int .i64 v6))] [] : St D0) (impl_LongestUnknown.K31335 N Kn122) = impl_LongestUnknown.d2 N v0 v1 v2 v3 v4 v5 v6 ((fun w0 w1 w2 w3 w4 => Kn122 (mkSt [(0, .one (.int .i64 w0)), (5, .one (.sl true 3 w1)), (6, .one (.int .i64 w2)), (14, .one (.int .i64 w3)), (15, .one (.int .i64 w4))] [] : St D0))) := by
  exact (impl_LongestUnknown.o2.run N Kn122 v0 v1 v2 v3 v4 v5 v6).trans rfl
noncomputable def impl_LongestUnknown.K244 (N : Nat) (Kn122 : St D0 → Option impl_LongestUnknown.R) : Ex → St D0 → Option impl_LongestUnknown.R := (onN (fun s => impl_LongestUnknown.C.tidy 122 s ((onN Kn122 (blockK 0 (onN (fun s => impl_LongestUnknown.C.tidy 30 s (fun s' => runC impl_LongestUnknown.C (impl_LongestUnknown.O N) N impl_LongestUnknown.c31 31 s' impl_LongestUnknown.K0)) impl_LongestUnknown.K0))) .normal)) (onN Kn122 (blockK 0 (onN (fun s => impl_LongestUnknown.C.tidy 30 s (fun s' => runC impl_LongestUnknown.C (impl_LongestUnknown.O N) N impl_LongestUnknown.c31 31 s' impl_LongestUnknown.K0)) impl_LongestUnknown.K0))))
noncomputable def impl_LongestUnknown.o1 (N : Nat) (v0 : Int) (v1 : List Int) (v2 : Int) (v3 : Int) (v4 : Int) (c2 : Int → (List Int) → Int → Int → Int → Int → Int → Option impl_LongestUnknown.R) : Option impl_LongestUnknown.R :=
 bif (decide (v4 < v3)) then
  (impl_knownAfter.g N v0 v4).bind fun r1 =>
  bif (decide (r1 > v2)) then
   c2 v0 ([] : List Int) r1 v4 r1 v3 v4
  else
  c2 v0 v1 v2 v4 r1 v3 v4
 else
 some (v1, v2, true)
theorem impl_LongestUnknown.o1.run (N : Nat) (Kn122 : St D0 → Option impl_LongestUnknown.R) (H31335 : Code) (v0 : Int) (v1 : List Int) (v2 : Int) (v3 : Int) (v4 : Int) : runC impl_LongestUnknown.C (impl_LongestUnknown.O N) N (.seq impl_LongestUnknown.c488 (.seq impl_LongestUnknown.c978 (.seq (.block 1 (.seq impl_LongestUnknown.c7832 (.seq impl_LongestUnknown.c15666 (.seq impl_LongestUnknown.c31334 H31335)))) impl_LongestUnknown.c1959))) 244 (mkSt [(0, .one (.int .i64 v0)), (5, .one (.sl true 3 v1)), (6, .one (.int .i64 v2)), (14, .one (.int .i64 v3)), (15, .one (.int .i64 v4))] [] : St D0) (onN (fun s => impl_LongestUnknown.C.tidy 122 s ((onN Kn122 (blockK 0 (onN (fun s => impl_LongestUnknown.C.tidy 30 s (fun s' => runC impl_LongestUnknown.C (impl_LongestUnknown.O N) N impl_LongestUnknown.c31 31 s' impl_LongestUnknown.K0)) impl_LongestUnknown.K0))) .normal)) (onN Kn122 (blockK 0 (onN (fun s => impl_LongestUnknown.C.tidy 30 s (fun s' => runC impl_LongestUnknown.C (impl_LongestUnknown.O N) N impl_LongestUnknown.c31 31 s' impl_LongestUnknown.K0)) impl_LongestUnknown.K0)))) = impl_LongestUnknown.o1 N v0 v1 v2 v3 v4 ((fun w0 w1 w2 w3 w4 w5 w6 => runC impl_LongestUnknown.C (impl_LongestUnknown.O N) N H31335 31335 (mkSt [(0, .one (.int .i64 w0)), (5, .one (.sl true 3 w1)), (6, .one (.int .i64 w2)), (7, .one (.int .i64 w3)), (8, .one (.int .i64 w4)), (14, .one (.int .i64 w5)), (15, .one (.int .i64 w6))] [] : St D0) (blockK 1 (onN (fun s => impl_LongestUnknown.C.tidy 1958 s (fun s' => runC impl_LongestUnknown.C (impl_LongestUnknown.O N) N impl_LongestUnknown.c1959 1959 s' (onN (fun s => impl_LongestUnknown.C.tidy 122 s ((onN Kn122 (blockK 0 (onN (fun s => impl_LongestUnknown.C.tidy 30 s (fun s' => runC impl_LongestUnknown.C (impl_LongestUnknown.O N) N impl_LongestUnknown.c31 31 s' impl_LongestUnknown.K0)) impl_LongestUnknown.K0))) .normal)) (onN Kn122 (blockK 0 (onN (fun s => impl_LongestUnknown.C.tidy 30 s (fun s' => runC impl_LongestUnknown.C (impl_LongestUnknown.O N) N impl_LongestUnknown.c31 31 s' impl_LongestUnknown.K0)) impl_LongestUnknown.K0)))))) (onN (fun s => impl_LongestUnknown.C.tidy 122 s ((onN Kn122 (blockK 0 (onN (fun s => impl_LongestUnknown.C.tidy 30 s (fun s' => runC impl_LongestUnknown.C (impl_LongestUnknown.O N) N impl_LongestUnknown.c31 31 s' impl_LongestUnknown.K0)) impl_LongestUnknown.K0))) .normal)) (onN Kn122 (blockK 0 (onN (fun s => impl_LongestUnknown.C.tidy 30 s (fun s' => runC impl_LongestUnknown.C (impl_LongestUnknown.O N) N impl_LongestUnknown.c31 31 s' impl_LongestUnknown.K0)) impl_LongestUnknown.K0)))))))) := by kernel_rfl
noncomputable def impl_LongestUnknown.B15667 (N : Nat) (Kn122 : St D0 → Option impl_LongestUnknown.R) : St D0 → Option impl_LongestUnknown.R := fun s' => runC impl_LongestUnknown.C (impl_LongestUnknown.O N) N impl_LongestUnknown.c31335 31335 s' (impl_LongestUnknown.K31335 N Kn122)
noncomputable def impl_LongestUnknown.d1 (N : Nat) (v0 : Int) (v1 : List Int) (v2 : Int) (v3 : Int) (v4 : Int) (c1 : Int → (List Int) → Int → Int → Int → Option impl_LongestUnknown.R) : Option impl_LongestUnknown.R := impl_LongestUnknown.o1 N v0 v1 v2 v3 v4 ((fun w0 w1 w2 w3 w4 w5 w6 => impl_LongestUnknown.d2 N w0 w1 w2 w3 w4 w5 w6 c1))
theorem impl_LongestUnknown.c244_1 : impl_LongestUnknown.c244 = (.seq impl_LongestUnknown.c488 (.seq impl_LongestUnknown.c978 (.seq (.block 1 (.seq impl_LongestUnknown.c7832 (.seq impl_LongestUnknown.c15666 (.seq impl_LongestUnknown.c31334 impl_LongestUnknown.c31335)))) impl_LongestUnknown.c1959))) := by kernel_rfl
theorem impl_LongestUnknown.d1.run (N : Nat) (Kn122 : St D0 → Option impl_LongestUnknown.R) (v0 : Int) (v1 : List Int) (v2 : Int) (v3 : Int) (v4 : Int) : runC impl_LongestUnknown.C (impl_LongestUnknown.O N) N impl_LongestUnknown.c244 244 (mkSt [(0, .one (.int .i64 v0)), (5, .one (.sl true 3 v1)), (6, .one (.int .i64 v2)), (14, .one (.int .i64 v3)), (15, .one (.int .i64 v4))] [] : St D0) (impl_LongestUnknown.K244 N Kn122) = impl_LongestUnknown.d1 N v0 v1 v2 v3 v4 ((fun w0 w1 w2 w3 w4 => Kn122 (mkSt [(0, .one (.int .i64 w0)), (5, .one (.sl true 3 w1)), (6, .one (.int .i64 w2)), (14, .one (.int .i64 w3)), (15, .one (.int .i64 w4))] [] : St D0))) := by
  rw [impl_LongestUnknown.c244_1]; unfold impl_LongestUnknown.d1; exact (impl_LongestUnknown.o1.run N Kn122 impl_LongestUnknown.c31335 v0 v1 v2 v3 v4).trans (congr rfl (funext fun w0 => funext fun w1 => funext fun w2 => funext fun w3 => funext fun w4 => funext fun w5 => funext fun w6 => impl_LongestUnknown.d2.run N Kn122 w0 w1 w2 w3 w4 w5 w6))
noncomputable def impl_LongestUnknown.K122 (N : Nat) : Ex → St D0 → Option impl_LongestUnknown.R := (blockK 0 (onN (fun s => impl_LongestUnknown.C.tidy 30 s (fun s' => runC impl_LongestUnknown.C (impl_LongestUnknown.O N) N impl_LongestUnknown.c31 31 s' impl_LongestUnknown.K0)) impl_LongestUnknown.K0))
noncomputable def impl_LongestUnknown.l1 (N : Nat) : Nat → Int → (List Int) → Int → Int → Int → Option impl_LongestUnknown.R
  | 0, _, _, _, _, _ => none
  | n + 1, v0, v1, v2, v3, v4 => impl_LongestUnknown.d1 N v0 v1 v2 v3 v4 ((fun w0 w1 w2 w3 w4 => impl_LongestUnknown.l1 N n w0 w1 w2 w3 w4))
theorem impl_LongestUnknown.loop122 (N : Nat) : ∀ n, (∀ (v0 : Int) (v1 : List Int) (v2 : Int) (v3 : Int) (v4 : Int), iter (loopF impl_LongestUnknown.C (impl_LongestUnknown.O N) N impl_LongestUnknown.c244 122) n (mkSt [(0, .one (.int .i64 v0)), (5, .one (.sl true 3 v1)), (6, .one (.int .i64 v2)), (14, .one (.int .i64 v3)), (15, .one (.int .i64 v4))] [] : St D0) (impl_LongestUnknown.K122 N) = impl_LongestUnknown.l1 N n v0 v1 v2 v3 v4)
  | 0 => (fun v0 v1 v2 v3 v4 => rfl)
  | n + 1 => (fun v0 v1 v2 v3 v4 => (impl_LongestUnknown.d1.run N (fun s => iter (loopF impl_LongestUnknown.C (impl_LongestUnknown.O N) N impl_LongestUnknown.c244 122) n s (impl_LongestUnknown.K122 N)) v0 v1 v2 v3 v4).trans (show _ = impl_LongestUnknown.d1 N v0 v1 v2 v3 v4 ((fun w0 w1 w2 w3 w4 => impl_LongestUnknown.l1 N n w0 w1 w2 w3 w4)) from (congr rfl (funext fun w0 => funext fun w1 => funext fun w2 => funext fun w3 => funext fun w4 => (impl_LongestUnknown.loop122 N n) w0 w1 w2 w3 w4))))
noncomputable def impl_LongestUnknown.o0 (N : Nat) (a0 : Int) (c1 : Int → (List Int) → Int → Int → Int → Option impl_LongestUnknown.R) : Option impl_LongestUnknown.R :=
 (impl_isDial.g N a0).bind fun r1 =>
 bif (!r1) then
  some (([] : List Int), 0, false)
 else
 c1 a0 ([] : List Int) 0 (w64 (2 * a0)) 0
theorem impl_LongestUnknown.o0.run (N : Nat) (H244 : Code) (a0 : Int) : runC impl_LongestUnknown.C (impl_LongestUnknown.O N) N (.seq impl_LongestUnknown.c2 (.seq impl_LongestUnknown.c6 (.seq impl_LongestUnknown.c14 (.seq (.seq impl_LongestUnknown.c60 (.block 0 (.loop H244))) impl_LongestUnknown.c31)))) 1 (st0 [.one (.int .i64 a0)] [] : St D0) impl_LongestUnknown.K0 = impl_LongestUnknown.o0 N a0 ((fun w0 w1 w2 w3 w4 => iter (loopF impl_LongestUnknown.C (impl_LongestUnknown.O N) N H244 122) N (mkSt [(0, .one (.int .i64 w0)), (5, .one (.sl true 3 w1)), (6, .one (.int .i64 w2)), (14, .one (.int .i64 w3)), (15, .one (.int .i64 w4))] [] : St D0) (blockK 0 (onN (fun s => impl_LongestUnknown.C.tidy 30 s (fun s' => runC impl_LongestUnknown.C (impl_LongestUnknown.O N) N impl_LongestUnknown.c31 31 s' impl_LongestUnknown.K0)) impl_LongestUnknown.K0)))) := by kernel_rfl
noncomputable def impl_LongestUnknown.g (N : Nat) (a0 : Int) : Option impl_LongestUnknown.R := impl_LongestUnknown.o0 N a0 ((fun w0 w1 w2 w3 w4 => impl_LongestUnknown.l1 N N w0 w1 w2 w3 w4))
theorem impl_LongestUnknown.c1_0 : impl_LongestUnknown.c1 = (.seq impl_LongestUnknown.c2 (.seq impl_LongestUnknown.c6 (.seq impl_LongestUnknown.c14 (.seq (.seq impl_LongestUnknown.c60 (.block 0 (.loop impl_LongestUnknown.c244))) impl_LongestUnknown.c31)))) := by kernel_rfl
theorem impl_LongestUnknown.g.run (N : Nat) (a0 : Int) : runC impl_LongestUnknown.C (impl_LongestUnknown.O N) N impl_LongestUnknown.c1 1 (st0 [.one (.int .i64 a0)] [] : St D0) impl_LongestUnknown.K0 = impl_LongestUnknown.g N a0 := by
  rw [impl_LongestUnknown.c1_0]; unfold impl_LongestUnknown.g; exact (impl_LongestUnknown.o0.run N impl_LongestUnknown.c244 a0).trans (congr rfl (funext fun w0 => funext fun w1 => funext fun w2 => funext fun w3 => funext fun w4 => (impl_LongestUnknown.loop122 N N) w0 w1 w2 w3 w4))
theorem impl_LongestUnknown.good (N : Nat) (a0 : Int) (r : impl_LongestUnknown.R) (h : impl_LongestUnknown.g N a0 = some r) : Go.PM.Good Go.Proofs.Try.prog T0 50 [.one (.int .i64 a0)] [] (impl_LongestUnknown.sig.ret r) (impl_LongestUnknown.sig.bs r) :=
  good_fn tabOk0 mixed0 impl_LongestUnknown.sig (impl_LongestUnknown.E N) Go.Proofs.Try.func50 (by kernel_rfl) (by kernel_rfl) 276941309 0 0 [(122, [0, 5, 6, 14, 15], []), (31334, [0, 5, 6, 7, 8, 14, 15], [])] 208413184 false [] [(false, [.own 3]), (false, [.any]), (false, [.any])] (by kernel_rfl) rfl rfl ((impl_LongestUnknown.g.run N a0).trans h)
noncomputable def impl_LongestUnknown.ent (N : Nat) : Ent Go.Proofs.Try.prog T0 := mkEnt 50 [(false, [.any])] impl_LongestUnknown.sig (fun t => impl_LongestUnknown.g N t) (fun t r h => impl_LongestUnknown.good N t r h)
end Go.Proofs.Ytpemffldaepbpaa.M
