/- What the program's functions compute, walked by the machine (part 2). No conditions but those stated. -/
import Derived.Test.YtpemffldaepbpaaFnFnStrokesCounted1
namespace Go.Proofs.Ytpemffldaepbpaa.M
open Go Go.PM Go.Proofs.Ytpemffldaepbpaa.P
set_option linter.unusedVariables false
set_option maxRecDepth 100000
/-! ### spec_StrokeNumber -/
abbrev spec_StrokeNumber.R : Type := Int × Int × Bool
abbrev spec_StrokeNumber.sig : Sig := ⟨[(false, 1), (false, 1)], [], [.int .i64, .int .i64], [(false, 1), (false, 1), (false, 1)], [], [.int .i64, .int .i64, .bool]⟩
noncomputable def spec_StrokeNumber.C : Cfg D0 := ⟨Go.Proofs.Try.prog, T0, 2199023288563, 0, 54, 0, [(12, [0, 1, 15], []), (124, [0, 1, 7], [])]⟩
noncomputable def spec_StrokeNumber.E (N : Nat) : List (Ent Go.Proofs.Try.prog T0) := [spec_diHours.ent N, spec_l1In.ent N, spec_stTurn.ent N, spec_stAt.ent N]
noncomputable def spec_StrokeNumber.O (N : Nat) : Orc D0 spec_StrokeNumber.R := orcOf (spec_StrokeNumber.E N)
noncomputable def spec_StrokeNumber.K0 : Ex → St D0 → Option spec_StrokeNumber.R := exitK spec_StrokeNumber.C Go.Proofs.Try.f30.results.toList [(false, [.any]), (false, [.any]), (false, [.any])] (decOut spec_StrokeNumber.sig)
noncomputable def spec_StrokeNumber.c1 : Code := codeAt (Go.Proofs.Try.f30.body.getD .skip) []
noncomputable def spec_StrokeNumber.c2 : Code := codeAt (Go.Proofs.Try.f30.body.getD .skip) [false]
noncomputable def spec_StrokeNumber.c7 : Code := codeAt (Go.Proofs.Try.f30.body.getD .skip) [true, true]
noncomputable def spec_StrokeNumber.c12 : Code := codeAt (Go.Proofs.Try.f30.body.getD .skip) [true, false, false]
noncomputable def spec_StrokeNumber.c13 : Code := codeAt (Go.Proofs.Try.f30.body.getD .skip) [true, false, true]
noncomputable def spec_StrokeNumber.c14 : Code := codeAt (Go.Proofs.Try.f30.body.getD .skip) [true, true, false]
noncomputable def spec_StrokeNumber.c30 : Code := codeAt (Go.Proofs.Try.f30.body.getD .skip) [true, true, true, false]
noncomputable def spec_StrokeNumber.c63 : Code := codeAt (Go.Proofs.Try.f30.body.getD .skip) [true, true, true, true, true]
noncomputable def spec_StrokeNumber.c248 : Code := codeAt (Go.Proofs.Try.f30.body.getD .skip) [true, true, true, true, false, false, false]
noncomputable def spec_StrokeNumber.K248 (N : Nat) (Kn124 : St D0 → Option spec_StrokeNumber.R) : Ex → St D0 → Option spec_StrokeNumber.R := (onN (fun s => spec_StrokeNumber.C.tidy 124 s ((onN Kn124 (blockK 0 (onN (fun s => spec_StrokeNumber.C.tidy 62 s (fun s' => runC spec_StrokeNumber.C (spec_StrokeNumber.O N) N spec_StrokeNumber.c63 63 s' spec_StrokeNumber.K0)) spec_StrokeNumber.K0))) .normal)) (onN Kn124 (blockK 0 (onN (fun s => spec_StrokeNumber.C.tidy 62 s (fun s' => runC spec_StrokeNumber.C (spec_StrokeNumber.O N) N spec_StrokeNumber.c63 63 s' spec_StrokeNumber.K0)) spec_StrokeNumber.K0))))
noncomputable def spec_StrokeNumber.o2 (N : Nat) (v0 : Int) (v1 : Int) (v2 : Int) (c2 : Int → Int → Int → Option spec_StrokeNumber.R) : Option spec_StrokeNumber.R :=
 bif ((w64 (2 * v0)) == 0) then
  none
 else
 (spec_stAt.g N v0 (Int.tmod v2 (w64 (2 * v0)))).bind fun r1 =>
 bif (decide (v1 > r1)) then
  bif ((w64 (2 * v0)) == 0) then
   none
  else
  (spec_stAt.g N v0 (Int.tmod v2 (w64 (2 * v0)))).bind fun r2 =>
  c2 v0 (w64 (v1 - r2)) (w64 (v2 + 1))
 else
 some (v2, v1, true)
theorem spec_StrokeNumber.o2.run (N : Nat) (Kn124 : St D0 → Option spec_StrokeNumber.R) (v0 : Int) (v1 : Int) (v2 : Int) : runC spec_StrokeNumber.C (spec_StrokeNumber.O N) N spec_StrokeNumber.c248 248 (mkSt [(0, .one (.int .i64 v0)), (1, .one (.int .i64 v1)), (7, .one (.int .i64 v2))] [] : St D0) (onN (fun s => spec_StrokeNumber.C.tidy 124 s ((onN Kn124 (blockK 0 (onN (fun s => spec_StrokeNumber.C.tidy 62 s (fun s' => runC spec_StrokeNumber.C (spec_StrokeNumber.O N) N spec_StrokeNumber.c63 63 s' spec_StrokeNumber.K0)) spec_StrokeNumber.K0))) .normal)) (onN Kn124 (blockK 0 (onN (fun s => spec_StrokeNumber.C.tidy 62 s (fun s' => runC spec_StrokeNumber.C (spec_StrokeNumber.O N) N spec_StrokeNumber.c63 63 s' spec_StrokeNumber.K0)) spec_StrokeNumber.K0)))) = spec_StrokeNumber.o2 N v0 v1 v2 ((fun w0 w1 w2 => Kn124 (mkSt [(0, .one (.int .i64 w0)), (1, .one (.int .i64 w1)), (7, .one (.int .i64 w2))] [] : St D0))) := by kernel_rfl
noncomputable def spec_StrokeNumber.d2 (N : Nat) (v0 : Int) (v1 : Int) (v2 : Int) (c2 : Int → Int → Int → Option spec_StrokeNumber.R) : Option spec_StrokeNumber.R := spec_StrokeNumber.o2 N v0 v1 v2 c2
theorem spec_StrokeNumber.d2.run (N : Nat) (Kn124 : St D0 → Option spec_StrokeNumber.R) (v0 : Int) (v1 : Int) (v2 : Int) : runC spec_StrokeNumber.C (spec_StrokeNumber.O N) N spec_StrokeNumber.c248 248 (mkSt [(0, .one (.int .i64 v0)), (1, .one (.int .i64 v1)), (7, .one (.int .i64 v2))] [] : St D0) (spec_StrokeNumber.K248 N Kn124) = spec_StrokeNumber.d2 N v0 v1 v2 ((fun w0 w1 w2 => Kn124 (mkSt [(0, .one (.int .i64 w0)), (1, .one (.int .i64 w1)), (7, .one (.int .i64 w2))] [] : St D0))) := by
  exact (spec_StrokeNumber.o2.run N Kn124 v0 v1 v2).trans rfl
noncomputable def spec_StrokeNumber.K124 (N : Nat) : Ex → St D0 → Option spec_StrokeNumber.R := (blockK 0 (onN (fun s => spec_StrokeNumber.C.tidy 62 s (fun s' => runC spec_StrokeNumber.C (spec_StrokeNumber.O N) N spec_StrokeNumber.c63 63 s' spec_StrokeNumber.K0)) spec_StrokeNumber.K0))
noncomputable def spec_StrokeNumber.l2 (N : Nat) : Nat → Int → Int → Int → Option spec_StrokeNumber.R
  | 0, _, _, _ => none
  | n + 1, v0, v1, v2 => spec_StrokeNumber.d2 N v0 v1 v2 ((fun w0 w1 w2 => spec_StrokeNumber.l2 N n w0 w1 w2))
theorem spec_StrokeNumber.loop124 (N : Nat) : ∀ n, (∀ (v0 : Int) (v1 : Int) (v2 : Int), iter (loopF spec_StrokeNumber.C (spec_StrokeNumber.O N) N spec_StrokeNumber.c248 124) n (mkSt [(0, .one (.int .i64 v0)), (1, .one (.int .i64 v1)), (7, .one (.int .i64 v2))] [] : St D0) (spec_StrokeNumber.K124 N) = spec_StrokeNumber.l2 N n v0 v1 v2)
  | 0 => (fun v0 v1 v2 => rfl)
  | n + 1 => (fun v0 v1 v2 => (spec_StrokeNumber.d2.run N (fun s => iter (loopF spec_StrokeNumber.C (spec_StrokeNumber.O N) N spec_StrokeNumber.c248 124) n s (spec_StrokeNumber.K124 N)) v0 v1 v2).trans (show _ = spec_StrokeNumber.d2 N v0 v1 v2 ((fun w0 w1 w2 => spec_StrokeNumber.l2 N n w0 w1 w2)) from (congr rfl (funext fun w0 => funext fun w1 => funext fun w2 => (spec_StrokeNumber.loop124 N n) w0 w1 w2))))
noncomputable def spec_StrokeNumber.K13 (N : Nat) : Ex → St D0 → Option spec_StrokeNumber.R := (onN (fun s => spec_StrokeNumber.C.tidy 6 s (fun s' => runC spec_StrokeNumber.C (spec_StrokeNumber.O N) N spec_StrokeNumber.c7 7 s' spec_StrokeNumber.K0)) spec_StrokeNumber.K0)
noncomputable def spec_StrokeNumber.o1 (N : Nat) (v0 : Int) (v1 : Int) (v2 : Bool) (c2 : Int → Int → Int → Option spec_StrokeNumber.R) : Option spec_StrokeNumber.R :=
 bif v2 then
  some (0, 0, false)
 else
 (spec_stTurn.g N v0).bind fun r1 =>
 bif (r1 == 0) then
  none
 else
 (spec_stTurn.g N v0).bind fun r2 =>
 bif (r2 == 0) then
  none
 else
 (spec_stTurn.g N v0).bind fun r3 =>
 c2 v0 (w64 (v1 - (w64 ((w64 (Int.tdiv (w64 (v1 - 1)) r2)) * r3)))) (w64 ((w64 ((w64 (Int.tdiv (w64 (v1 - 1)) r1)) * 2)) * v0))
theorem spec_StrokeNumber.o1.run (N : Nat) (H248 : Code) (v0 : Int) (v1 : Int) (v2 : Bool) : runC spec_StrokeNumber.C (spec_StrokeNumber.O N) N spec_StrokeNumber.c13 13 (mkSt [(0, .one (.int .i64 v0)), (1, .one (.int .i64 v1)), (15, .one (.bool v2))] [] : St D0) (onN (fun s => spec_StrokeNumber.C.tidy 6 s (fun s' => runC spec_StrokeNumber.C (spec_StrokeNumber.O N) N (.seq spec_StrokeNumber.c14 (.seq spec_StrokeNumber.c30 (.seq (.block 0 (.loop H248)) spec_StrokeNumber.c63))) 7 s' spec_StrokeNumber.K0)) spec_StrokeNumber.K0) = spec_StrokeNumber.o1 N v0 v1 v2 ((fun w0 w1 w2 => iter (loopF spec_StrokeNumber.C (spec_StrokeNumber.O N) N H248 124) N (mkSt [(0, .one (.int .i64 w0)), (1, .one (.int .i64 w1)), (7, .one (.int .i64 w2))] [] : St D0) (blockK 0 (onN (fun s => spec_StrokeNumber.C.tidy 62 s (fun s' => runC spec_StrokeNumber.C (spec_StrokeNumber.O N) N spec_StrokeNumber.c63 63 s' spec_StrokeNumber.K0)) spec_StrokeNumber.K0)))) := by kernel_rfl
noncomputable def spec_StrokeNumber.d1 (N : Nat) (v0 : Int) (v1 : Int) (v2 : Bool) : Option spec_StrokeNumber.R := spec_StrokeNumber.o1 N v0 v1 v2 ((fun w0 w1 w2 => spec_StrokeNumber.l2 N N w0 w1 w2))
theorem spec_StrokeNumber.d1.run (N : Nat) (v0 : Int) (v1 : Int) (v2 : Bool) : runC spec_StrokeNumber.C (spec_StrokeNumber.O N) N spec_StrokeNumber.c13 13 (mkSt [(0, .one (.int .i64 v0)), (1, .one (.int .i64 v1)), (15, .one (.bool v2))] [] : St D0) (spec_StrokeNumber.K13 N) = spec_StrokeNumber.d1 N v0 v1 v2 := by
  unfold spec_StrokeNumber.d1; exact (spec_StrokeNumber.o1.run N spec_StrokeNumber.c248 v0 v1 v2).trans (congr rfl (funext fun w0 => funext fun w1 => funext fun w2 => (spec_StrokeNumber.loop124 N N) w0 w1 w2))
noncomputable def spec_StrokeNumber.o0 (N : Nat) (a0 : Int) (a1 : Int) (c1 : Int → Int → Bool → Option spec_StrokeNumber.R) : Option spec_StrokeNumber.R :=
 (spec_diHours.g N a0).bind fun r1 =>
 bif (!r1) then
  c1 a0 a1 true
 else
 (spec_l1In.g N a1 1 1000000000).bind fun r2 =>
 c1 a0 a1 (!r2)
theorem spec_StrokeNumber.o0.run (N : Nat) (H13 : Code) (a0 : Int) (a1 : Int) : runC spec_StrokeNumber.C (spec_StrokeNumber.O N) N (.seq spec_StrokeNumber.c2 (.seq (.seq spec_StrokeNumber.c12 H13) spec_StrokeNumber.c7)) 1 (st0 [.one (.int .i64 a0), .one (.int .i64 a1)] [] : St D0) spec_StrokeNumber.K0 = spec_StrokeNumber.o0 N a0 a1 ((fun w0 w1 w2 => runC spec_StrokeNumber.C (spec_StrokeNumber.O N) N H13 13 (mkSt [(0, .one (.int .i64 w0)), (1, .one (.int .i64 w1)), (15, .one (.bool w2))] [] : St D0) (onN (fun s => spec_StrokeNumber.C.tidy 6 s (fun s' => runC spec_StrokeNumber.C (spec_StrokeNumber.O N) N spec_StrokeNumber.c7 7 s' spec_StrokeNumber.K0)) spec_StrokeNumber.K0))) := by kernel_rfl
noncomputable def spec_StrokeNumber.B6 (N : Nat) : St D0 → Option spec_StrokeNumber.R := fun s' => runC spec_StrokeNumber.C (spec_StrokeNumber.O N) N spec_StrokeNumber.c13 13 s' (spec_StrokeNumber.K13 N)
noncomputable def spec_StrokeNumber.g (N : Nat) (a0 : Int) (a1 : Int) : Option spec_StrokeNumber.R := spec_StrokeNumber.o0 N a0 a1 ((fun w0 w1 w2 => spec_StrokeNumber.d1 N w0 w1 w2))
theorem spec_StrokeNumber.c1_0 : spec_StrokeNumber.c1 = (.seq spec_StrokeNumber.c2 (.seq (.seq spec_StrokeNumber.c12 spec_StrokeNumber.c13) spec_StrokeNumber.c7)) := by kernel_rfl
theorem spec_StrokeNumber.g.run (N : Nat) (a0 : Int) (a1 : Int) : runC spec_StrokeNumber.C (spec_StrokeNumber.O N) N spec_StrokeNumber.c1 1 (st0 [.one (.int .i64 a0), .one (.int .i64 a1)] [] : St D0) spec_StrokeNumber.K0 = spec_StrokeNumber.g N a0 a1 := by
  rw [spec_StrokeNumber.c1_0]; unfold spec_StrokeNumber.g; exact (spec_StrokeNumber.o0.run N spec_StrokeNumber.c13 a0 a1).trans (congr rfl (funext fun w0 => funext fun w1 => funext fun w2 => spec_StrokeNumber.d1.run N w0 w1 w2))
theorem spec_StrokeNumber.good (N : Nat) (a0 : Int) (a1 : Int) (r : spec_StrokeNumber.R) (h : spec_StrokeNumber.g N a0 a1 = some r) : Go.PM.Good Go.Proofs.Try.prog T0 30 [.one (.int .i64 a0), .one (.int .i64 a1)] [] (spec_StrokeNumber.sig.ret r) (spec_StrokeNumber.sig.bs r) :=
  good_fn tabOk0 mixed0 spec_StrokeNumber.sig (spec_StrokeNumber.E N) Go.Proofs.Try.func30 (by kernel_rfl) (by kernel_rfl) 2199023288563 0 0 [(12, [0, 1, 15], []), (124, [0, 1, 7], [])] [(false, [.any]), (false, [.any]), (false, [.any])] (by kernel_rfl) rfl ((spec_StrokeNumber.g.run N a0 a1).trans h)
noncomputable def spec_StrokeNumber.ent (N : Nat) : Ent Go.Proofs.Try.prog T0 := mkEnt 30 [(false, [.any]), (false, [.any])] spec_StrokeNumber.sig (fun t => spec_StrokeNumber.g N t.1 t.2) (fun t r h => spec_StrokeNumber.good N t.1 t.2 r h)
end Go.Proofs.Ytpemffldaepbpaa.M

namespace Go.Proofs.Ytpemffldaepbpaa.M
open Go Go.PM Go.Proofs.Ytpemffldaepbpaa.P
set_option linter.unusedVariables false
set_option maxRecDepth 100000
/-! ### spec_DrawHalfOfWheel -/
abbrev spec_DrawHalfOfWheel.R : Type := Int × Int
abbrev spec_DrawHalfOfWheel.sig : Sig := ⟨[(false, 1)], [], [.sl false 5], [(false, 1), (false, 1)], [], [.int .i64, .int .i64]⟩
noncomputable def spec_DrawHalfOfWheel.C : Cfg D0 := ⟨Go.Proofs.Try.prog, T0, 541, 0, 19, 0, []⟩
noncomputable def spec_DrawHalfOfWheel.E (N : Nat) : List (Ent Go.Proofs.Try.prog T0) := [spec_l1Cur_one.ent N, spec_l1Cur_hours.ent N, spec_l1Cur_among.ent N, spec_l1Cur_pick.ent N]
noncomputable def spec_DrawHalfOfWheel.O (N : Nat) : Orc D0 spec_DrawHalfOfWheel.R := orcOf (spec_DrawHalfOfWheel.E N)
noncomputable def spec_DrawHalfOfWheel.K0 : Ex → St D0 → Option spec_DrawHalfOfWheel.R := exitK spec_DrawHalfOfWheel.C Go.Proofs.Try.f31.results.toList [(false, [.any]), (false, [.any])] (decOut spec_DrawHalfOfWheel.sig)
noncomputable def spec_DrawHalfOfWheel.c1 : Code := codeAt (Go.Proofs.Try.f31.body.getD .skip) []
noncomputable def spec_DrawHalfOfWheel.o0 (N : Nat) (a0 : List Int) : Option spec_DrawHalfOfWheel.R :=
 (spec_l1Cur_one.g N 12 a0 0 0).bind fun r1 =>
 bif r1.1 then
  (spec_l1Cur_hours.g N r1.2.1 r1.2.2.1 r1.2.2.2).bind fun r2 =>
  (spec_l1Cur_among.g N ([0, 1000000000, 1000000001, (-1)] : List Int) r2.2.1 r2.2.2.1 r2.2.2.2).bind fun r3 =>
  some (r2.1, r3.1)
 else
 (spec_l1Cur_hours.g N r1.2.1 r1.2.2.1 r1.2.2.2).bind fun r4 =>
 (spec_l1Cur_pick.g N 400 r4.2.1 r4.2.2.1 r4.2.2.2).bind fun r5 =>
 some (r4.1, r5.1)
theorem spec_DrawHalfOfWheel.o0.run (N : Nat) (a0 : List Int) : runC spec_DrawHalfOfWheel.C (spec_DrawHalfOfWheel.O N) N spec_DrawHalfOfWheel.c1 1 (st0 [.one (.sl false 5 a0)] [] : St D0) spec_DrawHalfOfWheel.K0 = spec_DrawHalfOfWheel.o0 N a0 := by kernel_rfl
noncomputable def spec_DrawHalfOfWheel.g (N : Nat) (a0 : List Int) : Option spec_DrawHalfOfWheel.R := spec_DrawHalfOfWheel.o0 N a0
theorem spec_DrawHalfOfWheel.g.run (N : Nat) (a0 : List Int) : runC spec_DrawHalfOfWheel.C (spec_DrawHalfOfWheel.O N) N spec_DrawHalfOfWheel.c1 1 (st0 [.one (.sl false 5 a0)] [] : St D0) spec_DrawHalfOfWheel.K0 = spec_DrawHalfOfWheel.g N a0 := by
  exact (spec_DrawHalfOfWheel.o0.run N a0).trans rfl
theorem spec_DrawHalfOfWheel.good (N : Nat) (a0 : List Int) (r : spec_DrawHalfOfWheel.R) (h : spec_DrawHalfOfWheel.g N a0 = some r) : Go.PM.Good Go.Proofs.Try.prog T0 31 [.one (.sl false 5 a0)] [] (spec_DrawHalfOfWheel.sig.ret r) (spec_DrawHalfOfWheel.sig.bs r) :=
  good_fn tabOk0 mixed0 spec_DrawHalfOfWheel.sig (spec_DrawHalfOfWheel.E N) Go.Proofs.Try.func31 (by kernel_rfl) (by kernel_rfl) 541 0 0 [] [(false, [.any]), (false, [.any])] (by kernel_rfl) rfl ((spec_DrawHalfOfWheel.g.run N a0).trans h)
noncomputable def spec_DrawHalfOfWheel.ent (N : Nat) : Ent Go.Proofs.Try.prog T0 := mkEnt 31 [(false, [.ro 5])] spec_DrawHalfOfWheel.sig (fun t => spec_DrawHalfOfWheel.g N t) (fun t r h => spec_DrawHalfOfWheel.good N t r h)
end Go.Proofs.Ytpemffldaepbpaa.M

namespace Go.Proofs.Ytpemffldaepbpaa.M
open Go Go.PM Go.Proofs.Ytpemffldaepbpaa.P
set_option linter.unusedVariables false
set_option maxRecDepth 100000
/-! ### impl_HalfOfWheel -/
abbrev impl_HalfOfWheel.R : Type := Int × Bool
abbrev impl_HalfOfWheel.sig : Sig := ⟨[(false, 1), (false, 1)], [], [.int .i64, .int .i64], [(false, 1), (false, 1)], [], [.int .i64, .bool]⟩
noncomputable def impl_HalfOfWheel.C : Cfg D0 := ⟨Go.Proofs.Try.prog, T0, 32883, 0, 28, 0, [(12, [0, 1, 15], [])]⟩
noncomputable def impl_HalfOfWheel.E (N : Nat) : List (Ent Go.Proofs.Try.prog T0) := [impl_isDial.ent N, impl_within.ent N, impl_strokeNumber.ent N]
noncomputable def impl_HalfOfWheel.O (N : Nat) : Orc D0 impl_HalfOfWheel.R := orcOf (impl_HalfOfWheel.E N)
noncomputable def impl_HalfOfWheel.K0 : Ex → St D0 → Option impl_HalfOfWheel.R := exitK impl_HalfOfWheel.C Go.Proofs.Try.f32.results.toList [(false, [.any]), (false, [.any])] (decOut impl_HalfOfWheel.sig)
noncomputable def impl_HalfOfWheel.c1 : Code := codeAt (Go.Proofs.Try.f32.body.getD .skip) []
noncomputable def impl_HalfOfWheel.c2 : Code := codeAt (Go.Proofs.Try.f32.body.getD .skip) [false]
noncomputable def impl_HalfOfWheel.c7 : Code := codeAt (Go.Proofs.Try.f32.body.getD .skip) [true, true]
noncomputable def impl_HalfOfWheel.c12 : Code := codeAt (Go.Proofs.Try.f32.body.getD .skip) [true, false, false]
noncomputable def impl_HalfOfWheel.c13 : Code := codeAt (Go.Proofs.Try.f32.body.getD .skip) [true, false, true]
noncomputable def impl_HalfOfWheel.K13 (N : Nat) : Ex → St D0 → Option impl_HalfOfWheel.R := (onN (fun s => impl_HalfOfWheel.C.tidy 6 s (fun s' => runC impl_HalfOfWheel.C (impl_HalfOfWheel.O N) N impl_HalfOfWheel.c7 7 s' impl_HalfOfWheel.K0)) impl_HalfOfWheel.K0)
noncomputable def impl_HalfOfWheel.o1 (N : Nat) (v0 : Int) (v1 : Int) (v2 : Bool) : Option impl_HalfOfWheel.R :=
 bif v2 then
  some (0, false)
 else
 (impl_strokeNumber.g N v0 (w64 (v0 + v1))).bind fun r1 =>
 bif ((w64 (2 * v0)) == 0) then
  none
 else
 some ((Int.tmod r1.1 (w64 (2 * v0))), true)
theorem impl_HalfOfWheel.o1.run (N : Nat) (v0 : Int) (v1 : Int) (v2 : Bool) : runC impl_HalfOfWheel.C (impl_HalfOfWheel.O N) N impl_HalfOfWheel.c13 13 (mkSt [(0, .one (.int .i64 v0)), (1, .one (.int .i64 v1)), (15, .one (.bool v2))] [] : St D0) (onN (fun s => impl_HalfOfWheel.C.tidy 6 s (fun s' => runC impl_HalfOfWheel.C (impl_HalfOfWheel.O N) N impl_HalfOfWheel.c7 7 s' impl_HalfOfWheel.K0)) impl_HalfOfWheel.K0) = impl_HalfOfWheel.o1 N v0 v1 v2 := by kernel_rfl
noncomputable def impl_HalfOfWheel.d1 (N : Nat) (v0 : Int) (v1 : Int) (v2 : Bool) : Option impl_HalfOfWheel.R := impl_HalfOfWheel.o1 N v0 v1 v2
theorem impl_HalfOfWheel.d1.run (N : Nat) (v0 : Int) (v1 : Int) (v2 : Bool) : runC impl_HalfOfWheel.C (impl_HalfOfWheel.O N) N impl_HalfOfWheel.c13 13 (mkSt [(0, .one (.int .i64 v0)), (1, .one (.int .i64 v1)), (15, .one (.bool v2))] [] : St D0) (impl_HalfOfWheel.K13 N) = impl_HalfOfWheel.d1 N v0 v1 v2 := by
  exact (impl_HalfOfWheel.o1.run N v0 v1 v2).trans rfl
noncomputable def impl_HalfOfWheel.o0 (N : Nat) (a0 : Int) (a1 : Int) (c1 : Int → Int → Bool → Option impl_HalfOfWheel.R) : Option impl_HalfOfWheel.R :=
 (impl_isDial.g N a0).bind fun r1 =>
 bif (!r1) then
  c1 a0 a1 true
 else
 (impl_within.g N a1 0 1000000000).bind fun r2 =>
 c1 a0 a1 (!r2)
theorem impl_HalfOfWheel.o0.run (N : Nat) (H13 : Code) (a0 : Int) (a1 : Int) : runC impl_HalfOfWheel.C (impl_HalfOfWheel.O N) N (.seq impl_HalfOfWheel.c2 (.seq (.seq impl_HalfOfWheel.c12 H13) impl_HalfOfWheel.c7)) 1 (st0 [.one (.int .i64 a0), .one (.int .i64 a1)] [] : St D0) impl_HalfOfWheel.K0 = impl_HalfOfWheel.o0 N a0 a1 ((fun w0 w1 w2 => runC impl_HalfOfWheel.C (impl_HalfOfWheel.O N) N H13 13 (mkSt [(0, .one (.int .i64 w0)), (1, .one (.int .i64 w1)), (15, .one (.bool w2))] [] : St D0) (onN (fun s => impl_HalfOfWheel.C.tidy 6 s (fun s' => runC impl_HalfOfWheel.C (impl_HalfOfWheel.O N) N impl_HalfOfWheel.c7 7 s' impl_HalfOfWheel.K0)) impl_HalfOfWheel.K0))) := by kernel_rfl
noncomputable def impl_HalfOfWheel.B6 (N : Nat) : St D0 → Option impl_HalfOfWheel.R := fun s' => runC impl_HalfOfWheel.C (impl_HalfOfWheel.O N) N impl_HalfOfWheel.c13 13 s' (impl_HalfOfWheel.K13 N)
noncomputable def impl_HalfOfWheel.g (N : Nat) (a0 : Int) (a1 : Int) : Option impl_HalfOfWheel.R := impl_HalfOfWheel.o0 N a0 a1 ((fun w0 w1 w2 => impl_HalfOfWheel.d1 N w0 w1 w2))
theorem impl_HalfOfWheel.c1_0 : impl_HalfOfWheel.c1 = (.seq impl_HalfOfWheel.c2 (.seq (.seq impl_HalfOfWheel.c12 impl_HalfOfWheel.c13) impl_HalfOfWheel.c7)) := by kernel_rfl
theorem impl_HalfOfWheel.g.run (N : Nat) (a0 : Int) (a1 : Int) : runC impl_HalfOfWheel.C (impl_HalfOfWheel.O N) N impl_HalfOfWheel.c1 1 (st0 [.one (.int .i64 a0), .one (.int .i64 a1)] [] : St D0) impl_HalfOfWheel.K0 = impl_HalfOfWheel.g N a0 a1 := by
  rw [impl_HalfOfWheel.c1_0]; unfold impl_HalfOfWheel.g; exact (impl_HalfOfWheel.o0.run N impl_HalfOfWheel.c13 a0 a1).trans (congr rfl (funext fun w0 => funext fun w1 => funext fun w2 => impl_HalfOfWheel.d1.run N w0 w1 w2))
theorem impl_HalfOfWheel.good (N : Nat) (a0 : Int) (a1 : Int) (r : impl_HalfOfWheel.R) (h : impl_HalfOfWheel.g N a0 a1 = some r) : Go.PM.Good Go.Proofs.Try.prog T0 32 [.one (.int .i64 a0), .one (.int .i64 a1)] [] (impl_HalfOfWheel.sig.ret r) (impl_HalfOfWheel.sig.bs r) :=
  good_fn tabOk0 mixed0 impl_HalfOfWheel.sig (impl_HalfOfWheel.E N) Go.Proofs.Try.func32 (by kernel_rfl) (by kernel_rfl) 32883 0 0 [(12, [0, 1, 15], [])] [(false, [.any]), (false, [.any])] (by kernel_rfl) rfl ((impl_HalfOfWheel.g.run N a0 a1).trans h)
noncomputable def impl_HalfOfWheel.ent (N : Nat) : Ent Go.Proofs.Try.prog T0 := mkEnt 32 [(false, [.any]), (false, [.any])] impl_HalfOfWheel.sig (fun t => impl_HalfOfWheel.g N t.1 t.2) (fun t r h => impl_HalfOfWheel.good N t.1 t.2 r h)
end Go.Proofs.Ytpemffldaepbpaa.M

namespace Go.Proofs.Ytpemffldaepbpaa.M
open Go Go.PM Go.Proofs.Ytpemffldaepbpaa.P
set_option linter.unusedVariables false
set_option maxRecDepth 100000
/-! ### spec_HalfOfWheel -/
abbrev spec_HalfOfWheel.R : Type := Int × Bool
abbrev spec_HalfOfWheel.sig : Sig := ⟨[(false, 1), (false, 1)], [], [.int .i64, .int .i64], [(false, 1), (false, 1)], [], [.int .i64, .bool]⟩
noncomputable def spec_HalfOfWheel.C : Cfg D0 := ⟨Go.Proofs.Try.prog, T0, 2130163, 0, 33, 0, [(12, [0, 1, 15], []), (122, [0, 6, 7], [])]⟩
noncomputable def spec_HalfOfWheel.E (N : Nat) : List (Ent Go.Proofs.Try.prog T0) := [spec_diHours.ent N, spec_l1In.ent N, spec_stTurn.ent N, spec_stAt.ent N]
noncomputable def spec_HalfOfWheel.O (N : Nat) : Orc D0 spec_HalfOfWheel.R := orcOf (spec_HalfOfWheel.E N)
noncomputable def spec_HalfOfWheel.K0 : Ex → St D0 → Option spec_HalfOfWheel.R := exitK spec_HalfOfWheel.C Go.Proofs.Try.f33.results.toList [(false, [.any]), (false, [.any])] (decOut spec_HalfOfWheel.sig)
noncomputable def spec_HalfOfWheel.c1 : Code := codeAt (Go.Proofs.Try.f33.body.getD .skip) []
noncomputable def spec_HalfOfWheel.c2 : Code := codeAt (Go.Proofs.Try.f33.body.getD .skip) [false]
noncomputable def spec_HalfOfWheel.c7 : Code := codeAt (Go.Proofs.Try.f33.body.getD .skip) [true, true]
noncomputable def spec_HalfOfWheel.c12 : Code := codeAt (Go.Proofs.Try.f33.body.getD .skip) [true, false, false]
noncomputable def spec_HalfOfWheel.c13 : Code := codeAt (Go.Proofs.Try.f33.body.getD .skip) [true, false, true]
noncomputable def spec_HalfOfWheel.c14 : Code := codeAt (Go.Proofs.Try.f33.body.getD .skip) [true, true, false]
noncomputable def spec_HalfOfWheel.c31 : Code := codeAt (Go.Proofs.Try.f33.body.getD .skip) [true, true, true, true]
noncomputable def spec_HalfOfWheel.c60 : Code := codeAt (Go.Proofs.Try.f33.body.getD .skip) [true, true, true, false, false]
noncomputable def spec_HalfOfWheel.c244 : Code := codeAt (Go.Proofs.Try.f33.body.getD .skip) [true, true, true, false, true, false, false]
noncomputable def spec_HalfOfWheel.K244 (N : Nat) (Kn122 : St D0 → Option spec_HalfOfWheel.R) : Ex → St D0 → Option spec_HalfOfWheel.R := (onN (fun s => spec_HalfOfWheel.C.tidy 122 s ((onN Kn122 (blockK 0 (onN (fun s => spec_HalfOfWheel.C.tidy 30 s (fun s' => runC spec_HalfOfWheel.C (spec_HalfOfWheel.O N) N spec_HalfOfWheel.c31 31 s' spec_HalfOfWheel.K0)) spec_HalfOfWheel.K0))) .normal)) (onN Kn122 (blockK 0 (onN (fun s => spec_HalfOfWheel.C.tidy 30 s (fun s' => runC spec_HalfOfWheel.C (spec_HalfOfWheel.O N) N spec_HalfOfWheel.c31 31 s' spec_HalfOfWheel.K0)) spec_HalfOfWheel.K0))))
noncomputable def spec_HalfOfWheel.o2 (N : Nat) (v0 : Int) (v1 : Int) (v2 : Int) (c2 : Int → Int → Int → Option spec_HalfOfWheel.R) : Option spec_HalfOfWheel.R :=
 bif (decide (v2 > 0)) then
  bif ((w64 (2 * v0)) == 0) then
   none
  else
  (spec_stAt.g N v0 (Int.tmod (w64 (v1 + 1)) (w64 (2 * v0)))).bind fun r1 =>
  c2 v0 (Int.tmod (w64 (v1 + 1)) (w64 (2 * v0))) (w64 (v2 - r1))
 else
 some (v1, true)
theorem spec_HalfOfWheel.o2.run (N : Nat) (Kn122 : St D0 → Option spec_HalfOfWheel.R) (v0 : Int) (v1 : Int) (v2 : Int) : runC spec_HalfOfWheel.C (spec_HalfOfWheel.O N) N spec_HalfOfWheel.c244 244 (mkSt [(0, .one (.int .i64 v0)), (6, .one (.int .i64 v1)), (7, .one (.int .i64 v2))] [] : St D0) (onN (fun s => spec_HalfOfWheel.C.tidy 122 s ((onN Kn122 (blockK 0 (onN (fun s => spec_HalfOfWheel.C.tidy 30 s (fun s' => runC spec_HalfOfWheel.C (spec_HalfOfWheel.O N) N spec_HalfOfWheel.c31 31 s' spec_HalfOfWheel.K0)) spec_HalfOfWheel.K0))) .normal)) (onN Kn122 (blockK 0 (onN (fun s => spec_HalfOfWheel.C.tidy 30 s (fun s' => runC spec_HalfOfWheel.C (spec_HalfOfWheel.O N) N spec_HalfOfWheel.c31 31 s' spec_HalfOfWheel.K0)) spec_HalfOfWheel.K0)))) = spec_HalfOfWheel.o2 N v0 v1 v2 ((fun w0 w1 w2 => Kn122 (mkSt [(0, .one (.int .i64 w0)), (6, .one (.int .i64 w1)), (7, .one (.int .i64 w2))] [] : St D0))) := by kernel_rfl
noncomputable def spec_HalfOfWheel.d2 (N : Nat) (v0 : Int) (v1 : Int) (v2 : Int) (c2 : Int → Int → Int → Option spec_HalfOfWheel.R) : Option spec_HalfOfWheel.R := spec_HalfOfWheel.o2 N v0 v1 v2 c2
theorem spec_HalfOfWheel.d2.run (N : Nat) (Kn122 : St D0 → Option spec_HalfOfWheel.R) (v0 : Int) (v1 : Int) (v2 : Int) : runC spec_HalfOfWheel.C (spec_HalfOfWheel.O N) N spec_HalfOfWheel.c244 244 (mkSt [(0, .one (.int .i64 v0)), (6, .one (.int .i64 v1)), (7, .one (.int .i64 v2))] [] : St D0) (spec_HalfOfWheel.K244 N Kn122) = spec_HalfOfWheel.d2 N v0 v1 v2 ((fun w0 w1 w2 => Kn122 (mkSt [(0, .one (.int .i64 w0)), (6, .one (.int .i64 w1)), (7, .one (.int .i64 w2))] [] : St D0))) := by
  exact (spec_HalfOfWheel.o2.run N Kn122 v0 v1 v2).trans rfl
noncomputable def spec_HalfOfWheel.K122 (N : Nat) : Ex → St D0 → Option spec_HalfOfWheel.R := (blockK 0 (onN (fun s => spec_HalfOfWheel.C.tidy 30 s (fun s' => runC spec_HalfOfWheel.C (spec_HalfOfWheel.O N) N spec_HalfOfWheel.c31 31 s' spec_HalfOfWheel.K0)) spec_HalfOfWheel.K0))
noncomputable def spec_HalfOfWheel.l2 (N : Nat) : Nat → Int → Int → Int → Option spec_HalfOfWheel.R
  | 0, _, _, _ => none
  | n + 1, v0, v1, v2 => spec_HalfOfWheel.d2 N v0 v1 v2 ((fun w0 w1 w2 => spec_HalfOfWheel.l2 N n w0 w1 w2))
theorem spec_HalfOfWheel.loop122 (N : Nat) : ∀ n, (∀ (v0 : Int) (v1 : Int) (v2 : Int), iter (loopF spec_HalfOfWheel.C (spec_HalfOfWheel.O N) N spec_HalfOfWheel.c244 122) n (mkSt [(0, .one (.int .i64 v0)), (6, .one (.int .i64 v1)), (7, .one (.int .i64 v2))] [] : St D0) (spec_HalfOfWheel.K122 N) = spec_HalfOfWheel.l2 N n v0 v1 v2)
  | 0 => (fun v0 v1 v2 => rfl)
  | n + 1 => (fun v0 v1 v2 => (spec_HalfOfWheel.d2.run N (fun s => iter (loopF spec_HalfOfWheel.C (spec_HalfOfWheel.O N) N spec_HalfOfWheel.c244 122) n s (spec_HalfOfWheel.K122 N)) v0 v1 v2).trans (show _ = spec_HalfOfWheel.d2 N v0 v1 v2 ((fun w0 w1 w2 => spec_HalfOfWheel.l2 N n w0 w1 w2)) from (congr rfl (funext fun w0 => funext fun w1 => funext fun w2 => (spec_HalfOfWheel.loop122 N n) w0 w1 w2))))
noncomputable def spec_HalfOfWheel.K13 (N : Nat) : Ex → St D0 → Option spec_HalfOfWheel.R := (onN (fun s => spec_HalfOfWheel.C.tidy 6 s (fun s' => runC spec_HalfOfWheel.C (spec_HalfOfWheel.O N) N spec_HalfOfWheel.c7 7 s' spec_HalfOfWheel.K0)) spec_HalfOfWheel.K0)
noncomputable def spec_HalfOfWheel.o1 (N : Nat) (v0 : Int) (v1 : Int) (v2 : Bool) (c2 : Int → Int → Int → Option spec_HalfOfWheel.R) : Option spec_HalfOfWheel.R :=
 bif v2 then
  some (0, false)
 else
 (spec_stTurn.g N v0).bind fun r1 =>
 bif (r1 == 0) then
  none
 else
 c2 v0 0 (Int.tmod v1 r1)
theorem spec_HalfOfWheel.o1.run (N : Nat) (H244 : Code) (v0 : Int) (v1 : Int) (v2 : Bool) : runC spec_HalfOfWheel.C (spec_HalfOfWheel.O N) N spec_HalfOfWheel.c13 13 (mkSt [(0, .one (.int .i64 v0)), (1, .one (.int .i64 v1)), (15, .one (.bool v2))] [] : St D0) (onN (fun s => spec_HalfOfWheel.C.tidy 6 s (fun s' => runC spec_HalfOfWheel.C (spec_HalfOfWheel.O N) N (.seq spec_HalfOfWheel.c14 (.seq (.seq spec_HalfOfWheel.c60 (.block 0 (.loop H244))) spec_HalfOfWheel.c31)) 7 s' spec_HalfOfWheel.K0)) spec_HalfOfWheel.K0) = spec_HalfOfWheel.o1 N v0 v1 v2 ((fun w0 w1 w2 => iter (loopF spec_HalfOfWheel.C (spec_HalfOfWheel.O N) N H244 122) N (mkSt [(0, .one (.int .i64 w0)), (6, .one (.int .i64 w1)), (7, .one (.int .i64 w2))] [] : St D0) (blockK 0 (onN (fun s => spec_HalfOfWheel.C.tidy 30 s (fun s' => runC spec_HalfOfWheel.C (spec_HalfOfWheel.O N) N spec_HalfOfWheel.c31 31 s' spec_HalfOfWheel.K0)) spec_HalfOfWheel.K0)))) := by kernel_rfl
noncomputable def spec_HalfOfWheel.d1 (N : Nat) (v0 : Int) (v1 : Int) (v2 : Bool) : Option spec_HalfOfWheel.R := spec_HalfOfWheel.o1 N v0 v1 v2 ((fun w0 w1 w2 => spec_HalfOfWheel.l2 N N w0 w1 w2))
theorem spec_HalfOfWheel.d1.run (N : Nat) (v0 : Int) (v1 : Int) (v2 : Bool) : runC spec_HalfOfWheel.C (spec_HalfOfWheel.O N) N spec_HalfOfWheel.c13 13 (mkSt [(0, .one (.int .i64 v0)), (1, .one (.int .i64 v1)), (15, .one (.bool v2))] [] : St D0) (spec_HalfOfWheel.K13 N) = spec_HalfOfWheel.d1 N v0 v1 v2 := by
  unfold spec_HalfOfWheel.d1; exact (spec_HalfOfWheel.o1.run N spec_HalfOfWheel.c244 v0 v1 v2).trans (congr rfl (funext fun w0 => funext fun w1 => funext fun w2 => (spec_HalfOfWheel.loop122 N N) w0 w1 w2))
noncomputable def spec_HalfOfWheel.o0 (N : Nat) (a0 : Int) (a1 : Int) (c1 : Int → Int → Bool → Option spec_HalfOfWheel.R) : Option spec_HalfOfWheel.R :=
 (spec_diHours.g N a0).bind fun r1 =>
 bif (!r1) then
  c1 a0 a1 true
 else
 (spec_l1In.g N a1 0 1000000000).bind fun r2 =>
 c1 a0 a1 (!r2)
theorem spec_HalfOfWheel.o0.run (N : Nat) (H13 : Code) (a0 : Int) (a1 : Int) : runC spec_HalfOfWheel.C (spec_HalfOfWheel.O N) N (.seq spec_HalfOfWheel.c2 (.seq (.seq spec_HalfOfWheel.c12 H13) spec_HalfOfWheel.c7)) 1 (st0 [.one (.int .i64 a0), .one (.int .i64 a1)] [] : St D0) spec_HalfOfWheel.K0 = spec_HalfOfWheel.o0 N a0 a1 ((fun w0 w1 w2 => runC spec_HalfOfWheel.C (spec_HalfOfWheel.O N) N H13 13 (mkSt [(0, .one (.int .i64 w0)), (1, .one (.int .i64 w1)), (15, .one (.bool w2))] [] : St D0) (onN (fun s => spec_HalfOfWheel.C.tidy 6 s (fun s' => runC spec_HalfOfWheel.C (spec_HalfOfWheel.O N) N spec_HalfOfWheel.c7 7 s' spec_HalfOfWheel.K0)) spec_HalfOfWheel.K0))) := by kernel_rfl
noncomputable def spec_HalfOfWheel.B6 (N : Nat) : St D0 → Option spec_HalfOfWheel.R := fun s' => runC spec_HalfOfWheel.C (spec_HalfOfWheel.O N) N spec_HalfOfWheel.c13 13 s' (spec_HalfOfWheel.K13 N)
noncomputable def spec_HalfOfWheel.g (N : Nat) (a0 : Int) (a1 : Int) : Option spec_HalfOfWheel.R := spec_HalfOfWheel.o0 N a0 a1 ((fun w0 w1 w2 => spec_HalfOfWheel.d1 N w0 w1 w2))
theorem spec_HalfOfWheel.c1_0 : spec_HalfOfWheel.c1 = (.seq spec_HalfOfWheel.c2 (.seq (.seq spec_HalfOfWheel.c12 spec_HalfOfWheel.c13) spec_HalfOfWheel.c7)) := by kernel_rfl
theorem spec_HalfOfWheel.g.run (N : Nat) (a0 : Int) (a1 : Int) : runC spec_HalfOfWheel.C (spec_HalfOfWheel.O N) N spec_HalfOfWheel.c1 1 (st0 [.one (.int .i64 a0), .one (.int .i64 a1)] [] : St D0) spec_HalfOfWheel.K0 = spec_HalfOfWheel.g N a0 a1 := by
  rw [spec_HalfOfWheel.c1_0]; unfold spec_HalfOfWheel.g; exact (spec_HalfOfWheel.o0.run N spec_HalfOfWheel.c13 a0 a1).trans (congr rfl (funext fun w0 => funext fun w1 => funext fun w2 => spec_HalfOfWheel.d1.run N w0 w1 w2))
theorem spec_HalfOfWheel.good (N : Nat) (a0 : Int) (a1 : Int) (r : spec_HalfOfWheel.R) (h : spec_HalfOfWheel.g N a0 a1 = some r) : Go.PM.Good Go.Proofs.Try.prog T0 33 [.one (.int .i64 a0), .one (.int .i64 a1)] [] (spec_HalfOfWheel.sig.ret r) (spec_HalfOfWheel.sig.bs r) :=
  good_fn tabOk0 mixed0 spec_HalfOfWheel.sig (spec_HalfOfWheel.E N) Go.Proofs.Try.func33 (by kernel_rfl) (by kernel_rfl) 2130163 0 0 [(12, [0, 1, 15], []), (122, [0, 6, 7], [])] [(false, [.any]), (false, [.any])] (by kernel_rfl) rfl ((spec_HalfOfWheel.g.run N a0 a1).trans h)
noncomputable def spec_HalfOfWheel.ent (N : Nat) : Ent Go.Proofs.Try.prog T0 := mkEnt 33 [(false, [.any]), (false, [.any])] spec_HalfOfWheel.sig (fun t => spec_HalfOfWheel.g N t.1 t.2) (fun t r h => spec_HalfOfWheel.good N t.1 t.2 r h)
end Go.Proofs.Ytpemffldaepbpaa.M

namespace Go.Proofs.Ytpemffldaepbpaa.M
open Go Go.PM Go.Proofs.Ytpemffldaepbpaa.P
set_option linter.unusedVariables false
set_option maxRecDepth 100000
/-! ### spec_l1Cur_half -/
abbrev spec_l1Cur_half.R : Type := Int × Int × List Int × Int × Int
abbrev spec_l1Cur_half.sig : Sig := ⟨[(false, 1)], [(50, 3)], [.ptr 0 0, .sl false 5, .int .i64, .int .u64], [(false, 1), (false, 1)], [(50, 3)], [.int .i64, .int .i64, .sl false 5, .int .i64, .int .u64]⟩
noncomputable def spec_l1Cur_half.C : Cfg D0 := ⟨Go.Proofs.Try.prog, T0, 8221, 0, 23, 1, [(28, [0, 4, 13], [0])]⟩
noncomputable def spec_l1Cur_half.E (N : Nat) : List (Ent Go.Proofs.Try.prog T0) := [spec_l1Cur_hours.ent N, spec_diHours.ent N, spec_l1Cur_one.ent N, spec_l1Cur_among.ent N, spec_l1Cur_pick.ent N]
noncomputable def spec_l1Cur_half.O (N : Nat) : Orc D0 spec_l1Cur_half.R := orcOf (spec_l1Cur_half.E N)
noncomputable def spec_l1Cur_half.K0 : Ex → St D0 → Option spec_l1Cur_half.R := exitK spec_l1Cur_half.C Go.Proofs.Try.f52.results.toList [(false, [.any]), (false, [.any])] (decOut spec_l1Cur_half.sig)
noncomputable def spec_l1Cur_half.c1 : Code := codeAt (Go.Proofs.Try.f52.body.getD .skip) []
noncomputable def spec_l1Cur_half.c2 : Code := codeAt (Go.Proofs.Try.f52.body.getD .skip) [false]
noncomputable def spec_l1Cur_half.c6 : Code := codeAt (Go.Proofs.Try.f52.body.getD .skip) [true, false]
noncomputable def spec_l1Cur_half.c15 : Code := codeAt (Go.Proofs.Try.f52.body.getD .skip) [true, true, true]
noncomputable def spec_l1Cur_half.c28 : Code := codeAt (Go.Proofs.Try.f52.body.getD .skip) [true, true, false, false]
noncomputable def spec_l1Cur_half.c29 : Code := codeAt (Go.Proofs.Try.f52.body.getD .skip) [true, true, false, true]
noncomputable def spec_l1Cur_half.K29 (N : Nat) : Ex → St D0 → Option spec_l1Cur_half.R := (onN (fun s => spec_l1Cur_half.C.tidy 14 s (fun s' => runC spec_l1Cur_half.C (spec_l1Cur_half.O N) N spec_l1Cur_half.c15 15 s' spec_l1Cur_half.K0)) spec_l1Cur_half.K0)
noncomputable def spec_l1Cur_half.o1 (N : Nat) (v0 : Int) (v1 : Bool) (v2 : List Int) (v3 : Int) (v4 : Int) : Option spec_l1Cur_half.R :=
 bif v1 then
  (spec_l1Cur_among.g N ([(-1), 0, 48, 4611686018427387904] : List Int) v2 v3 v4).bind fun r1 =>
  some (v0, r1.1, r1.2.1, r1.2.2.1, r1.2.2.2)
 else
 (spec_l1Cur_pick.g N (w64 (2 * v0)) v2 v3 v4).bind fun r2 =>
 some (v0, r2.1, r2.2.1, r2.2.2.1, r2.2.2.2)
theorem spec_l1Cur_half.o1.run (N : Nat) (v0 : Int) (v1 : Bool) (v2 : List Int) (v3 : Int) (v4 : Int) : runC spec_l1Cur_half.C (spec_l1Cur_half.O N) N spec_l1Cur_half.c29 29 (mkSt [(0, .one (.ptr 0 0)), (4, .one (.int .i64 v0)), (13, .one (.bool v1))] [(0, some (50, [.sl false 5 v2, .int .i64 v3, .int .u64 v4]))] : St D0) (onN (fun s => spec_l1Cur_half.C.tidy 14 s (fun s' => runC spec_l1Cur_half.C (spec_l1Cur_half.O N) N spec_l1Cur_half.c15 15 s' spec_l1Cur_half.K0)) spec_l1Cur_half.K0) = spec_l1Cur_half.o1 N v0 v1 v2 v3 v4 := by kernel_rfl
noncomputable def spec_l1Cur_half.d1 (N : Nat) (v0 : Int) (v1 : Bool) (v2 : List Int) (v3 : Int) (v4 : Int) : Option spec_l1Cur_half.R := spec_l1Cur_half.o1 N v0 v1 v2 v3 v4
theorem spec_l1Cur_half.d1.run (N : Nat) (v0 : Int) (v1 : Bool) (v2 : List Int) (v3 : Int) (v4 : Int) : runC spec_l1Cur_half.C (spec_l1Cur_half.O N) N spec_l1Cur_half.c29 29 (mkSt [(0, .one (.ptr 0 0)), (4, .one (.int .i64 v0)), (13, .one (.bool v1))] [(0, some (50, [.sl false 5 v2, .int .i64 v3, .int .u64 v4]))] : St D0) (spec_l1Cur_half.K29 N) = spec_l1Cur_half.d1 N v0 v1 v2 v3 v4 := by
  exact (spec_l1Cur_half.o1.run N v0 v1 v2 v3 v4).trans rfl
noncomputable def spec_l1Cur_half.o0 (N : Nat) (b0_0 : List Int) (b0_1 : Int) (b0_2 : Int) (c1 : Int → Bool → (List Int) → Int → Int → Option spec_l1Cur_half.R) : Option spec_l1Cur_half.R :=
 (spec_l1Cur_hours.g N b0_0 b0_1 b0_2).bind fun r1 =>
 (spec_diHours.g N r1.1).bind fun r2 =>
 bif (!r2) then
  c1 r1.1 true r1.2.1 r1.2.2.1 r1.2.2.2
 else
 (spec_l1Cur_one.g N 14 r1.2.1 r1.2.2.1 r1.2.2.2).bind fun r3 =>
 c1 r1.1 r3.1 r3.2.1 r3.2.2.1 r3.2.2.2
theorem spec_l1Cur_half.o0.run (N : Nat) (H29 : Code) (b0_0 : List Int) (b0_1 : Int) (b0_2 : Int) : runC spec_l1Cur_half.C (spec_l1Cur_half.O N) N (.seq spec_l1Cur_half.c2 (.seq spec_l1Cur_half.c6 (.seq (.seq spec_l1Cur_half.c28 H29) spec_l1Cur_half.c15))) 1 (st0 [.one (.ptr 0 0)] [(50, [.sl false 5 b0_0, .int .i64 b0_1, .int .u64 b0_2])] : St D0) spec_l1Cur_half.K0 = spec_l1Cur_half.o0 N b0_0 b0_1 b0_2 ((fun w0 w1 w2 w3 w4 => runC spec_l1Cur_half.C (spec_l1Cur_half.O N) N H29 29 (mkSt [(0, .one (.ptr 0 0)), (4, .one (.int .i64 w0)), (13, .one (.bool w1))] [(0, some (50, [.sl false 5 w2, .int .i64 w3, .int .u64 w4]))] : St D0) (onN (fun s => spec_l1Cur_half.C.tidy 14 s (fun s' => runC spec_l1Cur_half.C (spec_l1Cur_half.O N) N spec_l1Cur_half.c15 15 s' spec_l1Cur_half.K0)) spec_l1Cur_half.K0))) := by kernel_rfl
noncomputable def spec_l1Cur_half.B14 (N : Nat) : St D0 → Option spec_l1Cur_half.R := fun s' => runC spec_l1Cur_half.C (spec_l1Cur_half.O N) N spec_l1Cur_half.c29 29 s' (spec_l1Cur_half.K29 N)
noncomputable def spec_l1Cur_half.g (N : Nat) (b0_0 : List Int) (b0_1 : Int) (b0_2 : Int) : Option spec_l1Cur_half.R := spec_l1Cur_half.o0 N b0_0 b0_1 b0_2 ((fun w0 w1 w2 w3 w4 => spec_l1Cur_half.d1 N w0 w1 w2 w3 w4))
theorem spec_l1Cur_half.c1_0 : spec_l1Cur_half.c1 = (.seq spec_l1Cur_half.c2 (.seq spec_l1Cur_half.c6 (.seq (.seq spec_l1Cur_half.c28 spec_l1Cur_half.c29) spec_l1Cur_half.c15))) := by kernel_rfl
theorem spec_l1Cur_half.g.run (N : Nat) (b0_0 : List Int) (b0_1 : Int) (b0_2 : Int) : runC spec_l1Cur_half.C (spec_l1Cur_half.O N) N spec_l1Cur_half.c1 1 (st0 [.one (.ptr 0 0)] [(50, [.sl false 5 b0_0, .int .i64 b0_1, .int .u64 b0_2])] : St D0) spec_l1Cur_half.K0 = spec_l1Cur_half.g N b0_0 b0_1 b0_2 := by
  rw [spec_l1Cur_half.c1_0]; unfold spec_l1Cur_half.g; exact (spec_l1Cur_half.o0.run N spec_l1Cur_half.c29 b0_0 b0_1 b0_2).trans (congr rfl (funext fun w0 => funext fun w1 => funext fun w2 => funext fun w3 => funext fun w4 => spec_l1Cur_half.d1.run N w0 w1 w2 w3 w4))
theorem spec_l1Cur_half.good (N : Nat) (b0_0 : List Int) (b0_1 : Int) (b0_2 : Int) (r : spec_l1Cur_half.R) (h : spec_l1Cur_half.g N b0_0 b0_1 b0_2 = some r) : Go.PM.Good Go.Proofs.Try.prog T0 52 [.one (.ptr 0 0)] [(50, [.sl false 5 b0_0, .int .i64 b0_1, .int .u64 b0_2])] (spec_l1Cur_half.sig.ret r) (spec_l1Cur_half.sig.bs r) :=
  good_fn tabOk0 mixed0 spec_l1Cur_half.sig (spec_l1Cur_half.E N) Go.Proofs.Try.func52 (by kernel_rfl) (by kernel_rfl) 8221 0 1 [(28, [0, 4, 13], [0])] [(false, [.any]), (false, [.any])] (by kernel_rfl) rfl ((spec_l1Cur_half.g.run N b0_0 b0_1 b0_2).trans h)
noncomputable def spec_l1Cur_half.ent (N : Nat) : Ent Go.Proofs.Try.prog T0 := mkEnt 52 [(false, [.any])] spec_l1Cur_half.sig (fun t => spec_l1Cur_half.g N t.2.1 t.2.2.1 t.2.2.2) (fun t r h => spec_l1Cur_half.good N t.2.1 t.2.2.1 t.2.2.2 r h)
end Go.Proofs.Ytpemffldaepbpaa.M

namespace Go.Proofs.Ytpemffldaepbpaa.M
open Go Go.PM Go.Proofs.Ytpemffldaepbpaa.P
set_option linter.unusedVariables false
set_option maxRecDepth 100000
/-! ### spec_DrawStepsBack -/
abbrev spec_DrawStepsBack.R : Type := Int × Int × Int
abbrev spec_DrawStepsBack.sig : Sig := ⟨[(false, 1)], [], [.sl false 5], [(false, 1), (false, 1), (false, 1)], [], [.int .i64, .int .i64, .int .i64]⟩
noncomputable def spec_DrawStepsBack.C : Cfg D0 := ⟨Go.Proofs.Try.prog, T0, 253, 0, 25, 0, []⟩
noncomputable def spec_DrawStepsBack.E (N : Nat) : List (Ent Go.Proofs.Try.prog T0) := [spec_l1Cur_half.ent N, spec_l1Most.ent N, spec_l1Least.ent N, spec_l1Cur_pick.ent N]
noncomputable def spec_DrawStepsBack.O (N : Nat) : Orc D0 spec_DrawStepsBack.R := orcOf (spec_DrawStepsBack.E N)
noncomputable def spec_DrawStepsBack.K0 : Ex → St D0 → Option spec_DrawStepsBack.R := exitK spec_DrawStepsBack.C Go.Proofs.Try.f34.results.toList [(false, [.any]), (false, [.any]), (false, [.any])] (decOut spec_DrawStepsBack.sig)
noncomputable def spec_DrawStepsBack.c1 : Code := codeAt (Go.Proofs.Try.f34.body.getD .skip) []
noncomputable def spec_DrawStepsBack.o0 (N : Nat) (a0 : List Int) : Option spec_DrawStepsBack.R :=
 (spec_l1Cur_half.g N a0 0 0).bind fun r1 =>
 (spec_l1Most.g N 1 (w64 ((w64 (2 * r1.1)) + 1))).bind fun r2 =>
 (spec_l1Least.g N 60 r2).bind fun r3 =>
 (spec_l1Cur_pick.g N r3 r1.2.2.1 r1.2.2.2.1 r1.2.2.2.2).bind fun r4 =>
 some (r1.1, r1.2.1, r4.1)
theorem spec_DrawStepsBack.o0.run (N : Nat) (a0 : List Int) : runC spec_DrawStepsBack.C (spec_DrawStepsBack.O N) N spec_DrawStepsBack.c1 1 (st0 [.one (.sl false 5 a0)] [] : St D0) spec_DrawStepsBack.K0 = spec_DrawStepsBack.o0 N a0 := by kernel_rfl
noncomputable def spec_DrawStepsBack.g (N : Nat) (a0 : List Int) : Option spec_DrawStepsBack.R := spec_DrawStepsBack.o0 N a0
theorem spec_DrawStepsBack.g.run (N : Nat) (a0 : List Int) : runC spec_DrawStepsBack.C (spec_DrawStepsBack.O N) N spec_DrawStepsBack.c1 1 (st0 [.one (.sl false 5 a0)] [] : St D0) spec_DrawStepsBack.K0 = spec_DrawStepsBack.g N a0 := by
  exact (spec_DrawStepsBack.o0.run N a0).trans rfl
theorem spec_DrawStepsBack.good (N : Nat) (a0 : List Int) (r : spec_DrawStepsBack.R) (h : spec_DrawStepsBack.g N a0 = some r) : Go.PM.Good Go.Proofs.Try.prog T0 34 [.one (.sl false 5 a0)] [] (spec_DrawStepsBack.sig.ret r) (spec_DrawStepsBack.sig.bs r) :=
  good_fn tabOk0 mixed0 spec_DrawStepsBack.sig (spec_DrawStepsBack.E N) Go.Proofs.Try.func34 (by kernel_rfl) (by kernel_rfl) 253 0 0 [] [(false, [.any]), (false, [.any]), (false, [.any])] (by kernel_rfl) rfl ((spec_DrawStepsBack.g.run N a0).trans h)
noncomputable def spec_DrawStepsBack.ent (N : Nat) : Ent Go.Proofs.Try.prog T0 := mkEnt 34 [(false, [.ro 5])] spec_DrawStepsBack.sig (fun t => spec_DrawStepsBack.g N t) (fun t r h => spec_DrawStepsBack.good N t r h)
end Go.Proofs.Ytpemffldaepbpaa.M

namespace Go.Proofs.Ytpemffldaepbpaa.M
open Go Go.PM Go.Proofs.Ytpemffldaepbpaa.P
set_option linter.unusedVariables false
set_option maxRecDepth 100000
/-! ### impl_stepsBack -/
abbrev impl_stepsBack.R : Type := Int
abbrev impl_stepsBack.sig : Sig := ⟨[(false, 1), (false, 1), (false, 1)], [], [.int .i64, .int .i64, .int .i64], [(false, 1)], [], [.int .i64]⟩
noncomputable def impl_stepsBack.C : Cfg D0 := ⟨Go.Proofs.Try.prog, T0, 71, 0, 16, 0, []⟩
noncomputable def impl_stepsBack.E (N : Nat) : List (Ent Go.Proofs.Try.prog T0) := []
noncomputable def impl_stepsBack.O (N : Nat) : Orc D0 impl_stepsBack.R := orcOf (impl_stepsBack.E N)
noncomputable def impl_stepsBack.K0 : Ex → St D0 → Option impl_stepsBack.R := exitK impl_stepsBack.C Go.Proofs.Try.f77.results.toList [(false, [.any])] (decOut impl_stepsBack.sig)
noncomputable def impl_stepsBack.c1 : Code := codeAt (Go.Proofs.Try.f77.body.getD .skip) []
noncomputable def impl_stepsBack.o0 (N : Nat) (a0 : Int) (a1 : Int) (a2 : Int) : Option impl_stepsBack.R :=
 bif ((w64 (2 * a0)) == 0) then
  none
 else
 some ((Int.tmod (w64 ((w64 (a1 - a2)) + (w64 (2 * a0)))) (w64 (2 * a0))))
theorem impl_stepsBack.o0.run (N : Nat) (a0 : Int) (a1 : Int) (a2 : Int) : runC impl_stepsBack.C (impl_stepsBack.O N) N impl_stepsBack.c1 1 (st0 [.one (.int .i64 a0), .one (.int .i64 a1), .one (.int .i64 a2)] [] : St D0) impl_stepsBack.K0 = impl_stepsBack.o0 N a0 a1 a2 := by kernel_rfl
noncomputable def impl_stepsBack.g (N : Nat) (a0 : Int) (a1 : Int) (a2 : Int) : Option impl_stepsBack.R := impl_stepsBack.o0 N a0 a1 a2
theorem impl_stepsBack.g.run (N : Nat) (a0 : Int) (a1 : Int) (a2 : Int) : runC impl_stepsBack.C (impl_stepsBack.O N) N impl_stepsBack.c1 1 (st0 [.one (.int .i64 a0), .one (.int .i64 a1), .one (.int .i64 a2)] [] : St D0) impl_stepsBack.K0 = impl_stepsBack.g N a0 a1 a2 := by
  exact (impl_stepsBack.o0.run N a0 a1 a2).trans rfl
theorem impl_stepsBack.good (N : Nat) (a0 : Int) (a1 : Int) (a2 : Int) (r : impl_stepsBack.R) (h : impl_stepsBack.g N a0 a1 a2 = some r) : Go.PM.Good Go.Proofs.Try.prog T0 77 [.one (.int .i64 a0), .one (.int .i64 a1), .one (.int .i64 a2)] [] (impl_stepsBack.sig.ret r) (impl_stepsBack.sig.bs r) :=
  good_fn tabOk0 mixed0 impl_stepsBack.sig (impl_stepsBack.E N) Go.Proofs.Try.func77 (by kernel_rfl) (by kernel_rfl) 71 0 0 [] [(false, [.any])] (by kernel_rfl) rfl ((impl_stepsBack.g.run N a0 a1 a2).trans h)
noncomputable def impl_stepsBack.ent (N : Nat) : Ent Go.Proofs.Try.prog T0 := mkEnt 77 [(false, [.any]), (false, [.any]), (false, [.any])] impl_stepsBack.sig (fun t => impl_stepsBack.g N t.1 t.2.1 t.2.2) (fun t r h => impl_stepsBack.good N t.1 t.2.1 t.2.2 r h)
end Go.Proofs.Ytpemffldaepbpaa.M

namespace Go.Proofs.Ytpemffldaepbpaa.M
open Go Go.PM Go.Proofs.Ytpemffldaepbpaa.P
set_option linter.unusedVariables false
set_option maxRecDepth 100000
/-! ### impl_StepsBack -/
abbrev impl_StepsBack.R : Type := Int × Bool
abbrev impl_StepsBack.sig : Sig := ⟨[(false, 1), (false, 1), (false, 1)], [], [.int .i64, .int .i64, .int .i64], [(false, 1), (false, 1)], [], [.int .i64, .bool]⟩
noncomputable def impl_StepsBack.C : Cfg D0 := ⟨Go.Proofs.Try.prog, T0, 131271, 0, 22, 0, [(12, [0, 1, 2, 17], [])]⟩
noncomputable def impl_StepsBack.E (N : Nat) : List (Ent Go.Proofs.Try.prog T0) := [impl_isHalf.ent N, impl_stepsBack.ent N]
noncomputable def impl_StepsBack.O (N : Nat) : Orc D0 impl_StepsBack.R := orcOf (impl_StepsBack.E N)
noncomputable def impl_StepsBack.K0 : Ex → St D0 → Option impl_StepsBack.R := exitK impl_StepsBack.C Go.Proofs.Try.f35.results.toList [(false, [.any]), (false, [.any])] (decOut impl_StepsBack.sig)
noncomputable def impl_StepsBack.c1 : Code := codeAt (Go.Proofs.Try.f35.body.getD .skip) []
noncomputable def impl_StepsBack.c2 : Code := codeAt (Go.Proofs.Try.f35.body.getD .skip) [false]
noncomputable def impl_StepsBack.c7 : Code := codeAt (Go.Proofs.Try.f35.body.getD .skip) [true, true]
noncomputable def impl_StepsBack.c12 : Code := codeAt (Go.Proofs.Try.f35.body.getD .skip) [true, false, false]
noncomputable def impl_StepsBack.c13 : Code := codeAt (Go.Proofs.Try.f35.body.getD .skip) [true, false, true]
noncomputable def impl_StepsBack.K13 (N : Nat) : Ex → St D0 → Option impl_StepsBack.R := (onN (fun s => impl_StepsBack.C.tidy 6 s (fun s' => runC impl_StepsBack.C (impl_StepsBack.O N) N impl_StepsBack.c7 7 s' impl_StepsBack.K0)) impl_StepsBack.K0)
noncomputable def impl_StepsBack.o1 (N : Nat) (v0 : Int) (v1 : Int) (v2 : Int) (v3 : Bool) : Option impl_StepsBack.R :=
 bif v3 then
  some (0, false)
 else
 (impl_stepsBack.g N v0 v1 v2).bind fun r1 =>
 some (r1, true)
theorem impl_StepsBack.o1.run (N : Nat) (v0 : Int) (v1 : Int) (v2 : Int) (v3 : Bool) : runC impl_StepsBack.C (impl_StepsBack.O N) N impl_StepsBack.c13 13 (mkSt [(0, .one (.int .i64 v0)), (1, .one (.int .i64 v1)), (2, .one (.int .i64 v2)), (17, .one (.bool v3))] [] : St D0) (onN (fun s => impl_StepsBack.C.tidy 6 s (fun s' => runC impl_StepsBack.C (impl_StepsBack.O N) N impl_StepsBack.c7 7 s' impl_StepsBack.K0)) impl_StepsBack.K0) = impl_StepsBack.o1 N v0 v1 v2 v3 := by kernel_rfl
noncomputable def impl_StepsBack.d1 (N : Nat) (v0 : Int) (v1 : Int) (v2 : Int) (v3 : Bool) : Option impl_StepsBack.R := impl_StepsBack.o1 N v0 v1 v2 v3
theorem impl_StepsBack.d1.run (N : Nat) (v0 : Int) (v1 : Int) (v2 : Int) (v3 : Bool) : runC impl_StepsBack.C (impl_StepsBack.O N) N impl_StepsBack.c13 13 (mkSt [(0, .one (.int .i64 v0)), (1, .one (.int .i64 v1)), (2, .one (.int .i64 v2)), (17, .one (.bool v3))] [] : St D0) (impl_StepsBack.K13 N) = impl_StepsBack.d1 N v0 v1 v2 v3 := by
  exact (impl_StepsBack.o1.run N v0 v1 v2 v3).trans rfl
noncomputable def impl_StepsBack.o0 (N : Nat) (a0 : Int) (a1 : Int) (a2 : Int) (c1 : Int → Int → Int → Bool → Option impl_StepsBack.R) : Option impl_StepsBack.R :=
 (impl_isHalf.g N a0 a1).bind fun r1 =>
 bif (!r1) then
  c1 a0 a1 a2 true
 else
 (impl_isHalf.g N a0 a2).bind fun r2 =>
 c1 a0 a1 a2 (!r2)
theorem impl_StepsBack.o0.run (N : Nat) (H13 : Code) (a0 : Int) (a1 : Int) (a2 : Int) : runC impl_StepsBack.C (impl_StepsBack.O N) N (.seq impl_StepsBack.c2 (.seq (.seq impl_StepsBack.c12 H13) impl_StepsBack.c7)) 1 (st0 [.one (.int .i64 a0), .one (.int .i64 a1), .one (.int .i64 a2)] [] : St D0) impl_StepsBack.K0 = impl_StepsBack.o0 N a0 a1 a2 ((fun w0 w1 w2 w3 => runC impl_StepsBack.C (impl_StepsBack.O N) N H13 13 (mkSt [(0, .one (.int .i64 w0)), (1, .one (.int .i64 w1)), (2, .one (.int .i64 w2)), (17, .one (.bool w3))] [] : St D0) (onN (fun s => impl_StepsBack.C.tidy 6 s (fun s' => runC impl_StepsBack.C (impl_StepsBack.O N) N impl_StepsBack.c7 7 s' impl_StepsBack.K0)) impl_StepsBack.K0))) := by kernel_rfl
noncomputable def impl_StepsBack.B6 (N : Nat) : St D0 → Option impl_StepsBack.R := fun s' => runC impl_StepsBack.C (impl_StepsBack.O N) N impl_StepsBack.c13 13 s' (impl_StepsBack.K13 N)
noncomputable def impl_StepsBack.g (N : Nat) (a0 : Int) (a1 : Int) (a2 : Int) : Option impl_StepsBack.R := impl_StepsBack.o0 N a0 a1 a2 ((fun w0 w1 w2 w3 => impl_StepsBack.d1 N w0 w1 w2 w3))
theorem impl_StepsBack.c1_0 : impl_StepsBack.c1 = (.seq impl_StepsBack.c2 (.seq (.seq impl_StepsBack.c12 impl_StepsBack.c13) impl_StepsBack.c7)) := by kernel_rfl
theorem impl_StepsBack.g.run (N : Nat) (a0 : Int) (a1 : Int) (a2 : Int) : runC impl_StepsBack.C (impl_StepsBack.O N) N impl_StepsBack.c1 1 (st0 [.one (.int .i64 a0), .one (.int .i64 a1), .one (.int .i64 a2)] [] : St D0) impl_StepsBack.K0 = impl_StepsBack.g N a0 a1 a2 := by
  rw [impl_StepsBack.c1_0]; unfold impl_StepsBack.g; exact (impl_StepsBack.o0.run N impl_StepsBack.c13 a0 a1 a2).trans (congr rfl (funext fun w0 => funext fun w1 => funext fun w2 => funext fun w3 => impl_StepsBack.d1.run N w0 w1 w2 w3))
theorem impl_StepsBack.good (N : Nat) (a0 : Int) (a1 : Int) (a2 : Int) (r : impl_StepsBack.R) (h : impl_StepsBack.g N a0 a1 a2 = some r) : Go.PM.Good Go.Proofs.Try.prog T0 35 [.one (.int .i64 a0), .one (.int .i64 a1), .one (.int .i64 a2)] [] (impl_StepsBack.sig.ret r) (impl_StepsBack.sig.bs r) :=
  good_fn tabOk0 mixed0 impl_StepsBack.sig (impl_StepsBack.E N) Go.Proofs.Try.func35 (by kernel_rfl) (by kernel_rfl) 131271 0 0 [(12, [0, 1, 2, 17], [])] [(false, [.any]), (false, [.any])] (by kernel_rfl) rfl ((impl_StepsBack.g.run N a0 a1 a2).trans h)
noncomputable def impl_StepsBack.ent (N : Nat) : Ent Go.Proofs.Try.prog T0 := mkEnt 35 [(false, [.any]), (false, [.any]), (false, [.any])] impl_StepsBack.sig (fun t => impl_StepsBack.g N t.1 t.2.1 t.2.2) (fun t r h => impl_StepsBack.good N t.1 t.2.1 t.2.2 r h)
end Go.Proofs.Ytpemffldaepbpaa.M

namespace Go.Proofs.Ytpemffldaepbpaa.M
open Go Go.PM Go.Proofs.Ytpemffldaepbpaa.P
set_option linter.unusedVariables false
set_option maxRecDepth 100000
/-! ### spec_StepsBack -/
abbrev spec_StepsBack.R : Type := Int × Bool
abbrev spec_StepsBack.sig : Sig := ⟨[(false, 1), (false, 1), (false, 1)], [], [.int .i64, .int .i64, .int .i64], [(false, 1), (false, 1)], [], [.int .i64, .bool]⟩
noncomputable def spec_StepsBack.C : Cfg D0 := ⟨Go.Proofs.Try.prog, T0, 131271, 0, 27, 0, [(12, [0, 1, 2, 17], [])]⟩
noncomputable def spec_StepsBack.E (N : Nat) : List (Ent Go.Proofs.Try.prog T0) := [spec_stHalf.ent N]
noncomputable def spec_StepsBack.O (N : Nat) : Orc D0 spec_StepsBack.R := orcOf (spec_StepsBack.E N)
noncomputable def spec_StepsBack.K0 : Ex → St D0 → Option spec_StepsBack.R := exitK spec_StepsBack.C Go.Proofs.Try.f36.results.toList [(false, [.any]), (false, [.any])] (decOut spec_StepsBack.sig)
noncomputable def spec_StepsBack.c1 : Code := codeAt (Go.Proofs.Try.f36.body.getD .skip) []
noncomputable def spec_StepsBack.c2 : Code := codeAt (Go.Proofs.Try.f36.body.getD .skip) [false]
noncomputable def spec_StepsBack.c7 : Code := codeAt (Go.Proofs.Try.f36.body.getD .skip) [true, true]
noncomputable def spec_StepsBack.c12 : Code := codeAt (Go.Proofs.Try.f36.body.getD .skip) [true, false, false]
noncomputable def spec_StepsBack.c13 : Code := codeAt (Go.Proofs.Try.f36.body.getD .skip) [true, false, true]
noncomputable def spec_StepsBack.K13 (N : Nat) : Ex → St D0 → Option spec_StepsBack.R := (onN (fun s => spec_StepsBack.C.tidy 6 s (fun s' => runC spec_StepsBack.C (spec_StepsBack.O N) N spec_StepsBack.c7 7 s' spec_StepsBack.K0)) spec_StepsBack.K0)
noncomputable def spec_StepsBack.o1 (N : Nat) (v0 : Int) (v1 : Int) (v2 : Int) (v3 : Bool) : Option spec_StepsBack.R :=
 bif v3 then
  some (0, false)
 else
 bif ((w64 (2 * v0)) == 0) then
  none
 else
 some ((Int.tmod (w64 ((w64 (v1 - v2)) + (w64 (2 * v0)))) (w64 (2 * v0))), true)
theorem spec_StepsBack.o1.run (N : Nat) (v0 : Int) (v1 : Int) (v2 : Int) (v3 : Bool) : runC spec_StepsBack.C (spec_StepsBack.O N) N spec_StepsBack.c13 13 (mkSt [(0, .one (.int .i64 v0)), (1, .one (.int .i64 v1)), (2, .one (.int .i64 v2)), (17, .one (.bool v3))] [] : St D0) (onN (fun s => spec_StepsBack.C.tidy 6 s (fun s' => runC spec_StepsBack.C (spec_StepsBack.O N) N spec_StepsBack.c7 7 s' spec_StepsBack.K0)) spec_StepsBack.K0) = spec_StepsBack.o1 N v0 v1 v2 v3 := by kernel_rfl
noncomputable def spec_StepsBack.d1 (N : Nat) (v0 : Int) (v1 : Int) (v2 : Int) (v3 : Bool) : Option spec_StepsBack.R := spec_StepsBack.o1 N v0 v1 v2 v3
theorem spec_StepsBack.d1.run (N : Nat) (v0 : Int) (v1 : Int) (v2 : Int) (v3 : Bool) : runC spec_StepsBack.C (spec_StepsBack.O N) N spec_StepsBack.c13 13 (mkSt [(0, .one (.int .i64 v0)), (1, .one (.int .i64 v1)), (2, .one (.int .i64 v2)), (17, .one (.bool v3))] [] : St D0) (spec_StepsBack.K13 N) = spec_StepsBack.d1 N v0 v1 v2 v3 := by
  exact (spec_StepsBack.o1.run N v0 v1 v2 v3).trans rfl
noncomputable def spec_StepsBack.o0 (N : Nat) (a0 : Int) (a1 : Int) (a2 : Int) (c1 : Int → Int → Int → Bool → Option spec_StepsBack.R) : Option spec_StepsBack.R :=
 (spec_stHalf.g N a0 a1).bind fun r1 =>
 bif (!r1) then
  c1 a0 a1 a2 true
 else
 (spec_stHalf.g N a0 a2).bind fun r2 =>
 c1 a0 a1 a2 (!r2)
theorem spec_StepsBack.o0.run (N : Nat) (H13 : Code) (a0 : Int) (a1 : Int) (a2 : Int) : runC spec_StepsBack.C (spec_StepsBack.O N) N (.seq spec_StepsBack.c2 (.seq (.seq spec_StepsBack.c12 H13) spec_StepsBack.c7)) 1 (st0 [.one (.int .i64 a0), .one (.int .i64 a1), .one (.int .i64 a2)] [] : St D0) spec_StepsBack.K0 = spec_StepsBack.o0 N a0 a1 a2 ((fun w0 w1 w2 w3 => runC spec_StepsBack.C (spec_StepsBack.O N) N H13 13 (mkSt [(0, .one (.int .i64 w0)), (1, .one (.int .i64 w1)), (2, .one (.int .i64 w2)), (17, .one (.bool w3))] [] : St D0) (onN (fun s => spec_StepsBack.C.tidy 6 s (fun s' => runC spec_StepsBack.C (spec_StepsBack.O N) N spec_StepsBack.c7 7 s' spec_StepsBack.K0)) spec_StepsBack.K0))) := by kernel_rfl
noncomputable def spec_StepsBack.B6 (N : Nat) : St D0 → Option spec_StepsBack.R := fun s' => runC spec_StepsBack.C (spec_StepsBack.O N) N spec_StepsBack.c13 13 s' (spec_StepsBack.K13 N)
noncomputable def spec_StepsBack.g (N : Nat) (a0 : Int) (a1 : Int) (a2 : Int) : Option spec_StepsBack.R := spec_StepsBack.o0 N a0 a1 a2 ((fun w0 w1 w2 w3 => spec_StepsBack.d1 N w0 w1 w2 w3))
theorem spec_StepsBack.c1_0 : spec_StepsBack.c1 = (.seq spec_StepsBack.c2 (.seq (.seq spec_StepsBack.c12 spec_StepsBack.c13) spec_StepsBack.c7)) := by kernel_rfl
theorem spec_StepsBack.g.run (N : Nat) (a0 : Int) (a1 : Int) (a2 : Int) : runC spec_StepsBack.C (spec_StepsBack.O N) N spec_StepsBack.c1 1 (st0 [.one (.int .i64 a0), .one (.int .i64 a1), .one (.int .i64 a2)] [] : St D0) spec_StepsBack.K0 = spec_StepsBack.g N a0 a1 a2 := by
  rw [spec_StepsBack.c1_0]; unfold spec_StepsBack.g; exact (spec_StepsBack.o0.run N spec_StepsBack.c13 a0 a1 a2).trans (congr rfl (funext fun w0 => funext fun w1 => funext fun w2 => funext fun w3 => spec_StepsBack.d1.run N w0 w1 w2 w3))
theorem spec_StepsBack.good (N : Nat) (a0 : Int) (a1 : Int) (a2 : Int) (r : spec_StepsBack.R) (h : spec_StepsBack.g N a0 a1 a2 = some r) : Go.PM.Good Go.Proofs.Try.prog T0 36 [.one (.int .i64 a0), .one (.int .i64 a1), .one (.int .i64 a2)] [] (spec_StepsBack.sig.ret r) (spec_StepsBack.sig.bs r) :=
  good_fn tabOk0 mixed0 spec_StepsBack.sig (spec_StepsBack.E N) Go.Proofs.Try.func36 (by kernel_rfl) (by kernel_rfl) 131271 0 0 [(12, [0, 1, 2, 17], [])] [(false, [.any]), (false, [.any])] (by kernel_rfl) rfl ((spec_StepsBack.g.run N a0 a1 a2).trans h)
noncomputable def spec_StepsBack.ent (N : Nat) : Ent Go.Proofs.Try.prog T0 := mkEnt 36 [(false, [.any]), (false, [.any]), (false, [.any])] spec_StepsBack.sig (fun t => spec_StepsBack.g N t.1 t.2.1 t.2.2) (fun t r h => spec_StepsBack.good N t.1 t.2.1 t.2.2 r h)
end Go.Proofs.Ytpemffldaepbpaa.M

namespace Go.Proofs.Ytpemffldaepbpaa.M
open Go Go.PM Go.Proofs.Ytpemffldaepbpaa.P
set_option linter.unusedVariables false
set_option maxRecDepth 100000
/-! ### impl_StrokesToMend -/
abbrev impl_StrokesToMend.R : Type := Int × Bool
abbrev impl_StrokesToMend.sig : Sig := ⟨[(false, 1), (false, 1), (false, 1)], [], [.int .i64, .int .i64, .int .i64], [(false, 1), (false, 1)], [], [.int .i64, .bool]⟩
noncomputable def impl_StrokesToMend.C : Cfg D0 := ⟨Go.Proofs.Try.prog, T0, 263111, 0, 30, 0, []⟩
noncomputable def impl_StrokesToMend.E (N : Nat) : List (Ent Go.Proofs.Try.prog T0) := [impl_StepsBack.ent N, impl_before.ent N]
noncomputable def impl_StrokesToMend.O (N : Nat) : Orc D0 impl_StrokesToMend.R := orcOf (impl_StrokesToMend.E N)
noncomputable def impl_StrokesToMend.K0 : Ex → St D0 → Option impl_StrokesToMend.R := exitK impl_StrokesToMend.C Go.Proofs.Try.f37.results.toList [(false, [.any]), (false, [.any])] (decOut impl_StrokesToMend.sig)
noncomputable def impl_StrokesToMend.c1 : Code := codeAt (Go.Proofs.Try.f37.body.getD .skip) []
noncomputable def impl_StrokesToMend.o0 (N : Nat) (a0 : Int) (a1 : Int) (a2 : Int) : Option impl_StrokesToMend.R :=
 (impl_StepsBack.g N a0 a1 a2).bind fun r1 =>
 bif (!r1.2) then
  some (0, false)
 else
 (impl_before.g N a0 (w64 ((w64 (a2 + r1.1)) + 1))).bind fun r2 =>
 (impl_before.g N a0 (w64 (a2 + 1))).bind fun r3 =>
 some ((w64 (r2 - r3)), true)
theorem impl_StrokesToMend.o0.run (N : Nat) (a0 : Int) (a1 : Int) (a2 : Int) : runC impl_StrokesToMend.C (impl_StrokesToMend.O N) N impl_StrokesToMend.c1 1 (st0 [.one (.int .i64 a0), .one (.int .i64 a1), .one (.int .i64 a2)] [] : St D0) impl_StrokesToMend.K0 = impl_StrokesToMend.o0 N a0 a1 a2 := by kernel_rfl
noncomputable def impl_StrokesToMend.g (N : Nat) (a0 : Int) (a1 : Int) (a2 : Int) : Option impl_StrokesToMend.R := impl_StrokesToMend.o0 N a0 a1 a2
theorem impl_StrokesToMend.g.run (N : Nat) (a0 : Int) (a1 : Int) (a2 : Int) : runC impl_StrokesToMend.C (impl_StrokesToMend.O N) N impl_StrokesToMend.c1 1 (st0 [.one (.int .i64 a0), .one (.int .i64 a1), .one (.int .i64 a2)] [] : St D0) impl_StrokesToMend.K0 = impl_StrokesToMend.g N a0 a1 a2 := by
  exact (impl_StrokesToMend.o0.run N a0 a1 a2).trans rfl
theorem impl_StrokesToMend.good (N : Nat) (a0 : Int) (a1 : Int) (a2 : Int) (r : impl_StrokesToMend.R) (h : impl_StrokesToMend.g N a0 a1 a2 = some r) : Go.PM.Good Go.Proofs.Try.prog T0 37 [.one (.int .i64 a0), .one (.int .i64 a1), .one (.int .i64 a2)] [] (impl_StrokesToMend.sig.ret r) (impl_StrokesToMend.sig.bs r) :=
  good_fn tabOk0 mixed0 impl_StrokesToMend.sig (impl_StrokesToMend.E N) Go.Proofs.Try.func37 (by kernel_rfl) (by kernel_rfl) 263111 0 0 [] [(false, [.any]), (false, [.any])] (by kernel_rfl) rfl ((impl_StrokesToMend.g.run N a0 a1 a2).trans h)
noncomputable def impl_StrokesToMend.ent (N : Nat) : Ent Go.Proofs.Try.prog T0 := mkEnt 37 [(false, [.any]), (false, [.any]), (false, [.any])] impl_StrokesToMend.sig (fun t => impl_StrokesToMend.g N t.1 t.2.1 t.2.2) (fun t r h => impl_StrokesToMend.good N t.1 t.2.1 t.2.2 r h)
end Go.Proofs.Ytpemffldaepbpaa.M

namespace Go.Proofs.Ytpemffldaepbpaa.M
open Go Go.PM Go.Proofs.Ytpemffldaepbpaa.P
set_option linter.unusedVariables false
set_option maxRecDepth 100000
/-! ### spec_StrokesToMend -/
abbrev spec_StrokesToMend.R : Type := Int × Bool
abbrev spec_StrokesToMend.sig : Sig := ⟨[(false, 1), (false, 1), (false, 1)], [], [.int .i64, .int .i64, .int .i64], [(false, 1), (false, 1)], [], [.int .i64, .bool]⟩
noncomputable def spec_StrokesToMend.C : Cfg D0 := ⟨Go.Proofs.Try.prog, T0, 2359751, 0, 33, 0, [(12, [0, 1, 2, 18], []), (60, [0, 1, 2, 8], [])]⟩
noncomputable def spec_StrokesToMend.E (N : Nat) : List (Ent Go.Proofs.Try.prog T0) := [spec_stHalf.ent N, spec_stAt.ent N]
noncomputable def spec_StrokesToMend.O (N : Nat) : Orc D0 spec_StrokesToMend.R := orcOf (spec_StrokesToMend.E N)
noncomputable def spec_StrokesToMend.K0 : Ex → St D0 → Option spec_StrokesToMend.R := exitK spec_StrokesToMend.C Go.Proofs.Try.f38.results.toList [(false, [.any]), (false, [.any])] (decOut spec_StrokesToMend.sig)
noncomputable def spec_StrokesToMend.c1 : Code := codeAt (Go.Proofs.Try.f38.body.getD .skip) []
noncomputable def spec_StrokesToMend.c2 : Code := codeAt (Go.Proofs.Try.f38.body.getD .skip) [false]
noncomputable def spec_StrokesToMend.c7 : Code := codeAt (Go.Proofs.Try.f38.body.getD .skip) [true, true]
noncomputable def spec_StrokesToMend.c12 : Code := codeAt (Go.Proofs.Try.f38.body.getD .skip) [true, false, false]
noncomputable def spec_StrokesToMend.c13 : Code := codeAt (Go.Proofs.Try.f38.body.getD .skip) [true, false, true]
noncomputable def spec_StrokesToMend.c14 : Code := codeAt (Go.Proofs.Try.f38.body.getD .skip) [true, true, false]
noncomputable def spec_StrokesToMend.c31 : Code := codeAt (Go.Proofs.Try.f38.body.getD .skip) [true, true, true, true]
noncomputable def spec_StrokesToMend.c120 : Code := codeAt (Go.Proofs.Try.f38.body.getD .skip) [true, true, true, false, false, false]
noncomputable def spec_StrokesToMend.K120 (N : Nat) (Kn60 : St D0 → Option spec_StrokesToMend.R) : Ex → St D0 → Option spec_StrokesToMend.R := (onN (fun s => spec_StrokesToMend.C.tidy 60 s ((onN Kn60 (blockK 0 (onN (fun s => spec_StrokesToMend.C.tidy 30 s (fun s' => runC spec_StrokesToMend.C (spec_StrokesToMend.O N) N spec_StrokesToMend.c31 31 s' spec_StrokesToMend.K0)) spec_StrokesToMend.K0))) .normal)) (onN Kn60 (blockK 0 (onN (fun s => spec_StrokesToMend.C.tidy 30 s (fun s' => runC spec_StrokesToMend.C (spec_StrokesToMend.O N) N spec_StrokesToMend.c31 31 s' spec_StrokesToMend.K0)) spec_StrokesToMend.K0))))
noncomputable def spec_StrokesToMend.o2 (N : Nat) (v0 : Int) (v1 : Int) (v2 : Int) (v3 : Int) (c2 : Int → Int → Int → Int → Option spec_StrokesToMend.R) : Option spec_StrokesToMend.R :=
 bif (v2 != v1) then
  bif ((w64 (2 * v0)) == 0) then
   none
  else
  (spec_stAt.g N v0 (Int.tmod (w64 (v2 + 1)) (w64 (2 * v0)))).bind fun r1 =>
  c2 v0 v1 (Int.tmod (w64 (v2 + 1)) (w64 (2 * v0))) (w64 (v3 + r1))
 else
 some (v3, true)
theorem spec_StrokesToMend.o2.run (N : Nat) (Kn60 : St D0 → Option spec_StrokesToMend.R) (v0 : Int) (v1 : Int) (v2 : Int) (v3 : Int) : runC spec_StrokesToMend.C (spec_StrokesToMend.O N) N spec_StrokesToMend.c120 120 (mkSt [(0, .one (.int .i64 v0)), (1, .one (.int .i64 v1)), (2, .one (.int .i64 v2)), (8, .one (.int .i64 v3))] [] : St D0) (onN (fun s => spec_StrokesToMend.C.tidy 60 s ((onN Kn60 (blockK 0 (onN (fun s => spec_StrokesToMend.C.tidy 30 s (fun s' => runC spec_StrokesToMend.C (spec_StrokesToMend.O N) N spec_StrokesToMend.c31 31 s' spec_StrokesToMend.K0)) spec_StrokesToMend.K0))) .normal)) (onN Kn60 (blockK 0 (onN (fun s => spec_StrokesToMend.C.tidy 30 s (fun s' => runC spec_StrokesToMend.C (spec_StrokesToMend.O N) N spec_StrokesToMend.c31 31 s' spec_StrokesToMend.K0)) spec_StrokesToMend.K0)))) = spec_StrokesToMend.o2 N v0 v1 v2 v3 ((fun w0 w1 w2 w3 => Kn60 (mkSt [(0, .one (.int .i64 w0)), (1, .one (.int .i64 w1)), (2, .one (.int .i64 w2)), (8, .one (.int .i64 w3))] [] : St D0))) := by kernel_rfl
noncomputable def spec_StrokesToMend.d2 (N : Nat) (v0 : Int) (v1 : Int) (v2 : Int) (v3 : Int) (c2 : Int → Int → Int → Int → Option spec_StrokesToMend.R) : Option spec_StrokesToMend.R := spec_StrokesToMend.o2 N v0 v1 v2 v3 c2
theorem spec_StrokesToMend.d2.run (N : Nat) (Kn60 : St D0 → Option spec_StrokesToMend.R) (v0 : Int) (v1 : Int) (v2 : Int) (v3 : Int) : runC spec_StrokesToMend.C (spec_StrokesToMend.O N) N spec_StrokesToMend.c120 120 (mkSt [(0, .one (.int .i64 v0)), (1, .one (.int .i64 v1)), (2, .one (.int .i64 v2)), (8, .one (.int .i64 v3))] [] : St D0) (spec_StrokesToMend.K120 N Kn60) = spec_StrokesToMend.d2 N v0 v1 v2 v3 ((fun w0 w1 w2 w3 => Kn60 (mkSt [(0, .one (.int .i64 w0)), (1, .one (.int .i64 w1)), (2, .one (.int .i64 w2)), (8, .one (.int .i64 w3))] [] : St D0))) := by
  exact (spec_StrokesToMend.o2.run N Kn60 v0 v1 v2 v3).trans rfl
noncomputable def spec_StrokesToMend.K60 (N : Nat) : Ex → St D0 → Option spec_StrokesToMend.R := (blockK 0 (onN (fun s => spec_StrokesToMend.C.tidy 30 s (fun s' => runC spec_StrokesToMend.C (spec_StrokesToMend.O N) N spec_StrokesToMend.c31 31 s' spec_StrokesToMend.K0)) spec_StrokesToMend.K0))
noncomputable def spec_StrokesToMend.l2 (N : Nat) : Nat → Int → Int → Int → Int → Option spec_StrokesToMend.R
  | 0, _, _, _, _ => none
  | n + 1, v0, v1, v2, v3 => spec_StrokesToMend.d2 N v0 v1 v2 v3 ((fun w0 w1 w2 w3 => spec_StrokesToMend.l2 N n w0 w1 w2 w3))
theorem spec_StrokesToMend.loop60 (N : Nat) : ∀ n, (∀ (v0 : Int) (v1 : Int) (v2 : Int) (v3 : Int), iter (loopF spec_StrokesToMend.C (spec_StrokesToMend.O N) N spec_StrokesToMend.c120 60) n (mkSt [(0, .one (.int .i64 v0)), (1, .one (.int .i64 v1)), (2, .one (.int .i64 v2)), (8, .one (.int .i64 v3))] [] : St D0) (spec_StrokesToMend.K60 N) = spec_StrokesToMend.l2 N n v0 v1 v2 v3)
  | 0 => (fun v0 v1 v2 v3 => rfl)
  | n + 1 => (fun v0 v1 v2 v3 => (spec_StrokesToMend.d2.run N (fun s => iter (loopF spec_StrokesToMend.C (spec_StrokesToMend.O N) N spec_StrokesToMend.c120 60) n s (spec_StrokesToMend.K60 N)) v0 v1 v2 v3).trans (show _ = spec_StrokesToMend.d2 N v0 v1 v2 v3 ((fun w0 w1 w2 w3 => spec_StrokesToMend.l2 N n w0 w1 w2 w3)) from (congr rfl (funext fun w0 => funext fun w1 => funext fun w2 => funext fun w3 => (spec_StrokesToMend.loop60 N n) w0 w1 w2 w3))))
noncomputable def spec_StrokesToMend.K13 (N : Nat) : Ex → St D0 → Option spec_StrokesToMend.R := (onN (fun s => spec_StrokesToMend.C.tidy 6 s (fun s' => runC spec_StrokesToMend.C (spec_StrokesToMend.O N) N spec_StrokesToMend.c7 7 s' spec_StrokesToMend.K0)) spec_StrokesToMend.K0)
noncomputable def spec_StrokesToMend.o1 (N : Nat) (v0 : Int) (v1 : Int) (v2 : Int) (v3 : Bool) (c2 : Int → Int → Int → Int → Option spec_StrokesToMend.R) : Option spec_StrokesToMend.R :=
 bif v3 then
  some (0, false)
 else
 c2 v0 v1 v2 0
theorem spec_StrokesToMend.o1.run (N : Nat) (H120 : Code) (v0 : Int) (v1 : Int) (v2 : Int) (v3 : Bool) : runC spec_StrokesToMend.C (spec_StrokesToMend.O N) N spec_StrokesToMend.c13 13 (mkSt [(0, .one (.int .i64 v0)), (1, .one (.int .i64 v1)), (2, .one (.int .i64 v2)), (18, .one (.bool v3))] [] : St D0) (onN (fun s => spec_StrokesToMend.C.tidy 6 s (fun s' => runC spec_StrokesToMend.C (spec_StrokesToMend.O N) N (.seq spec_StrokesToMend.c14 (.seq (.block 0 (.loop H120)) spec_StrokesToMend.c31)) 7 s' spec_StrokesToMend.K0)) spec_StrokesToMend.K0) = spec_StrokesToMend.o1 N v0 v1 v2 v3 ((fun w0 w1 w2 w3 => iter (loopF spec_StrokesToMend.C (spec_StrokesToMend.O N) N H120 60) N (mkSt [(0, .one (.int .i64 w0)), (1, .one (.int .i64 w1)), (2, .one (.int .i64 w2)), (8, .one (.int .i64 w3))] [] : St D0) (blockK 0 (onN (fun s => spec_StrokesToMend.C.tidy 30 s (fun s' => runC spec_StrokesToMend.C (spec_StrokesToMend.O N) N spec_StrokesToMend.c31 31 s' spec_StrokesToMend.K0)) spec_StrokesToMend.K0)))) := by kernel_rfl
noncomputable def spec_StrokesToMend.d1 (N : Nat) (v0 : Int) (v1 : Int) (v2 : Int) (v3 : Bool) : Option spec_StrokesToMend.R := spec_StrokesToMend.o1 N v0 v1 v2 v3 ((fun w0 w1 w2 w3 => spec_StrokesToMend.l2 N N w0 w1 w2 w3))
theorem spec_StrokesToMend.d1.run (N : Nat) (v0 : Int) (v1 : Int) (v2 : Int) (v3 : Bool) : runC spec_StrokesToMend.C (spec_StrokesToMend.O N) N spec_StrokesToMend.c13 13 (mkSt [(0, .one (.int .i64 v0)), (1, .one (.int .i64 v1)), (2, .one (.int .i64 v2)), (18, .one (.bool v3))] [] : St D0) (spec_StrokesToMend.K13 N) = spec_StrokesToMend.d1 N v0 v1 v2 v3 := by
  unfold spec_StrokesToMend.d1; exact (spec_StrokesToMend.o1.run N spec_StrokesToMend.c120 v0 v1 v2 v3).trans (congr rfl (funext fun w0 => funext fun w1 => funext fun w2 => funext fun w3 => (spec_StrokesToMend.loop60 N N) w0 w1 w2 w3))
noncomputable def spec_StrokesToMend.o0 (N : Nat) (a0 : Int) (a1 : Int) (a2 : Int) (c1 : Int → Int → Int → Bool → Option spec_StrokesToMend.R) : Option spec_StrokesToMend.R :=
 (spec_stHalf.g N a0 a1).bind fun r1 =>
 bif (!r1) then
  c1 a0 a1 a2 true
 else
 (spec_stHalf.g N a0 a2).bind fun r2 =>
 c1 a0 a1 a2 (!r2)
theorem spec_StrokesToMend.o0.run (N : Nat) (H13 : Code) (a0 : Int) (a1 : Int) (a2 : Int) : runC spec_StrokesToMend.C (spec_StrokesToMend.O N) N (.seq spec_StrokesToMend.c2 (.seq (.seq spec_StrokesToMend.c12 H13) spec_StrokesToMend.c7)) 1 (st0 [.one (.int .i64 a0), .one (.int .i64 a1), .one (.int .i64 a2)] [] : St D0) spec_StrokesToMend.K0 = spec_StrokesToMend.o0 N a0 a1 a2 ((fun w0 w1 w2 w3 => runC spec_StrokesToMend.C (spec_StrokesToMend.O N) N H13 13 (mkSt [(0, .one (.int .i64 w0)), (1, .one (.int .i64 w1)), (2, .one (.int .i64 w2)), (18, .one (.bool w3))] [] : St D0) (onN (fun s => spec_StrokesToMend.C.tidy 6 s (fun s' => runC spec_StrokesToMend.C (spec_StrokesToMend.O N) N spec_StrokesToMend.c7 7 s' spec_StrokesToMend.K0)) spec_StrokesToMend.K0))) := by kernel_rfl
noncomputable def spec_StrokesToMend.B6 (N : Nat) : St D0 → Option spec_StrokesToMend.R := fun s' => runC spec_StrokesToMend.C (spec_StrokesToMend.O N) N spec_StrokesToMend.c13 13 s' (spec_StrokesToMend.K13 N)
noncomputable def spec_StrokesToMend.g (N : Nat) (a0 : Int) (a1 : Int) (a2 : Int) : Option spec_StrokesToMend.R := spec_StrokesToMend.o0 N a0 a1 a2 ((fun w0 w1 w2 w3 => spec_StrokesToMend.d1 N w0 w1 w2 w3))
theorem spec_StrokesToMend.c1_0 : spec_StrokesToMend.c1 = (.seq spec_StrokesToMend.c2 (.seq (.seq spec_StrokesToMend.c12 spec_StrokesToMend.c13) spec_StrokesToMend.c7)) := by kernel_rfl
theorem spec_StrokesToMend.g.run (N : Nat) (a0 : Int) (a1 : Int) (a2 : Int) : runC spec_StrokesToMend.C (spec_StrokesToMend.O N) N spec_StrokesToMend.c1 1 (st0 [.one (.int .i64 a0), .one (.int .i64 a1), .one (.int .i64 a2)] [] : St D0) spec_StrokesToMend.K0 = spec_StrokesToMend.g N a0 a1 a2 := by
  rw [spec_StrokesToMend.c1_0]; unfold spec_StrokesToMend.g; exact (spec_StrokesToMend.o0.run N spec_StrokesToMend.c13 a0 a1 a2).trans (congr rfl (funext fun w0 => funext fun w1 => funext fun w2 => funext fun w3 => spec_StrokesToMend.d1.run N w0 w1 w2 w3))
theorem spec_StrokesToMend.good (N : Nat) (a0 : Int) (a1 : Int) (a2 : Int) (r : spec_StrokesToMend.R) (h : spec_StrokesToMend.g N a0 a1 a2 = some r) : Go.PM.Good Go.Proofs.Try.prog T0 38 [.one (.int .i64 a0), .one (.int .i64 a1), .one (.int .i64 a2)] [] (spec_StrokesToMend.sig.ret r) (spec_StrokesToMend.sig.bs r) :=
  good_fn tabOk0 mixed0 spec_StrokesToMend.sig (spec_StrokesToMend.E N) Go.Proofs.Try.func38 (by kernel_rfl) (by kernel_rfl) 2359751 0 0 [(12, [0, 1, 2, 18], []), (60, [0, 1, 2, 8], [])] [(false, [.any]), (false, [.any])] (by kernel_rfl) rfl ((spec_StrokesToMend.g.run N a0 a1 a2).trans h)
noncomputable def spec_StrokesToMend.ent (N : Nat) : Ent Go.Proofs.Try.prog T0 := mkEnt 38 [(false, [.any]), (false, [.any]), (false, [.any])] spec_StrokesToMend.sig (fun t => spec_StrokesToMend.g N t.1 t.2.1 t.2.2) (fun t r h => spec_StrokesToMend.good N t.1 t.2.1 t.2.2 r h)
end Go.Proofs.Ytpemffldaepbpaa.M

namespace Go.Proofs.Ytpemffldaepbpaa.M
open Go Go.PM Go.Proofs.Ytpemffldaepbpaa.P
set_option linter.unusedVariables false
set_option maxRecDepth 100000
/-! ### spec_DrawStrokesBetween -/
abbrev spec_DrawStrokesBetween.R : Type := Int × Int × Int
abbrev spec_DrawStrokesBetween.sig : Sig := ⟨[(false, 1)], [], [.sl false 5], [(false, 1), (false, 1), (false, 1)], [], [.int .i64, .int .i64, .int .i64]⟩
noncomputable def spec_DrawStrokesBetween.C : Cfg D0 := ⟨Go.Proofs.Try.prog, T0, 1085, 0, 25, 0, []⟩
noncomputable def spec_DrawStrokesBetween.E (N : Nat) : List (Ent Go.Proofs.Try.prog T0) := [spec_l1Cur_one.ent N, spec_l1Cur_hours.ent N, spec_l1Cur_among.ent N, spec_l1Cur_pick.ent N]
noncomputable def spec_DrawStrokesBetween.O (N : Nat) : Orc D0 spec_DrawStrokesBetween.R := orcOf (spec_DrawStrokesBetween.E N)
noncomputable def spec_DrawStrokesBetween.K0 : Ex → St D0 → Option spec_DrawStrokesBetween.R := exitK spec_DrawStrokesBetween.C Go.Proofs.Try.f21.results.toList [(false, [.any]), (false, [.any]), (false, [.any])] (decOut spec_DrawStrokesBetween.sig)
noncomputable def spec_DrawStrokesBetween.c1 : Code := codeAt (Go.Proofs.Try.f21.body.getD .skip) []
noncomputable def spec_DrawStrokesBetween.o0 (N : Nat) (a0 : List Int) : Option spec_DrawStrokesBetween.R :=
 (spec_l1Cur_one.g N 12 a0 0 0).bind fun r1 =>
 bif r1.1 then
  (spec_l1Cur_hours.g N r1.2.1 r1.2.2.1 r1.2.2.2).bind fun r2 =>
  (spec_l1Cur_among.g N ([(-1), 0, 1000000, 1000001] : List Int) r2.2.1 r2.2.2.1 r2.2.2.2).bind fun r3 =>
  (spec_l1Cur_among.g N ([0, 999999, 1000000, 1000001] : List Int) r3.2.1 r3.2.2.1 r3.2.2.2).bind fun r4 =>
  some (r2.1, r3.1, r4.1)
 else
 (spec_l1Cur_hours.g N r1.2.1 r1.2.2.1 r1.2.2.2).bind fun r5 =>
 (spec_l1Cur_pick.g N 100 r5.2.1 r5.2.2.1 r5.2.2.2).bind fun r6 =>
 (spec_l1Cur_pick.g N 150 r6.2.1 r6.2.2.1 r6.2.2.2).bind fun r7 =>
 some (r5.1, r6.1, r7.1)
theorem spec_DrawStrokesBetween.o0.run (N : Nat) (a0 : List Int) : runC spec_DrawStrokesBetween.C (spec_DrawStrokesBetween.O N) N spec_DrawStrokesBetween.c1 1 (st0 [.one (.sl false 5 a0)] [] : St D0) spec_DrawStrokesBetween.K0 = spec_DrawStrokesBetween.o0 N a0 := by kernel_rfl
noncomputable def spec_DrawStrokesBetween.g (N : Nat) (a0 : List Int) : Option spec_DrawStrokesBetween.R := spec_DrawStrokesBetween.o0 N a0
theorem spec_DrawStrokesBetween.g.run (N : Nat) (a0 : List Int) : runC spec_DrawStrokesBetween.C (spec_DrawStrokesBetween.O N) N spec_DrawStrokesBetween.c1 1 (st0 [.one (.sl false 5 a0)] [] : St D0) spec_DrawStrokesBetween.K0 = spec_DrawStrokesBetween.g N a0 := by
  exact (spec_DrawStrokesBetween.o0.run N a0).trans rfl
theorem spec_DrawStrokesBetween.good (N : Nat) (a0 : List Int) (r : spec_DrawStrokesBetween.R) (h : spec_DrawStrokesBetween.g N a0 = some r) : Go.PM.Good Go.Proofs.Try.prog T0 21 [.one (.sl false 5 a0)] [] (spec_DrawStrokesBetween.sig.ret r) (spec_DrawStrokesBetween.sig.bs r) :=
  good_fn tabOk0 mixed0 spec_DrawStrokesBetween.sig (spec_DrawStrokesBetween.E N) Go.Proofs.Try.func21 (by kernel_rfl) (by kernel_rfl) 1085 0 0 [] [(false, [.any]), (false, [.any]), (false, [.any])] (by kernel_rfl) rfl ((spec_DrawStrokesBetween.g.run N a0).trans h)
noncomputable def spec_DrawStrokesBetween.ent (N : Nat) : Ent Go.Proofs.Try.prog T0 := mkEnt 21 [(false, [.ro 5])] spec_DrawStrokesBetween.sig (fun t => spec_DrawStrokesBetween.g N t) (fun t r h => spec_DrawStrokesBetween.good N t r h)
end Go.Proofs.Ytpemffldaepbpaa.M

namespace Go.Proofs.Ytpemffldaepbpaa.M
open Go Go.PM Go.Proofs.Ytpemffldaepbpaa.P
set_option linter.unusedVariables false
set_option maxRecDepth 100000
/-! ### impl_WaitForStrokes -/
abbrev impl_WaitForStrokes.R : Type := Int × Bool
abbrev impl_WaitForStrokes.sig : Sig := ⟨[(false, 1), (false, 1), (false, 1)], [], [.int .i64, .int .i64, .int .i64], [(false, 1), (false, 1)], [], [.int .i64, .bool]⟩
noncomputable def impl_WaitForStrokes.C : Cfg D0 := ⟨Go.Proofs.Try.prog, T0, 33817031, 0, 29, 0, [(12, [0, 1, 2, 18], []), (60, [0, 1, 2, 8], [])]⟩
noncomputable def impl_WaitForStrokes.E (N : Nat) : List (Ent Go.Proofs.Try.prog T0) := [impl_isHalf.ent N, impl_within.ent N, impl_strokes.ent N]
noncomputable def impl_WaitForStrokes.O (N : Nat) : Orc D0 impl_WaitForStrokes.R := orcOf (impl_WaitForStrokes.E N)
noncomputable def impl_WaitForStrokes.K0 : Ex → St D0 → Option impl_WaitForStrokes.R := exitK impl_WaitForStrokes.C Go.Proofs.Try.f8.results.toList [(false, [.any]), (false, [.any])] (decOut impl_WaitForStrokes.sig)
noncomputable def impl_WaitForStrokes.c1 : Code := codeAt (Go.Proofs.Try.f8.body.getD .skip) []
noncomputable def impl_WaitForStrokes.c2 : Code := codeAt (Go.Proofs.Try.f8.body.getD .skip) [false]
noncomputable def impl_WaitForStrokes.c7 : Code := codeAt (Go.Proofs.Try.f8.body.getD .skip) [true, true]
noncomputable def impl_WaitForStrokes.c12 : Code := codeAt (Go.Proofs.Try.f8.body.getD .skip) [true, false, false]
noncomputable def impl_WaitForStrokes.c13 : Code := codeAt (Go.Proofs.Try.f8.body.getD .skip) [true, false, true]
noncomputable def impl_WaitForStrokes.c14 : Code := codeAt (Go.Proofs.Try.f8.body.getD .skip) [true, true, false]
noncomputable def impl_WaitForStrokes.c31 : Code := codeAt (Go.Proofs.Try.f8.body.getD .skip) [true, true, true, true]
noncomputable def impl_WaitForStrokes.c120 : Code := codeAt (Go.Proofs.Try.f8.body.getD .skip) [true, true, true, false, false, false]
noncomputable def impl_WaitForStrokes.K120 (N : Nat) (Kn60 : St D0 → Option impl_WaitForStrokes.R) : Ex → St D0 → Option impl_WaitForStrokes.R := (onN (fun s => impl_WaitForStrokes.C.tidy 60 s ((onN Kn60 (blockK 0 (onN (fun s => impl_WaitForStrokes.C.tidy 30 s (fun s' => runC impl_WaitForStrokes.C (impl_WaitForStrokes.O N) N impl_WaitForStrokes.c31 31 s' impl_WaitForStrokes.K0)) impl_WaitForStrokes.K0))) .normal)) (onN Kn60 (blockK 0 (onN (fun s => impl_WaitForStrokes.C.tidy 30 s (fun s' => runC impl_WaitForStrokes.C (impl_WaitForStrokes.O N) N impl_WaitForStrokes.c31 31 s' impl_WaitForStrokes.K0)) impl_WaitForStrokes.K0))))
noncomputable def impl_WaitForStrokes.o2 (N : Nat) (v0 : Int) (v1 : Int) (v2 : Int) (v3 : Int) (c2 : Int → Int → Int → Int → Option impl_WaitForStrokes.R) : Option impl_WaitForStrokes.R :=
 (impl_strokes.g N v0 (w64 (v1 + v3))).bind fun r1 =>
 bif (r1 != v2) then
  c2 v0 v1 v2 (w64 (v3 + 1))
 else
 some (v3, true)
theorem impl_WaitForStrokes.o2.run (N : Nat) (Kn60 : St D0 → Option impl_WaitForStrokes.R) (v0 : Int) (v1 : Int) (v2 : Int) (v3 : Int) : runC impl_WaitForStrokes.C (impl_WaitForStrokes.O N) N impl_WaitForStrokes.c120 120 (mkSt [(0, .one (.int .i64 v0)), (1, .one (.int .i64 v1)), (2, .one (.int .i64 v2)), (8, .one (.int .i64 v3))] [] : St D0) (onN (fun s => impl_WaitForStrokes.C.tidy 60 s ((onN Kn60 (blockK 0 (onN (fun s => impl_WaitForStrokes.C.tidy 30 s (fun s' => runC impl_WaitForStrokes.C (impl_WaitForStrokes.O N) N impl_WaitForStrokes.c31 31 s' impl_WaitForStrokes.K0)) impl_WaitForStrokes.K0))) .normal)) (onN Kn60 (blockK 0 (onN (fun s => impl_WaitForStrokes.C.tidy 30 s (fun s' => runC impl_WaitForStrokes.C (impl_WaitForStrokes.O N) N impl_WaitForStrokes.c31 31 s' impl_WaitForStrokes.K0)) impl_WaitForStrokes.K0)))) = impl_WaitForStrokes.o2 N v0 v1 v2 v3 ((fun w0 w1 w2 w3 => Kn60 (mkSt [(0, .one (.int .i64 w0)), (1, .one (.int .i64 w1)), (2, .one (.int .i64 w2)), (8, .one (.int .i64 w3))] [] : St D0))) := by kernel_rfl
noncomputable def impl_WaitForStrokes.d2 (N : Nat) (v0 : Int) (v1 : Int) (v2 : Int) (v3 : Int) (c2 : Int → Int → Int → Int → Option impl_WaitForStrokes.R) : Option impl_WaitForStrokes.R := impl_WaitForStrokes.o2 N v0 v1 v2 v3 c2
theorem impl_WaitForStrokes.d2.run (N : Nat) (Kn60 : St D0 → Option impl_WaitForStrokes.R) (v0 : Int) (v1 : Int) (v2 : Int) (v3 : Int) : runC impl_WaitForStrokes.C (impl_WaitForStrokes.O N) N impl_WaitForStrokes.c120 120 (mkSt [(0, .one (.int .i64 v0)), (1, .one (.int .i64 v1)), (2, .one (.int .i64 v2)), (8, .one (.int .i64 v3))] [] : St D0) (impl_WaitForStrokes.K120 N Kn60) = impl_WaitForStrokes.d2 N v0 v1 v2 v3 ((fun w0 w1 w2 w3 => Kn60 (mkSt [(0, .one (.int .i64 w0)), (1, .one (.int .i64 w1)), (2, .one (.int .i64 w2)), (8, .one (.int .i64 w3))] [] : St D0))) := by
  exact (impl_WaitForStrokes.o2.run N Kn60 v0 v1 v2 v3).trans rfl
noncomputable def impl_WaitForStrokes.K60 (N : Nat) : Ex → St D0 → Option impl_WaitForStrokes.R := (blockK 0 (onN (fun s => impl_WaitForStrokes.C.tidy 30 s (fun s' => runC impl_WaitForStrokes.C (impl_WaitForStrokes.O N) N impl_WaitForStrokes.c31 31 s' impl_WaitForStrokes.K0)) impl_WaitForStrokes.K0))
noncomputable def impl_WaitForStrokes.l2 (N : Nat) : Nat → Int → Int → Int → Int → Option impl_WaitForStrokes.R
  | 0, _, _, _, _ => none
  | n + 1, v0, v1, v2, v3 => impl_WaitForStrokes.d2 N v0 v1 v2 v3 ((fun w0 w1 w2 w3 => impl_WaitForStrokes.l2 N n w0 w1 w2 w3))
theorem impl_WaitForStrokes.loop60 (N : Nat) : ∀ n, (∀ (v0 : Int) (v1 : Int) (v2 : Int) (v3 : Int), iter (loopF impl_WaitForStrokes.C (impl_WaitForStrokes.O N) N impl_WaitForStrokes.c120 60) n (mkSt [(0, .one (.int .i64 v0)), (1, .one (.int .i64 v1)), (2, .one (.int .i64 v2)), (8, .one (.int .i64 v3))] [] : St D0) (impl_WaitForStrokes.K60 N) = impl_WaitForStrokes.l2 N n v0 v1 v2 v3)
  | 0 => (fun v0 v1 v2 v3 => rfl)
  | n + 1 => (fun v0 v1 v2 v3 => (impl_WaitForStrokes.d2.run N (fun s => iter (loopF impl_WaitForStrokes.C (impl_WaitForStrokes.O N) N impl_WaitForStrokes.c120 60) n s (impl_WaitForStrokes.K60 N)) v0 v1 v2 v3).trans (show _ = impl_WaitForStrokes.d2 N v0 v1 v2 v3 ((fun w0 w1 w2 w3 => impl_WaitForStrokes.l2 N n w0 w1 w2 w3)) from (congr rfl (funext fun w0 => funext fun w1 => funext fun w2 => funext fun w3 => (impl_WaitForStrokes.loop60 N n) w0 w1 w2 w3))))
noncomputable def impl_WaitForStrokes.K13 (N : Nat) : Ex → St D0 → Option impl_WaitForStrokes.R := (onN (fun s => impl_WaitForStrokes.C.tidy 6 s (fun s' => runC impl_WaitForStrokes.C (impl_WaitForStrokes.O N) N impl_WaitForStrokes.c7 7 s' impl_WaitForStrokes.K0)) impl_WaitForStrokes.K0)
noncomputable def impl_WaitForStrokes.o1 (N : Nat) (v0 : Int) (v1 : Int) (v2 : Int) (v3 : Bool) (c2 : Int → Int → Int → Int → Option impl_WaitForStrokes.R) : Option impl_WaitForStrokes.R :=
 bif v3 then
  some (0, false)
 else
 c2 v0 v1 v2 0
theorem impl_WaitForStrokes.o1.run (N : Nat) (H120 : Code) (v0 : Int) (v1 : Int) (v2 : Int) (v3 : Bool) : runC impl_WaitForStrokes.C (impl_WaitForStrokes.O N) N impl_WaitForStrokes.c13 13 (mkSt [(0, .one (.int .i64 v0)), (1, .one (.int .i64 v1)), (2, .one (.int .i64 v2)), (18, .one (.bool v3))] [] : St D0) (onN (fun s => impl_WaitForStrokes.C.tidy 6 s (fun s' => runC impl_WaitForStrokes.C (impl_WaitForStrokes.O N) N (.seq impl_WaitForStrokes.c14 (.seq (.block 0 (.loop H120)) impl_WaitForStrokes.c31)) 7 s' impl_WaitForStrokes.K0)) impl_WaitForStrokes.K0) = impl_WaitForStrokes.o1 N v0 v1 v2 v3 ((fun w0 w1 w2 w3 => iter (loopF impl_WaitForStrokes.C (impl_WaitForStrokes.O N) N H120 60) N (mkSt [(0, .one (.int .i64 w0)), (1, .one (.int .i64 w1)), (2, .one (.int .i64 w2)), (8, .one (.int .i64 w3))] [] : St D0) (blockK 0 (onN (fun s => impl_WaitForStrokes.C.tidy 30 s (fun s' => runC impl_WaitForStrokes.C (impl_WaitForStrokes.O N) N impl_WaitForStrokes.c31 31 s' impl_WaitForStrokes.K0)) impl_WaitForStrokes.K0)))) := by kernel_rfl
noncomputable def impl_WaitForStrokes.d1 (N : Nat) (v0 : Int) (v1 : Int) (v2 : Int) (v3 : Bool) : Option impl_WaitForStrokes.R := impl_WaitForStrokes.o1 N v0 v1 v2 v3 ((fun w0 w1 w2 w3 => impl_WaitForStrokes.l2 N N w0 w1 w2 w3))
theorem impl_WaitForStrokes.d1.run (N : Nat) (v0 : Int) (v1 : Int) (v2 : Int) (v3 : Bool) : runC impl_WaitForStrokes.C (impl_WaitForStrokes.O N) N impl_WaitForStrokes.c13 13 (mkSt [(0, .one (.int .i64 v0)), (1, .one (.int .i64 v1)), (2, .one (.int .i64 v2)), (18, .one (.bool v3))] [] : St D0) (impl_WaitForStrokes.K13 N) = impl_WaitForStrokes.d1 N v0 v1 v2 v3 := by
  unfold impl_WaitForStrokes.d1; exact (impl_WaitForStrokes.o1.run N impl_WaitForStrokes.c120 v0 v1 v2 v3).trans (congr rfl (funext fun w0 => funext fun w1 => funext fun w2 => funext fun w3 => (impl_WaitForStrokes.loop60 N N) w0 w1 w2 w3))
noncomputable def impl_WaitForStrokes.o0 (N : Nat) (a0 : Int) (a1 : Int) (a2 : Int) (c1 : Int → Int → Int → Bool → Option impl_WaitForStrokes.R) : Option impl_WaitForStrokes.R :=
 (impl_isHalf.g N a0 a1).bind fun r1 =>
 bif (!r1) then
  c1 a0 a1 a2 true
 else
 (impl_within.g N a2 1 a0).bind fun r2 =>
 c1 a0 a1 a2 (!r2)
theorem impl_WaitForStrokes.o0.run (N : Nat) (H13 : Code) (a0 : Int) (a1 : Int) (a2 : Int) : runC impl_WaitForStrokes.C (impl_WaitForStrokes.O N) N (.seq impl_WaitForStrokes.c2 (.seq (.seq impl_WaitForStrokes.c12 H13) impl_WaitForStrokes.c7)) 1 (st0 [.one (.int .i64 a0), .one (.int .i64 a1), .one (.int .i64 a2)] [] : St D0) impl_WaitForStrokes.K0 = impl_WaitForStrokes.o0 N a0 a1 a2 ((fun w0 w1 w2 w3 => runC impl_WaitForStrokes.C (impl_WaitForStrokes.O N) N H13 13 (mkSt [(0, .one (.int .i64 w0)), (1, .one (.int .i64 w1)), (2, .one (.int .i64 w2)), (18, .one (.bool w3))] [] : St D0) (onN (fun s => impl_WaitForStrokes.C.tidy 6 s (fun s' => runC impl_WaitForStrokes.C (impl_WaitForStrokes.O N) N impl_WaitForStrokes.c7 7 s' impl_WaitForStrokes.K0)) impl_WaitForStrokes.K0))) := by kernel_rfl
noncomputable def impl_WaitForStrokes.B6 (N : Nat) : St D0 → Option impl_WaitForStrokes.R := fun s' => runC impl_WaitForStrokes.C (impl_WaitForStrokes.O N) N impl_WaitForStrokes.c13 13 s' (impl_WaitForStrokes.K13 N)
noncomputable def impl_WaitForStrokes.g (N : Nat) (a0 : Int) (a1 : Int) (a2 : Int) : Option impl_WaitForStrokes.R := impl_WaitForStrokes.o0 N a0 a1 a2 ((fun w0 w1 w2 w3 => impl_WaitForStrokes.d1 N w0 w1 w2 w3))
theorem impl_WaitForStrokes.c1_0 : impl_WaitForStrokes.c1 = (.seq impl_WaitForStrokes.c2 (.seq (.seq impl_WaitForStrokes.c12 impl_WaitForStrokes.c13) impl_WaitForStrokes.c7)) := by kernel_rfl
theorem impl_WaitForStrokes.g.run (N : Nat) (a0 : Int) (a1 : Int) (a2 : Int) : runC impl_WaitForStrokes.C (impl_WaitForStrokes.O N) N impl_WaitForStrokes.c1 1 (st0 [.one (.int .i64 a0), .one (.int .i64 a1), .one (.int .i64 a2)] [] : St D0) impl_WaitForStrokes.K0 = impl_WaitForStrokes.g N a0 a1 a2 := by
  rw [impl_WaitForStrokes.c1_0]; unfold impl_WaitForStrokes.g; exact (impl_WaitForStrokes.o0.run N impl_WaitForStrokes.c13 a0 a1 a2).trans (congr rfl (funext fun w0 => funext fun w1 => funext fun w2 => funext fun w3 => impl_WaitForStrokes.d1.run N w0 w1 w2 w3))
theorem impl_WaitForStrokes.good (N : Nat) (a0 : Int) (a1 : Int) (a2 : Int) (r : impl_WaitForStrokes.R) (h : impl_WaitForStrokes.g N a0 a1 a2 = some r) : Go.PM.Good Go.Proofs.Try.prog T0 8 [.one (.int .i64 a0), .one (.int .i64 a1), .one (.int .i64 a2)] [] (impl_WaitForStrokes.sig.ret r) (impl_WaitForStrokes.sig.bs r) :=
  good_fn tabOk0 mixed0 impl_WaitForStrokes.sig (impl_WaitForStrokes.E N) Go.Proofs.Try.func8 (by kernel_rfl) (by kernel_rfl) 33817031 0 0 [(12, [0, 1, 2, 18], []), (60, [0, 1, 2, 8], [])] [(false, [.any]), (false, [.any])] (by kernel_rfl) rfl ((impl_WaitForStrokes.g.run N a0 a1 a2).trans h)
noncomputable def impl_WaitForStrokes.ent (N : Nat) : Ent Go.Proofs.Try.prog T0 := mkEnt 8 [(false, [.any]), (false, [.any]), (false, [.any])] impl_WaitForStrokes.sig (fun t => impl_WaitForStrokes.g N t.1 t.2.1 t.2.2) (fun t r h => impl_WaitForStrokes.good N t.1 t.2.1 t.2.2 r h)
end Go.Proofs.Ytpemffldaepbpaa.M

namespace Go.Proofs.Ytpemffldaepbpaa.M
open Go Go.PM Go.Proofs.Ytpemffldaepbpaa.P
set_option linter.unusedVariables false
set_option maxRecDepth 100000
/-! ### spec_WaitForStrokes -/
abbrev spec_WaitForStrokes.R : Type := Int × Bool
abbrev spec_WaitForStrokes.sig : Sig := ⟨[(false, 1), (false, 1), (false, 1)], [], [.int .i64, .int .i64, .int .i64], [(false, 1), (false, 1)], [], [.int .i64, .bool]⟩
noncomputable def spec_WaitForStrokes.C : Cfg D0 := ⟨Go.Proofs.Try.prog, T0, 268698055, 0, 32, 0, [(12, [0, 1, 2, 18], []), (60, [0, 1, 2, 8], [])]⟩
noncomputable def spec_WaitForStrokes.E (N : Nat) : List (Ent Go.Proofs.Try.prog T0) := [spec_stHalf.ent N, spec_l1In.ent N, spec_stAt.ent N]
noncomputable def spec_WaitForStrokes.O (N : Nat) : Orc D0 spec_WaitForStrokes.R := orcOf (spec_WaitForStrokes.E N)
noncomputable def spec_WaitForStrokes.K0 : Ex → St D0 → Option spec_WaitForStrokes.R := exitK spec_WaitForStrokes.C Go.Proofs.Try.f9.results.toList [(false, [.any]), (false, [.any])] (decOut spec_WaitForStrokes.sig)
noncomputable def spec_WaitForStrokes.c1 : Code := codeAt (Go.Proofs.Try.f9.body.getD .skip) []
noncomputable def spec_WaitForStrokes.c2 : Code := codeAt (Go.Proofs.Try.f9.body.getD .skip) [false]
noncomputable def spec_WaitForStrokes.c7 : Code := codeAt (Go.Proofs.Try.f9.body.getD .skip) [true, true]
noncomputable def spec_WaitForStrokes.c12 : Code := codeAt (Go.Proofs.Try.f9.body.getD .skip) [true, false, false]
noncomputable def spec_WaitForStrokes.c13 : Code := codeAt (Go.Proofs.Try.f9.body.getD .skip) [true, false, true]
noncomputable def spec_WaitForStrokes.c14 : Code := codeAt (Go.Proofs.Try.f9.body.getD .skip) [true, true, false]
noncomputable def spec_WaitForStrokes.c31 : Code := codeAt (Go.Proofs.Try.f9.body.getD .skip) [true, true, true, true]
noncomputable def spec_WaitForStrokes.c120 : Code := codeAt (Go.Proofs.Try.f9.body.getD .skip) [true, true, true, false, false, false]
noncomputable def spec_WaitForStrokes.K120 (N : Nat) (Kn60 : St D0 → Option spec_WaitForStrokes.R) : Ex → St D0 → Option spec_WaitForStrokes.R := (onN (fun s => spec_WaitForStrokes.C.tidy 60 s ((onN Kn60 (blockK 0 (onN (fun s => spec_WaitForStrokes.C.tidy 30 s (fun s' => runC spec_WaitForStrokes.C (spec_WaitForStrokes.O N) N spec_WaitForStrokes.c31 31 s' spec_WaitForStrokes.K0)) spec_WaitForStrokes.K0))) .normal)) (onN Kn60 (blockK 0 (onN (fun s => spec_WaitForStrokes.C.tidy 30 s (fun s' => runC spec_WaitForStrokes.C (spec_WaitForStrokes.O N) N spec_WaitForStrokes.c31 31 s' spec_WaitForStrokes.K0)) spec_WaitForStrokes.K0))))
noncomputable def spec_WaitForStrokes.o2 (N : Nat) (v0 : Int) (v1 : Int) (v2 : Int) (v3 : Int) (c2 : Int → Int → Int → Int → Option spec_WaitForStrokes.R) : Option spec_WaitForStrokes.R :=
 bif ((w64 (2 * v0)) == 0) then
  none
 else
 (spec_stAt.g N v0 (Int.tmod (w64 (v1 + v3)) (w64 (2 * v0)))).bind fun r1 =>
 bif (r1 != v2) then
  c2 v0 v1 v2 (w64 (v3 + 1))
 else
 some (v3, true)
theorem spec_WaitForStrokes.o2.run (N : Nat) (Kn60 : St D0 → Option spec_WaitForStrokes.R) (v0 : Int) (v1 : Int) (v2 : Int) (v3 : Int) : runC spec_WaitForStrokes.C (spec_WaitForStrokes.O N) N spec_WaitForStrokes.c120 120 (mkSt [(0, .one (.int .i64 v0)), (1, .one (.int .i64 v1)), (2, .one (.int .i64 v2)), (8, .one (.int .i64 v3))] [] : St D0) (onN (fun s => spec_WaitForStrokes.C.tidy 60 s ((onN Kn60 (blockK 0 (onN (fun s => spec_WaitForStrokes.C.tidy 30 s (fun s' => runC spec_WaitForStrokes.C (spec_WaitForStrokes.O N) N spec_WaitForStrokes.c31 31 s' spec_WaitForStrokes.K0)) spec_WaitForStrokes.K0))) .normal)) (onN Kn60 (blockK 0 (onN (fun s => spec_WaitForStrokes.C.tidy 30 s (fun s' => runC spec_WaitForStrokes.C (spec_WaitForStrokes.O N) N spec_WaitForStrokes.c31 31 s' spec_WaitForStrokes.K0)) spec_WaitForStrokes.K0)))) = spec_WaitForStrokes.o2 N v0 v1 v2 v3 ((fun w0 w1 w2 w3 => Kn60 (mkSt [(0, .one (.int .i64 w0)), (1, .one (.int .i64 w1)), (2, .one (.int .i64 w2)), (8, .one (.int .i64 w3))] [] : St D0))) := by kernel_rfl
noncomputable def spec_WaitForStrokes.d2 (N : Nat) (v0 : Int) (v1 : Int) (v2 : Int) (v3 : Int) (c2 : Int → Int → Int → Int → Option spec_WaitForStrokes.R) : Option spec_WaitForStrokes.R := spec_WaitForStrokes.o2 N v0 v1 v2 v3 c2
theorem spec_WaitForStrokes.d2.run (N : Nat) (Kn60 : St D0 → Option spec_WaitForStrokes.R) (v0 : Int) (v1 : Int) (v2 : Int) (v3 : Int) : runC spec_WaitForStrokes.C (spec_WaitForStrokes.O N) N spec_WaitForStrokes.c120 120 (mkSt [(0, .one (.int .i64 v0)), (1, .one (.int .i64 v1)), (2, .one (.int .i64 v2)), (8, .one (.int .i64 v3))] [] : St D0) (spec_WaitForStrokes.K120 N Kn60) = spec_WaitForStrokes.d2 N v0 v1 v2 v3 ((fun w0 w1 w2 w3 => Kn60 (mkSt [(0, .one (.int .i64 w0)), (1, .one (.int .i64 w1)), (2, .one (.int .i64 w2)), (8, .one (.int .i64 w3))] [] : St D0))) := by
  exact (spec_WaitForStrokes.o2.run N Kn60 v0 v1 v2 v3).trans rfl
noncomputable def spec_WaitForStrokes.K60 (N : Nat) : Ex → St D0 → Option spec_WaitForStrokes.R := (blockK 0 (onN (fun s => spec_WaitForStrokes.C.tidy 30 s (fun s' => runC spec_WaitForStrokes.C (spec_WaitForStrokes.O N) N spec_WaitForStrokes.c31 31 s' spec_WaitForStrokes.K0)) spec_WaitForStrokes.K0))
noncomputable def spec_WaitForStrokes.l2 (N : Nat) : Nat → Int → Int → Int → Int → Option spec_WaitForStrokes.R
  | 0, _, _, _, _ => none
  | n + 1, v0, v1, v2, v3 => spec_WaitForStrokes.d2 N v0 v1 v2 v3 ((fun w0 w1 w2 w3 => spec_WaitForStrokes.l2 N n w0 w1 w2 w3))
theorem spec_WaitForStrokes.loop60 (N : Nat) : ∀ n, (∀ (v0 : Int) (v1 : Int) (v2 : Int) (v3 : Int), iter (loopF spec_WaitForStrokes.C (spec_WaitForStrokes.O N) N spec_WaitForStrokes.c120 60) n (mkSt [(0, .one (.int .i64 v0)), (1, .one (.int .i64 v1)), (2, .one (.int .i64 v2)), (8, .one (.int .i64 v3))] [] : St D0) (spec_WaitForStrokes.K60 N) = spec_WaitForStrokes.l2 N n v0 v1 v2 v3)
  | 0 => (fun v0 v1 v2 v3 => rfl)
  | n + 1 => (fun v0 v1 v2 v3 => (spec_WaitForStrokes.d2.run N (fun s => iter (loopF spec_WaitForStrokes.C (spec_WaitForStrokes.O N) N spec_WaitForStrokes.c120 60) n s (spec_WaitForStrokes.K60 N)) v0 v1 v2 v3).trans (show _ = spec_WaitForStrokes.d2 N v0 v1 v2 v3 ((fun w0 w1 w2 w3 => spec_WaitForStrokes.l2 N n w0 w1 w2 w3)) from (congr rfl (funext fun w0 => funext fun w1 => funext fun w2 => funext fun w3 => (spec_WaitForStrokes.loop60 N n) w0 w1 w2 w3))))
noncomputable def spec_WaitForStrokes.K13 (N : Nat) : Ex → St D0 → Option spec_WaitForStrokes.R := (onN (fun s => spec_WaitForStrokes.C.tidy 6 s (fun s' => runC spec_WaitForStrokes.C (spec_WaitForStrokes.O N) N spec_WaitForStrokes.c7 7 s' spec_WaitForStrokes.K0)) spec_WaitForStrokes.K0)
noncomputable def spec_WaitForStrokes.o1 (N : Nat) (v0 : Int) (v1 : Int) (v2 : Int) (v3 : Bool) (c2 : Int → Int → Int → Int → Option spec_WaitForStrokes.R) : Option spec_WaitForStrokes.R :=
 bif v3 then
  some (0, false)
 else
 c2 v0 v1 v2 0
theorem spec_WaitForStrokes.o1.run (N : Nat) (H120 : Code) (v0 : Int) (v1 : Int) (v2 : Int) (v3 : Bool) : runC spec_WaitForStrokes.C (spec_WaitForStrokes.O N) N spec_WaitForStrokes.c13 13 (mkSt [(0, .one (.int .i64 v0)), (1, .one (.int .i64 v1)), (2, .one (.int .i64 v2)), (18, .one (.bool v3))] [] : St D0) (onN (fun s => spec_WaitForStrokes.C.tidy 6 s (fun s' => runC spec_WaitForStrokes.C (spec_WaitForStrokes.O N) N (.seq spec_WaitForStrokes.c14 (.seq (.block 0 (.loop H120)) spec_WaitForStrokes.c31)) 7 s' spec_WaitForStrokes.K0)) spec_WaitForStrokes.K0) = spec_WaitForStrokes.o1 N v0 v1 v2 v3 ((fun w0 w1 w2 w3 => iter (loopF spec_WaitForStrokes.C (spec_WaitForStrokes.O N) N H120 60) N (mkSt [(0, .one (.int .i64 w0)), (1, .one (.int .i64 w1)), (2, .one (.int .i64 w2)), (8, .one (.int .i64 w3))] [] : St D0) (blockK 0 (onN (fun s => spec_WaitForStrokes.C.tidy 30 s (fun s' => runC spec_WaitForStrokes.C (spec_WaitForStrokes.O N) N spec_WaitForStrokes.c31 31 s' spec_WaitForStrokes.K0)) spec_WaitForStrokes.K0)))) := by kernel_rfl
noncomputable def spec_WaitForStrokes.d1 (N : Nat) (v0 : Int) (v1 : Int) (v2 : Int) (v3 : Bool) : Option spec_WaitForStrokes.R := spec_WaitForStrokes.o1 N v0 v1 v2 v3 ((fun w0 w1 w2 w3 => spec_WaitForStrokes.l2 N N w0 w1 w2 w3))
theorem spec_WaitForStrokes.d1.run (N : Nat) (v0 : Int) (v1 : Int) (v2 : Int) (v3 : Bool) : runC spec_WaitForStrokes.C (spec_WaitForStrokes.O N) N spec_WaitForStrokes.c13 13 (mkSt [(0, .one (.int .i64 v0)), (1, .one (.int .i64 v1)), (2, .one (.int .i64 v2)), (18, .one (.bool v3))] [] : St D0) (spec_WaitForStrokes.K13 N) = spec_WaitForStrokes.d1 N v0 v1 v2 v3 := by
  unfold spec_WaitForStrokes.d1; exact (spec_WaitForStrokes.o1.run N spec_WaitForStrokes.c120 v0 v1 v2 v3).trans (congr rfl (funext fun w0 => funext fun w1 => funext fun w2 => funext fun w3 => (spec_WaitForStrokes.loop60 N N) w0 w1 w2 w3))
noncomputable def spec_WaitForStrokes.o0 (N : Nat) (a0 : Int) (a1 : Int) (a2 : Int) (c1 : Int → Int → Int → Bool → Option spec_WaitForStrokes.R) : Option spec_WaitForStrokes.R :=
 (spec_stHalf.g N a0 a1).bind fun r1 =>
 bif (!r1) then
  c1 a0 a1 a2 true
 else
 (spec_l1In.g N a2 1 a0).bind fun r2 =>
 c1 a0 a1 a2 (!r2)
theorem spec_WaitForStrokes.o0.run (N : Nat) (H13 : Code) (a0 : Int) (a1 : Int) (a2 : Int) : runC spec_WaitForStrokes.C (spec_WaitForStrokes.O N) N (.seq spec_WaitForStrokes.c2 (.seq (.seq spec_WaitForStrokes.c12 H13) spec_WaitForStrokes.c7)) 1 (st0 [.one (.int .i64 a0), .one (.int .i64 a1), .one (.int .i64 a2)] [] : St D0) spec_WaitForStrokes.K0 = spec_WaitForStrokes.o0 N a0 a1 a2 ((fun w0 w1 w2 w3 => runC spec_WaitForStrokes.C (spec_WaitForStrokes.O N) N H13 13 (mkSt [(0, .one (.int .i64 w0)), (1, .one (.int .i64 w1)), (2, .one (.int .i64 w2)), (18, .one (.bool w3))] [] : St D0) (onN (fun s => spec_WaitForStrokes.C.tidy 6 s (fun s' => runC spec_WaitForStrokes.C (spec_WaitForStrokes.O N) N spec_WaitForStrokes.c7 7 s' spec_WaitForStrokes.K0)) spec_WaitForStrokes.K0))) := by kernel_rfl
noncomputable def spec_WaitForStrokes.B6 (N : Nat) : St D0 → Option spec_WaitForStrokes.R := fun s' => runC spec_WaitForStrokes.C (spec_WaitForStrokes.O N) N spec_WaitForStrokes.c13 13 s' (spec_WaitForStrokes.K13 N)
noncomputable def spec_WaitForStrokes.g (N : Nat) (a0 : Int) (a1 : Int) (a2 : Int) : Option spec_WaitForStrokes.R := spec_WaitForStrokes.o0 N a0 a1 a2 ((fun w0 w1 w2 w3 => spec_WaitForStrokes.d1 N w0 w1 w2 w3))
theorem spec_WaitForStrokes.c1_0 : spec_WaitForStrokes.c1 = (.seq spec_WaitForStrokes.c2 (.seq (.seq spec_WaitForStrokes.c12 spec_WaitForStrokes.c13) spec_WaitForStrokes.c7)) := by kernel_rfl
theorem spec_WaitForStrokes.g.run (N : Nat) (a0 : Int) (a1 : Int) (a2 : Int) : runC spec_WaitForStrokes.C (spec_WaitForStrokes.O N) N spec_WaitForStrokes.c1 1 (st0 [.one (.int .i64 a0), .one (.int .i64 a1), .one (.int .i64 a2)] [] : St D0) spec_WaitForStrokes.K0 = spec_WaitForStrokes.g N a0 a1 a2 := by
  rw [spec_WaitForStrokes.c1_0]; unfold spec_WaitForStrokes.g; exact (spec_WaitForStrokes.o0.run N spec_WaitForStrokes.c13 a0 a1 a2).trans (congr rfl (funext fun w0 => funext fun w1 => funext fun w2 => funext fun w3 => spec_WaitForStrokes.d1.run N w0 w1 w2 w3))
theorem spec_WaitForStrokes.good (N : Nat) (a0 : Int) (a1 : Int) (a2 : Int) (r : spec_WaitForStrokes.R) (h : spec_WaitForStrokes.g N a0 a1 a2 = some r) : Go.PM.Good Go.Proofs.Try.prog T0 9 [.one (.int .i64 a0), .one (.int .i64 a1), .one (.int .i64 a2)] [] (spec_WaitForStrokes.sig.ret r) (spec_WaitForStrokes.sig.bs r) :=
  good_fn tabOk0 mixed0 spec_WaitForStrokes.sig (spec_WaitForStrokes.E N) Go.Proofs.Try.func9 (by kernel_rfl) (by kernel_rfl) 268698055 0 0 [(12, [0, 1, 2, 18], []), (60, [0, 1, 2, 8], [])] [(false, [.any]), (false, [.any])] (by kernel_rfl) rfl ((spec_WaitForStrokes.g.run N a0 a1 a2).trans h)
noncomputable def spec_WaitForStrokes.ent (N : Nat) : Ent Go.Proofs.Try.prog T0 := mkEnt 9 [(false, [.any]), (false, [.any]), (false, [.any])] spec_WaitForStrokes.sig (fun t => spec_WaitForStrokes.g N t.1 t.2.1 t.2.2) (fun t r h => spec_WaitForStrokes.good N t.1 t.2.1 t.2.2 r h)
end Go.Proofs.Ytpemffldaepbpaa.M

namespace Go.Proofs.Ytpemffldaepbpaa.M
open Go Go.PM Go.Proofs.Ytpemffldaepbpaa.P
set_option linter.unusedVariables false
set_option maxRecDepth 100000
/-! ### impl_MostInHalves -/
abbrev impl_MostInHalves.R : Type := Int × Int × Bool
abbrev impl_MostInHalves.sig : Sig := ⟨[(false, 1), (false, 1)], [], [.int .i64, .int .i64], [(false, 1), (false, 1), (false, 1)], [], [.int .i64, .int .i64, .bool]⟩
noncomputable def impl_MostInHalves.C : Cfg D0 := ⟨Go.Proofs.Try.prog, T0, 137469364211, 0, 43, 0, [(12, [0, 1, 20], []), (122, [0, 1, 7, 8, 22, 23], [])]⟩
noncomputable def impl_MostInHalves.E (N : Nat) : List (Ent Go.Proofs.Try.prog T0) := [impl_isDial.ent N, impl_within.ent N, impl_before.ent N]
noncomputable def impl_MostInHalves.O (N : Nat) : Orc D0 impl_MostInHalves.R := orcOf (impl_MostInHalves.E N)
noncomputable def impl_MostInHalves.K0 : Ex → St D0 → Option impl_MostInHalves.R := exitK impl_MostInHalves.C Go.Proofs.Try.f14.results.toList [(false, [.any]), (false, [.any]), (false, [.any])] (decOut impl_MostInHalves.sig)
noncomputable def impl_MostInHalves.c1 : Code := codeAt (Go.Proofs.Try.f14.body.getD .skip) []
noncomputable def impl_MostInHalves.c2 : Code := codeAt (Go.Proofs.Try.f14.body.getD .skip) [false]
noncomputable def impl_MostInHalves.c7 : Code := codeAt (Go.Proofs.Try.f14.body.getD .skip) [true, true]
noncomputable def impl_MostInHalves.c12 : Code := codeAt (Go.Proofs.Try.f14.body.getD .skip) [true, false, false]
noncomputable def impl_MostInHalves.c13 : Code := codeAt (Go.Proofs.Try.f14.body.getD .skip) [true, false, true]
noncomputable def impl_MostInHalves.c14 : Code := codeAt (Go.Proofs.Try.f14.body.getD .skip) [true, true, false]
noncomputable def impl_MostInHalves.c31 : Code := codeAt (Go.Proofs.Try.f14.body.getD .skip) [true, true, true, true]
noncomputable def impl_MostInHalves.c60 : Code := codeAt (Go.Proofs.Try.f14.body.getD .skip) [true, true, true, false, false]
noncomputable def impl_MostInHalves.c244 : Code := codeAt (Go.Proofs.Try.f14.body.getD .skip) [true, true, true, false, true, false, false]
noncomputable def impl_MostInHalves.K244 (N : Nat) (Kn122 : St D0 → Option impl_MostInHalves.R) : Ex → St D0 → Option impl_MostInHalves.R := (onN (fun s => impl_MostInHalves.C.tidy 122 s ((onN Kn122 (blockK 0 (onN (fun s => impl_MostInHalves.C.tidy 30 s (fun s' => runC impl_MostInHalves.C (impl_MostInHalves.O N) N impl_MostInHalves.c31 31 s' impl_MostInHalves.K0)) impl_MostInHalves.K0))) .normal)) (onN Kn122 (blockK 0 (onN (fun s => impl_MostInHalves.C.tidy 30 s (fun s' => runC impl_MostInHalves.C (impl_MostInHalves.O N) N impl_MostInHalves.c31 31 s' impl_MostInHalves.K0)) impl_MostInHalves.K0))))
noncomputable def impl_MostInHalves.o2 (N : Nat) (v0 : Int) (v1 : Int) (v2 : Int) (v3 : Int) (v4 : Int) (v5 : Int) (c2 : Int → Int → Int → Int → Int → Int → Option impl_MostInHalves.R) : Option impl_MostInHalves.R :=
 bif (decide (v5 < v4)) then
  (impl_before.g N v0 (w64 (v5 + v1))).bind fun r1 =>
  (impl_before.g N v0 v5).bind fun r2 =>
  bif (decide ((w64 (r1 - r2)) > v3)) then
   c2 v0 v1 v5 (w64 (r1 - r2)) v4 (w64 (v5 + 1))
  else
  c2 v0 v1 v2 v3 v4 (w64 (v5 + 1))
 else
 some (v2, v3, true)
theorem impl_MostInHalves.o2.run (N : Nat) (Kn122 : St D0 → Option impl_MostInHalves.R) (v0 : Int) (v1 : Int) (v2 : Int) (v3 : Int) (v4 : Int) (v5 : Int) : runC impl_MostInHalves.C (impl_MostInHalves.O N) N impl_MostInHalves.c244 244 (mkSt [(0, .one (.int .i64 v0)), (1, .one (.int .i64 v1)), (7, .one (.int .i64 v2)), (8, .one (.int .i64 v3)), (22, .one (.int .i64 v4)), (23, .one (.int .i64 v5))] [] : St D0) (onN (fun s => impl_MostInHalves.C.tidy 122 s ((onN Kn122 (blockK 0 (onN (fun s => impl_MostInHalves.C.tidy 30 s (fun s' => runC impl_MostInHalves.C (impl_MostInHalves.O N) N impl_MostInHalves.c31 31 s' impl_MostInHalves.K0)) impl_MostInHalves.K0))) .normal)) (onN Kn122 (blockK 0 (onN (fun s => impl_MostInHalves.C.tidy 30 s (fun s' => runC impl_MostInHalves.C (impl_MostInHalves.O N) N impl_MostInHalves.c31 31 s' impl_MostInHalves.K0)) impl_MostInHalves.K0)))) = impl_MostInHalves.o2 N v0 v1 v2 v3 v4 v5 ((fun w0 w1 w2 w3 w4 w5 => Kn122 (mkSt [(0, .one (.int .i64 w0)), (1, .one (.int .i64 w1)), (7, .one (.int .i64 w2)), (8, .one (.int .i64 w3)), (22, .one (.int .i64 w4)), (23, .one (.int .i64 w5))] [] : St D0))) := by kernel_rfl
noncomputable def impl_MostInHalves.d2 (N : Nat) (v0 : Int) (v1 : Int) (v2 : Int) (v3 : Int) (v4 : Int) (v5 : Int) (c2 : Int → Int → Int → Int → Int → Int → Option impl_MostInHalves.R) : Option impl_MostInHalves.R := impl_MostInHalves.o2 N v0 v1 v2 v3 v4 v5 c2
theorem impl_MostInHalves.d2.run (N : Nat) (Kn122 : St D0 → Option impl_MostInHalves.R) (v0 : Int) (v1 : Int) (v2 : Int) (v3 : Int) (v4 : Int) (v5 : Int) : runC impl_MostInHalves.C (impl_MostInHalves.O N) N impl_MostInHalves.c244 244 (mkSt [(0, .one (.int .i64 v0)), (1, .one (.int .i64 v1)), (7, .one (.int .i64 v2)), (8, .one (.int .i64 v3)), (22, .one (.int .i64 v4)), (23, .one (.int .i64 v5))] [] : St D0) (impl_MostInHalves.K244 N Kn122) = impl_MostInHalves.d2 N v0 v1 v2 v3 v4 v5 ((fun w0 w1 w2 w3 w4 w5 => Kn122 (mkSt [(0, .one (.int .i64 w0)), (1, .one (.int .i64 w1)), (7, .one (.int .i64 w2)), (8, .one (.int .i64 w3)), (22, .one (.int .i64 w4)), (23, .one (.int .i64 w5))] [] : St D0))) := by
  exact (impl_MostInHalves.o2.run N Kn122 v0 v1 v2 v3 v4 v5).trans rfl
noncomputable def impl_MostInHalves.K122 (N : Nat) : Ex → St D0 → Option impl_MostInHalves.R := (blockK 0 (onN (fun s => impl_MostInHalves.C.tidy 30 s (fun s' => runC impl_MostInHalves.C (impl_MostInHalves.O N) N impl_MostInHalves.c31 31 s' impl_MostInHalves.K0)) impl_MostInHalves.K0))
noncomputable def impl_MostInHalves.l2 (N : Nat) : Nat → Int → Int → Int → Int → Int → Int → Option impl_MostInHalves.R
  | 0, _, _, _, _, _, _ => none
  | n + 1, v0, v1, v2, v3, v4, v5 => impl_MostInHalves.d2 N v0 v1 v2 v3 v4 v5 ((fun w0 w1 w2 w3 w4 w5 => impl_MostInHalves.l2 N n w0 w1 w2 w3 w4 w5))
theorem impl_MostInHalves.loop122 (N : Nat) : ∀ n, (∀ (v0 : Int) (v1 : Int) (v2 : Int) (v3 : Int) (v4 : Int) (v5 : Int), iter (loopF impl_MostInHalves.C (impl_MostInHalves.O N) N impl_MostInHalves.c244 122) n (mkSt [(0, .one (.int .i64 v0)), (1, .one (.int .i64 v1)), (7, .one (.int .i64 v2)), (8, .one (.int .i64 v3)), (22, .one (.int .i64 v4)), (23, .one (.int .i64 v5))] [] : St D0) (impl_MostInHalves.K122 N) = impl_MostInHalves.l2 N n v0 v1 v2 v3 v4 v5)
  | 0 => (fun v0 v1 v2 v3 v4 v5 => rfl)
  | n + 1 => (fun v0 v1 v2 v3 v4 v5 => (impl_MostInHalves.d2.run N (fun s => iter (loopF impl_MostInHalves.C (impl_MostInHalves.O N) N impl_MostInHalves.c244 122) n s (impl_MostInHalves.K122 N)) v0 v1 v2 v3 v4 v5).trans (show _ = impl_MostInHalves.d2 N v0 v1 v2 v3 v4 v5 ((fun w0 w1 w2 w3 w4 w5 => impl_MostInHalves.l2 N n w0 w1 w2 w3 w4 w5)) from (congr rfl (funext fun w0 => funext fun w1 => funext fun w2 => funext fun w3 => funext fun w4 => funext fun w5 => (impl_MostInHalves.loop122 N n) w0 w1 w2 w3 w4 w5))))
noncomputable def impl_MostInHalves.K13 (N : Nat) : Ex → St D0 → Option impl_MostInHalves.R := (onN (fun s => impl_MostInHalves.C.tidy 6 s (fun s' => runC impl_MostInHalves.C (impl_MostInHalves.O N) N impl_MostInHalves.c7 7 s' impl_MostInHalves.K0)) impl_MostInHalves.K0)
noncomputable def impl_MostInHalves.o1 (N : Nat) (v0 : Int) (v1 : Int) (v2 : Bool) (c2 : Int → Int → Int → Int → Int → Int → Option impl_MostInHalves.R) : Option impl_MostInHalves.R :=
 bif v2 then
  some (0, 0, false)
 else
 c2 v0 v1 0 0 (w64 (2 * v0)) 0
theorem impl_MostInHalves.o1.run (N : Nat) (H244 : Code) (v0 : Int) (v1 : Int) (v2 : Bool) : runC impl_MostInHalves.C (impl_MostInHalves.O N) N impl_MostInHalves.c13 13 (mkSt [(0, .one (.int .i64 v0)), (1, .one (.int .i64 v1)), (20, .one (.bool v2))] [] : St D0) (onN (fun s => impl_MostInHalves.C.tidy 6 s (fun s' => runC impl_MostInHalves.C (impl_MostInHalves.O N) N (.seq impl_MostInHalves.c14 (.seq (.seq impl_MostInHalves.c60 (.block 0 (.loop H244))) impl_MostInHalves.c31)) 7 s' impl_MostInHalves.K0)) impl_MostInHalves.K0) = impl_MostInHalves.o1 N v0 v1 v2 ((fun w0 w1 w2 w3 w4 w5 => iter (loopF impl_MostInHalves.C (impl_MostInHalves.O N) N H244 122) N (mkSt [(0, .one (.int .i64 w0)), (1, .one (.int .i64 w1)), (7, .one (.int .i64 w2)), (8, .one (.int .i64 w3)), (22, .one (.int .i64 w4)), (23, .one (.int .i64 w5))] [] : St D0) (blockK 0 (onN (fun s => impl_MostInHalves.C.tidy 30 s (fun s' => runC impl_MostInHalves.C (impl_MostInHalves.O N) N impl_MostInHalves.c31 31 s' impl_MostInHalves.K0)) impl_MostInHalves.K0)))) := by kernel_rfl
noncomputable def impl_MostInHalves.d1 (N : Nat) (v0 : Int) (v1 : Int) (v2 : Bool) : Option impl_MostInHalves.R := impl_MostInHalves.o1 N v0 v1 v2 ((fun w0 w1 w2 w3 w4 w5 => impl_MostInHalves.l2 N N w0 w1 w2 w3 w4 w5))
theorem impl_MostInHalves.d1.run (N : Nat) (v0 : Int) (v1 : Int) (v2 : Bool) : runC impl_MostInHalves.C (impl_MostInHalves.O N) N impl_MostInHalves.c13 13 (mkSt [(0, .one (.int .i64 v0)), (1, .one (.int .i64 v1)), (20, .one (.bool v2))] [] : St D0) (impl_MostInHalves.K13 N) = impl_MostInHalves.d1 N v0 v1 v2 := by
  unfold impl_MostInHalves.d1; exact (impl_MostInHalves.o1.run N impl_MostInHalves.c244 v0 v1 v2).trans (congr rfl (funext fun w0 => funext fun w1 => funext fun w2 => funext fun w3 => funext fun w4 => funext fun w5 => (impl_MostInHalves.loop122 N N) w0 w1 w2 w3 w4 w5))
noncomputable def impl_MostInHalves.o0 (N : Nat) (a0 : Int) (a1 : Int) (c1 : Int → Int → Bool → Option impl_MostInHalves.R) : Option impl_MostInHalves.R :=
 (impl_isDial.g N a0).bind fun r1 =>
 bif (!r1) then
  c1 a0 a1 true
 else
 (impl_within.g N a1 1 (w64 (2 * a0))).bind fun r2 =>
 c1 a0 a1 (!r2)
theorem impl_MostInHalves.o0.run (N : Nat) (H13 : Code) (a0 : Int) (a1 : Int) : runC impl_MostInHalves.C (impl_MostInHalves.O N) N (.seq impl_MostInHalves.c2 (.seq (.seq impl_MostInHalves.c12 H13) impl_MostInHalves.c7)) 1 (st0 [.one (.int .i64 a0), .one (.int .i64 a1)] [] : St D0) impl_MostInHalves.K0 = impl_MostInHalves.o0 N a0 a1 ((fun w0 w1 w2 => runC impl_MostInHalves.C (impl_MostInHalves.O N) N H13 13 (mkSt [(0, .one (.int .i64 w0)), (1, .one (.int .i64 w1)), (20, .one (.bool w2))] [] : St D0) (onN (fun s => impl_MostInHalves.C.tidy 6 s (fun s' => runC impl_MostInHalves.C (impl_MostInHalves.O N) N impl_MostInHalves.c7 7 s' impl_MostInHalves.K0)) impl_MostInHalves.K0))) := by kernel_rfl
noncomputable def impl_MostInHalves.B6 (N : Nat) : St D0 → Option impl_MostInHalves.R := fun s' => runC impl_MostInHalves.C (impl_MostInHalves.O N) N impl_MostInHalves.c13 13 s' (impl_MostInHalves.K13 N)
noncomputable def impl_MostInHalves.g (N : Nat) (a0 : Int) (a1 : Int) : Option impl_MostInHalves.R := impl_MostInHalves.o0 N a0 a1 ((fun w0 w1 w2 => impl_MostInHalves.d1 N w0 w1 w2))
theorem impl_MostInHalves.c1_0 : impl_MostInHalves.c1 = (.seq impl_MostInHalves.c2 (.seq (.seq impl_MostInHalves.c12 impl_MostInHalves.c13) impl_MostInHalves.c7)) := by kernel_rfl
theorem impl_MostInHalves.g.run (N : Nat) (a0 : Int) (a1 : Int) : runC impl_MostInHalves.C (impl_MostInHalves.O N) N impl_MostInHalves.c1 1 (st0 [.one (.int .i64 a0), .one (.int .i64 a1)] [] : St D0) impl_MostInHalves.K0 = impl_MostInHalves.g N a0 a1 := by
  rw [impl_MostInHalves.c1_0]; unfold impl_MostInHalves.g; exact (impl_MostInHalves.o0.run N impl_MostInHalves.c13 a0 a1).trans (congr rfl (funext fun w0 => funext fun w1 => funext fun w2 => impl_MostInHalves.d1.run N w0 w1 w2))
theorem impl_MostInHalves.good (N : Nat) (a0 : Int) (a1 : Int) (r : impl_MostInHalves.R) (h : impl_MostInHalves.g N a0 a1 = some r) : Go.PM.Good Go.Proofs.Try.prog T0 14 [.one (.int .i64 a0), .one (.int .i64 a1)] [] (impl_MostInHalves.sig.ret r) (impl_MostInHalves.sig.bs r) :=
  good_fn tabOk0 mixed0 impl_MostInHalves.sig (impl_MostInHalves.E N) Go.Proofs.Try.func14 (by kernel_rfl) (by kernel_rfl) 137469364211 0 0 [(12, [0, 1, 20], []), (122, [0, 1, 7, 8, 22, 23], [])] [(false, [.any]), (false, [.any]), (false, [.any])] (by kernel_rfl) rfl ((impl_MostInHalves.g.run N a0 a1).trans h)
noncomputable def impl_MostInHalves.ent (N : Nat) : Ent Go.Proofs.Try.prog T0 := mkEnt 14 [(false, [.any]), (false, [.any])] impl_MostInHalves.sig (fun t => impl_MostInHalves.g N t.1 t.2) (fun t r h => impl_MostInHalves.good N t.1 t.2 r h)
end Go.Proofs.Ytpemffldaepbpaa.M

namespace Go.Proofs.Ytpemffldaepbpaa.M
open Go Go.PM Go.Proofs.Ytpemffldaepbpaa.P
set_option linter.unusedVariables false
set_option maxRecDepth 100000
/-! ### spec_MostInHalves -/
abbrev spec_MostInHalves.R : Type := Int × Int × Bool
abbrev spec_MostInHalves.sig : Sig := ⟨[(false, 1), (false, 1)], [], [.int .i64, .int .i64], [(false, 1), (false, 1), (false, 1)], [], [.int .i64, .int .i64, .bool]⟩
noncomputable def spec_MostInHalves.C : Cfg D0 := ⟨Go.Proofs.Try.prog, T0, 17656681863155, 0, 49, 0, [(12, [0, 1, 22], []), (122, [0, 1, 7, 8, 9], []), (978, [0, 1, 7, 8, 9], []), (31306, [0, 1, 7, 8, 9, 10, 32, 33, 34], [])]⟩
noncomputable def spec_MostInHalves.E (N : Nat) : List (Ent Go.Proofs.Try.prog T0) := [spec_diHours.ent N, spec_l1In.ent N, spec_stFrom.ent N]
noncomputable def spec_MostInHalves.O (N : Nat) : Orc D0 spec_MostInHalves.R := orcOf (spec_MostInHalves.E N)
noncomputable def spec_MostInHalves.K0 : Ex → St D0 → Option spec_MostInHalves.R := exitK spec_MostInHalves.C Go.Proofs.Try.f15.results.toList [(false, [.any]), (false, [.any]), (false, [.any])] (decOut spec_MostInHalves.sig)
noncomputable def spec_MostInHalves.c1 : Code := codeAt (Go.Proofs.Try.f15.body.getD .skip) []
noncomputable def spec_MostInHalves.c2 : Code := codeAt (Go.Proofs.Try.f15.body.getD .skip) [false]
noncomputable def spec_MostInHalves.c7 : Code := codeAt (Go.Proofs.Try.f15.body.getD .skip) [true, true]
noncomputable def spec_MostInHalves.c12 : Code := codeAt (Go.Proofs.Try.f15.body.getD .skip) [true, false, false]
noncomputable def spec_MostInHalves.c13 : Code := codeAt (Go.Proofs.Try.f15.body.getD .skip) [true, false, true]
noncomputable def spec_MostInHalves.c14 : Code := codeAt (Go.Proofs.Try.f15.body.getD .skip) [true, true, false]
noncomputable def spec_MostInHalves.c31 : Code := codeAt (Go.Proofs.Try.f15.body.getD .skip) [true, true, true, true]
noncomputable def spec_MostInHalves.c60 : Code := codeAt (Go.Proofs.Try.f15.body.getD .skip) [true, true, true, false, false]
noncomputable def spec_MostInHalves.c244 : Code := codeAt (Go.Proofs.Try.f15.body.getD .skip) [true, true, true, false, true, false, false]
noncomputable def spec_MostInHalves.c488 : Code := codeAt (Go.Proofs.Try.f15.body.getD .skip) [true, true, true, false, true, false, false, false]
noncomputable def spec_MostInHalves.c979 : Code := codeAt (Go.Proofs.Try.f15.body.getD .skip) [true, true, true, false, true, false, false, true, true]
noncomputable def spec_MostInHalves.c3912 : Code := codeAt (Go.Proofs.Try.f15.body.getD .skip) [true, true, true, false, true, false, false, true, false, false, false]
noncomputable def spec_MostInHalves.c7827 : Code := codeAt (Go.Proofs.Try.f15.body.getD .skip) [true, true, true, false, true, false, false, true, false, false, true, true]
noncomputable def spec_MostInHalves.c15652 : Code := codeAt (Go.Proofs.Try.f15.body.getD .skip) [true, true, true, false, true, false, false, true, false, false, true, false, false]
noncomputable def spec_MostInHalves.c62612 : Code := codeAt (Go.Proofs.Try.f15.body.getD .skip) [true, true, true, false, true, false, false, true, false, false, true, false, true, false, false]
noncomputable def spec_MostInHalves.K979 (N : Nat) (Kn122 : St D0 → Option spec_MostInHalves.R) : Ex → St D0 → Option spec_MostInHalves.R := (onN (fun s => spec_MostInHalves.C.tidy 122 s ((onN Kn122 (blockK 0 (onN (fun s => spec_MostInHalves.C.tidy 30 s (fun s' => runC spec_MostInHalves.C (spec_MostInHalves.O N) N spec_MostInHalves.c31 31 s' spec_MostInHalves.K0)) spec_MostInHalves.K0))) .normal)) (onN Kn122 (blockK 0 (onN (fun s => spec_MostInHalves.C.tidy 30 s (fun s' => runC spec_MostInHalves.C (spec_MostInHalves.O N) N spec_MostInHalves.c31 31 s' spec_MostInHalves.K0)) spec_MostInHalves.K0))))
noncomputable def spec_MostInHalves.o4 (N : Nat) (v0 : Int) (v1 : Int) (v2 : Int) (v3 : Int) (v4 : Int) (c2 : Int → Int → Int → Int → Int → Option spec_MostInHalves.R) : Option spec_MostInHalves.R :=
 c2 v0 v1 v2 v3 (w64 (v4 + 1))
theorem spec_MostInHalves.o4.run (N : Nat) (Kn122 : St D0 → Option spec_MostInHalves.R) (v0 : Int) (v1 : Int) (v2 : Int) (v3 : Int) (v4 : Int) : runC spec_MostInHalves.C (spec_MostInHalves.O N) N spec_MostInHalves.c979 979 (mkSt [(0, .one (.int .i64 v0)), (1, .one (.int .i64 v1)), (7, .one (.int .i64 v2)), (8, .one (.int .i64 v3)), (9, .one (.int .i64 v4))] [] : St D0) (onN (fun s => spec_MostInHalves.C.tidy 122 s ((onN Kn122 (blockK 0 (onN (fun s => spec_MostInHalves.C.tidy 30 s (fun s' => runC spec_MostInHalves.C (spec_MostInHalves.O N) N spec_MostInHalves.c31 31 s' spec_MostInHalves.K0)) spec_MostInHalves.K0))) .normal)) (onN Kn122 (blockK 0 (onN (fun s => spec_MostInHalves.C.tidy 30 s (fun s' => runC spec_MostInHalves.C (spec_MostInHalves.O N) N spec_MostInHalves.c31 31 s' spec_MostInHalves.K0)) spec_MostInHalves.K0)))) = spec_MostInHalves.o4 N v0 v1 v2 v3 v4 ((fun w0 w1 w2 w3 w4 => Kn122 (mkSt [(0, .one (.int .i64 w0)), (1, .one (.int .i64 w1)), (7, .one (.int .i64 w2)), (8, .one (.int .i64 w3)), (9, .one (.int .i64 w4))] [] : St D0))) := by kernel_rfl
noncomputable def spec_MostInHalves.d4 (N : Nat) (v0 : Int) (v1 : Int) (v2 : Int) (v3 : Int) (v4 : Int) (c2 : Int → Int → Int → Int → Int → Option spec_MostInHalves.R) : Option spec_MostInHalves.R := spec_MostInHalves.o4 N v0 v1 v2 v3 v4 c2
theorem spec_MostInHalves.d4.run (N : Nat) (Kn122 : St D0 → Option spec_MostInHalves.R) (v0 : Int) (v1 : Int) (v2 : Int) (v3 : Int) (v4 : Int) : runC spec_MostInHalves.C (spec_MostInHalves.O N) N spec_MostInHalves.c979 979 (mkSt [(0, .one (.int .i64 v0)), (1, .one (.int .i64 v1)), (7, .one (.int .i64 v2)), (8, .one (.int .i64 v3)), (9, .one (.int .i64 v4))] [] : St D0) (spec_MostInHalves.K979 N Kn122) = spec_MostInHalves.d4 N v0 v1 v2 v3 v4 ((fun w0 w1 w2 w3 w4 => Kn122 (mkSt [(0, .one (.int .i64 w0)), (1, .one (.int .i64 w1)), (7, .one (.int .i64 w2)), (8, .one (.int .i64 w3)), (9, .one (.int .i64 w4))] [] : St D0))) := by
  exact (spec_MostInHalves.o4.run N Kn122 v0 v1 v2 v3 v4).trans rfl
noncomputable def spec_MostInHalves.B489 (N : Nat) (Kn122 : St D0 → Option spec_MostInHalves.R) : St D0 → Option spec_MostInHalves.R := fun s' => runC spec_MostInHalves.C (spec_MostInHalves.O N) N spec_MostInHalves.c979 979 s' (spec_MostInHalves.K979 N Kn122)
noncomputable def spec_MostInHalves.K62612 (N : Nat) (Kn122 : St D0 → Option spec_MostInHalves.R) (Kn31306 : St D0 → Option spec_MostInHalves.R) : Ex → St D0 → Option spec_MostInHalves.R := (onN (fun s => spec_MostInHalves.C.tidy 31306 s ((onN Kn31306 (blockK 2 (onN (fun s => spec_MostInHalves.C.tidy 7826 s (fun s' => runC spec_MostInHalves.C (spec_MostInHalves.O N) N spec_MostInHalves.c7827 7827 s' (blockK 1 (onN (fun s => spec_MostInHalves.C.tidy 978 s (spec_MostInHalves.B489 N Kn122)) (onN (fun s => spec_MostInHalves.C.tidy 122 s ((onN Kn122 (blockK 0 (onN (fun s => spec_MostInHalves.C.tidy 30 s (fun s' => runC spec_MostInHalves.C (spec_MostInHalves.O N) N spec_MostInHalves.c31 31 s' spec_MostInHalves.K0)) spec_MostInHalves.K0))) .normal)) (onN Kn122 (blockK 0 (onN (fun s => spec_MostInHalves.C.tidy 30 s (fun s' => runC spec_MostInHalves.C (spec_MostInHalves.O N) N spec_MostInHalves.c31 31 s' spec_MostInHalves.K0)) spec_MostInHalves.K0)))))))) (blockK 1 (onN (fun s => spec_MostInHalves.C.tidy 978 s (spec_MostInHalves.B489 N Kn122)) (onN (fun s => spec_MostInHalves.C.tidy 122 s ((onN Kn122 (blockK 0 (onN (fun s => spec_MostInHalves.C.tidy 30 s (fun s' => runC spec_MostInHalves.C (spec_MostInHalves.O N) N spec_MostInHalves.c31 31 s' spec_MostInHalves.K0)) spec_MostInHalves.K0))) .normal)) (onN Kn122 (blockK 0 (onN (fun s => spec_MostInHalves.C.tidy 30 s (fun s' => runC spec_MostInHalves.C (spec_MostInHalves.O N) N spec_MostInHalves.c31 31 s' spec_MostInHalves.K0)) spec_MostInHalves.K0))))))))) .normal)) (onN Kn31306 (blockK 2 (onN (fun s => spec_MostInHalves.C.tidy 7826 s (fun s' => runC spec_MostInHalves.C (spec_MostInHalves.O N) N spec_MostInHalves.c7827 7827 s' (blockK 1 (onN (fun s => spec_MostInHalves.C.tidy 978 s (spec_MostInHalves.B489 N Kn122)) (onN (fun s => spec_MostInHalves.C.tidy 122 s ((onN Kn122 (blockK 0 (onN (fun s => spec_MostInHalves.C.tidy 30 s (fun s' => runC spec_MostInHalves.C (spec_MostInHalves.O N) N spec_MostInHalves.c31 31 s' spec_MostInHalves.K0)) spec_MostInHalves.K0))) .normal)) (onN Kn122 (blockK 0 (onN (fun s => spec_MostInHalves.C.tidy 30 s (fun s' => runC spec_MostInHalves.C (spec_MostInHalves.O N) N spec_MostInHalves.c31 31 s' spec_MostInHalves.K0)) spec_MostInHalves.K0)))))))) (blockK 1 (onN (fun s => spec_MostInHalves.C.tidy 978 s (spec_MostInHalves.B489 N Kn122)) (onN (fun s => spec_MostInHalves.C.tidy 122 s ((onN Kn122 (blockK 0 (onN (fun s => spec_MostInHalves.C.tidy 30 s (fun s' => runC spec_MostInHalves.C (spec_MostInHalves.O N) N spec_MostInHalves.c31 31 s' spec_MostInHalves.K0)) spec_MostInHalves.K0))) .normal)) (onN Kn122 (blockK 0 (onN (fun s => spec_MostInHalves.C.tidy 30 s (fun s' => runC spec_MostInHalves.C (spec_MostInHalves.O N) N spec_MostInHalves.c31 31 s' spec_MostInHalves.K0)) spec_MostInHalves.K0))))))))))
noncomputable def spec_MostInHalves.o3 (N : Nat) (v0 : Int) (v1 : Int) (v2 : Int) (v3 : Int) (v4 : Int) (v5 : Int) (v6 : List Int) (v7 : Int) (v8 : Int) (c3 : Int → Int → Int → Int → Int → Int → (List Int) → Int → Int → Option spec_MostInHalves.R) (c4 : Int → Int → Int → Int → Int → Option spec_MostInHalves.R) : Option spec_MostInHalves.R :=
 bif (decide (v8 < v7)) then
  bif (decide (0 ≤ v8)) then
   bif (decide (v8 < (v6.length : Int))) then
    (v6[(v8 : Int).toNat]?).bind fun x1 =>
    c3 v0 v1 v2 v3 v4 (w64 (v5 + x1)) v6 v7 (w64 (v8 + 1))
   else
   none
  else
  none
 else
 bif (decide (v5 > v3)) then
  c4 v0 v1 v4 v5 v4
 else
 c4 v0 v1 v2 v3 v4
theorem spec_MostInHalves.o3.run (N : Nat) (Kb489 : St D0 → Option spec_MostInHalves.R) (Kn122 : St D0 → Option spec_MostInHalves.R) (Kn31306 : St D0 → Option spec_MostInHalves.R) (v0 : Int) (v1 : Int) (v2 : Int) (v3 : Int) (v4 : Int) (v5 : Int) (v6 : List Int) (v7 : Int) (v8 : Int) : runC spec_MostInHalves.C (spec_MostInHalves.O N) N spec_MostInHalves.c62612 62612 (mkSt [(0, .one (.int .i64 v0)), (1, .one (.int .i64 v1)), (7, .one (.int .i64 v2)), (8, .one (.int .i64 v3)), (9, .one (.int .i64 v4)), (10, .one (.int .i64 v5)), (32, .one (.sl true 3 v6)), (33, .one (.int .i64 v7)), (34, .one (.int .i64 v8))] [] : St D0) (onN (fun s => spec_MostInHalves.C.tidy 31306 s ((onN Kn31306 (blockK 2 (onN (fun s => spec_MostInHalves.C.tidy 7826 s (fun s' => runC spec_MostInHalves.C (spec_MostInHalves.O N) N spec_MostInHalves.c7827 7827 s' (blockK 1 (onN (fun s => spec_MostInHalves.C.tidy 978 s Kb489) (onN (fun s => spec_MostInHalves.C.tidy 122 s ((onN Kn122 (blockK 0 (onN (fun s => spec_MostInHalves.C.tidy 30 s (fun s' => runC spec_MostInHalves.C (spec_MostInHalves.O N) N spec_MostInHalves.c31 31 s' spec_MostInHalves.K0)) spec_MostInHalves.K0))) .normal)) (onN Kn122 (blockK 0 (onN (fun s => spec_MostInHalves.C.tidy 30 s (fun s' => runC spec_MostInHalves.C (spec_MostInHalves.O N) N spec_MostInHalves.c31 31 s' spec_MostInHalves.K0)) spec_MostInHalves.K0)))))))) (blockK 1 (onN (fun s => spec_MostInHalves.C.tidy 978 s Kb489) (onN (fun s => spec_MostInHalves.C.tidy 122 s ((onN Kn122 (blockK 0 (onN (fun s => spec_MostInHalves.C.tidy 30 s (fun s' => runC spec_MostInHalves.C (spec_MostInHalves.O N) N spec_MostInHalves.c31 31 s' spec_MostInHalves.K0)) spec_MostInHalves.K0))) .normal)) (onN Kn122 (blockK 0 (onN (fun s => spec_MostInHalves.C.tidy 30 s (fun s' => runC spec_MostInHalves.C (spec_MostInHalves.O N) N spec_MostInHalves.c31 31 s' spec_MostInHalves.K0)) spec_MostInHalves.K0))))))))) .normal)) (onN Kn31306 (blockK 2 (onN (fun s => spec_MostInHalves.C.tidy 7826 s (fun s' => runC spec_MostInHalves.C (spec_MostInHalves.O N) N spec_MostInHalves.c7827 7827 s' (blockK 1 (onN (fun s => spec_MostInHalves.C.tidy 978 s Kb489) (onN (fun s => spec_MostInHalves.C.tidy 122 s ((onN Kn122 (blockK 0 (onN (fun s => spec_MostInHalves.C.tidy 30 s (fun s' => runC spec_MostInHalves.C (spec_MostInHalves.O N) N spec_MostInHalves.c31 31 s' spec_MostInHalves.K0)) spec_MostInHalves.K0))) .normal)) (onN Kn122 (blockK 0 (onN (fun s => spec_MostInHalves.C.tidy 30 s (fun s' => runC spec_MostInHalves.C (spec_MostInHalves.O N) N spec_MostInHalves.c31 31 s' spec_MostInHalves.K0)) spec_MostInHalves.K0)))))))) (blockK 1 (onN (fun s => spec_MostInHalves.C.tidy 978 s Kb489) (onN (fun s => spec_MostInHalves.C.tidy 122 s ((onN Kn122 (blockK 0 (onN (fun s => spec_MostInHalves.C.tidy 30 s (fun s' => runC spec_MostInHalves.C (spec_MostInHalves.O N) N spec_MostInHalves.c31 31 s' spec_MostInHalves.K0)) spec_MostInHalves.K0))) .normal)) (onN Kn122 (blockK 0 (onN (fun s => spec_MostInHalves.C.tidy 30 s (fun s' => runC spec_MostInHalves.C (spec_MostInHalves.O N) N spec_MostInHalves.c31 31 s' spec_MostInHalves.K0)) spec_MostInHalves.K0)))))))))) = spec_MostInHalves.o3 N v0 v1 v2 v3 v4 v5 v6 v7 v8 ((fun w0 w1 w2 w3 w4 w5 w6 w7 w8 => Kn31306 (mkSt [(0, .one (.int .i64 w0)), (1, .one (.int .i64 w1)), (7, .one (.int .i64 w2)), (8, .one (.int .i64 w3)), (9, .one (.int .i64 w4)), (10, .one (.int .i64 w5)), (32, .one (.sl true 3 w6)), (33, .one (.int .i64 w7)), (34, .one (.int .i64 w8))] [] : St D0))) ((fun w0 w1 w2 w3 w4 => Kb489 (mkSt [(0, .one (.int .i64 w0)), (1, .one (.int .i64 w1)), (7, .one (.int .i64 w2)), (8, .one (.int .i64 w3)), (9, .one (.int .i64 w4))] [] : St D0))) := by kernel_rfl
noncomputable def spec_MostInHalves.d3 (N : Nat) (v0 : Int) (v1 : Int) (v2 : Int) (v3 : Int) (v4 : Int) (v5 : Int) (v6 : List Int) (v7 : Int) (v8 : Int) (c2 : Int → Int → Int → Int → Int → Option spec_MostInHalves.R) (c3 : Int → Int → Int → Int → Int → Int → (List Int) → Int → Int → Option spec_MostInHalves.R) : Option spec_MostInHalves.R := spec_MostInHalves.o3 N v0 v1 v2 v3 v4 v5 v6 v7 v8 c3 ((fun w0 w1 w2 w3 w4 => spec_MostInHalves.d4 N w0 w1 w2 w3 w4 c2))
theorem spec_MostInHalves.d3.run (N : Nat) (Kn122 : St D0 → Option spec_MostInHalves.R) (Kn31306 : St D0 → Option spec_MostInHalves.R) (v0 : Int) (v1 : Int) (v2 : Int) (v3 : Int) (v4 : Int) (v5 : Int) (v6 : List Int) (v7 : Int) (v8 : Int) : runC spec_MostInHalves.C (spec_MostInHalves.O N) N spec_MostInHalves.c62612 62612 (mkSt [(0, .one (.int .i64 v0)), (1, .one (.int .i64 v1)), (7, .one (.int .i64 v2)), (8, .one (.int .i64 v3)), (9, .one (.int .i64 v4)), (10, .one (.int .i64 v5)), (32, .one (.sl true 3 v6)), (33, .one (.int .i64 v7)), (34, .one (.int .i64 v8))] [] : St D0) (spec_MostInHalves.K62612 N Kn122 Kn31306) = spec_MostInHalves.d3 N v0 v1 v2 v3 v4 v5 v6 v7 v8 ((fun w0 w1 w2 w3 w4 => Kn122 (mkSt [(0, .one (.int .i64 w0)), (1, .one (.int .i64 w1)), (7, .one (.int .i64 w2)), (8, .one (.int .i64 w3)), (9, .one (.int .i64 w4))] [] : St D0))) ((fun w0 w1 w2 w3 w4 w5 w6 w7 w8 => Kn31306 (mkSt [(0, .one (.int .i64 w0)), (1, .one (.int .i64 w1)), (7, .one (.int .i64 w2)), (8, .one (.int .i64 w3)), (9, .one (.int .i64 w4)), (10, .one (.int .i64 w5)), (32, .one (.sl true 3 w6)), (33, .one (.int .i64 w7)), (34, .one (.int .i64 w8))] [] : St D0))) := by
  unfold spec_MostInHalves.d3; exact (spec_MostInHalves.o3.run N (spec_MostInHalves.B489 N Kn122) Kn122 Kn31306 v0 v1 v2 v3 v4 v5 v6 v7 v8).trans (congr (congr rfl rfl) (funext fun w0 => funext fun w1 => funext fun w2 => funext fun w3 => funext fun w4 => spec_MostInHalves.d4.run N Kn122 w0 w1 w2 w3 w4))
noncomputable def spec_MostInHalves.K31306 (N : Nat) (Kn122 : St D0 → Option spec_MostInHalves.R) : Ex → St D0 → Option spec_MostInHalves.R := (blockK 2 (onN (fun s => spec_MostInHalves.C.tidy 7826 s (fun s' => runC spec_MostInHalves.C (spec_MostInHalves.O N) N spec_MostInHalves.c7827 7827 s' (blockK 1 (onN (fun s => spec_MostInHalves.C.tidy 978 s (spec_MostInHalves.B489 N Kn122)) (onN (fun s => spec_MostInHalves.C.tidy 122 s ((onN Kn122 (blockK 0 (onN (fun s => spec_MostInHalves.C.tidy 30 s (fun s' => runC spec_MostInHalves.C (spec_MostInHalves.O N) N spec_MostInHalves.c31 31 s' spec_MostInHalves.K0)) spec_MostInHalves.K0))) .normal)) (onN Kn122 (blockK 0 (onN (fun s => spec_MostInHalves.C.tidy 30 s (fun s' => runC spec_MostInHalves.C (spec_MostInHalves.O N) N spec_MostInHalves.c31 31 s' spec_MostInHalves.K0)) spec_MostInHalves.K0)))))))) (blockK 1 (onN (fun s => spec_MostInHalves.C.tidy 978 s (spec_MostInHalves.B489 N Kn122)) (onN (fun s => spec_MostInHalves.C.tidy 122 s ((onN Kn122 (blockK 0 (onN (fun s => spec_MostInHalves.C.tidy 30 s (fun s' => runC spec_MostInHalves.C (spec_MostInHalves.O N) N spec_MostInHalves.c31 31 s' spec_MostInHalves.K0)) spec_MostInHalves.K0))) .normal)) (onN Kn122 (blockK 0 (onN (fun s => spec_MostInHalves.C.tidy 30 s (fun s' => runC spec_MostInHalves.C (spec_MostInHalves.O N) N spec_MostInHalves.c31 31 s' spec_MostInHalves.K0)) spec_MostInHalves.K0))))))))
noncomputable def spec_MostInHalves.l3 (N : Nat) : Nat → Int → Int → Int → Int → Int → Int → (List Int) → Int → Int → (Int → Int → Int → Int → Int → Option spec_MostInHalves.R) → Option spec_MostInHalves.R
  | 0, _, _, _, _, _, _, _, _, _, _ => none
  | n + 1, v0, v1, v2, v3, v4, v5, v6, v7, v8, c2 => spec_MostInHalves.d3 N v0 v1 v2 v3 v4 v5 v6 v7 v8 c2 ((fun w0 w1 w2 w3 w4 w5 w6 w7 w8 => spec_MostInHalves.l3 N n w0 w1 w2 w3 w4 w5 w6 w7 w8 c2))
theorem spec_MostInHalves.loop31306 (N : Nat) (Kn122 : St D0 → Option spec_MostInHalves.R) : ∀ n, (∀ (v0 : Int) (v1 : Int) (v2 : Int) (v3 : Int) (v4 : Int) (v5 : Int) (v6 : List Int) (v7 : Int) (v8 : Int), iter (loopF spec_MostInHalves.C (spec_MostInHalves.O N) N spec_MostInHalves.c62612 31306) n (mkSt [(0, .one (.int .i64 v0)), (1, .one (.int .i64 v1)), (7, .one (.int .i64 v2)), (8, .one (.int .i64 v3)), (9, .one (.int .i64 v4)), (10, .one (.int .i64 v5)), (32, .one (.sl true 3 v6)), (33, .one (.int .i64 v7)), (34, .one (.int .i64 v8))] [] : St D0) (spec_MostInHalves.K31306 N Kn122) = spec_MostInHalves.l3 N n v0 v1 v2 v3 v4 v5 v6 v7 v8 ((fun w0 w1 w2 w3 w4 => Kn122 (mkSt [(0, .one (.int .i64 w0)), (1, .one (.int .i64 w1)), (7, .one (.int .i64 w2)), (8, .one (.int .i64 w3)), (9, .one (.int .i64 w4))] [] : St D0))))
  | 0 => (fun v0 v1 v2 v3 v4 v5 v6 v7 v8 => rfl)
  | n + 1 => (fun v0 v1 v2 v3 v4 v5 v6 v7 v8 => (spec_MostInHalves.d3.run N Kn122 (fun s => iter (loopF spec_MostInHalves.C (spec_MostInHalves.O N) N spec_MostInHalves.c62612 31306) n s (spec_MostInHalves.K31306 N Kn122)) v0 v1 v2 v3 v4 v5 v6 v7 v8).trans (show _ = spec_MostInHalves.d3 N v0 v1 v2 v3 v4 v5 v6 v7 v8 ((fun w0 w1 w2 w3 w4 => Kn122 (mkSt [(0, .one (.int .i64 w0)), (1, .one (.int .i64 w1)), (7, .one (.int .i64 w2)), (8, .one (.int .i64 w3)), (9, .one (.int .i64 w4))] [] : St D0))) ((fun w0 w1 w2 w3 w4 w5 w6 w7 w8 => spec_MostInHalves.l3 N n w0 w1 w2 w3 w4 w5 w6 w7 w8 ((fun w0 w1 w2 w3 w4 => Kn122 (mkSt [(0, .one (.int .i64 w0)), (1, .one (.int .i64 w1)), (7, .one (.int .i64 w2)), (8, .one (.int .i64 w3)), (9, .one (.int .i64 w4))] [] : St D0))))) from (congr (congr rfl rfl) (funext fun w0 => funext fun w1 => funext fun w2 => funext fun w3 => funext fun w4 => funext fun w5 => funext fun w6 => funext fun w7 => funext fun w8 => (spec_MostInHalves.loop31306 N Kn122 n) w0 w1 w2 w3 w4 w5 w6 w7 w8))))
noncomputable def spec_MostInHalves.K244 (N : Nat) (Kn122 : St D0 → Option spec_MostInHalves.R) : Ex → St D0 → Option spec_MostInHalves.R := (onN (fun s => spec_MostInHalves.C.tidy 122 s ((onN Kn122 (blockK 0 (onN (fun s => spec_MostInHalves.C.tidy 30 s (fun s' => runC spec_MostInHalves.C (spec_MostInHalves.O N) N spec_MostInHalves.c31 31 s' spec_MostInHalves.K0)) spec_MostInHalves.K0))) .normal)) (onN Kn122 (blockK 0 (onN (fun s => spec_MostInHalves.C.tidy 30 s (fun s' => runC spec_MostInHalves.C (spec_MostInHalves.O N) N spec_MostInHalves.c31 31 s' spec_MostInHalves.K0)) spec_MostInHalves.K0))))
noncomputable def spec_MostInHalves.o2 (N : Nat) (v0 : Int) (v1 : Int) (v2 : Int) (v3 : Int) (v4 : Int) (c3 : Int → Int → Int → Int → Int → Int → (List Int) → Int → Int → Option spec_MostInHalves.R) : Option spec_MostInHalves.R :=
 bif (decide (v4 < (w64 (2 * v0)))) then
  (spec_stFrom.g N v0 v4 v1).bind fun r1 =>
  c3 v0 v1 v2 v3 v4 0 r1 (r1.length : Int) 0
 else
 some (v2, v3, true)
theorem spec_MostInHalves.o2.run (N : Nat) (Kn122 : St D0 → Option spec_MostInHalves.R) (H62612 : Code) (v0 : Int) (v1 : Int) (v2 : Int) (v3 : Int) (v4 : Int) : runC spec_MostInHalves.C (spec_MostInHalves.O N) N (.seq spec_MostInHalves.c488 (.seq (.block 1 (.seq spec_MostInHalves.c3912 (.seq (.seq spec_MostInHalves.c15652 (.block 2 (.loop H62612))) spec_MostInHalves.c7827))) spec_MostInHalves.c979)) 244 (mkSt [(0, .one (.int .i64 v0)), (1, .one (.int .i64 v1)), (7, .one (.int .i64 v2)), (8, .one (.int .i64 v3)), (9, .one (.int .i64 v4))] [] : St D0) (onN (fun s => spec_MostInHalves.C.tidy 122 s ((onN Kn122 (blockK 0 (onN (fun s => spec_MostInHalves.C.tidy 30 s (fun s' => runC spec_MostInHalves.C (spec_MostInHalves.O N) N spec_MostInHalves.c31 31 s' spec_MostInHalves.K0)) spec_MostInHalves.K0))) .normal)) (onN Kn122 (blockK 0 (onN (fun s => spec_MostInHalves.C.tidy 30 s (fun s' => runC spec_MostInHalves.C (spec_MostInHalves.O N) N spec_MostInHalves.c31 31 s' spec_MostInHalves.K0)) spec_MostInHalves.K0)))) = spec_MostInHalves.o2 N v0 v1 v2 v3 v4 ((fun w0 w1 w2 w3 w4 w5 w6 w7 w8 => iter (loopF spec_MostInHalves.C (spec_MostInHalves.O N) N H62612 31306) N (mkSt [(0, .one (.int .i64 w0)), (1, .one (.int .i64 w1)), (7, .one (.int .i64 w2)), (8, .one (.int .i64 w3)), (9, .one (.int .i64 w4)), (10, .one (.int .i64 w5)), (32, .one (.sl true 3 w6)), (33, .one (.int .i64 w7)), (34, .one (.int .i64 w8))] [] : St D0) (blockK 2 (onN (fun s => spec_MostInHalves.C.tidy 7826 s (fun s' => runC spec_MostInHalves.C (spec_MostInHalves.O N) N spec_MostInHalves.c7827 7827 s' (blockK 1 (onN (fun s => spec_MostInHalves.C.tidy 978 s (fun s' => runC spec_MostInHalves.C (spec_MostInHalves.O N) N spec_MostInHalves.c979 979 s' (onN (fun s => spec_MostInHalves.C.tidy 122 s ((onN Kn122 (blockK 0 (onN (fun s => spec_MostInHalves.C.tidy 30 s (fun s' => runC spec_MostInHalves.C (spec_MostInHalves.O N) N spec_MostInHalves.c31 31 s' spec_MostInHalves.K0)) spec_MostInHalves.K0))) .normal)) (onN Kn122 (blockK 0 (onN (fun s => spec_MostInHalves.C.tidy 30 s (fun s' => runC spec_MostInHalves.C (spec_MostInHalves.O N) N spec_MostInHalves.c31 31 s' spec_MostInHalves.K0)) spec_MostInHalves.K0)))))) (onN (fun s => spec_MostInHalves.C.tidy 122 s ((onN Kn122 (blockK 0 (onN (fun s => spec_MostInHalves.C.tidy 30 s (fun s' => runC spec_MostInHalves.C (spec_MostInHalves.O N) N spec_MostInHalves.c31 31 s' spec_MostInHalves.K0)) spec_MostInHalves.K0))) .normal)) (onN Kn122 (blockK 0 (onN (fun s => spec_MostInHalves.C.tidy 30 s (fun s' => runC spec_MostInHalves.C (spec_MostInHalves.O N) N spec_MostInHalves.c31 31 s' spec_MostInHalves.K0)) spec_MostInHalves.K0)))))))) (blockK 1 (onN (fun s => spec_MostInHalves.C.tidy 978 s (fun s' => runC spec_MostInHalves.C (spec_MostInHalves.O N) N spec_MostInHalves.c979 979 s' (onN (fun s => spec_MostInHalves.C.tidy 122 s ((onN Kn122 (blockK 0 (onN (fun s => spec_MostInHalves.C.tidy 30 s (fun s' => runC spec_MostInHalves.C (spec_MostInHalves.O N) N spec_MostInHalves.c31 31 s' spec_MostInHalves.K0)) spec_MostInHalves.K0))) .normal)) (onN Kn122 (blockK 0 (onN (fun s => spec_MostInHalves.C.tidy 30 s (fun s' => runC spec_MostInHalves.C (spec_MostInHalves.O N) N spec_MostInHalves.c31 31 s' spec_MostInHalves.K0)) spec_MostInHalves.K0)))))) (onN (fun s => spec_MostInHalves.C.tidy 122 s ((onN Kn122 (blockK 0 (onN (fun s => spec_MostInHalves.C.tidy 30 s (fun s' => runC spec_MostInHalves.C (spec_MostInHalves.O N) N spec_MostInHalves.c31 31 s' spec_MostInHalves.K0)) spec_MostInHalves.K0))) .normal)) (onN Kn122 (blockK 0 (onN (fun s => spec_MostInHalves.C.tidy 30 s (fun s' => runC spec_MostInHalves.C (spec_MostInHalves.O N) N spec_MostInHalves.c31 31 s' spec_MostInHalves.K0)) spec_MostInHalves.K0)))))))))) := by kernel_rfl
noncomputable def spec_MostInHalves.d2 (N : Nat) (v0 : Int) (v1 : Int) (v2 : Int) (v3 : Int) (v4 : Int) (c2 : Int → Int → Int → Int → Int → Option spec_MostInHalves.R) : Option spec_MostInHalves.R := spec_MostInHalves.o2 N v0 v1 v2 v3 v4 ((fun w0 w1 w2 w3 w4 w5 w6 w7 w8 => spec_MostInHalves.l3 N N w0 w1 w2 w3 w4 w5 w6 w7 w8 c2))
theorem spec_MostInHalves.c244_2 : spec_MostInHalves.c244 = (.seq spec_MostInHalves.c488 (.seq (.block 1 (.seq spec_MostInHalves.c3912 (.seq (.seq spec_MostInHalves.c15652 (.block 2 (.loop spec_MostInHalves.c62612))) spec_MostInHalves.c7827))) spec_MostInHalves.c979)) := by kernel_rfl
theorem spec_MostInHalves.d2.run (N : Nat) (Kn122 : St D0 → Option spec_MostInHalves.R) (v0 : Int) (v1 : Int) (v2 : Int) (v3 : Int) (v4 : Int) : runC spec_MostInHalves.C (spec_MostInHalves.O N) N spec_MostInHalves.c244 244 (mkSt [(0, .one (.int .i64 v0)), (1, .one (.int .i64 v1)), (7, .one (.int .i64 v2)), (8, .one (.int .i64 v3)), (9, .one (.int .i64 v4))] [] : St D0) (spec_MostInHalves.K244 N Kn122) = spec_MostInHalves.d2 N v0 v1 v2 v3 v4 ((fun w0 w1 w2 w3 w4 => Kn122 (mkSt [(0, .one (.int .i64 w0)), (1, .one (.int .i64 w1)), (7, .one (.int .i64 w2)), (8, .one (.int .i64 w3)), (9, .one (.int .i64 w4))] [] : St D0))) := by
  rw [spec_MostInHalves.c244_2]; unfold spec_MostInHalves.d2; exact (spec_MostInHalves.o2.run N Kn122 spec_MostInHalves.c62612 v0 v1 v2 v3 v4).trans (congr rfl (funext fun w0 => funext fun w1 => funext fun w2 => funext fun w3 => funext fun w4 => funext fun w5 => funext fun w6 => funext fun w7 => funext fun w8 => (spec_MostInHalves.loop31306 N Kn122 N) w0 w1 w2 w3 w4 w5 w6 w7 w8))
noncomputable def spec_MostInHalves.K122 (N : Nat) : Ex → St D0 → Option spec_MostInHalves.R := (blockK 0 (onN (fun s => spec_MostInHalves.C.tidy 30 s (fun s' => runC spec_MostInHalves.C (spec_MostInHalves.O N) N spec_MostInHalves.c31 31 s' spec_MostInHalves.K0)) spec_MostInHalves.K0))
noncomputable def spec_MostInHalves.l2 (N : Nat) : Nat → Int → Int → Int → Int → Int → Option spec_MostInHalves.R
  | 0, _, _, _, _, _ => none
  | n + 1, v0, v1, v2, v3, v4 => spec_MostInHalves.d2 N v0 v1 v2 v3 v4 ((fun w0 w1 w2 w3 w4 => spec_MostInHalves.l2 N n w0 w1 w2 w3 w4))
theorem spec_MostInHalves.loop122 (N : Nat) : ∀ n, (∀ (v0 : Int) (v1 : Int) (v2 : Int) (v3 : Int) (v4 : Int), iter (loopF spec_MostInHalves.C (spec_MostInHalves.O N) N spec_MostInHalves.c244 122) n (mkSt [(0, .one (.int .i64 v0)), (1, .one (.int .i64 v1)), (7, .one (.int .i64 v2)), (8, .one (.int .i64 v3)), (9, .one (.int .i64 v4))] [] : St D0) (spec_MostInHalves.K122 N) = spec_MostInHalves.l2 N n v0 v1 v2 v3 v4)
  | 0 => (fun v0 v1 v2 v3 v4 => rfl)
  | n + 1 => (fun v0 v1 v2 v3 v4 => (spec_MostInHalves.d2.run N (fun s => iter (loopF spec_MostInHalves.C (spec_MostInHalves.O N) N spec_MostInHalves.c244 122) n s (spec_MostInHalves.K122 N)) v0 v1 v2 v3 v4).trans (show _ = spec_MostInHalves.d2 N v0 v1 v2 v3 v4 ((fun w0 w1 w2 w3 w4 => spec_MostInHalves.l2 N n w0 w1 w2 w3 w4)) from (congr rfl (funext fun w0 => funext fun w1 => funext fun w2 => funext fun w3 => funext fun w4 => (spec_MostInHalves.loop122 N n) w0 w1 w2 w3 w4))))
noncomputable def spec_MostInHalves.K13 (N : Nat) : Ex → St D0 → Option spec_MostInHalves.R := (onN (fun s => spec_MostInHalves.C.tidy 6 s (fun s' => runC spec_MostInHalves.C (spec_MostInHalves.O N) N spec_MostInHalves.c7 7 s' spec_MostInHalves.K0)) spec_MostInHalves.K0)
noncomputable def spec_MostInHalves.o1 (N : Nat) (v0 : Int) (v1 : Int) (v2 : Bool) (c2 : Int → Int → Int → Int → Int → Option spec_MostInHalves.R) : Option spec_MostInHalves.R :=
 bif v2 then
  some (0, 0, false)
 else
 c2 v0 v1 0 0 0
theorem spec_MostInHalves.o1.run (N : Nat) (H244 : Code) (v0 : Int) (v1 : Int) (v2 : Bool) : runC spec_MostInHalves.C (spec_MostInHalves.O N) N spec_MostInHalves.c13 13 (mkSt [(0, .one (.int .i64 v0)), (1, .one (.int .i64 v1)), (22, .one (.bool v2))] [] : St D0) (onN (fun s => spec_MostInHalves.C.tidy 6 s (fun s' => runC spec_MostInHalves.C (spec_MostInHalves.O N) N (.seq spec_MostInHalves.c14 (.seq (.seq spec_MostInHalves.c60 (.block 0 (.loop H244))) spec_MostInHalves.c31)) 7 s' spec_MostInHalves.K0)) spec_MostInHalves.K0) = spec_MostInHalves.o1 N v0 v1 v2 ((fun w0 w1 w2 w3 w4 => iter (loopF spec_MostInHalves.C (spec_MostInHalves.O N) N H244 122) N (mkSt [(0, .one (.int .i64 w0)), (1, .one (.int .i64 w1)), (7, .one (.int .i64 w2)), (8, .one (.int .i64 w3)), (9, .one (.int .i64 w4))] [] : St D0) (blockK 0 (onN (fun s => spec_MostInHalves.C.tidy 30 s (fun s' => runC spec_MostInHalves.C (spec_MostInHalves.O N) N spec_MostInHalves.c31 31 s' spec_MostInHalves.K0)) spec_MostInHalves.K0)))) := by kernel_rfl
noncomputable def spec_MostInHalves.d1 (N : Nat) (v0 : Int) (v1 : Int) (v2 : Bool) : Option spec_MostInHalves.R := spec_MostInHalves.o1 N v0 v1 v2 ((fun w0 w1 w2 w3 w4 => spec_MostInHalves.l2 N N w0 w1 w2 w3 w4))
theorem spec_MostInHalves.d1.run (N : Nat) (v0 : Int) (v1 : Int) (v2 : Bool) : runC spec_MostInHalves.C (spec_MostInHalves.O N) N spec_MostInHalves.c13 13 (mkSt [(0, .one (.int .i64 v0)), (1, .one (.int .i64 v1)), (22, .one (.bool v2))] [] : St D0) (spec_MostInHalves.K13 N) = spec_MostInHalves.d1 N v0 v1 v2 := by
  unfold spec_MostInHalves.d1; exact (spec_MostInHalves.o1.run N spec_MostInHalves.c244 v0 v1 v2).trans (congr rfl (funext fun w0 => funext fun w1 => funext fun w2 => funext fun w3 => funext fun w4 => (spec_MostInHalves.loop122 N N) w0 w1 w2 w3 w4))
noncomputable def spec_MostInHalves.o0 (N : Nat) (a0 : Int) (a1 : Int) (c1 : Int → Int → Bool → Option spec_MostInHalves.R) : Option spec_MostInHalves.R :=
 (spec_diHours.g N a0).bind fun r1 =>
 bif (!r1) then
  c1 a0 a1 true
 else
 (spec_l1In.g N a1 1 (w64 (2 * a0))).bind fun r2 =>
 c1 a0 a1 (!r2)
theorem spec_MostInHalves.o0.run (N : Nat) (H13 : Code) (a0 : Int) (a1 : Int) : runC spec_MostInHalves.C (spec_MostInHalves.O N) N (.seq spec_MostInHalves.c2 (.seq (.seq spec_MostInHalves.c12 H13) spec_MostInHalves.c7)) 1 (st0 [.one (.int .i64 a0), .one (.int .i64 a1)] [] : St D0) spec_MostInHalves.K0 = spec_MostInHalves.o0 N a0 a1 ((fun w0 w1 w2 => runC spec_MostInHalves.C (spec_MostInHalves.O N) N H13 13 (mkSt [(0, .one (.int .i64 w0)), (1, .one (.int .i64 w1)), (22, .one (.bool w2))] [] : St D0) (onN (fun s => spec_MostInHalves.C.tidy 6 s (fun s' => runC spec_MostInHalves.C (spec_MostInHalves.O N) N spec_MostInHalves.c7 7 s' spec_MostInHalves.K0)) spec_MostInHalves.K0))) := by kernel_rfl
noncomputable def spec_MostInHalves.B6 (N : Nat) : St D0 → Option spec_MostInHalves.R := fun s' => runC spec_MostInHalves.C (spec_MostInHalves.O N) N spec_MostInHalves.c13 13 s' (spec_MostInHalves.K13 N)
noncomputable def spec_MostInHalves.g (N : Nat) (a0 : Int) (a1 : Int) : Option spec_MostInHalves.R := spec_MostInHalves.o0 N a0 a1 ((fun w0 w1 w2 => spec_MostInHalves.d1 N w0 w1 w2))
theorem spec_MostInHalves.c1_0 : spec_MostInHalves.c1 = (.seq spec_MostInHalves.c2 (.seq (.seq spec_MostInHalves.c12 spec_MostInHalves.c13) spec_MostInHalves.c7)) := by kernel_rfl
theorem spec_MostInHalves.g.run (N : Nat) (a0 : Int) (a1 : Int) : runC spec_MostInHalves.C (spec_MostInHalves.O N) N spec_MostInHalves.c1 1 (st0 [.one (.int .i64 a0), .one (.int .i64 a1)] [] : St D0) spec_MostInHalves.K0 = spec_MostInHalves.g N a0 a1 := by
  rw [spec_MostInHalves.c1_0]; unfold spec_MostInHalves.g; exact (spec_MostInHalves.o0.run N spec_MostInHalves.c13 a0 a1).trans (congr rfl (funext fun w0 => funext fun w1 => funext fun w2 => spec_MostInHalves.d1.run N w0 w1 w2))
theorem spec_MostInHalves.good (N : Nat) (a0 : Int) (a1 : Int) (r : spec_MostInHalves.R) (h : spec_MostInHalves.g N a0 a1 = some r) : Go.PM.Good Go.Proofs.Try.prog T0 15 [.one (.int .i64 a0), .one (.int .i64 a1)] [] (spec_MostInHalves.sig.ret r) (spec_MostInHalves.sig.bs r) :=
  good_fn tabOk0 mixed0 spec_MostInHalves.sig (spec_MostInHalves.E N) Go.Proofs.Try.func15 (by kernel_rfl) (by kernel_rfl) 17656681863155 0 0 [(12, [0, 1, 22], []), (122, [0, 1, 7, 8, 9], []), (978, [0, 1, 7, 8, 9], []), (31306, [0, 1, 7, 8, 9, 10, 32, 33, 34], [])] [(false, [.any]), (false, [.any]), (false, [.any])] (by kernel_rfl) rfl ((spec_MostInHalves.g.run N a0 a1).trans h)
noncomputable def spec_MostInHalves.ent (N : Nat) : Ent Go.Proofs.Try.prog T0 := mkEnt 15 [(false, [.any]), (false, [.any])] spec_MostInHalves.sig (fun t => spec_MostInHalves.g N t.1 t.2) (fun t r h => spec_MostInHalves.good N t.1 t.2 r h)
end Go.Proofs.Ytpemffldaepbpaa.M

namespace Go.Proofs.Ytpemffldaepbpaa.M
open Go Go.PM Go.Proofs.Ytpemffldaepbpaa.P
set_option linter.unusedVariables false
set_option maxRecDepth 100000
/-! ### spec_DrawWaitForStrokes -/
abbrev spec_DrawWaitForStrokes.R : Type := Int × Int × Int
abbrev spec_DrawWaitForStrokes.sig : Sig := ⟨[(false, 1)], [], [.sl false 5], [(false, 1), (false, 1), (false, 1)], [], [.int .i64, .int .i64, .int .i64]⟩
noncomputable def spec_DrawWaitForStrokes.C : Cfg D0 := ⟨Go.Proofs.Try.prog, T0, 253, 0, 24, 0, []⟩
noncomputable def spec_DrawWaitForStrokes.E (N : Nat) : List (Ent Go.Proofs.Try.prog T0) := [spec_l1Cur_half.ent N, spec_l1Most.ent N, spec_l1Least.ent N, spec_l1Cur_pick.ent N]
noncomputable def spec_DrawWaitForStrokes.O (N : Nat) : Orc D0 spec_DrawWaitForStrokes.R := orcOf (spec_DrawWaitForStrokes.E N)
noncomputable def spec_DrawWaitForStrokes.K0 : Ex → St D0 → Option spec_DrawWaitForStrokes.R := exitK spec_DrawWaitForStrokes.C Go.Proofs.Try.f7.results.toList [(false, [.any]), (false, [.any]), (false, [.any])] (decOut spec_DrawWaitForStrokes.sig)
noncomputable def spec_DrawWaitForStrokes.c1 : Code := codeAt (Go.Proofs.Try.f7.body.getD .skip) []
noncomputable def spec_DrawWaitForStrokes.o0 (N : Nat) (a0 : List Int) : Option spec_DrawWaitForStrokes.R :=
 (spec_l1Cur_half.g N a0 0 0).bind fun r1 =>
 (spec_l1Most.g N 1 (w64 (r1.1 + 2))).bind fun r2 =>
 (spec_l1Least.g N 30 r2).bind fun r3 =>
 (spec_l1Cur_pick.g N r3 r1.2.2.1 r1.2.2.2.1 r1.2.2.2.2).bind fun r4 =>
 some (r1.1, r1.2.1, r4.1)
theorem spec_DrawWaitForStrokes.o0.run (N : Nat) (a0 : List Int) : runC spec_DrawWaitForStrokes.C (spec_DrawWaitForStrokes.O N) N spec_DrawWaitForStrokes.c1 1 (st0 [.one (.sl false 5 a0)] [] : St D0) spec_DrawWaitForStrokes.K0 = spec_DrawWaitForStrokes.o0 N a0 := by kernel_rfl
noncomputable def spec_DrawWaitForStrokes.g (N : Nat) (a0 : List Int) : Option spec_DrawWaitForStrokes.R := spec_DrawWaitForStrokes.o0 N a0
theorem spec_DrawWaitForStrokes.g.run (N : Nat) (a0 : List Int) : runC spec_DrawWaitForStrokes.C (spec_DrawWaitForStrokes.O N) N spec_DrawWaitForStrokes.c1 1 (st0 [.one (.sl false 5 a0)] [] : St D0) spec_DrawWaitForStrokes.K0 = spec_DrawWaitForStrokes.g N a0 := by
  exact (spec_DrawWaitForStrokes.o0.run N a0).trans rfl
theorem spec_DrawWaitForStrokes.good (N : Nat) (a0 : List Int) (r : spec_DrawWaitForStrokes.R) (h : spec_DrawWaitForStrokes.g N a0 = some r) : Go.PM.Good Go.Proofs.Try.prog T0 7 [.one (.sl false 5 a0)] [] (spec_DrawWaitForStrokes.sig.ret r) (spec_DrawWaitForStrokes.sig.bs r) :=
  good_fn tabOk0 mixed0 spec_DrawWaitForStrokes.sig (spec_DrawWaitForStrokes.E N) Go.Proofs.Try.func7 (by kernel_rfl) (by kernel_rfl) 253 0 0 [] [(false, [.any]), (false, [.any]), (false, [.any])] (by kernel_rfl) rfl ((spec_DrawWaitForStrokes.g.run N a0).trans h)
noncomputable def spec_DrawWaitForStrokes.ent (N : Nat) : Ent Go.Proofs.Try.prog T0 := mkEnt 7 [(false, [.ro 5])] spec_DrawWaitForStrokes.sig (fun t => spec_DrawWaitForStrokes.g N t) (fun t r h => spec_DrawWaitForStrokes.good N t r h)
end Go.Proofs.Ytpemffldaepbpaa.M

namespace Go.Proofs.Ytpemffldaepbpaa.M
open Go Go.PM Go.Proofs.Ytpemffldaepbpaa.P
set_option linter.unusedVariables false
set_option maxRecDepth 100000
/-! ### spec_DrawHeardFrom -/
abbrev spec_DrawHeardFrom.R : Type := Int × Int × Int
abbrev spec_DrawHeardFrom.sig : Sig := ⟨[(false, 1)], [], [.sl false 5], [(false, 1), (false, 1), (false, 1)], [], [.int .i64, .int .i64, .int .i64]⟩
noncomputable def spec_DrawHeardFrom.C : Cfg D0 := ⟨Go.Proofs.Try.prog, T0, 253, 0, 21, 0, []⟩
noncomputable def spec_DrawHeardFrom.E (N : Nat) : List (Ent Go.Proofs.Try.prog T0) := [spec_l1Cur_half.ent N, spec_l1Cur_among.ent N]
noncomputable def spec_DrawHeardFrom.O (N : Nat) : Orc D0 spec_DrawHeardFrom.R := orcOf (spec_DrawHeardFrom.E N)
noncomputable def spec_DrawHeardFrom.K0 : Ex → St D0 → Option spec_DrawHeardFrom.R := exitK spec_DrawHeardFrom.C Go.Proofs.Try.f10.results.toList [(false, [.any]), (false, [.any]), (false, [.any])] (decOut spec_DrawHeardFrom.sig)
noncomputable def spec_DrawHeardFrom.c1 : Code := codeAt (Go.Proofs.Try.f10.body.getD .skip) []
noncomputable def spec_DrawHeardFrom.o0 (N : Nat) (a0 : List Int) : Option spec_DrawHeardFrom.R :=
 (spec_l1Cur_half.g N a0 0 0).bind fun r1 =>
 (spec_l1Cur_among.g N ([1, 2, 3, 5, 60, 61, 0] : List Int) r1.2.2.1 r1.2.2.2.1 r1.2.2.2.2).bind fun r2 =>
 some (r1.1, r1.2.1, r2.1)
theorem spec_DrawHeardFrom.o0.run (N : Nat) (a0 : List Int) : runC spec_DrawHeardFrom.C (spec_DrawHeardFrom.O N) N spec_DrawHeardFrom.c1 1 (st0 [.one (.sl false 5 a0)] [] : St D0) spec_DrawHeardFrom.K0 = spec_DrawHeardFrom.o0 N a0 := by kernel_rfl
noncomputable def spec_DrawHeardFrom.g (N : Nat) (a0 : List Int) : Option spec_DrawHeardFrom.R := spec_DrawHeardFrom.o0 N a0
theorem spec_DrawHeardFrom.g.run (N : Nat) (a0 : List Int) : runC spec_DrawHeardFrom.C (spec_DrawHeardFrom.O N) N spec_DrawHeardFrom.c1 1 (st0 [.one (.sl false 5 a0)] [] : St D0) spec_DrawHeardFrom.K0 = spec_DrawHeardFrom.g N a0 := by
  exact (spec_DrawHeardFrom.o0.run N a0).trans rfl
theorem spec_DrawHeardFrom.good (N : Nat) (a0 : List Int) (r : spec_DrawHeardFrom.R) (h : spec_DrawHeardFrom.g N a0 = some r) : Go.PM.Good Go.Proofs.Try.prog T0 10 [.one (.sl false 5 a0)] [] (spec_DrawHeardFrom.sig.ret r) (spec_DrawHeardFrom.sig.bs r) :=
  good_fn tabOk0 mixed0 spec_DrawHeardFrom.sig (spec_DrawHeardFrom.E N) Go.Proofs.Try.func10 (by kernel_rfl) (by kernel_rfl) 253 0 0 [] [(false, [.any]), (false, [.any]), (false, [.any])] (by kernel_rfl) rfl ((spec_DrawHeardFrom.g.run N a0).trans h)
noncomputable def spec_DrawHeardFrom.ent (N : Nat) : Ent Go.Proofs.Try.prog T0 := mkEnt 10 [(false, [.ro 5])] spec_DrawHeardFrom.sig (fun t => spec_DrawHeardFrom.g N t) (fun t r h => spec_DrawHeardFrom.good N t r h)
end Go.Proofs.Ytpemffldaepbpaa.M

namespace Go.Proofs.Ytpemffldaepbpaa.M
open Go Go.PM Go.Proofs.Ytpemffldaepbpaa.P
set_option linter.unusedVariables false
set_option maxRecDepth 100000
/-! ### spec_DrawMostInHalves -/
abbrev spec_DrawMostInHalves.R : Type := Int × Int
abbrev spec_DrawMostInHalves.sig : Sig := ⟨[(false, 1)], [], [.sl false 5], [(false, 1), (false, 1)], [], [.int .i64, .int .i64]⟩
noncomputable def spec_DrawMostInHalves.C : Cfg D0 := ⟨Go.Proofs.Try.prog, T0, 61, 0, 19, 0, []⟩
noncomputable def spec_DrawMostInHalves.E (N : Nat) : List (Ent Go.Proofs.Try.prog T0) := [spec_l1Cur_hours.ent N, spec_l1Most.ent N, spec_l1Least.ent N, spec_l1Cur_pick.ent N]
noncomputable def spec_DrawMostInHalves.O (N : Nat) : Orc D0 spec_DrawMostInHalves.R := orcOf (spec_DrawMostInHalves.E N)
noncomputable def spec_DrawMostInHalves.K0 : Ex → St D0 → Option spec_DrawMostInHalves.R := exitK spec_DrawMostInHalves.C Go.Proofs.Try.f13.results.toList [(false, [.any]), (false, [.any])] (decOut spec_DrawMostInHalves.sig)
noncomputable def spec_DrawMostInHalves.c1 : Code := codeAt (Go.Proofs.Try.f13.body.getD .skip) []
noncomputable def spec_DrawMostInHalves.o0 (N : Nat) (a0 : List Int) : Option spec_DrawMostInHalves.R :=
 (spec_l1Cur_hours.g N a0 0 0).bind fun r1 =>
 (spec_l1Most.g N 1 (w64 ((w64 (2 * r1.1)) + 2))).bind fun r2 =>
 (spec_l1Least.g N 60 r2).bind fun r3 =>
 (spec_l1Cur_pick.g N r3 r1.2.1 r1.2.2.1 r1.2.2.2).bind fun r4 =>
 some (r1.1, r4.1)
theorem spec_DrawMostInHalves.o0.run (N : Nat) (a0 : List Int) : runC spec_DrawMostInHalves.C (spec_DrawMostInHalves.O N) N spec_DrawMostInHalves.c1 1 (st0 [.one (.sl false 5 a0)] [] : St D0) spec_DrawMostInHalves.K0 = spec_DrawMostInHalves.o0 N a0 := by kernel_rfl
noncomputable def spec_DrawMostInHalves.g (N : Nat) (a0 : List Int) : Option spec_DrawMostInHalves.R := spec_DrawMostInHalves.o0 N a0
theorem spec_DrawMostInHalves.g.run (N : Nat) (a0 : List Int) : runC spec_DrawMostInHalves.C (spec_DrawMostInHalves.O N) N spec_DrawMostInHalves.c1 1 (st0 [.one (.sl false 5 a0)] [] : St D0) spec_DrawMostInHalves.K0 = spec_DrawMostInHalves.g N a0 := by
  exact (spec_DrawMostInHalves.o0.run N a0).trans rfl
theorem spec_DrawMostInHalves.good (N : Nat) (a0 : List Int) (r : spec_DrawMostInHalves.R) (h : spec_DrawMostInHalves.g N a0 = some r) : Go.PM.Good Go.Proofs.Try.prog T0 13 [.one (.sl false 5 a0)] [] (spec_DrawMostInHalves.sig.ret r) (spec_DrawMostInHalves.sig.bs r) :=
  good_fn tabOk0 mixed0 spec_DrawMostInHalves.sig (spec_DrawMostInHalves.E N) Go.Proofs.Try.func13 (by kernel_rfl) (by kernel_rfl) 61 0 0 [] [(false, [.any]), (false, [.any])] (by kernel_rfl) rfl ((spec_DrawMostInHalves.g.run N a0).trans h)
noncomputable def spec_DrawMostInHalves.ent (N : Nat) : Ent Go.Proofs.Try.prog T0 := mkEnt 13 [(false, [.ro 5])] spec_DrawMostInHalves.sig (fun t => spec_DrawMostInHalves.g N t) (fun t r h => spec_DrawMostInHalves.good N t r h)
end Go.Proofs.Ytpemffldaepbpaa.M

namespace Go.Proofs.Ytpemffldaepbpaa.M
open Go Go.PM Go.Proofs.Ytpemffldaepbpaa.P
set_option linter.unusedVariables false
set_option maxRecDepth 100000
/-! ### spec_DrawStrokesAt -/
abbrev spec_DrawStrokesAt.R : Type := Int × Int
abbrev spec_DrawStrokesAt.sig : Sig := ⟨[(false, 1)], [], [.sl false 5], [(false, 1), (false, 1)], [], [.int .i64, .int .i64]⟩
noncomputable def spec_DrawStrokesAt.C : Cfg D0 := ⟨Go.Proofs.Try.prog, T0, 29, 0, 12, 0, []⟩
noncomputable def spec_DrawStrokesAt.E (N : Nat) : List (Ent Go.Proofs.Try.prog T0) := [spec_l1Cur_half.ent N]
noncomputable def spec_DrawStrokesAt.O (N : Nat) : Orc D0 spec_DrawStrokesAt.R := orcOf (spec_DrawStrokesAt.E N)
noncomputable def spec_DrawStrokesAt.K0 : Ex → St D0 → Option spec_DrawStrokesAt.R := exitK spec_DrawStrokesAt.C Go.Proofs.Try.f16.results.toList [(false, [.any]), (false, [.any])] (decOut spec_DrawStrokesAt.sig)
noncomputable def spec_DrawStrokesAt.c1 : Code := codeAt (Go.Proofs.Try.f16.body.getD .skip) []
noncomputable def spec_DrawStrokesAt.o0 (N : Nat) (a0 : List Int) : Option spec_DrawStrokesAt.R :=
 (spec_l1Cur_half.g N a0 0 0).bind fun r1 =>
 some (r1.1, r1.2.1)
theorem spec_DrawStrokesAt.o0.run (N : Nat) (a0 : List Int) : runC spec_DrawStrokesAt.C (spec_DrawStrokesAt.O N) N spec_DrawStrokesAt.c1 1 (st0 [.one (.sl false 5 a0)] [] : St D0) spec_DrawStrokesAt.K0 = spec_DrawStrokesAt.o0 N a0 := by kernel_rfl
noncomputable def spec_DrawStrokesAt.g (N : Nat) (a0 : List Int) : Option spec_DrawStrokesAt.R := spec_DrawStrokesAt.o0 N a0
theorem spec_DrawStrokesAt.g.run (N : Nat) (a0 : List Int) : runC spec_DrawStrokesAt.C (spec_DrawStrokesAt.O N) N spec_DrawStrokesAt.c1 1 (st0 [.one (.sl false 5 a0)] [] : St D0) spec_DrawStrokesAt.K0 = spec_DrawStrokesAt.g N a0 := by
  exact (spec_DrawStrokesAt.o0.run N a0).trans rfl
theorem spec_DrawStrokesAt.good (N : Nat) (a0 : List Int) (r : spec_DrawStrokesAt.R) (h : spec_DrawStrokesAt.g N a0 = some r) : Go.PM.Good Go.Proofs.Try.prog T0 16 [.one (.sl false 5 a0)] [] (spec_DrawStrokesAt.sig.ret r) (spec_DrawStrokesAt.sig.bs r) :=
  good_fn tabOk0 mixed0 spec_DrawStrokesAt.sig (spec_DrawStrokesAt.E N) Go.Proofs.Try.func16 (by kernel_rfl) (by kernel_rfl) 29 0 0 [] [(false, [.any]), (false, [.any])] (by kernel_rfl) rfl ((spec_DrawStrokesAt.g.run N a0).trans h)
noncomputable def spec_DrawStrokesAt.ent (N : Nat) : Ent Go.Proofs.Try.prog T0 := mkEnt 16 [(false, [.ro 5])] spec_DrawStrokesAt.sig (fun t => spec_DrawStrokesAt.g N t) (fun t r h => spec_DrawStrokesAt.good N t r h)
end Go.Proofs.Ytpemffldaepbpaa.M

namespace Go.Proofs.Ytpemffldaepbpaa.M
open Go Go.PM Go.Proofs.Ytpemffldaepbpaa.P
set_option linter.unusedVariables false
set_option maxRecDepth 100000
/-! ### laws_big -/
abbrev laws_big.R : Type := Bool
abbrev laws_big.sig : Sig := ⟨[(false, 1), (false, 1)], [], [.sl false 5, .sl false 5], [(false, 1)], [], [.bool]⟩
noncomputable def laws_big.C : Cfg D0 := ⟨Go.Proofs.Try.prog, T0, 19, 0, 16, 0, []⟩
noncomputable def laws_big.E (N : Nat) : List (Ent Go.Proofs.Try.prog T0) := []
noncomputable def laws_big.O (N : Nat) : Orc D0 laws_big.R := orcOf (laws_big.E N)
noncomputable def laws_big.K0 : Ex → St D0 → Option laws_big.R := exitK laws_big.C Go.Proofs.Try.f6.results.toList [(false, [.any])] (decOut laws_big.sig)
noncomputable def laws_big.c1 : Code := codeAt (Go.Proofs.Try.f6.body.getD .skip) []
noncomputable def laws_big.o0 (N : Nat) (a0 : List Int) (a1 : List Int) : Option laws_big.R :=
 bif (decide ((a0.length : Int) > 1048576)) then
  some (true)
 else
 some ((decide ((a1.length : Int) > (w64 (1048576 - (a0.length : Int))))))
theorem laws_big.o0.run (N : Nat) (a0 : List Int) (a1 : List Int) : runC laws_big.C (laws_big.O N) N laws_big.c1 1 (st0 [.one (.sl false 5 a0), .one (.sl false 5 a1)] [] : St D0) laws_big.K0 = laws_big.o0 N a0 a1 := by kernel_rfl
noncomputable def laws_big.g (N : Nat) (a0 : List Int) (a1 : List Int) : Option laws_big.R := laws_big.o0 N a0 a1
theorem laws_big.g.run (N : Nat) (a0 : List Int) (a1 : List Int) : runC laws_big.C (laws_big.O N) N laws_big.c1 1 (st0 [.one (.sl false 5 a0), .one (.sl false 5 a1)] [] : St D0) laws_big.K0 = laws_big.g N a0 a1 := by
  exact (laws_big.o0.run N a0 a1).trans rfl
theorem laws_big.good (N : Nat) (a0 : List Int) (a1 : List Int) (r : laws_big.R) (h : laws_big.g N a0 a1 = some r) : Go.PM.Good Go.Proofs.Try.prog T0 6 [.one (.sl false 5 a0), .one (.sl false 5 a1)] [] (laws_big.sig.ret r) (laws_big.sig.bs r) :=
  good_fn tabOk0 mixed0 laws_big.sig (laws_big.E N) Go.Proofs.Try.func6 (by kernel_rfl) (by kernel_rfl) 19 0 0 [] [(false, [.any])] (by kernel_rfl) rfl ((laws_big.g.run N a0 a1).trans h)
noncomputable def laws_big.ent (N : Nat) : Ent Go.Proofs.Try.prog T0 := mkEnt 6 [(false, [.ro 5]), (false, [.ro 5])] laws_big.sig (fun t => laws_big.g N t.1 t.2) (fun t r h => laws_big.good N t.1 t.2 r h)
end Go.Proofs.Ytpemffldaepbpaa.M
