/- What the program's functions compute, walked by the machine (part 2). No conditions but those stated. -/
import Derived.Test.YtehbhinaopdkeaaGreatFnFnDialsTurned1
namespace Go.Proofs.YtehbhinaopdkeaaGreat.M
open Go Go.PM Go.Proofs.YtehbhinaopdkeaaGreat.P
set_option linter.unusedVariables false
set_option maxRecDepth 100000
/-! ### impl_TimesTurned -/
abbrev impl_TimesTurned.R : Type := List S25 × Bool
abbrev impl_TimesTurned.sig : Sig := ⟨[(false, 1), (true, 4)], [], [.int .i64, .int .i64, .int .i64, .int .i64, .int .i64], [(false, 1), (false, 1)], [], [.sl false 25, .bool]⟩
noncomputable def impl_TimesTurned.C : Cfg D0 := ⟨Go.Proofs.Tryz.prog, T0, 571, 0, 23, 0, [], 32832, false, []⟩
noncomputable def impl_TimesTurned.E (N : Nat) : List (Ent Go.Proofs.Tryz.prog T0) := [impl_isSeenOf.ent N, impl_Turn_minus.ent N, impl_roots.ent N, impl_ifTurns.ent N]
noncomputable def impl_TimesTurned.O (N : Nat) : Orc D0 impl_TimesTurned.R := orcOf (impl_TimesTurned.E N)
noncomputable def impl_TimesTurned.K0 : Ex → St D0 → Option impl_TimesTurned.R := exitK impl_TimesTurned.C Go.Proofs.Tryz.f6.results.toList [(false, [.ro 25]), (false, [.any])] (decOut impl_TimesTurned.sig)
noncomputable def impl_TimesTurned.c1 : Code := codeAt (Go.Proofs.Tryz.f6.body.getD .skip) []
noncomputable def impl_TimesTurned.o0 (N : Nat) (a0 : Int) (a1_0 : Int) (a1_1 : Int) (a1_2 : Int) (a1_3 : Int) : Option impl_TimesTurned.R :=
 (impl_isSeenOf.g N a0 a1_0 a1_1 a1_2 a1_3).bind fun r1 =>
 bif (!r1) then
  some (([] : List S25), false)
 else
 (impl_Turn_minus.g N a1_2 a1_3 a1_0 a1_1).bind fun r2 =>
 (impl_roots.g N r2.1 r2.2 (w64 (a0 - 1))).bind fun r3 =>
 (impl_ifTurns.g N r3.1 r3.2).bind fun r4 =>
 some (r4.1, r4.2)
theorem impl_TimesTurned.o0.run (N : Nat) (a0 : Int) (a1_0 : Int) (a1_1 : Int) (a1_2 : Int) (a1_3 : Int) : runC impl_TimesTurned.C (impl_TimesTurned.O N) N impl_TimesTurned.c1 1 (st0 [.one (.int .i64 a0), .agg [.int .i64 a1_0, .int .i64 a1_1, .int .i64 a1_2, .int .i64 a1_3]] [] : St D0) impl_TimesTurned.K0 = impl_TimesTurned.o0 N a0 a1_0 a1_1 a1_2 a1_3 := by kernel_rfl
noncomputable def impl_TimesTurned.g (N : Nat) (a0 : Int) (a1_0 : Int) (a1_1 : Int) (a1_2 : Int) (a1_3 : Int) : Option impl_TimesTurned.R := impl_TimesTurned.o0 N a0 a1_0 a1_1 a1_2 a1_3
theorem impl_TimesTurned.g.run (N : Nat) (a0 : Int) (a1_0 : Int) (a1_1 : Int) (a1_2 : Int) (a1_3 : Int) : runC impl_TimesTurned.C (impl_TimesTurned.O N) N impl_TimesTurned.c1 1 (st0 [.one (.int .i64 a0), .agg [.int .i64 a1_0, .int .i64 a1_1, .int .i64 a1_2, .int .i64 a1_3]] [] : St D0) impl_TimesTurned.K0 = impl_TimesTurned.g N a0 a1_0 a1_1 a1_2 a1_3 := by
  exact (impl_TimesTurned.o0.run N a0 a1_0 a1_1 a1_2 a1_3).trans rfl
theorem impl_TimesTurned.good (N : Nat) (a0 : Int) (a1_0 : Int) (a1_1 : Int) (a1_2 : Int) (a1_3 : Int) (r : impl_TimesTurned.R) (h : impl_TimesTurned.g N a0 a1_0 a1_1 a1_2 a1_3 = some r) : Go.PM.Good Go.Proofs.Tryz.prog T0 6 [.one (.int .i64 a0), .agg [.int .i64 a1_0, .int .i64 a1_1, .int .i64 a1_2, .int .i64 a1_3]] [] (impl_TimesTurned.sig.ret r) (impl_TimesTurned.sig.bs r) :=
  good_fn tabOk0 mixed0 impl_TimesTurned.sig (impl_TimesTurned.E N) Go.Proofs.Tryz.func6 (by kernel_rfl) (by kernel_rfl) 571 0 0 [] 32832 false [] [(false, [.ro 25]), (false, [.any])] (by kernel_rfl) rfl rfl ((impl_TimesTurned.g.run N a0 a1_0 a1_1 a1_2 a1_3).trans h)
noncomputable def impl_TimesTurned.ent (N : Nat) : Ent Go.Proofs.Tryz.prog T0 := mkEnt 6 [(false, [.any]), (true, [.any, .any, .any, .any])] impl_TimesTurned.sig (fun t => impl_TimesTurned.g N t.1 t.2.1 t.2.2.1 t.2.2.2.1 t.2.2.2.2) (fun t r h => impl_TimesTurned.good N t.1 t.2.1 t.2.2.1 t.2.2.2.1 t.2.2.2.2 r h)
end Go.Proofs.YtehbhinaopdkeaaGreat.M

namespace Go.Proofs.YtehbhinaopdkeaaGreat.M
open Go Go.PM Go.Proofs.YtehbhinaopdkeaaGreat.P
set_option linter.unusedVariables false
set_option maxRecDepth 100000
/-! ### spec_TimesTurned -/
abbrev spec_TimesTurned.R : Type := List S25 × Bool
abbrev spec_TimesTurned.sig : Sig := ⟨[(false, 1), (true, 4)], [], [.int .i64, .int .i64, .int .i64, .int .i64, .int .i64], [(false, 1), (false, 1)], [], [.sl true 25, .bool]⟩
noncomputable def spec_TimesTurned.C : Cfg D0 := ⟨Go.Proofs.Tryz.prog, T0, 2299, 0, 23, 0, [], 917760, false, []⟩
noncomputable def spec_TimesTurned.E (N : Nat) : List (Ent Go.Proofs.Tryz.prog T0) := [spec_seAsked.ent N, spec_seApart.ent N, spec_seAngle.ent N]
noncomputable def spec_TimesTurned.O (N : Nat) : Orc D0 spec_TimesTurned.R := orcOf (spec_TimesTurned.E N)
noncomputable def spec_TimesTurned.K0 : Ex → St D0 → Option spec_TimesTurned.R := exitK spec_TimesTurned.C Go.Proofs.Tryz.f7.results.toList [(false, [.own 25]), (false, [.any])] (decOut spec_TimesTurned.sig)
noncomputable def spec_TimesTurned.c1 : Code := codeAt (Go.Proofs.Tryz.f7.body.getD .skip) []
noncomputable def spec_TimesTurned.o0 (N : Nat) (a0 : Int) (a1_0 : Int) (a1_1 : Int) (a1_2 : Int) (a1_3 : Int) : Option spec_TimesTurned.R :=
 (spec_seAsked.g N a0 a1_0 a1_1 a1_2 a1_3).bind fun r1 =>
 bif (!r1) then
  some (([] : List S25), false)
 else
 (spec_seApart.g N a1_0 a1_1 a1_2 a1_3).bind fun r2 =>
 (spec_seAngle.g N a0 r2.1 r2.2).bind fun r3 =>
 some (r3.1, r3.2)
theorem spec_TimesTurned.o0.run (N : Nat) (a0 : Int) (a1_0 : Int) (a1_1 : Int) (a1_2 : Int) (a1_3 : Int) : runC spec_TimesTurned.C (spec_TimesTurned.O N) N spec_TimesTurned.c1 1 (st0 [.one (.int .i64 a0), .agg [.int .i64 a1_0, .int .i64 a1_1, .int .i64 a1_2, .int .i64 a1_3]] [] : St D0) spec_TimesTurned.K0 = spec_TimesTurned.o0 N a0 a1_0 a1_1 a1_2 a1_3 := by kernel_rfl
noncomputable def spec_TimesTurned.g (N : Nat) (a0 : Int) (a1_0 : Int) (a1_1 : Int) (a1_2 : Int) (a1_3 : Int) : Option spec_TimesTurned.R := spec_TimesTurned.o0 N a0 a1_0 a1_1 a1_2 a1_3
theorem spec_TimesTurned.g.run (N : Nat) (a0 : Int) (a1_0 : Int) (a1_1 : Int) (a1_2 : Int) (a1_3 : Int) : runC spec_TimesTurned.C (spec_TimesTurned.O N) N spec_TimesTurned.c1 1 (st0 [.one (.int .i64 a0), .agg [.int .i64 a1_0, .int .i64 a1_1, .int .i64 a1_2, .int .i64 a1_3]] [] : St D0) spec_TimesTurned.K0 = spec_TimesTurned.g N a0 a1_0 a1_1 a1_2 a1_3 := by
  exact (spec_TimesTurned.o0.run N a0 a1_0 a1_1 a1_2 a1_3).trans rfl
theorem spec_TimesTurned.good (N : Nat) (a0 : Int) (a1_0 : Int) (a1_1 : Int) (a1_2 : Int) (a1_3 : Int) (r : spec_TimesTurned.R) (h : spec_TimesTurned.g N a0 a1_0 a1_1 a1_2 a1_3 = some r) : Go.PM.Good Go.Proofs.Tryz.prog T0 7 [.one (.int .i64 a0), .agg [.int .i64 a1_0, .int .i64 a1_1, .int .i64 a1_2, .int .i64 a1_3]] [] (spec_TimesTurned.sig.ret r) (spec_TimesTurned.sig.bs r) :=
  good_fn tabOk0 mixed0 spec_TimesTurned.sig (spec_TimesTurned.E N) Go.Proofs.Tryz.func7 (by kernel_rfl) (by kernel_rfl) 2299 0 0 [] 917760 false [] [(false, [.own 25]), (false, [.any])] (by kernel_rfl) rfl rfl ((spec_TimesTurned.g.run N a0 a1_0 a1_1 a1_2 a1_3).trans h)
noncomputable def spec_TimesTurned.ent (N : Nat) : Ent Go.Proofs.Tryz.prog T0 := mkEnt 7 [(false, [.any]), (true, [.any, .any, .any, .any])] spec_TimesTurned.sig (fun t => spec_TimesTurned.g N t.1 t.2.1 t.2.2.1 t.2.2.2.1 t.2.2.2.2) (fun t r h => spec_TimesTurned.good N t.1 t.2.1 t.2.2.1 t.2.2.2.1 t.2.2.2.2 r h)
end Go.Proofs.YtehbhinaopdkeaaGreat.M

namespace Go.Proofs.YtehbhinaopdkeaaGreat.M
open Go Go.PM Go.Proofs.YtehbhinaopdkeaaGreat.P
set_option linter.unusedVariables false
set_option maxRecDepth 100000
/-! ### impl_TurnsOfDial -/
abbrev impl_TurnsOfDial.R : Type := List S25 × Bool
abbrev impl_TurnsOfDial.sig : Sig := ⟨[(false, 1), (true, 4)], [], [.int .i64, .int .i64, .int .i64, .int .i64, .int .i64], [(false, 1), (false, 1)], [], [.sl false 25, .bool]⟩
noncomputable def impl_TurnsOfDial.C : Cfg D0 := ⟨Go.Proofs.Tryz.prog, T0, 15992315, 0, 38, 0, [(250, [3, 8, 20, 21, 22], [3])], 17180004352, false, []⟩
noncomputable def impl_TurnsOfDial.E (N : Nat) : List (Ent Go.Proofs.Tryz.prog T0) := [impl_TimesTurned.ent N, impl_Turn_minus.ent N, impl_ifTurns.ent N]
noncomputable def impl_TurnsOfDial.O (N : Nat) : Orc D0 impl_TurnsOfDial.R := orcOf (impl_TurnsOfDial.E N)
noncomputable def impl_TurnsOfDial.K0 : Ex → St D0 → Option impl_TurnsOfDial.R := exitK impl_TurnsOfDial.C Go.Proofs.Tryz.f8.results.toList [(false, [.ro 25]), (false, [.any])] (decOut impl_TurnsOfDial.sig)
noncomputable def impl_TurnsOfDial.c1 : Code := codeAt (Go.Proofs.Tryz.f8.body.getD .skip) []
noncomputable def impl_TurnsOfDial.c2 : Code := codeAt (Go.Proofs.Tryz.f8.body.getD .skip) [false]
noncomputable def impl_TurnsOfDial.c6 : Code := codeAt (Go.Proofs.Tryz.f8.body.getD .skip) [true, false]
noncomputable def impl_TurnsOfDial.c14 : Code := codeAt (Go.Proofs.Tryz.f8.body.getD .skip) [true, true, false]
noncomputable def impl_TurnsOfDial.c30 : Code := codeAt (Go.Proofs.Tryz.f8.body.getD .skip) [true, true, true, false]
noncomputable def impl_TurnsOfDial.c63 : Code := codeAt (Go.Proofs.Tryz.f8.body.getD .skip) [true, true, true, true, true]
noncomputable def impl_TurnsOfDial.c124 : Code := codeAt (Go.Proofs.Tryz.f8.body.getD .skip) [true, true, true, true, false, false]
noncomputable def impl_TurnsOfDial.c500 : Code := codeAt (Go.Proofs.Tryz.f8.body.getD .skip) [true, true, true, true, false, true, false, false]
noncomputable def impl_TurnsOfDial.K500 (N : Nat) (Kn250 : St D0 → Option impl_TurnsOfDial.R) : Ex → St D0 → Option impl_TurnsOfDial.R := ((fun up => (onN (fun s => impl_TurnsOfDial.C.tidy 250 s ((onN Kn250 up) .normal)) (onN Kn250 up))) (blockK 0 (onN (fun s => impl_TurnsOfDial.C.tidy 62 s (fun s' => runC impl_TurnsOfDial.C (impl_TurnsOfDial.O N) N impl_TurnsOfDial.c63 63 s' impl_TurnsOfDial.K0)) impl_TurnsOfDial.K0)))
noncomputable def impl_TurnsOfDial.o1 (N : Nat) (v0 : List S25) (v1 : List S25) (v2 : Int) (v3 : Int) (v4 : Int) (v5 : Int) (v6 : Int) (v7 : Int) (c1 : (List S25) → (List S25) → Int → Int → Int → Int → Int → Int → Option impl_TurnsOfDial.R) : Option impl_TurnsOfDial.R :=
 bif (decide (v3 < v2)) then
  bif (decide (0 ≤ v3)) then
   bif (decide (v3 < (v1.length : Int))) then
    (v1[(v3 : Int).toNat]?).bind fun x1 =>
    (impl_Turn_minus.g N v4 v5 x1.f0 x1.f1).bind fun r2 =>
    bif (Nat.blt (v0.length + ([(⟨r2.1, r2.2⟩ : S25)] : List S25).length) 8796093022208) then
     c1 (v0 ++ ([(⟨r2.1, r2.2⟩ : S25)] : List S25)) v1 v2 (w64 (v3 + 1)) v4 v5 v6 v7
    else
    none
   else
   none
  else
  none
 else
 (impl_ifTurns.g N v0 true).bind fun r3 =>
 some (r3.1, r3.2)
theorem impl_TurnsOfDial.o1.run (N : Nat) (Kn250 : St D0 → Option impl_TurnsOfDial.R) (v0 : List S25) (v1 : List S25) (v2 : Int) (v3 : Int) (v4 : Int) (v5 : Int) (v6 : Int) (v7 : Int) : runC impl_TurnsOfDial.C (impl_TurnsOfDial.O N) N impl_TurnsOfDial.c500 500 (mkSt [(3, .one (.ptr 3 0)), (8, .one (.sl true 25 v0)), (20, .one (.sl false 25 v1)), (21, .one (.int .i64 v2)), (22, .one (.int .i64 v3))] [(3, some (27, [.int .i64 v4, .int .i64 v5, .int .i64 v6, .int .i64 v7]))] : St D0) ((fun up => (onN (fun s => impl_TurnsOfDial.C.tidy 250 s ((onN Kn250 up) .normal)) (onN Kn250 up))) (blockK 0 (onN (fun s => impl_TurnsOfDial.C.tidy 62 s (fun s' => runC impl_TurnsOfDial.C (impl_TurnsOfDial.O N) N impl_TurnsOfDial.c63 63 s' impl_TurnsOfDial.K0)) impl_TurnsOfDial.K0))) = impl_TurnsOfDial.o1 N v0 v1 v2 v3 v4 v5 v6 v7 ((fun w0 w1 w2 w3 w4 w5 w6 w7 => Kn250 (mkSt [(3, .one (.ptr 3 0)), (8, .one (.sl true 25 w0)), (20, .one (.sl false 25 w1)), (21, .one (.int .i64 w2)), (22, .one (.int .i64 w3))] [(3, some (27, [.int .i64 w4, .int .i64 w5, .int .i64 w6, .int .i64 w7]))] : St D0))) := by kernel_rfl
noncomputable def impl_TurnsOfDial.d1 (N : Nat) (v0 : List S25) (v1 : List S25) (v2 : Int) (v3 : Int) (v4 : Int) (v5 : Int) (v6 : Int) (v7 : Int) (c1 : (List S25) → (List S25) → Int → Int → Int → Int → Int → Int → Option impl_TurnsOfDial.R) : Option impl_TurnsOfDial.R := impl_TurnsOfDial.o1 N v0 v1 v2 v3 v4 v5 v6 v7 c1
theorem impl_TurnsOfDial.d1.run (N : Nat) (Kn250 : St D0 → Option impl_TurnsOfDial.R) (v0 : List S25) (v1 : List S25) (v2 : Int) (v3 : Int) (v4 : Int) (v5 : Int) (v6 : Int) (v7 : Int) : runC impl_TurnsOfDial.C (impl_TurnsOfDial.O N) N impl_TurnsOfDial.c500 500 (mkSt [(3, .one (.ptr 3 0)), (8, .one (.sl true 25 v0)), (20, .one (.sl false 25 v1)), (21, .one (.int .i64 v2)), (22, .one (.int .i64 v3))] [(3, some (27, [.int .i64 v4, .int .i64 v5, .int .i64 v6, .int .i64 v7]))] : St D0) (impl_TurnsOfDial.K500 N Kn250) = impl_TurnsOfDial.d1 N v0 v1 v2 v3 v4 v5 v6 v7 ((fun w0 w1 w2 w3 w4 w5 w6 w7 => Kn250 (mkSt [(3, .one (.ptr 3 0)), (8, .one (.sl true 25 w0)), (20, .one (.sl false 25 w1)), (21, .one (.int .i64 w2)), (22, .one (.int .i64 w3))] [(3, some (27, [.int .i64 w4, .int .i64 w5, .int .i64 w6, .int .i64 w7]))] : St D0))) := by
  exact (impl_TurnsOfDial.o1.run N Kn250 v0 v1 v2 v3 v4 v5 v6 v7).trans rfl
noncomputable def impl_TurnsOfDial.K250 (N : Nat) : Ex → St D0 → Option impl_TurnsOfDial.R := (blockK 0 (onN (fun s => impl_TurnsOfDial.C.tidy 62 s (fun s' => runC impl_TurnsOfDial.C (impl_TurnsOfDial.O N) N impl_TurnsOfDial.c63 63 s' impl_TurnsOfDial.K0)) impl_TurnsOfDial.K0))
noncomputable def impl_TurnsOfDial.l1 (N : Nat) : Nat → (List S25) → (List S25) → Int → Int → Int → Int → Int → Int → Option impl_TurnsOfDial.R
  | 0, _, _, _, _, _, _, _, _ => none
  | n + 1, v0, v1, v2, v3, v4, v5, v6, v7 => impl_TurnsOfDial.d1 N v0 v1 v2 v3 v4 v5 v6 v7 ((fun w0 w1 w2 w3 w4 w5 w6 w7 => impl_TurnsOfDial.l1 N n w0 w1 w2 w3 w4 w5 w6 w7))
theorem impl_TurnsOfDial.loop250 (N : Nat) : ∀ n, (∀ (v0 : List S25) (v1 : List S25) (v2 : Int) (v3 : Int) (v4 : Int) (v5 : Int) (v6 : Int) (v7 : Int), iter (loopF impl_TurnsOfDial.C (impl_TurnsOfDial.O N) N impl_TurnsOfDial.c500 250) n (mkSt [(3, .one (.ptr 3 0)), (8, .one (.sl true 25 v0)), (20, .one (.sl false 25 v1)), (21, .one (.int .i64 v2)), (22, .one (.int .i64 v3))] [(3, some (27, [.int .i64 v4, .int .i64 v5, .int .i64 v6, .int .i64 v7]))] : St D0) (impl_TurnsOfDial.K250 N) = impl_TurnsOfDial.l1 N n v0 v1 v2 v3 v4 v5 v6 v7)
  | 0 => (fun v0 v1 v2 v3 v4 v5 v6 v7 => rfl)
  | n + 1 => (fun v0 v1 v2 v3 v4 v5 v6 v7 => (impl_TurnsOfDial.d1.run N (fun s => iter (loopF impl_TurnsOfDial.C (impl_TurnsOfDial.O N) N impl_TurnsOfDial.c500 250) n s (impl_TurnsOfDial.K250 N)) v0 v1 v2 v3 v4 v5 v6 v7).trans (show _ = impl_TurnsOfDial.d1 N v0 v1 v2 v3 v4 v5 v6 v7 ((fun w0 w1 w2 w3 w4 w5 w6 w7 => impl_TurnsOfDial.l1 N n w0 w1 w2 w3 w4 w5 w6 w7)) from (congr rfl (funext fun w0 => funext fun w1 => funext fun w2 => funext fun w3 => funext fun w4 => funext fun w5 => funext fun w6 => funext fun w7 => (impl_TurnsOfDial.loop250 N n) w0 w1 w2 w3 w4 w5 w6 w7))))
noncomputable def impl_TurnsOfDial.o0 (N : Nat) (a0 : Int) (a1_0 : Int) (a1_1 : Int) (a1_2 : Int) (a1_3 : Int) (c1 : (List S25) → (List S25) → Int → Int → Int → Int → Int → Int → Option impl_TurnsOfDial.R) : Option impl_TurnsOfDial.R :=
 (impl_TimesTurned.g N a0 a1_0 a1_1 a1_2 a1_3).bind fun r1 =>
 bif (!r1.2) then
  some (([] : List S25), false)
 else
 c1 ([] : List S25) r1.1 (r1.1.length : Int) 0 a1_0 a1_1 a1_2 a1_3
theorem impl_TurnsOfDial.o0.run (N : Nat) (H500 : Code) (a0 : Int) (a1_0 : Int) (a1_1 : Int) (a1_2 : Int) (a1_3 : Int) : runC impl_TurnsOfDial.C (impl_TurnsOfDial.O N) N (.seq impl_TurnsOfDial.c2 (.seq impl_TurnsOfDial.c6 (.seq impl_TurnsOfDial.c14 (.seq impl_TurnsOfDial.c30 (.seq (.seq impl_TurnsOfDial.c124 (.block 0 (.loop H500))) impl_TurnsOfDial.c63))))) 1 (st0 [.one (.int .i64 a0), .agg [.int .i64 a1_0, .int .i64 a1_1, .int .i64 a1_2, .int .i64 a1_3]] [] : St D0) impl_TurnsOfDial.K0 = impl_TurnsOfDial.o0 N a0 a1_0 a1_1 a1_2 a1_3 ((fun w0 w1 w2 w3 w4 w5 w6 w7 => iter (loopF impl_TurnsOfDial.C (impl_TurnsOfDial.O N) N H500 250) N (mkSt [(3, .one (.ptr 3 0)), (8, .one (.sl true 25 w0)), (20, .one (.sl false 25 w1)), (21, .one (.int .i64 w2)), (22, .one (.int .i64 w3))] [(3, some (27, [.int .i64 w4, .int .i64 w5, .int .i64 w6, .int .i64 w7]))] : St D0) (blockK 0 (onN (fun s => impl_TurnsOfDial.C.tidy 62 s (fun s' => runC impl_TurnsOfDial.C (impl_TurnsOfDial.O N) N impl_TurnsOfDial.c63 63 s' impl_TurnsOfDial.K0)) impl_TurnsOfDial.K0)))) := by kernel_rfl
noncomputable def impl_TurnsOfDial.g (N : Nat) (a0 : Int) (a1_0 : Int) (a1_1 : Int) (a1_2 : Int) (a1_3 : Int) : Option impl_TurnsOfDial.R := impl_TurnsOfDial.o0 N a0 a1_0 a1_1 a1_2 a1_3 ((fun w0 w1 w2 w3 w4 w5 w6 w7 => impl_TurnsOfDial.l1 N N w0 w1 w2 w3 w4 w5 w6 w7))
theorem impl_TurnsOfDial.c1_0 : impl_TurnsOfDial.c1 = (.seq impl_TurnsOfDial.c2 (.seq impl_TurnsOfDial.c6 (.seq impl_TurnsOfDial.c14 (.seq impl_TurnsOfDial.c30 (.seq (.seq impl_TurnsOfDial.c124 (.block 0 (.loop impl_TurnsOfDial.c500))) impl_TurnsOfDial.c63))))) := by kernel_rfl
theorem impl_TurnsOfDial.g.run (N : Nat) (a0 : Int) (a1_0 : Int) (a1_1 : Int) (a1_2 : Int) (a1_3 : Int) : runC impl_TurnsOfDial.C (impl_TurnsOfDial.O N) N impl_TurnsOfDial.c1 1 (st0 [.one (.int .i64 a0), .agg [.int .i64 a1_0, .int .i64 a1_1, .int .i64 a1_2, .int .i64 a1_3]] [] : St D0) impl_TurnsOfDial.K0 = impl_TurnsOfDial.g N a0 a1_0 a1_1 a1_2 a1_3 := by
  rw [impl_TurnsOfDial.c1_0]; unfold impl_TurnsOfDial.g; exact (impl_TurnsOfDial.o0.run N impl_TurnsOfDial.c500 a0 a1_0 a1_1 a1_2 a1_3).trans (congr rfl (funext fun w0 => funext fun w1 => funext fun w2 => funext fun w3 => funext fun w4 => funext fun w5 => funext fun w6 => funext fun w7 => (impl_TurnsOfDial.loop250 N N) w0 w1 w2 w3 w4 w5 w6 w7))
theorem impl_TurnsOfDial.good (N : Nat) (a0 : Int) (a1_0 : Int) (a1_1 : Int) (a1_2 : Int) (a1_3 : Int) (r : impl_TurnsOfDial.R) (h : impl_TurnsOfDial.g N a0 a1_0 a1_1 a1_2 a1_3 = some r) : Go.PM.Good Go.Proofs.Tryz.prog T0 8 [.one (.int .i64 a0), .agg [.int .i64 a1_0, .int .i64 a1_1, .int .i64 a1_2, .int .i64 a1_3]] [] (impl_TurnsOfDial.sig.ret r) (impl_TurnsOfDial.sig.bs r) :=
  good_fn tabOk0 mixed0 impl_TurnsOfDial.sig (impl_TurnsOfDial.E N) Go.Proofs.Tryz.func8 (by kernel_rfl) (by kernel_rfl) 15992315 0 0 [(250, [3, 8, 20, 21, 22], [3])] 17180004352 false [] [(false, [.ro 25]), (false, [.any])] (by kernel_rfl) rfl rfl ((impl_TurnsOfDial.g.run N a0 a1_0 a1_1 a1_2 a1_3).trans h)
noncomputable def impl_TurnsOfDial.ent (N : Nat) : Ent Go.Proofs.Tryz.prog T0 := mkEnt 8 [(false, [.any]), (true, [.any, .any, .any, .any])] impl_TurnsOfDial.sig (fun t => impl_TurnsOfDial.g N t.1 t.2.1 t.2.2.1 t.2.2.2.1 t.2.2.2.2) (fun t r h => impl_TurnsOfDial.good N t.1 t.2.1 t.2.2.1 t.2.2.2.1 t.2.2.2.2 r h)
end Go.Proofs.YtehbhinaopdkeaaGreat.M

namespace Go.Proofs.YtehbhinaopdkeaaGreat.M
open Go Go.PM Go.Proofs.YtehbhinaopdkeaaGreat.P
set_option linter.unusedVariables false
set_option maxRecDepth 100000
/-! ### spec_TurnsOfDial -/
abbrev spec_TurnsOfDial.R : Type := List S25 × Bool
abbrev spec_TurnsOfDial.sig : Sig := ⟨[(false, 1), (true, 4)], [], [.int .i64, .int .i64, .int .i64, .int .i64, .int .i64], [(false, 1), (false, 1)], [], [.sl true 25, .bool]⟩
noncomputable def spec_TurnsOfDial.C : Cfg D0 := ⟨Go.Proofs.Tryz.prog, T0, 34392251899, 0, 42, 0, [(250, [3, 8, 21, 22, 23], [3])], 17180409856, false, []⟩
noncomputable def spec_TurnsOfDial.E (N : Nat) : List (Ent Go.Proofs.Tryz.prog T0) := [spec_TimesTurned.ent N, spec_diAdd.ent N]
noncomputable def spec_TurnsOfDial.O (N : Nat) : Orc D0 spec_TurnsOfDial.R := orcOf (spec_TurnsOfDial.E N)
noncomputable def spec_TurnsOfDial.K0 : Ex → St D0 → Option spec_TurnsOfDial.R := exitK spec_TurnsOfDial.C Go.Proofs.Tryz.f9.results.toList [(false, [.own 25]), (false, [.any])] (decOut spec_TurnsOfDial.sig)
noncomputable def spec_TurnsOfDial.c1 : Code := codeAt (Go.Proofs.Tryz.f9.body.getD .skip) []
noncomputable def spec_TurnsOfDial.c2 : Code := codeAt (Go.Proofs.Tryz.f9.body.getD .skip) [false]
noncomputable def spec_TurnsOfDial.c6 : Code := codeAt (Go.Proofs.Tryz.f9.body.getD .skip) [true, false]
noncomputable def spec_TurnsOfDial.c14 : Code := codeAt (Go.Proofs.Tryz.f9.body.getD .skip) [true, true, false]
noncomputable def spec_TurnsOfDial.c30 : Code := codeAt (Go.Proofs.Tryz.f9.body.getD .skip) [true, true, true, false]
noncomputable def spec_TurnsOfDial.c63 : Code := codeAt (Go.Proofs.Tryz.f9.body.getD .skip) [true, true, true, true, true]
noncomputable def spec_TurnsOfDial.c124 : Code := codeAt (Go.Proofs.Tryz.f9.body.getD .skip) [true, true, true, true, false, false]
noncomputable def spec_TurnsOfDial.c500 : Code := codeAt (Go.Proofs.Tryz.f9.body.getD .skip) [true, true, true, true, false, true, false, false]
noncomputable def spec_TurnsOfDial.K500 (N : Nat) (Kn250 : St D0 → Option spec_TurnsOfDial.R) : Ex → St D0 → Option spec_TurnsOfDial.R := ((fun up => (onN (fun s => spec_TurnsOfDial.C.tidy 250 s ((onN Kn250 up) .normal)) (onN Kn250 up))) (blockK 0 (onN (fun s => spec_TurnsOfDial.C.tidy 62 s (fun s' => runC spec_TurnsOfDial.C (spec_TurnsOfDial.O N) N spec_TurnsOfDial.c63 63 s' spec_TurnsOfDial.K0)) spec_TurnsOfDial.K0)))
noncomputable def spec_TurnsOfDial.o1 (N : Nat) (v0 : List S25) (v1 : Int) (v2 : Int) (v3 : Int) (v4 : Int) (v5 : Int) (v6 : Int) (c2 : (List S25) → (List S25) → Int → Int → Int → Int → Int → Int → Option spec_TurnsOfDial.R) : Option spec_TurnsOfDial.R :=
 bif (decide (v2 < v1)) then
  bif (decide (0 ≤ v2)) then
   bif (decide (v2 < (v0.length : Int))) then
    (v0[(v2 : Int).toNat]?).bind fun x1 =>
    (spec_diAdd.g N v3 v4 x1.f0 x1.f1 (-1)).bind fun r2 =>
    bif (!r2.2.2) then
     some (([] : List S25), false)
    else
    bif (Nat.blt (([] : List S25).length + ([(⟨r2.1, r2.2.1⟩ : S25)] : List S25).length) 8796093022208) then
     c2 (([] : List S25) ++ ([(⟨r2.1, r2.2.1⟩ : S25)] : List S25)) v0 v1 (w64 (v2 + 1)) v3 v4 v5 v6
    else
    none
   else
   none
  else
  none
 else
 some (([] : List S25), true)
theorem spec_TurnsOfDial.o1.run (N : Nat) (Kn250 : St D0 → Option spec_TurnsOfDial.R) (v0 : List S25) (v1 : Int) (v2 : Int) (v3 : Int) (v4 : Int) (v5 : Int) (v6 : Int) : runC spec_TurnsOfDial.C (spec_TurnsOfDial.O N) N spec_TurnsOfDial.c500 500 (mkSt [(3, .one (.ptr 3 0)), (8, .one (.nl)), (21, .one (.sl true 25 v0)), (22, .one (.int .i64 v1)), (23, .one (.int .i64 v2))] [(3, some (27, [.int .i64 v3, .int .i64 v4, .int .i64 v5, .int .i64 v6]))] : St D0) ((fun up => (onN (fun s => spec_TurnsOfDial.C.tidy 250 s ((onN Kn250 up) .normal)) (onN Kn250 up))) (blockK 0 (onN (fun s => spec_TurnsOfDial.C.tidy 62 s (fun s' => runC spec_TurnsOfDial.C (spec_TurnsOfDial.O N) N spec_TurnsOfDial.c63 63 s' spec_TurnsOfDial.K0)) spec_TurnsOfDial.K0))) = spec_TurnsOfDial.o1 N v0 v1 v2 v3 v4 v5 v6 ((fun w0 w1 w2 w3 w4 w5 w6 w7 => Kn250 (mkSt [(3, .one (.ptr 3 0)), (8, .one (.sl true 25 w0)), (21, .one (.sl true 25 w1)), (22, .one (.int .i64 w2)), (23, .one (.int .i64 w3))] [(3, some (27, [.int .i64 w4, .int .i64 w5, .int .i64 w6, .int .i64 w7]))] : St D0))) := by kernel_rfl
noncomputable def spec_TurnsOfDial.d1 (N : Nat) (v0 : List S25) (v1 : Int) (v2 : Int) (v3 : Int) (v4 : Int) (v5 : Int) (v6 : Int) (c2 : (List S25) → (List S25) → Int → Int → Int → Int → Int → Int → Option spec_TurnsOfDial.R) : Option spec_TurnsOfDial.R := spec_TurnsOfDial.o1 N v0 v1 v2 v3 v4 v5 v6 c2
theorem spec_TurnsOfDial.d1.run (N : Nat) (Kn250 : St D0 → Option spec_TurnsOfDial.R) (v0 : List S25) (v1 : Int) (v2 : Int) (v3 : Int) (v4 : Int) (v5 : Int) (v6 : Int) : runC spec_TurnsOfDial.C (spec_TurnsOfDial.O N) N spec_TurnsOfDial.c500 500 (mkSt [(3, .one (.ptr 3 0)), (8, .one (.nl)), (21, .one (.sl true 25 v0)), (22, .one (.int .i64 v1)), (23, .one (.int .i64 v2))] [(3, some (27, [.int .i64 v3, .int .i64 v4, .int .i64 v5, .int .i64 v6]))] : St D0) (spec_TurnsOfDial.K500 N Kn250) = spec_TurnsOfDial.d1 N v0 v1 v2 v3 v4 v5 v6 ((fun w0 w1 w2 w3 w4 w5 w6 w7 => Kn250 (mkSt [(3, .one (.ptr 3 0)), (8, .one (.sl true 25 w0)), (21, .one (.sl true 25 w1)), (22, .one (.int .i64 w2)), (23, .one (.int .i64 w3))] [(3, some (27, [.int .i64 w4, .int .i64 w5, .int .i64 w6, .int .i64 w7]))] : St D0))) := by
  exact (spec_TurnsOfDial.o1.run N Kn250 v0 v1 v2 v3 v4 v5 v6).trans rfl
noncomputable def spec_TurnsOfDial.o2 (N : Nat) (v0 : List S25) (v1 : List S25) (v2 : Int) (v3 : Int) (v4 : Int) (v5 : Int) (v6 : Int) (v7 : Int) (c2 : (List S25) → (List S25) → Int → Int → Int → Int → Int → Int → Option spec_TurnsOfDial.R) : Option spec_TurnsOfDial.R :=
 bif (decide (v3 < v2)) then
  bif (decide (0 ≤ v3)) then
   bif (decide (v3 < (v1.length : Int))) then
    (v1[(v3 : Int).toNat]?).bind fun x1 =>
    (spec_diAdd.g N v4 v5 x1.f0 x1.f1 (-1)).bind fun r2 =>
    bif (!r2.2.2) then
     some (([] : List S25), false)
    else
    bif (Nat.blt (v0.length + ([(⟨r2.1, r2.2.1⟩ : S25)] : List S25).length) 8796093022208) then
     c2 (v0 ++ ([(⟨r2.1, r2.2.1⟩ : S25)] : List S25)) v1 v2 (w64 (v3 + 1)) v4 v5 v6 v7
    else
    none
   else
   none
  else
  none
 else
 some (v0, true)
theorem spec_TurnsOfDial.o2.run (N : Nat) (Kn250 : St D0 → Option spec_TurnsOfDial.R) (v0 : List S25) (v1 : List S25) (v2 : Int) (v3 : Int) (v4 : Int) (v5 : Int) (v6 : Int) (v7 : Int) : runC spec_TurnsOfDial.C (spec_TurnsOfDial.O N) N spec_TurnsOfDial.c500 500 (mkSt [(3, .one (.ptr 3 0)), (8, .one (.sl true 25 v0)), (21, .one (.sl true 25 v1)), (22, .one (.int .i64 v2)), (23, .one (.int .i64 v3))] [(3, some (27, [.int .i64 v4, .int .i64 v5, .int .i64 v6, .int .i64 v7]))] : St D0) ((fun up => (onN (fun s => spec_TurnsOfDial.C.tidy 250 s ((onN Kn250 up) .normal)) (onN Kn250 up))) (blockK 0 (onN (fun s => spec_TurnsOfDial.C.tidy 62 s (fun s' => runC spec_TurnsOfDial.C (spec_TurnsOfDial.O N) N spec_TurnsOfDial.c63 63 s' spec_TurnsOfDial.K0)) spec_TurnsOfDial.K0))) = spec_TurnsOfDial.o2 N v0 v1 v2 v3 v4 v5 v6 v7 ((fun w0 w1 w2 w3 w4 w5 w6 w7 => Kn250 (mkSt [(3, .one (.ptr 3 0)), (8, .one (.sl true 25 w0)), (21, .one (.sl true 25 w1)), (22, .one (.int .i64 w2)), (23, .one (.int .i64 w3))] [(3, some (27, [.int .i64 w4, .int .i64 w5, .int .i64 w6, .int .i64 w7]))] : St D0))) := by kernel_rfl
noncomputable def spec_TurnsOfDial.d2 (N : Nat) (v0 : List S25) (v1 : List S25) (v2 : Int) (v3 : Int) (v4 : Int) (v5 : Int) (v6 : Int) (v7 : Int) (c2 : (List S25) → (List S25) → Int → Int → Int → Int → Int → Int → Option spec_TurnsOfDial.R) : Option spec_TurnsOfDial.R := spec_TurnsOfDial.o2 N v0 v1 v2 v3 v4 v5 v6 v7 c2
theorem spec_TurnsOfDial.d2.run (N : Nat) (Kn250 : St D0 → Option spec_TurnsOfDial.R) (v0 : List S25) (v1 : List S25) (v2 : Int) (v3 : Int) (v4 : Int) (v5 : Int) (v6 : Int) (v7 : Int) : runC spec_TurnsOfDial.C (spec_TurnsOfDial.O N) N spec_TurnsOfDial.c500 500 (mkSt [(3, .one (.ptr 3 0)), (8, .one (.sl true 25 v0)), (21, .one (.sl true 25 v1)), (22, .one (.int .i64 v2)), (23, .one (.int .i64 v3))] [(3, some (27, [.int .i64 v4, .int .i64 v5, .int .i64 v6, .int .i64 v7]))] : St D0) (spec_TurnsOfDial.K500 N Kn250) = spec_TurnsOfDial.d2 N v0 v1 v2 v3 v4 v5 v6 v7 ((fun w0 w1 w2 w3 w4 w5 w6 w7 => Kn250 (mkSt [(3, .one (.ptr 3 0)), (8, .one (.sl true 25 w0)), (21, .one (.sl true 25 w1)), (22, .one (.int .i64 w2)), (23, .one (.int .i64 w3))] [(3, some (27, [.int .i64 w4, .int .i64 w5, .int .i64 w6, .int .i64 w7]))] : St D0))) := by
  exact (spec_TurnsOfDial.o2.run N Kn250 v0 v1 v2 v3 v4 v5 v6 v7).trans rfl
noncomputable def spec_TurnsOfDial.K250 (N : Nat) : Ex → St D0 → Option spec_TurnsOfDial.R := (blockK 0 (onN (fun s => spec_TurnsOfDial.C.tidy 62 s (fun s' => runC spec_TurnsOfDial.C (spec_TurnsOfDial.O N) N spec_TurnsOfDial.c63 63 s' spec_TurnsOfDial.K0)) spec_TurnsOfDial.K0))
mutual
noncomputable def spec_TurnsOfDial.l1 (N : Nat) : Nat → (List S25) → Int → Int → Int → Int → Int → Int → Option spec_TurnsOfDial.R
  | 0, _, _, _, _, _, _, _ => none
  | n + 1, v0, v1, v2, v3, v4, v5, v6 => spec_TurnsOfDial.d1 N v0 v1 v2 v3 v4 v5 v6 ((fun w0 w1 w2 w3 w4 w5 w6 w7 => spec_TurnsOfDial.l2 N n w0 w1 w2 w3 w4 w5 w6 w7))
noncomputable def spec_TurnsOfDial.l2 (N : Nat) : Nat → (List S25) → (List S25) → Int → Int → Int → Int → Int → Int → Option spec_TurnsOfDial.R
  | 0, _, _, _, _, _, _, _, _ => none
  | n + 1, v0, v1, v2, v3, v4, v5, v6, v7 => spec_TurnsOfDial.d2 N v0 v1 v2 v3 v4 v5 v6 v7 ((fun w0 w1 w2 w3 w4 w5 w6 w7 => spec_TurnsOfDial.l2 N n w0 w1 w2 w3 w4 w5 w6 w7))
end
theorem spec_TurnsOfDial.loop250 (N : Nat) : ∀ n, (∀ (v0 : List S25) (v1 : Int) (v2 : Int) (v3 : Int) (v4 : Int) (v5 : Int) (v6 : Int), iter (loopF spec_TurnsOfDial.C (spec_TurnsOfDial.O N) N spec_TurnsOfDial.c500 250) n (mkSt [(3, .one (.ptr 3 0)), (8, .one (.nl)), (21, .one (.sl true 25 v0)), (22, .one (.int .i64 v1)), (23, .one (.int .i64 v2))] [(3, some (27, [.int .i64 v3, .int .i64 v4, .int .i64 v5, .int .i64 v6]))] : St D0) (spec_TurnsOfDial.K250 N) = spec_TurnsOfDial.l1 N n v0 v1 v2 v3 v4 v5 v6) ∧ (∀ (v0 : List S25) (v1 : List S25) (v2 : Int) (v3 : Int) (v4 : Int) (v5 : Int) (v6 : Int) (v7 : Int), iter (loopF spec_TurnsOfDial.C (spec_TurnsOfDial.O N) N spec_TurnsOfDial.c500 250) n (mkSt [(3, .one (.ptr 3 0)), (8, .one (.sl true 25 v0)), (21, .one (.sl true 25 v1)), (22, .one (.int .i64 v2)), (23, .one (.int .i64 v3))] [(3, some (27, [.int .i64 v4, .int .i64 v5, .int .i64 v6, .int .i64 v7]))] : St D0) (spec_TurnsOfDial.K250 N) = spec_TurnsOfDial.l2 N n v0 v1 v2 v3 v4 v5 v6 v7)
  | 0 => ⟨(fun v0 v1 v2 v3 v4 v5 v6 => rfl), (fun v0 v1 v2 v3 v4 v5 v6 v7 => rfl)⟩
  | n + 1 => ⟨(fun v0 v1 v2 v3 v4 v5 v6 => (spec_TurnsOfDial.d1.run N (fun s => iter (loopF spec_TurnsOfDial.C (spec_TurnsOfDial.O N) N spec_TurnsOfDial.c500 250) n s (spec_TurnsOfDial.K250 N)) v0 v1 v2 v3 v4 v5 v6).trans (show _ = spec_TurnsOfDial.d1 N v0 v1 v2 v3 v4 v5 v6 ((fun w0 w1 w2 w3 w4 w5 w6 w7 => spec_TurnsOfDial.l2 N n w0 w1 w2 w3 w4 w5 w6 w7)) from (congr rfl (funext fun w0 => funext fun w1 => funext fun w2 => funext fun w3 => funext fun w4 => funext fun w5 => funext fun w6 => funext fun w7 => (spec_TurnsOfDial.loop250 N n).2 w0 w1 w2 w3 w4 w5 w6 w7)))), (fun v0 v1 v2 v3 v4 v5 v6 v7 => (spec_TurnsOfDial.d2.run N (fun s => iter (loopF spec_TurnsOfDial.C (spec_TurnsOfDial.O N) N spec_TurnsOfDial.c500 250) n s (spec_TurnsOfDial.K250 N)) v0 v1 v2 v3 v4 v5 v6 v7).trans (show _ = spec_TurnsOfDial.d2 N v0 v1 v2 v3 v4 v5 v6 v7 ((fun w0 w1 w2 w3 w4 w5 w6 w7 => spec_TurnsOfDial.l2 N n w0 w1 w2 w3 w4 w5 w6 w7)) from (congr rfl (funext fun w0 => funext fun w1 => funext fun w2 => funext fun w3 => funext fun w4 => funext fun w5 => funext fun w6 => funext fun w7 => (spec_TurnsOfDial.loop250 N n).2 w0 w1 w2 w3 w4 w5 w6 w7))))⟩
noncomputable def spec_TurnsOfDial.o0 (N : Nat) (a0 : Int) (a1_0 : Int) (a1_1 : Int) (a1_2 : Int) (a1_3 : Int) (c1 : (List S25) → Int → Int → Int → Int → Int → Int → Option spec_TurnsOfDial.R) : Option spec_TurnsOfDial.R :=
 (spec_TimesTurned.g N a0 a1_0 a1_1 a1_2 a1_3).bind fun r1 =>
 bif (!r1.2) then
  some (([] : List S25), false)
 else
 c1 r1.1 (r1.1.length : Int) 0 a1_0 a1_1 a1_2 a1_3
theorem spec_TurnsOfDial.o0.run (N : Nat) (H500 : Code) (a0 : Int) (a1_0 : Int) (a1_1 : Int) (a1_2 : Int) (a1_3 : Int) : runC spec_TurnsOfDial.C (spec_TurnsOfDial.O N) N (.seq spec_TurnsOfDial.c2 (.seq spec_TurnsOfDial.c6 (.seq spec_TurnsOfDial.c14 (.seq spec_TurnsOfDial.c30 (.seq (.seq spec_TurnsOfDial.c124 (.block 0 (.loop H500))) spec_TurnsOfDial.c63))))) 1 (st0 [.one (.int .i64 a0), .agg [.int .i64 a1_0, .int .i64 a1_1, .int .i64 a1_2, .int .i64 a1_3]] [] : St D0) spec_TurnsOfDial.K0 = spec_TurnsOfDial.o0 N a0 a1_0 a1_1 a1_2 a1_3 ((fun w0 w1 w2 w3 w4 w5 w6 => iter (loopF spec_TurnsOfDial.C (spec_TurnsOfDial.O N) N H500 250) N (mkSt [(3, .one (.ptr 3 0)), (8, .one (.nl)), (21, .one (.sl true 25 w0)), (22, .one (.int .i64 w1)), (23, .one (.int .i64 w2))] [(3, some (27, [.int .i64 w3, .int .i64 w4, .int .i64 w5, .int .i64 w6]))] : St D0) (blockK 0 (onN (fun s => spec_TurnsOfDial.C.tidy 62 s (fun s' => runC spec_TurnsOfDial.C (spec_TurnsOfDial.O N) N spec_TurnsOfDial.c63 63 s' spec_TurnsOfDial.K0)) spec_TurnsOfDial.K0)))) := by kernel_rfl
noncomputable def spec_TurnsOfDial.g (N : Nat) (a0 : Int) (a1_0 : Int) (a1_1 : Int) (a1_2 : Int) (a1_3 : Int) : Option spec_TurnsOfDial.R := spec_TurnsOfDial.o0 N a0 a1_0 a1_1 a1_2 a1_3 ((fun w0 w1 w2 w3 w4 w5 w6 => spec_TurnsOfDial.l1 N N w0 w1 w2 w3 w4 w5 w6))
theorem spec_TurnsOfDial.c1_0 : spec_TurnsOfDial.c1 = (.seq spec_TurnsOfDial.c2 (.seq spec_TurnsOfDial.c6 (.seq spec_TurnsOfDial.c14 (.seq spec_TurnsOfDial.c30 (.seq (.seq spec_TurnsOfDial.c124 (.block 0 (.loop spec_TurnsOfDial.c500))) spec_TurnsOfDial.c63))))) := by kernel_rfl
theorem spec_TurnsOfDial.g.run (N : Nat) (a0 : Int) (a1_0 : Int) (a1_1 : Int) (a1_2 : Int) (a1_3 : Int) : runC spec_TurnsOfDial.C (spec_TurnsOfDial.O N) N spec_TurnsOfDial.c1 1 (st0 [.one (.int .i64 a0), .agg [.int .i64 a1_0, .int .i64 a1_1, .int .i64 a1_2, .int .i64 a1_3]] [] : St D0) spec_TurnsOfDial.K0 = spec_TurnsOfDial.g N a0 a1_0 a1_1 a1_2 a1_3 := by
  rw [spec_TurnsOfDial.c1_0]; unfold spec_TurnsOfDial.g; exact (spec_TurnsOfDial.o0.run N spec_TurnsOfDial.c500 a0 a1_0 a1_1 a1_2 a1_3).trans (congr rfl (funext fun w0 => funext fun w1 => funext fun w2 => funext fun w3 => funext fun w4 => funext fun w5 => funext fun w6 => (spec_TurnsOfDial.loop250 N N).1 w0 w1 w2 w3 w4 w5 w6))
theorem spec_TurnsOfDial.good (N : Nat) (a0 : Int) (a1_0 : Int) (a1_1 : Int) (a1_2 : Int) (a1_3 : Int) (r : spec_TurnsOfDial.R) (h : spec_TurnsOfDial.g N a0 a1_0 a1_1 a1_2 a1_3 = some r) : Go.PM.Good Go.Proofs.Tryz.prog T0 9 [.one (.int .i64 a0), .agg [.int .i64 a1_0, .int .i64 a1_1, .int .i64 a1_2, .int .i64 a1_3]] [] (spec_TurnsOfDial.sig.ret r) (spec_TurnsOfDial.sig.bs r) :=
  good_fn tabOk0 mixed0 spec_TurnsOfDial.sig (spec_TurnsOfDial.E N) Go.Proofs.Tryz.func9 (by kernel_rfl) (by kernel_rfl) 34392251899 0 0 [(250, [3, 8, 21, 22, 23], [3])] 17180409856 false [] [(false, [.own 25]), (false, [.any])] (by kernel_rfl) rfl rfl ((spec_TurnsOfDial.g.run N a0 a1_0 a1_1 a1_2 a1_3).trans h)
noncomputable def spec_TurnsOfDial.ent (N : Nat) : Ent Go.Proofs.Tryz.prog T0 := mkEnt 9 [(false, [.any]), (true, [.any, .any, .any, .any])] spec_TurnsOfDial.sig (fun t => spec_TurnsOfDial.g N t.1 t.2.1 t.2.2.1 t.2.2.2.1 t.2.2.2.2) (fun t r h => spec_TurnsOfDial.good N t.1 t.2.1 t.2.2.1 t.2.2.2.1 t.2.2.2.2 r h)
end Go.Proofs.YtehbhinaopdkeaaGreat.M

namespace Go.Proofs.YtehbhinaopdkeaaGreat.M
open Go Go.PM Go.Proofs.YtehbhinaopdkeaaGreat.P
set_option linter.unusedVariables false
set_option maxRecDepth 100000
/-! ### impl_TimesWithAngle -/
abbrev impl_TimesWithAngle.R : Type := List S25 × Bool
abbrev impl_TimesWithAngle.sig : Sig := ⟨[(false, 1), (true, 2)], [], [.int .i64, .int .i64, .int .i64], [(false, 1), (false, 1)], [], [.sl false 25, .bool]⟩
noncomputable def impl_TimesWithAngle.C : Cfg D0 := ⟨Go.Proofs.Tryz.prog, T0, 571, 0, 19, 0, [], 2112, false, []⟩
noncomputable def impl_TimesWithAngle.E (N : Nat) : List (Ent Go.Proofs.Tryz.prog T0) := [impl_isTime.ent N, impl_roots.ent N, impl_ifTurns.ent N]
noncomputable def impl_TimesWithAngle.O (N : Nat) : Orc D0 impl_TimesWithAngle.R := orcOf (impl_TimesWithAngle.E N)
noncomputable def impl_TimesWithAngle.K0 : Ex → St D0 → Option impl_TimesWithAngle.R := exitK impl_TimesWithAngle.C Go.Proofs.Tryz.f17.results.toList [(false, [.ro 25]), (false, [.any])] (decOut impl_TimesWithAngle.sig)
noncomputable def impl_TimesWithAngle.c1 : Code := codeAt (Go.Proofs.Tryz.f17.body.getD .skip) []
noncomputable def impl_TimesWithAngle.o0 (N : Nat) (a0 : Int) (a1_0 : Int) (a1_1 : Int) : Option impl_TimesWithAngle.R :=
 (impl_isTime.g N a0 a1_0 a1_1).bind fun r1 =>
 bif (!r1) then
  some (([] : List S25), false)
 else
 (impl_roots.g N a1_0 a1_1 (w64 (a0 - 1))).bind fun r2 =>
 (impl_ifTurns.g N r2.1 r2.2).bind fun r3 =>
 some (r3.1, r3.2)
theorem impl_TimesWithAngle.o0.run (N : Nat) (a0 : Int) (a1_0 : Int) (a1_1 : Int) : runC impl_TimesWithAngle.C (impl_TimesWithAngle.O N) N impl_TimesWithAngle.c1 1 (st0 [.one (.int .i64 a0), .agg [.int .i64 a1_0, .int .i64 a1_1]] [] : St D0) impl_TimesWithAngle.K0 = impl_TimesWithAngle.o0 N a0 a1_0 a1_1 := by kernel_rfl
noncomputable def impl_TimesWithAngle.g (N : Nat) (a0 : Int) (a1_0 : Int) (a1_1 : Int) : Option impl_TimesWithAngle.R := impl_TimesWithAngle.o0 N a0 a1_0 a1_1
theorem impl_TimesWithAngle.g.run (N : Nat) (a0 : Int) (a1_0 : Int) (a1_1 : Int) : runC impl_TimesWithAngle.C (impl_TimesWithAngle.O N) N impl_TimesWithAngle.c1 1 (st0 [.one (.int .i64 a0), .agg [.int .i64 a1_0, .int .i64 a1_1]] [] : St D0) impl_TimesWithAngle.K0 = impl_TimesWithAngle.g N a0 a1_0 a1_1 := by
  exact (impl_TimesWithAngle.o0.run N a0 a1_0 a1_1).trans rfl
theorem impl_TimesWithAngle.good (N : Nat) (a0 : Int) (a1_0 : Int) (a1_1 : Int) (r : impl_TimesWithAngle.R) (h : impl_TimesWithAngle.g N a0 a1_0 a1_1 = some r) : Go.PM.Good Go.Proofs.Tryz.prog T0 17 [.one (.int .i64 a0), .agg [.int .i64 a1_0, .int .i64 a1_1]] [] (impl_TimesWithAngle.sig.ret r) (impl_TimesWithAngle.sig.bs r) :=
  good_fn tabOk0 mixed0 impl_TimesWithAngle.sig (impl_TimesWithAngle.E N) Go.Proofs.Tryz.func17 (by kernel_rfl) (by kernel_rfl) 571 0 0 [] 2112 false [] [(false, [.ro 25]), (false, [.any])] (by kernel_rfl) rfl rfl ((impl_TimesWithAngle.g.run N a0 a1_0 a1_1).trans h)
noncomputable def impl_TimesWithAngle.ent (N : Nat) : Ent Go.Proofs.Tryz.prog T0 := mkEnt 17 [(false, [.any]), (true, [.any, .any])] impl_TimesWithAngle.sig (fun t => impl_TimesWithAngle.g N t.1 t.2.1 t.2.2) (fun t r h => impl_TimesWithAngle.good N t.1 t.2.1 t.2.2 r h)
end Go.Proofs.YtehbhinaopdkeaaGreat.M

namespace Go.Proofs.YtehbhinaopdkeaaGreat.M
open Go Go.PM Go.Proofs.YtehbhinaopdkeaaGreat.P
set_option linter.unusedVariables false
set_option maxRecDepth 100000
/-! ### spec_TimesWithAngle -/
abbrev spec_TimesWithAngle.R : Type := List S25 × Bool
abbrev spec_TimesWithAngle.sig : Sig := ⟨[(false, 1), (true, 2)], [], [.int .i64, .int .i64, .int .i64], [(false, 1), (false, 1)], [], [.sl true 25, .bool]⟩
noncomputable def spec_TimesWithAngle.C : Cfg D0 := ⟨Go.Proofs.Tryz.prog, T0, 571, 0, 18, 0, [], 1088, false, []⟩
noncomputable def spec_TimesWithAngle.E (N : Nat) : List (Ent Go.Proofs.Tryz.prog T0) := [spec_diAsked.ent N, spec_seAngle.ent N]
noncomputable def spec_TimesWithAngle.O (N : Nat) : Orc D0 spec_TimesWithAngle.R := orcOf (spec_TimesWithAngle.E N)
noncomputable def spec_TimesWithAngle.K0 : Ex → St D0 → Option spec_TimesWithAngle.R := exitK spec_TimesWithAngle.C Go.Proofs.Tryz.f18.results.toList [(false, [.own 25]), (false, [.any])] (decOut spec_TimesWithAngle.sig)
noncomputable def spec_TimesWithAngle.c1 : Code := codeAt (Go.Proofs.Tryz.f18.body.getD .skip) []
noncomputable def spec_TimesWithAngle.o0 (N : Nat) (a0 : Int) (a1_0 : Int) (a1_1 : Int) : Option spec_TimesWithAngle.R :=
 (spec_diAsked.g N a0 a1_0 a1_1).bind fun r1 =>
 bif (!r1) then
  some (([] : List S25), false)
 else
 (spec_seAngle.g N a0 a1_0 a1_1).bind fun r2 =>
 some (r2.1, r2.2)
theorem spec_TimesWithAngle.o0.run (N : Nat) (a0 : Int) (a1_0 : Int) (a1_1 : Int) : runC spec_TimesWithAngle.C (spec_TimesWithAngle.O N) N spec_TimesWithAngle.c1 1 (st0 [.one (.int .i64 a0), .agg [.int .i64 a1_0, .int .i64 a1_1]] [] : St D0) spec_TimesWithAngle.K0 = spec_TimesWithAngle.o0 N a0 a1_0 a1_1 := by kernel_rfl
noncomputable def spec_TimesWithAngle.g (N : Nat) (a0 : Int) (a1_0 : Int) (a1_1 : Int) : Option spec_TimesWithAngle.R := spec_TimesWithAngle.o0 N a0 a1_0 a1_1
theorem spec_TimesWithAngle.g.run (N : Nat) (a0 : Int) (a1_0 : Int) (a1_1 : Int) : runC spec_TimesWithAngle.C (spec_TimesWithAngle.O N) N spec_TimesWithAngle.c1 1 (st0 [.one (.int .i64 a0), .agg [.int .i64 a1_0, .int .i64 a1_1]] [] : St D0) spec_TimesWithAngle.K0 = spec_TimesWithAngle.g N a0 a1_0 a1_1 := by
  exact (spec_TimesWithAngle.o0.run N a0 a1_0 a1_1).trans rfl
theorem spec_TimesWithAngle.good (N : Nat) (a0 : Int) (a1_0 : Int) (a1_1 : Int) (r : spec_TimesWithAngle.R) (h : spec_TimesWithAngle.g N a0 a1_0 a1_1 = some r) : Go.PM.Good Go.Proofs.Tryz.prog T0 18 [.one (.int .i64 a0), .agg [.int .i64 a1_0, .int .i64 a1_1]] [] (spec_TimesWithAngle.sig.ret r) (spec_TimesWithAngle.sig.bs r) :=
  good_fn tabOk0 mixed0 spec_TimesWithAngle.sig (spec_TimesWithAngle.E N) Go.Proofs.Tryz.func18 (by kernel_rfl) (by kernel_rfl) 571 0 0 [] 1088 false [] [(false, [.own 25]), (false, [.any])] (by kernel_rfl) rfl rfl ((spec_TimesWithAngle.g.run N a0 a1_0 a1_1).trans h)
noncomputable def spec_TimesWithAngle.ent (N : Nat) : Ent Go.Proofs.Tryz.prog T0 := mkEnt 18 [(false, [.any]), (true, [.any, .any])] spec_TimesWithAngle.sig (fun t => spec_TimesWithAngle.g N t.1 t.2.1 t.2.2) (fun t r h => spec_TimesWithAngle.good N t.1 t.2.1 t.2.2 r h)
end Go.Proofs.YtehbhinaopdkeaaGreat.M

namespace Go.Proofs.YtehbhinaopdkeaaGreat.M
open Go Go.PM Go.Proofs.YtehbhinaopdkeaaGreat.P
set_option linter.unusedVariables false
set_option maxRecDepth 100000
/-! ### impl_TurnSeen -/
abbrev impl_TurnSeen.R : Type := Int × Int × Int × Int × Bool
abbrev impl_TurnSeen.sig : Sig := ⟨[(true, 4), (true, 2)], [], [.int .i64, .int .i64, .int .i64, .int .i64, .int .i64, .int .i64], [(true, 4), (false, 1)], [], [.int .i64, .int .i64, .int .i64, .int .i64, .bool]⟩
noncomputable def impl_TurnSeen.C : Cfg D0 := ⟨Go.Proofs.Tryz.prog, T0, 134234239, 0, 30, 0, [(12, [2, 3, 4, 14], [2, 3, 4])], 0, false, []⟩
noncomputable def impl_TurnSeen.E (N : Nat) : List (Ent Go.Proofs.Tryz.prog T0) := [impl_IsSeen.ent N, impl_IsTurn.ent N, impl_Turn_plus.ent N]
noncomputable def impl_TurnSeen.O (N : Nat) : Orc D0 impl_TurnSeen.R := orcOf (impl_TurnSeen.E N)
noncomputable def impl_TurnSeen.K0 : Ex → St D0 → Option impl_TurnSeen.R := exitK impl_TurnSeen.C Go.Proofs.Tryz.f13.results.toList [(true, [.any, .any, .any, .any]), (false, [.any])] (decOut impl_TurnSeen.sig)
noncomputable def impl_TurnSeen.c1 : Code := codeAt (Go.Proofs.Tryz.f13.body.getD .skip) []
noncomputable def impl_TurnSeen.c2 : Code := codeAt (Go.Proofs.Tryz.f13.body.getD .skip) [false]
noncomputable def impl_TurnSeen.c7 : Code := codeAt (Go.Proofs.Tryz.f13.body.getD .skip) [true, true]
noncomputable def impl_TurnSeen.c12 : Code := codeAt (Go.Proofs.Tryz.f13.body.getD .skip) [true, false, false]
noncomputable def impl_TurnSeen.c13 : Code := codeAt (Go.Proofs.Tryz.f13.body.getD .skip) [true, false, true]
noncomputable def impl_TurnSeen.K13 (N : Nat) : Ex → St D0 → Option impl_TurnSeen.R := (onN (fun s => impl_TurnSeen.C.tidy 6 s (fun s' => runC impl_TurnSeen.C (impl_TurnSeen.O N) N impl_TurnSeen.c7 7 s' impl_TurnSeen.K0)) impl_TurnSeen.K0)
noncomputable def impl_TurnSeen.o1 (N : Nat) (v0 : Bool) (v1 : Int) (v2 : Int) (v3 : Int) (v4 : Int) (v5 : Int) (v6 : Int) (v7 : Int) (v8 : Int) (v9 : Int) (v10 : Int) : Option impl_TurnSeen.R :=
 bif v0 then
  some (0, 0, 0, 0, false)
 else
 (impl_Turn_plus.g N v1 v2 v5 v6).bind fun r1 =>
 (impl_Turn_plus.g N v3 v4 v5 v6).bind fun r2 =>
 (impl_IsSeen.g N r1.1 r1.2 r2.1 r2.2).bind fun r3 =>
 bif (!r3) then
  some (0, 0, 0, 0, false)
 else
 some (r1.1, r1.2, r2.1, r2.2, true)
theorem impl_TurnSeen.o1.run (N : Nat) (v0 : Bool) (v1 : Int) (v2 : Int) (v3 : Int) (v4 : Int) (v5 : Int) (v6 : Int) (v7 : Int) (v8 : Int) (v9 : Int) (v10 : Int) : runC impl_TurnSeen.C (impl_TurnSeen.O N) N impl_TurnSeen.c13 13 (mkSt [(2, .one (.ptr 2 0)), (3, .one (.ptr 3 0)), (4, .one (.ptr 4 0)), (14, .one (.bool v0))] [(2, some (27, [.int .i64 v1, .int .i64 v2, .int .i64 v3, .int .i64 v4])), (3, some (25, [.int .i64 v5, .int .i64 v6])), (4, some (27, [.int .i64 v7, .int .i64 v8, .int .i64 v9, .int .i64 v10]))] : St D0) (onN (fun s => impl_TurnSeen.C.tidy 6 s (fun s' => runC impl_TurnSeen.C (impl_TurnSeen.O N) N impl_TurnSeen.c7 7 s' impl_TurnSeen.K0)) impl_TurnSeen.K0) = impl_TurnSeen.o1 N v0 v1 v2 v3 v4 v5 v6 v7 v8 v9 v10 := by kernel_rfl
noncomputable def impl_TurnSeen.d1 (N : Nat) (v0 : Bool) (v1 : Int) (v2 : Int) (v3 : Int) (v4 : Int) (v5 : Int) (v6 : Int) (v7 : Int) (v8 : Int) (v9 : Int) (v10 : Int) : Option impl_TurnSeen.R := impl_TurnSeen.o1 N v0 v1 v2 v3 v4 v5 v6 v7 v8 v9 v10
theorem impl_TurnSeen.d1.run (N : Nat) (v0 : Bool) (v1 : Int) (v2 : Int) (v3 : Int) (v4 : Int) (v5 : Int) (v6 : Int) (v7 : Int) (v8 : Int) (v9 : Int) (v10 : Int) : runC impl_TurnSeen.C (impl_TurnSeen.O N) N impl_TurnSeen.c13 13 (mkSt [(2, .one (.ptr 2 0)), (3, .one (.ptr 3 0)), (4, .one (.ptr 4 0)), (14, .one (.bool v0))] [(2, some (27, [.int .i64 v1, .int .i64 v2, .int .i64 v3, .int .i64 v4])), (3, some (25, [.int .i64 v5, .int .i64 v6])), (4, some (27, [.int .i64 v7, .int .i64 v8, .int .i64 v9, .int .i64 v10]))] : St D0) (impl_TurnSeen.K13 N) = impl_TurnSeen.d1 N v0 v1 v2 v3 v4 v5 v6 v7 v8 v9 v10 := by
  exact (impl_TurnSeen.o1.run N v0 v1 v2 v3 v4 v5 v6 v7 v8 v9 v10).trans rfl
noncomputable def impl_TurnSeen.o0 (N : Nat) (a0_0 : Int) (a0_1 : Int) (a0_2 : Int) (a0_3 : Int) (a1_0 : Int) (a1_1 : Int) (c1 : Bool → Int → Int → Int → Int → Int → Int → Int → Int → Int → Int → Option impl_TurnSeen.R) : Option impl_TurnSeen.R :=
 (impl_IsSeen.g N a0_0 a0_1 a0_2 a0_3).bind fun r1 =>
 bif (!r1) then
  c1 true a0_0 a0_1 a0_2 a0_3 a1_0 a1_1 0 0 0 0
 else
 (impl_IsTurn.g N a1_0 a1_1).bind fun r2 =>
 c1 (!r2) a0_0 a0_1 a0_2 a0_3 a1_0 a1_1 0 0 0 0
theorem impl_TurnSeen.o0.run (N : Nat) (H13 : Code) (a0_0 : Int) (a0_1 : Int) (a0_2 : Int) (a0_3 : Int) (a1_0 : Int) (a1_1 : Int) : runC impl_TurnSeen.C (impl_TurnSeen.O N) N (.seq impl_TurnSeen.c2 (.seq (.seq impl_TurnSeen.c12 H13) impl_TurnSeen.c7)) 1 (st0 [.agg [.int .i64 a0_0, .int .i64 a0_1, .int .i64 a0_2, .int .i64 a0_3], .agg [.int .i64 a1_0, .int .i64 a1_1]] [] : St D0) impl_TurnSeen.K0 = impl_TurnSeen.o0 N a0_0 a0_1 a0_2 a0_3 a1_0 a1_1 ((fun w0 w1 w2 w3 w4 w5 w6 w7 w8 w9 w10 => runC impl_TurnSeen.C (impl_TurnSeen.O N) N H13 13 (mkSt [(2, .one (.ptr 2 0)), (3, .one (.ptr 3 0)), (4, .one (.ptr 4 0)), (14, .one (.bool w0))] [(2, some (27, [.int .i64 w1, .int .i64 w2, .int .i64 w3, .int .i64 w4])), (3, some (25, [.int .i64 w5, .int .i64 w6])), (4, some (27, [.int .i64 w7, .int .i64 w8, .int .i64 w9, .int .i64 w10]))] : St D0) (onN (fun s => impl_TurnSeen.C.tidy 6 s (fun s' => runC impl_TurnSeen.C (impl_TurnSeen.O N) N impl_TurnSeen.c7 7 s' impl_TurnSeen.K0)) impl_TurnSeen.K0))) := by kernel_rfl
noncomputable def impl_TurnSeen.B6 (N : Nat) : St D0 → Option impl_TurnSeen.R := fun s' => runC impl_TurnSeen.C (impl_TurnSeen.O N) N impl_TurnSeen.c13 13 s' (impl_TurnSeen.K13 N)
noncomputable def impl_TurnSeen.g (N : Nat) (a0_0 : Int) (a0_1 : Int) (a0_2 : Int) (a0_3 : Int) (a1_0 : Int) (a1_1 : Int) : Option impl_TurnSeen.R := impl_TurnSeen.o0 N a0_0 a0_1 a0_2 a0_3 a1_0 a1_1 ((fun w0 w1 w2 w3 w4 w5 w6 w7 w8 w9 w10 => impl_TurnSeen.d1 N w0 w1 w2 w3 w4 w5 w6 w7 w8 w9 w10))
theorem impl_TurnSeen.c1_0 : impl_TurnSeen.c1 = (.seq impl_TurnSeen.c2 (.seq (.seq impl_TurnSeen.c12 impl_TurnSeen.c13) impl_TurnSeen.c7)) := by kernel_rfl
theorem impl_TurnSeen.g.run (N : Nat) (a0_0 : Int) (a0_1 : Int) (a0_2 : Int) (a0_3 : Int) (a1_0 : Int) (a1_1 : Int) : runC impl_TurnSeen.C (impl_TurnSeen.O N) N impl_TurnSeen.c1 1 (st0 [.agg [.int .i64 a0_0, .int .i64 a0_1, .int .i64 a0_2, .int .i64 a0_3], .agg [.int .i64 a1_0, .int .i64 a1_1]] [] : St D0) impl_TurnSeen.K0 = impl_TurnSeen.g N a0_0 a0_1 a0_2 a0_3 a1_0 a1_1 := by
  rw [impl_TurnSeen.c1_0]; unfold impl_TurnSeen.g; exact (impl_TurnSeen.o0.run N impl_TurnSeen.c13 a0_0 a0_1 a0_2 a0_3 a1_0 a1_1).trans (congr rfl (funext fun w0 => funext fun w1 => funext fun w2 => funext fun w3 => funext fun w4 => funext fun w5 => funext fun w6 => funext fun w7 => funext fun w8 => funext fun w9 => funext fun w10 => impl_TurnSeen.d1.run N w0 w1 w2 w3 w4 w5 w6 w7 w8 w9 w10))
theorem impl_TurnSeen.good (N : Nat) (a0_0 : Int) (a0_1 : Int) (a0_2 : Int) (a0_3 : Int) (a1_0 : Int) (a1_1 : Int) (r : impl_TurnSeen.R) (h : impl_TurnSeen.g N a0_0 a0_1 a0_2 a0_3 a1_0 a1_1 = some r) : Go.PM.Good Go.Proofs.Tryz.prog T0 13 [.agg [.int .i64 a0_0, .int .i64 a0_1, .int .i64 a0_2, .int .i64 a0_3], .agg [.int .i64 a1_0, .int .i64 a1_1]] [] (impl_TurnSeen.sig.ret r) (impl_TurnSeen.sig.bs r) :=
  good_fn tabOk0 mixed0 impl_TurnSeen.sig (impl_TurnSeen.E N) Go.Proofs.Tryz.func13 (by kernel_rfl) (by kernel_rfl) 134234239 0 0 [(12, [2, 3, 4, 14], [2, 3, 4])] 0 false [] [(true, [.any, .any, .any, .any]), (false, [.any])] (by kernel_rfl) rfl rfl ((impl_TurnSeen.g.run N a0_0 a0_1 a0_2 a0_3 a1_0 a1_1).trans h)
noncomputable def impl_TurnSeen.ent (N : Nat) : Ent Go.Proofs.Tryz.prog T0 := mkEnt 13 [(true, [.any, .any, .any, .any]), (true, [.any, .any])] impl_TurnSeen.sig (fun t => impl_TurnSeen.g N t.1 t.2.1 t.2.2.1 t.2.2.2.1 t.2.2.2.2.1 t.2.2.2.2.2) (fun t r h => impl_TurnSeen.good N t.1 t.2.1 t.2.2.1 t.2.2.2.1 t.2.2.2.2.1 t.2.2.2.2.2 r h)
end Go.Proofs.YtehbhinaopdkeaaGreat.M

namespace Go.Proofs.YtehbhinaopdkeaaGreat.M
open Go Go.PM Go.Proofs.YtehbhinaopdkeaaGreat.P
set_option linter.unusedVariables false
set_option maxRecDepth 100000
/-! ### spec_TurnSeen -/
abbrev spec_TurnSeen.R : Type := Int × Int × Int × Int × Bool
abbrev spec_TurnSeen.sig : Sig := ⟨[(true, 4), (true, 2)], [], [.int .i64, .int .i64, .int .i64, .int .i64, .int .i64, .int .i64], [(true, 4), (false, 1)], [], [.int .i64, .int .i64, .int .i64, .int .i64, .bool]⟩
noncomputable def spec_TurnSeen.C : Cfg D0 := ⟨Go.Proofs.Tryz.prog, T0, 274878039039, 0, 43, 0, [(12, [2, 3, 4, 17], [2, 3, 4]), (124, [4, 6, 8, 38], [4, 6, 8])], 77309411328, false, []⟩
noncomputable def spec_TurnSeen.E (N : Nat) : List (Ent Go.Proofs.Tryz.prog T0) := [spec_seGood.ent N, spec_diGood.ent N, spec_diAdd.ent N]
noncomputable def spec_TurnSeen.O (N : Nat) : Orc D0 spec_TurnSeen.R := orcOf (spec_TurnSeen.E N)
noncomputable def spec_TurnSeen.K0 : Ex → St D0 → Option spec_TurnSeen.R := exitK spec_TurnSeen.C Go.Proofs.Tryz.f26.results.toList [(true, [.any, .any, .any, .any]), (false, [.any])] (decOut spec_TurnSeen.sig)
noncomputable def spec_TurnSeen.c1 : Code := codeAt (Go.Proofs.Tryz.f26.body.getD .skip) []
noncomputable def spec_TurnSeen.c2 : Code := codeAt (Go.Proofs.Tryz.f26.body.getD .skip) [false]
noncomputable def spec_TurnSeen.c7 : Code := codeAt (Go.Proofs.Tryz.f26.body.getD .skip) [true, true]
noncomputable def spec_TurnSeen.c12 : Code := codeAt (Go.Proofs.Tryz.f26.body.getD .skip) [true, false, false]
noncomputable def spec_TurnSeen.c13 : Code := codeAt (Go.Proofs.Tryz.f26.body.getD .skip) [true, false, true]
noncomputable def spec_TurnSeen.c14 : Code := codeAt (Go.Proofs.Tryz.f26.body.getD .skip) [true, true, false]
noncomputable def spec_TurnSeen.c30 : Code := codeAt (Go.Proofs.Tryz.f26.body.getD .skip) [true, true, true, false]
noncomputable def spec_TurnSeen.c63 : Code := codeAt (Go.Proofs.Tryz.f26.body.getD .skip) [true, true, true, true, true]
noncomputable def spec_TurnSeen.c124 : Code := codeAt (Go.Proofs.Tryz.f26.body.getD .skip) [true, true, true, true, false, false]
noncomputable def spec_TurnSeen.c125 : Code := codeAt (Go.Proofs.Tryz.f26.body.getD .skip) [true, true, true, true, false, true]
noncomputable def spec_TurnSeen.K125 (N : Nat) : Ex → St D0 → Option spec_TurnSeen.R := (onN (fun s => spec_TurnSeen.C.tidy 62 s (fun s' => runC spec_TurnSeen.C (spec_TurnSeen.O N) N spec_TurnSeen.c63 63 s' spec_TurnSeen.K0)) spec_TurnSeen.K0)
noncomputable def spec_TurnSeen.o2 (N : Nat) (v0 : Bool) (v1 : Int) (v2 : Int) (v3 : Int) (v4 : Int) (v5 : Int) (v6 : Int) (v7 : Int) (v8 : Int) : Option spec_TurnSeen.R :=
 bif v0 then
  some (0, 0, 0, 0, false)
 else
 some (v5, v6, v7, v8, true)
theorem spec_TurnSeen.o2.run (N : Nat) (v0 : Bool) (v1 : Int) (v2 : Int) (v3 : Int) (v4 : Int) (v5 : Int) (v6 : Int) (v7 : Int) (v8 : Int) : runC spec_TurnSeen.C (spec_TurnSeen.O N) N spec_TurnSeen.c125 125 (mkSt [(4, .one (.ptr 4 0)), (6, .one (.ptr 6 0)), (8, .one (.ptr 8 0)), (38, .one (.bool v0))] [(4, some (27, [.int .i64 v1, .int .i64 v2, .int .i64 v3, .int .i64 v4])), (6, some (25, [.int .i64 v5, .int .i64 v6])), (8, some (25, [.int .i64 v7, .int .i64 v8]))] : St D0) (onN (fun s => spec_TurnSeen.C.tidy 62 s (fun s' => runC spec_TurnSeen.C (spec_TurnSeen.O N) N spec_TurnSeen.c63 63 s' spec_TurnSeen.K0)) spec_TurnSeen.K0) = spec_TurnSeen.o2 N v0 v1 v2 v3 v4 v5 v6 v7 v8 := by kernel_rfl
noncomputable def spec_TurnSeen.d2 (N : Nat) (v0 : Bool) (v1 : Int) (v2 : Int) (v3 : Int) (v4 : Int) (v5 : Int) (v6 : Int) (v7 : Int) (v8 : Int) : Option spec_TurnSeen.R := spec_TurnSeen.o2 N v0 v1 v2 v3 v4 v5 v6 v7 v8
theorem spec_TurnSeen.d2.run (N : Nat) (v0 : Bool) (v1 : Int) (v2 : Int) (v3 : Int) (v4 : Int) (v5 : Int) (v6 : Int) (v7 : Int) (v8 : Int) : runC spec_TurnSeen.C (spec_TurnSeen.O N) N spec_TurnSeen.c125 125 (mkSt [(4, .one (.ptr 4 0)), (6, .one (.ptr 6 0)), (8, .one (.ptr 8 0)), (38, .one (.bool v0))] [(4, some (27, [.int .i64 v1, .int .i64 v2, .int .i64 v3, .int .i64 v4])), (6, some (25, [.int .i64 v5, .int .i64 v6])), (8, some (25, [.int .i64 v7, .int .i64 v8]))] : St D0) (spec_TurnSeen.K125 N) = spec_TurnSeen.d2 N v0 v1 v2 v3 v4 v5 v6 v7 v8 := by
  exact (spec_TurnSeen.o2.run N v0 v1 v2 v3 v4 v5 v6 v7 v8).trans rfl
noncomputable def spec_TurnSeen.K13 (N : Nat) : Ex → St D0 → Option spec_TurnSeen.R := (onN (fun s => spec_TurnSeen.C.tidy 6 s (fun s' => runC spec_TurnSeen.C (spec_TurnSeen.O N) N spec_TurnSeen.c7 7 s' spec_TurnSeen.K0)) spec_TurnSeen.K0)
noncomputable def spec_TurnSeen.o1 (N : Nat) (v0 : Bool) (v1 : Int) (v2 : Int) (v3 : Int) (v4 : Int) (v5 : Int) (v6 : Int) (v7 : Int) (v8 : Int) (v9 : Int) (v10 : Int) (c2 : Bool → Int → Int → Int → Int → Int → Int → Int → Int → Option spec_TurnSeen.R) : Option spec_TurnSeen.R :=
 bif v0 then
  some (0, 0, 0, 0, false)
 else
 (spec_diAdd.g N v1 v2 v5 v6 1).bind fun r1 =>
 (spec_diAdd.g N v3 v4 v5 v6 1).bind fun r2 =>
 bif (!r1.2.2) then
  c2 true v7 v8 v9 v10 r1.1 r1.2.1 r2.1 r2.2.1
 else
 c2 (!r2.2.2) v7 v8 v9 v10 r1.1 r1.2.1 r2.1 r2.2.1
theorem spec_TurnSeen.o1.run (N : Nat) (H125 : Code) (v0 : Bool) (v1 : Int) (v2 : Int) (v3 : Int) (v4 : Int) (v5 : Int) (v6 : Int) (v7 : Int) (v8 : Int) (v9 : Int) (v10 : Int) : runC spec_TurnSeen.C (spec_TurnSeen.O N) N spec_TurnSeen.c13 13 (mkSt [(2, .one (.ptr 2 0)), (3, .one (.ptr 3 0)), (4, .one (.ptr 4 0)), (17, .one (.bool v0))] [(2, some (27, [.int .i64 v1, .int .i64 v2, .int .i64 v3, .int .i64 v4])), (3, some (25, [.int .i64 v5, .int .i64 v6])), (4, some (27, [.int .i64 v7, .int .i64 v8, .int .i64 v9, .int .i64 v10]))] : St D0) (onN (fun s => spec_TurnSeen.C.tidy 6 s (fun s' => runC spec_TurnSeen.C (spec_TurnSeen.O N) N (.seq spec_TurnSeen.c14 (.seq spec_TurnSeen.c30 (.seq (.seq spec_TurnSeen.c124 H125) spec_TurnSeen.c63))) 7 s' spec_TurnSeen.K0)) spec_TurnSeen.K0) = spec_TurnSeen.o1 N v0 v1 v2 v3 v4 v5 v6 v7 v8 v9 v10 ((fun w0 w1 w2 w3 w4 w5 w6 w7 w8 => runC spec_TurnSeen.C (spec_TurnSeen.O N) N H125 125 (mkSt [(4, .one (.ptr 4 0)), (6, .one (.ptr 6 0)), (8, .one (.ptr 8 0)), (38, .one (.bool w0))] [(4, some (27, [.int .i64 w1, .int .i64 w2, .int .i64 w3, .int .i64 w4])), (6, some (25, [.int .i64 w5, .int .i64 w6])), (8, some (25, [.int .i64 w7, .int .i64 w8]))] : St D0) (onN (fun s => spec_TurnSeen.C.tidy 62 s (fun s' => runC spec_TurnSeen.C (spec_TurnSeen.O N) N spec_TurnSeen.c63 63 s' spec_TurnSeen.K0)) spec_TurnSeen.K0))) := by kernel_rfl
noncomputable def spec_TurnSeen.B62 (N : Nat) : St D0 → Option spec_TurnSeen.R := fun s' => runC spec_TurnSeen.C (spec_TurnSeen.O N) N spec_TurnSeen.c125 125 s' (spec_TurnSeen.K125 N)
noncomputable def spec_TurnSeen.d1 (N : Nat) (v0 : Bool) (v1 : Int) (v2 : Int) (v3 : Int) (v4 : Int) (v5 : Int) (v6 : Int) (v7 : Int) (v8 : Int) (v9 : Int) (v10 : Int) : Option spec_TurnSeen.R := spec_TurnSeen.o1 N v0 v1 v2 v3 v4 v5 v6 v7 v8 v9 v10 ((fun w0 w1 w2 w3 w4 w5 w6 w7 w8 => spec_TurnSeen.d2 N w0 w1 w2 w3 w4 w5 w6 w7 w8))
theorem spec_TurnSeen.d1.run (N : Nat) (v0 : Bool) (v1 : Int) (v2 : Int) (v3 : Int) (v4 : Int) (v5 : Int) (v6 : Int) (v7 : Int) (v8 : Int) (v9 : Int) (v10 : Int) : runC spec_TurnSeen.C (spec_TurnSeen.O N) N spec_TurnSeen.c13 13 (mkSt [(2, .one (.ptr 2 0)), (3, .one (.ptr 3 0)), (4, .one (.ptr 4 0)), (17, .one (.bool v0))] [(2, some (27, [.int .i64 v1, .int .i64 v2, .int .i64 v3, .int .i64 v4])), (3, some (25, [.int .i64 v5, .int .i64 v6])), (4, some (27, [.int .i64 v7, .int .i64 v8, .int .i64 v9, .int .i64 v10]))] : St D0) (spec_TurnSeen.K13 N) = spec_TurnSeen.d1 N v0 v1 v2 v3 v4 v5 v6 v7 v8 v9 v10 := by
  unfold spec_TurnSeen.d1; exact (spec_TurnSeen.o1.run N spec_TurnSeen.c125 v0 v1 v2 v3 v4 v5 v6 v7 v8 v9 v10).trans (congr rfl (funext fun w0 => funext fun w1 => funext fun w2 => funext fun w3 => funext fun w4 => funext fun w5 => funext fun w6 => funext fun w7 => funext fun w8 => spec_TurnSeen.d2.run N w0 w1 w2 w3 w4 w5 w6 w7 w8))
noncomputable def spec_TurnSeen.o0 (N : Nat) (a0_0 : Int) (a0_1 : Int) (a0_2 : Int) (a0_3 : Int) (a1_0 : Int) (a1_1 : Int) (c1 : Bool → Int → Int → Int → Int → Int → Int → Int → Int → Int → Int → Option spec_TurnSeen.R) : Option spec_TurnSeen.R :=
 (spec_seGood.g N a0_0 a0_1 a0_2 a0_3).bind fun r1 =>
 bif (!r1) then
  c1 true a0_0 a0_1 a0_2 a0_3 a1_0 a1_1 0 0 0 0
 else
 (spec_diGood.g N a1_0 a1_1).bind fun r2 =>
 c1 (!r2) a0_0 a0_1 a0_2 a0_3 a1_0 a1_1 0 0 0 0
theorem spec_TurnSeen.o0.run (N : Nat) (H13 : Code) (a0_0 : Int) (a0_1 : Int) (a0_2 : Int) (a0_3 : Int) (a1_0 : Int) (a1_1 : Int) : runC spec_TurnSeen.C (spec_TurnSeen.O N) N (.seq spec_TurnSeen.c2 (.seq (.seq spec_TurnSeen.c12 H13) spec_TurnSeen.c7)) 1 (st0 [.agg [.int .i64 a0_0, .int .i64 a0_1, .int .i64 a0_2, .int .i64 a0_3], .agg [.int .i64 a1_0, .int .i64 a1_1]] [] : St D0) spec_TurnSeen.K0 = spec_TurnSeen.o0 N a0_0 a0_1 a0_2 a0_3 a1_0 a1_1 ((fun w0 w1 w2 w3 w4 w5 w6 w7 w8 w9 w10 => runC spec_TurnSeen.C (spec_TurnSeen.O N) N H13 13 (mkSt [(2, .one (.ptr 2 0)), (3, .one (.ptr 3 0)), (4, .one (.ptr 4 0)), (17, .one (.bool w0))] [(2, some (27, [.int .i64 w1, .int .i64 w2, .int .i64 w3, .int .i64 w4])), (3, some (25, [.int .i64 w5, .int .i64 w6])), (4, some (27, [.int .i64 w7, .int .i64 w8, .int .i64 w9, .int .i64 w10]))] : St D0) (onN (fun s => spec_TurnSeen.C.tidy 6 s (fun s' => runC spec_TurnSeen.C (spec_TurnSeen.O N) N spec_TurnSeen.c7 7 s' spec_TurnSeen.K0)) spec_TurnSeen.K0))) := by kernel_rfl
noncomputable def spec_TurnSeen.B6 (N : Nat) : St D0 → Option spec_TurnSeen.R := fun s' => runC spec_TurnSeen.C (spec_TurnSeen.O N) N spec_TurnSeen.c13 13 s' (spec_TurnSeen.K13 N)
noncomputable def spec_TurnSeen.g (N : Nat) (a0_0 : Int) (a0_1 : Int) (a0_2 : Int) (a0_3 : Int) (a1_0 : Int) (a1_1 : Int) : Option spec_TurnSeen.R := spec_TurnSeen.o0 N a0_0 a0_1 a0_2 a0_3 a1_0 a1_1 ((fun w0 w1 w2 w3 w4 w5 w6 w7 w8 w9 w10 => spec_TurnSeen.d1 N w0 w1 w2 w3 w4 w5 w6 w7 w8 w9 w10))
theorem spec_TurnSeen.c1_0 : spec_TurnSeen.c1 = (.seq spec_TurnSeen.c2 (.seq (.seq spec_TurnSeen.c12 spec_TurnSeen.c13) spec_TurnSeen.c7)) := by kernel_rfl
theorem spec_TurnSeen.g.run (N : Nat) (a0_0 : Int) (a0_1 : Int) (a0_2 : Int) (a0_3 : Int) (a1_0 : Int) (a1_1 : Int) : runC spec_TurnSeen.C (spec_TurnSeen.O N) N spec_TurnSeen.c1 1 (st0 [.agg [.int .i64 a0_0, .int .i64 a0_1, .int .i64 a0_2, .int .i64 a0_3], .agg [.int .i64 a1_0, .int .i64 a1_1]] [] : St D0) spec_TurnSeen.K0 = spec_TurnSeen.g N a0_0 a0_1 a0_2 a0_3 a1_0 a1_1 := by
  rw [spec_TurnSeen.c1_0]; unfold spec_TurnSeen.g; exact (spec_TurnSeen.o0.run N spec_TurnSeen.c13 a0_0 a0_1 a0_2 a0_3 a1_0 a1_1).trans (congr rfl (funext fun w0 => funext fun w1 => funext fun w2 => funext fun w3 => funext fun w4 => funext fun w5 => funext fun w6 => funext fun w7 => funext fun w8 => funext fun w9 => funext fun w10 => spec_TurnSeen.d1.run N w0 w1 w2 w3 w4 w5 w6 w7 w8 w9 w10))
theorem spec_TurnSeen.good (N : Nat) (a0_0 : Int) (a0_1 : Int) (a0_2 : Int) (a0_3 : Int) (a1_0 : Int) (a1_1 : Int) (r : spec_TurnSeen.R) (h : spec_TurnSeen.g N a0_0 a0_1 a0_2 a0_3 a1_0 a1_1 = some r) : Go.PM.Good Go.Proofs.Tryz.prog T0 26 [.agg [.int .i64 a0_0, .int .i64 a0_1, .int .i64 a0_2, .int .i64 a0_3], .agg [.int .i64 a1_0, .int .i64 a1_1]] [] (spec_TurnSeen.sig.ret r) (spec_TurnSeen.sig.bs r) :=
  good_fn tabOk0 mixed0 spec_TurnSeen.sig (spec_TurnSeen.E N) Go.Proofs.Tryz.func26 (by kernel_rfl) (by kernel_rfl) 274878039039 0 0 [(12, [2, 3, 4, 17], [2, 3, 4]), (124, [4, 6, 8, 38], [4, 6, 8])] 77309411328 false [] [(true, [.any, .any, .any, .any]), (false, [.any])] (by kernel_rfl) rfl rfl ((spec_TurnSeen.g.run N a0_0 a0_1 a0_2 a0_3 a1_0 a1_1).trans h)
noncomputable def spec_TurnSeen.ent (N : Nat) : Ent Go.Proofs.Tryz.prog T0 := mkEnt 26 [(true, [.any, .any, .any, .any]), (true, [.any, .any])] spec_TurnSeen.sig (fun t => spec_TurnSeen.g N t.1 t.2.1 t.2.2.1 t.2.2.2.1 t.2.2.2.2.1 t.2.2.2.2.2) (fun t r h => spec_TurnSeen.good N t.1 t.2.1 t.2.2.1 t.2.2.2.1 t.2.2.2.2.1 t.2.2.2.2.2 r h)
end Go.Proofs.YtehbhinaopdkeaaGreat.M

namespace Go.Proofs.YtehbhinaopdkeaaGreat.M
open Go Go.PM Go.Proofs.YtehbhinaopdkeaaGreat.P
set_option linter.unusedVariables false
set_option maxRecDepth 100000
/-! ### impl_TimesInGlass -/
abbrev impl_TimesInGlass.R : Type := List S25 × Bool
abbrev impl_TimesInGlass.sig : Sig := ⟨[(false, 1), (true, 4)], [], [.int .i64, .int .i64, .int .i64, .int .i64, .int .i64], [(false, 1), (false, 1)], [], [.sl true 25, .bool]⟩
noncomputable def impl_TimesInGlass.C : Cfg D0 := ⟨Go.Proofs.Tryz.prog, T0, 8763, 0, 22, 0, [], 1088, false, []⟩
noncomputable def impl_TimesInGlass.E (N : Nat) : List (Ent Go.Proofs.Tryz.prog T0) := [impl_isSeenOf.ent N, impl_isTrue.ent N, impl_Turn_mirror.ent N, impl_sorted.ent N]
noncomputable def impl_TimesInGlass.O (N : Nat) : Orc D0 impl_TimesInGlass.R := orcOf (impl_TimesInGlass.E N)
noncomputable def impl_TimesInGlass.K0 : Ex → St D0 → Option impl_TimesInGlass.R := exitK impl_TimesInGlass.C Go.Proofs.Tryz.f20.results.toList [(false, [.own 25]), (false, [.any])] (decOut impl_TimesInGlass.sig)
noncomputable def impl_TimesInGlass.c1 : Code := codeAt (Go.Proofs.Tryz.f20.body.getD .skip) []
noncomputable def impl_TimesInGlass.o0 (N : Nat) (a0 : Int) (a1_0 : Int) (a1_1 : Int) (a1_2 : Int) (a1_3 : Int) : Option impl_TimesInGlass.R :=
 (impl_isSeenOf.g N a0 a1_0 a1_1 a1_2 a1_3).bind fun r1 =>
 bif (!r1) then
  some (([] : List S25), false)
 else
 (impl_isTrue.g N a0 a1_0 a1_1 a1_2 a1_3).bind fun r2 =>
 bif (!r2) then
  some (([] : List S25), true)
 else
 (impl_Turn_mirror.g N a1_0 a1_1).bind fun r3 =>
 (impl_sorted.g N ([(⟨a1_0, a1_1⟩ : S25), (⟨r3.1, r3.2⟩ : S25)] : List S25)).bind fun r4 =>
 some (r4, true)
theorem impl_TimesInGlass.o0.run (N : Nat) (a0 : Int) (a1_0 : Int) (a1_1 : Int) (a1_2 : Int) (a1_3 : Int) : runC impl_TimesInGlass.C (impl_TimesInGlass.O N) N impl_TimesInGlass.c1 1 (st0 [.one (.int .i64 a0), .agg [.int .i64 a1_0, .int .i64 a1_1, .int .i64 a1_2, .int .i64 a1_3]] [] : St D0) impl_TimesInGlass.K0 = impl_TimesInGlass.o0 N a0 a1_0 a1_1 a1_2 a1_3 := by kernel_rfl
noncomputable def impl_TimesInGlass.g (N : Nat) (a0 : Int) (a1_0 : Int) (a1_1 : Int) (a1_2 : Int) (a1_3 : Int) : Option impl_TimesInGlass.R := impl_TimesInGlass.o0 N a0 a1_0 a1_1 a1_2 a1_3
theorem impl_TimesInGlass.g.run (N : Nat) (a0 : Int) (a1_0 : Int) (a1_1 : Int) (a1_2 : Int) (a1_3 : Int) : runC impl_TimesInGlass.C (impl_TimesInGlass.O N) N impl_TimesInGlass.c1 1 (st0 [.one (.int .i64 a0), .agg [.int .i64 a1_0, .int .i64 a1_1, .int .i64 a1_2, .int .i64 a1_3]] [] : St D0) impl_TimesInGlass.K0 = impl_TimesInGlass.g N a0 a1_0 a1_1 a1_2 a1_3 := by
  exact (impl_TimesInGlass.o0.run N a0 a1_0 a1_1 a1_2 a1_3).trans rfl
theorem impl_TimesInGlass.good (N : Nat) (a0 : Int) (a1_0 : Int) (a1_1 : Int) (a1_2 : Int) (a1_3 : Int) (r : impl_TimesInGlass.R) (h : impl_TimesInGlass.g N a0 a1_0 a1_1 a1_2 a1_3 = some r) : Go.PM.Good Go.Proofs.Tryz.prog T0 20 [.one (.int .i64 a0), .agg [.int .i64 a1_0, .int .i64 a1_1, .int .i64 a1_2, .int .i64 a1_3]] [] (impl_TimesInGlass.sig.ret r) (impl_TimesInGlass.sig.bs r) :=
  good_fn tabOk0 mixed0 impl_TimesInGlass.sig (impl_TimesInGlass.E N) Go.Proofs.Tryz.func20 (by kernel_rfl) (by kernel_rfl) 8763 0 0 [] 1088 false [] [(false, [.own 25]), (false, [.any])] (by kernel_rfl) rfl rfl ((impl_TimesInGlass.g.run N a0 a1_0 a1_1 a1_2 a1_3).trans h)
noncomputable def impl_TimesInGlass.ent (N : Nat) : Ent Go.Proofs.Tryz.prog T0 := mkEnt 20 [(false, [.any]), (true, [.any, .any, .any, .any])] impl_TimesInGlass.sig (fun t => impl_TimesInGlass.g N t.1 t.2.1 t.2.2.1 t.2.2.2.1 t.2.2.2.2) (fun t r h => impl_TimesInGlass.good N t.1 t.2.1 t.2.2.1 t.2.2.2.1 t.2.2.2.2 r h)
end Go.Proofs.YtehbhinaopdkeaaGreat.M

namespace Go.Proofs.YtehbhinaopdkeaaGreat.M
open Go Go.PM Go.Proofs.YtehbhinaopdkeaaGreat.P
set_option linter.unusedVariables false
set_option maxRecDepth 100000
/-! ### spec_TimesInGlass -/
abbrev spec_TimesInGlass.R : Type := List S25 × Bool
abbrev spec_TimesInGlass.sig : Sig := ⟨[(false, 1), (true, 4)], [], [.int .i64, .int .i64, .int .i64, .int .i64, .int .i64], [(false, 1), (false, 1)], [], [.sl false 25, .bool]⟩
noncomputable def spec_TimesInGlass.C : Cfg D0 := ⟨Go.Proofs.Tryz.prog, T0, 17764731, 0, 31, 0, [(122, [0, 6, 16, 17, 18], [])], 37749248, false, []⟩
noncomputable def spec_TimesInGlass.E (N : Nat) : List (Ent Go.Proofs.Tryz.prog T0) := [spec_seAsked.ent N, spec_seMirror.ent N, spec_seTrue.ent N, spec_sePut.ent N]
noncomputable def spec_TimesInGlass.O (N : Nat) : Orc D0 spec_TimesInGlass.R := orcOf (spec_TimesInGlass.E N)
noncomputable def spec_TimesInGlass.K0 : Ex → St D0 → Option spec_TimesInGlass.R := exitK spec_TimesInGlass.C Go.Proofs.Tryz.f21.results.toList [(false, [.ro 25]), (false, [.any])] (decOut spec_TimesInGlass.sig)
noncomputable def spec_TimesInGlass.c1 : Code := codeAt (Go.Proofs.Tryz.f21.body.getD .skip) []
noncomputable def spec_TimesInGlass.c2 : Code := codeAt (Go.Proofs.Tryz.f21.body.getD .skip) [false]
noncomputable def spec_TimesInGlass.c6 : Code := codeAt (Go.Proofs.Tryz.f21.body.getD .skip) [true, false]
noncomputable def spec_TimesInGlass.c14 : Code := codeAt (Go.Proofs.Tryz.f21.body.getD .skip) [true, true, false]
noncomputable def spec_TimesInGlass.c31 : Code := codeAt (Go.Proofs.Tryz.f21.body.getD .skip) [true, true, true, true]
noncomputable def spec_TimesInGlass.c60 : Code := codeAt (Go.Proofs.Tryz.f21.body.getD .skip) [true, true, true, false, false]
noncomputable def spec_TimesInGlass.c244 : Code := codeAt (Go.Proofs.Tryz.f21.body.getD .skip) [true, true, true, false, true, false, false]
noncomputable def spec_TimesInGlass.K244 (N : Nat) (Kn122 : St D0 → Option spec_TimesInGlass.R) : Ex → St D0 → Option spec_TimesInGlass.R := ((fun up => (onN (fun s => spec_TimesInGlass.C.tidy 122 s ((onN Kn122 up) .normal)) (onN Kn122 up))) (blockK 0 (onN (fun s => spec_TimesInGlass.C.tidy 30 s (fun s' => runC spec_TimesInGlass.C (spec_TimesInGlass.O N) N spec_TimesInGlass.c31 31 s' spec_TimesInGlass.K0)) spec_TimesInGlass.K0)))
noncomputable def spec_TimesInGlass.o1 (N : Nat) (v0 : Int) (v1 : List S27) (v2 : Int) (v3 : Int) (c2 : Int → (List S25) → (List S27) → Int → Int → Option spec_TimesInGlass.R) (c1 : Int → (List S27) → Int → Int → Option spec_TimesInGlass.R) : Option spec_TimesInGlass.R :=
 bif (decide (v3 < v2)) then
  bif (decide (0 ≤ v3)) then
   bif (decide (v3 < (v1.length : Int))) then
    (v1[(v3 : Int).toNat]?).bind fun x1 =>
    (spec_seTrue.g N v0 x1.f0 x1.f1 x1.f2 x1.f3).bind fun r2 =>
    bif r2 then
     (spec_sePut.g N ([] : List S25) x1.f0 x1.f1).bind fun r3 =>
     c2 v0 r3 v1 v2 (w64 (v3 + 1))
    else
    c1 v0 v1 v2 (w64 (v3 + 1))
   else
   none
  else
  none
 else
 some (([] : List S25), true)
theorem spec_TimesInGlass.o1.run (N : Nat) (Kn122 : St D0 → Option spec_TimesInGlass.R) (v0 : Int) (v1 : List S27) (v2 : Int) (v3 : Int) : runC spec_TimesInGlass.C (spec_TimesInGlass.O N) N spec_TimesInGlass.c244 244 (mkSt [(0, .one (.int .i64 v0)), (6, .one (.nl)), (16, .one (.sl true 27 v1)), (17, .one (.int .i64 v2)), (18, .one (.int .i64 v3))] [] : St D0) ((fun up => (onN (fun s => spec_TimesInGlass.C.tidy 122 s ((onN Kn122 up) .normal)) (onN Kn122 up))) (blockK 0 (onN (fun s => spec_TimesInGlass.C.tidy 30 s (fun s' => runC spec_TimesInGlass.C (spec_TimesInGlass.O N) N spec_TimesInGlass.c31 31 s' spec_TimesInGlass.K0)) spec_TimesInGlass.K0))) = spec_TimesInGlass.o1 N v0 v1 v2 v3 ((fun w0 w1 w2 w3 w4 => Kn122 (mkSt [(0, .one (.int .i64 w0)), (6, .one (.sl false 25 w1)), (16, .one (.sl true 27 w2)), (17, .one (.int .i64 w3)), (18, .one (.int .i64 w4))] [] : St D0))) ((fun w0 w1 w2 w3 => Kn122 (mkSt [(0, .one (.int .i64 w0)), (6, .one (.nl)), (16, .one (.sl true 27 w1)), (17, .one (.int .i64 w2)), (18, .one (.int .i64 w3))] [] : St D0))) := by kernel_rfl
noncomputable def spec_TimesInGlass.d1 (N : Nat) (v0 : Int) (v1 : List S27) (v2 : Int) (v3 : Int) (c1 : Int → (List S27) → Int → Int → Option spec_TimesInGlass.R) (c2 : Int → (List S25) → (List S27) → Int → Int → Option spec_TimesInGlass.R) : Option spec_TimesInGlass.R := spec_TimesInGlass.o1 N v0 v1 v2 v3 c2 c1
theorem spec_TimesInGlass.d1.run (N : Nat) (Kn122 : St D0 → Option spec_TimesInGlass.R) (v0 : Int) (v1 : List S27) (v2 : Int) (v3 : Int) : runC spec_TimesInGlass.C (spec_TimesInGlass.O N) N spec_TimesInGlass.c244 244 (mkSt [(0, .one (.int .i64 v0)), (6, .one (.nl)), (16, .one (.sl true 27 v1)), (17, .one (.int .i64 v2)), (18, .one (.int .i64 v3))] [] : St D0) (spec_TimesInGlass.K244 N Kn122) = spec_TimesInGlass.d1 N v0 v1 v2 v3 ((fun w0 w1 w2 w3 => Kn122 (mkSt [(0, .one (.int .i64 w0)), (6, .one (.nl)), (16, .one (.sl true 27 w1)), (17, .one (.int .i64 w2)), (18, .one (.int .i64 w3))] [] : St D0))) ((fun w0 w1 w2 w3 w4 => Kn122 (mkSt [(0, .one (.int .i64 w0)), (6, .one (.sl false 25 w1)), (16, .one (.sl true 27 w2)), (17, .one (.int .i64 w3)), (18, .one (.int .i64 w4))] [] : St D0))) := by
  exact (spec_TimesInGlass.o1.run N Kn122 v0 v1 v2 v3).trans rfl
noncomputable def spec_TimesInGlass.o2 (N : Nat) (v0 : Int) (v1 : List S25) (v2 : List S27) (v3 : Int) (v4 : Int) (c2 : Int → (List S25) → (List S27) → Int → Int → Option spec_TimesInGlass.R) : Option spec_TimesInGlass.R :=
 bif (decide (v4 < v3)) then
  bif (decide (0 ≤ v4)) then
   bif (decide (v4 < (v2.length : Int))) then
    (v2[(v4 : Int).toNat]?).bind fun x1 =>
    (spec_seTrue.g N v0 x1.f0 x1.f1 x1.f2 x1.f3).bind fun r2 =>
    bif r2 then
     (spec_sePut.g N v1 x1.f0 x1.f1).bind fun r3 =>
     c2 v0 r3 v2 v3 (w64 (v4 + 1))
    else
    c2 v0 v1 v2 v3 (w64 (v4 + 1))
   else
   none
  else
  none
 else
 some (v1, true)
theorem spec_TimesInGlass.o2.run (N : Nat) (Kn122 : St D0 → Option spec_TimesInGlass.R) (v0 : Int) (v1 : List S25) (v2 : List S27) (v3 : Int) (v4 : Int) : runC spec_TimesInGlass.C (spec_TimesInGlass.O N) N spec_TimesInGlass.c244 244 (mkSt [(0, .one (.int .i64 v0)), (6, .one (.sl false 25 v1)), (16, .one (.sl true 27 v2)), (17, .one (.int .i64 v3)), (18, .one (.int .i64 v4))] [] : St D0) ((fun up => (onN (fun s => spec_TimesInGlass.C.tidy 122 s ((onN Kn122 up) .normal)) (onN Kn122 up))) (blockK 0 (onN (fun s => spec_TimesInGlass.C.tidy 30 s (fun s' => runC spec_TimesInGlass.C (spec_TimesInGlass.O N) N spec_TimesInGlass.c31 31 s' spec_TimesInGlass.K0)) spec_TimesInGlass.K0))) = spec_TimesInGlass.o2 N v0 v1 v2 v3 v4 ((fun w0 w1 w2 w3 w4 => Kn122 (mkSt [(0, .one (.int .i64 w0)), (6, .one (.sl false 25 w1)), (16, .one (.sl true 27 w2)), (17, .one (.int .i64 w3)), (18, .one (.int .i64 w4))] [] : St D0))) := by kernel_rfl
noncomputable def spec_TimesInGlass.d2 (N : Nat) (v0 : Int) (v1 : List S25) (v2 : List S27) (v3 : Int) (v4 : Int) (c2 : Int → (List S25) → (List S27) → Int → Int → Option spec_TimesInGlass.R) : Option spec_TimesInGlass.R := spec_TimesInGlass.o2 N v0 v1 v2 v3 v4 c2
theorem spec_TimesInGlass.d2.run (N : Nat) (Kn122 : St D0 → Option spec_TimesInGlass.R) (v0 : Int) (v1 : List S25) (v2 : List S27) (v3 : Int) (v4 : Int) : runC spec_TimesInGlass.C (spec_TimesInGlass.O N) N spec_TimesInGlass.c244 244 (mkSt [(0, .one (.int .i64 v0)), (6, .one (.sl false 25 v1)), (16, .one (.sl true 27 v2)), (17, .one (.int .i64 v3)), (18, .one (.int .i64 v4))] [] : St D0) (spec_TimesInGlass.K244 N Kn122) = spec_TimesInGlass.d2 N v0 v1 v2 v3 v4 ((fun w0 w1 w2 w3 w4 => Kn122 (mkSt [(0, .one (.int .i64 w0)), (6, .one (.sl false 25 w1)), (16, .one (.sl true 27 w2)), (17, .one (.int .i64 w3)), (18, .one (.int .i64 w4))] [] : St D0))) := by
  exact (spec_TimesInGlass.o2.run N Kn122 v0 v1 v2 v3 v4).trans rfl
noncomputable def spec_TimesInGlass.K122 (N : Nat) : Ex → St D0 → Option spec_TimesInGlass.R := (blockK 0 (onN (fun s => spec_TimesInGlass.C.tidy 30 s (fun s' => runC spec_TimesInGlass.C (spec_TimesInGlass.O N) N spec_TimesInGlass.c31 31 s' spec_TimesInGlass.K0)) spec_TimesInGlass.K0))
mutual
noncomputable def spec_TimesInGlass.l1 (N : Nat) : Nat → Int → (List S27) → Int → Int → Option spec_TimesInGlass.R
  | 0, _, _, _, _ => none
  | n + 1, v0, v1, v2, v3 => spec_TimesInGlass.d1 N v0 v1 v2 v3 ((fun w0 w1 w2 w3 => spec_TimesInGlass.l1 N n w0 w1 w2 w3)) ((fun w0 w1 w2 w3 w4 => spec_TimesInGlass.l2 N n w0 w1 w2 w3 w4))
noncomputable def spec_TimesInGlass.l2 (N : Nat) : Nat → Int → (List S25) → (List S27) → Int → Int → Option spec_TimesInGlass.R
  | 0, _, _, _, _, _ => none
  | n + 1, v0, v1, v2, v3, v4 => spec_TimesInGlass.d2 N v0 v1 v2 v3 v4 ((fun w0 w1 w2 w3 w4 => spec_TimesInGlass.l2 N n w0 w1 w2 w3 w4))
end
theorem spec_TimesInGlass.loop122 (N : Nat) : ∀ n, (∀ (v0 : Int) (v1 : List S27) (v2 : Int) (v3 : Int), iter (loopF spec_TimesInGlass.C (spec_TimesInGlass.O N) N spec_TimesInGlass.c244 122) n (mkSt [(0, .one (.int .i64 v0)), (6, .one (.nl)), (16, .one (.sl true 27 v1)), (17, .one (.int .i64 v2)), (18, .one (.int .i64 v3))] [] : St D0) (spec_TimesInGlass.K122 N) = spec_TimesInGlass.l1 N n v0 v1 v2 v3) ∧ (∀ (v0 : Int) (v1 : List S25) (v2 : List S27) (v3 : Int) (v4 : Int), iter (loopF spec_TimesInGlass.C (spec_TimesInGlass.O N) N spec_TimesInGlass.c244 122) n (mkSt [(0, .one (.int .i64 v0)), (6, .one (.sl false 25 v1)), (16, .one (.sl true 27 v2)), (17, .one (.int .i64 v3)), (18, .one (.int .i64 v4))] [] : St D0) (spec_TimesInGlass.K122 N) = spec_TimesInGlass.l2 N n v0 v1 v2 v3 v4)
  | 0 => ⟨(fun v0 v1 v2 v3 => rfl), (fun v0 v1 v2 v3 v4 => rfl)⟩
  | n + 1 => ⟨(fun v0 v1 v2 v3 => (spec_TimesInGlass.d1.run N (fun s => iter (loopF spec_TimesInGlass.C (spec_TimesInGlass.O N) N spec_TimesInGlass.c244 122) n s (spec_TimesInGlass.K122 N)) v0 v1 v2 v3).trans (show _ = spec_TimesInGlass.d1 N v0 v1 v2 v3 ((fun w0 w1 w2 w3 => spec_TimesInGlass.l1 N n w0 w1 w2 w3)) ((fun w0 w1 w2 w3 w4 => spec_TimesInGlass.l2 N n w0 w1 w2 w3 w4)) from (congr (congr rfl (funext fun w0 => funext fun w1 => funext fun w2 => funext fun w3 => (spec_TimesInGlass.loop122 N n).1 w0 w1 w2 w3)) (funext fun w0 => funext fun w1 => funext fun w2 => funext fun w3 => funext fun w4 => (spec_TimesInGlass.loop122 N n).2 w0 w1 w2 w3 w4)))), (fun v0 v1 v2 v3 v4 => (spec_TimesInGlass.d2.run N (fun s => iter (loopF spec_TimesInGlass.C (spec_TimesInGlass.O N) N spec_TimesInGlass.c244 122) n s (spec_TimesInGlass.K122 N)) v0 v1 v2 v3 v4).trans (show _ = spec_TimesInGlass.d2 N v0 v1 v2 v3 v4 ((fun w0 w1 w2 w3 w4 => spec_TimesInGlass.l2 N n w0 w1 w2 w3 w4)) from (congr rfl (funext fun w0 => funext fun w1 => funext fun w2 => funext fun w3 => funext fun w4 => (spec_TimesInGlass.loop122 N n).2 w0 w1 w2 w3 w4))))⟩
noncomputable def spec_TimesInGlass.o0 (N : Nat) (a0 : Int) (a1_0 : Int) (a1_1 : Int) (a1_2 : Int) (a1_3 : Int) (c1 : Int → (List S27) → Int → Int → Option spec_TimesInGlass.R) : Option spec_TimesInGlass.R :=
 (spec_seAsked.g N a0 a1_0 a1_1 a1_2 a1_3).bind fun r1 =>
 bif (!r1) then
  some (([] : List S25), false)
 else
 (spec_seMirror.g N a1_0 a1_1 a1_2 a1_3).bind fun r2 =>
 c1 a0 ([(⟨a1_0, a1_1, a1_2, a1_3⟩ : S27), (⟨r2.1, r2.2.1, r2.2.2.1, r2.2.2.2⟩ : S27)] : List S27) (([(⟨a1_0, a1_1, a1_2, a1_3⟩ : S27), (⟨r2.1, r2.2.1, r2.2.2.1, r2.2.2.2⟩ : S27)] : List S27).length : Int) 0
theorem spec_TimesInGlass.o0.run (N : Nat) (H244 : Code) (a0 : Int) (a1_0 : Int) (a1_1 : Int) (a1_2 : Int) (a1_3 : Int) : runC spec_TimesInGlass.C (spec_TimesInGlass.O N) N (.seq spec_TimesInGlass.c2 (.seq spec_TimesInGlass.c6 (.seq spec_TimesInGlass.c14 (.seq (.seq spec_TimesInGlass.c60 (.block 0 (.loop H244))) spec_TimesInGlass.c31)))) 1 (st0 [.one (.int .i64 a0), .agg [.int .i64 a1_0, .int .i64 a1_1, .int .i64 a1_2, .int .i64 a1_3]] [] : St D0) spec_TimesInGlass.K0 = spec_TimesInGlass.o0 N a0 a1_0 a1_1 a1_2 a1_3 ((fun w0 w1 w2 w3 => iter (loopF spec_TimesInGlass.C (spec_TimesInGlass.O N) N H244 122) N (mkSt [(0, .one (.int .i64 w0)), (6, .one (.nl)), (16, .one (.sl true 27 w1)), (17, .one (.int .i64 w2)), (18, .one (.int .i64 w3))] [] : St D0) (blockK 0 (onN (fun s => spec_TimesInGlass.C.tidy 30 s (fun s' => runC spec_TimesInGlass.C (spec_TimesInGlass.O N) N spec_TimesInGlass.c31 31 s' spec_TimesInGlass.K0)) spec_TimesInGlass.K0)))) := by kernel_rfl
noncomputable def spec_TimesInGlass.g (N : Nat) (a0 : Int) (a1_0 : Int) (a1_1 : Int) (a1_2 : Int) (a1_3 : Int) : Option spec_TimesInGlass.R := spec_TimesInGlass.o0 N a0 a1_0 a1_1 a1_2 a1_3 ((fun w0 w1 w2 w3 => spec_TimesInGlass.l1 N N w0 w1 w2 w3))
theorem spec_TimesInGlass.c1_0 : spec_TimesInGlass.c1 = (.seq spec_TimesInGlass.c2 (.seq spec_TimesInGlass.c6 (.seq spec_TimesInGlass.c14 (.seq (.seq spec_TimesInGlass.c60 (.block 0 (.loop spec_TimesInGlass.c244))) spec_TimesInGlass.c31)))) := by kernel_rfl
theorem spec_TimesInGlass.g.run (N : Nat) (a0 : Int) (a1_0 : Int) (a1_1 : Int) (a1_2 : Int) (a1_3 : Int) : runC spec_TimesInGlass.C (spec_TimesInGlass.O N) N spec_TimesInGlass.c1 1 (st0 [.one (.int .i64 a0), .agg [.int .i64 a1_0, .int .i64 a1_1, .int .i64 a1_2, .int .i64 a1_3]] [] : St D0) spec_TimesInGlass.K0 = spec_TimesInGlass.g N a0 a1_0 a1_1 a1_2 a1_3 := by
  rw [spec_TimesInGlass.c1_0]; unfold spec_TimesInGlass.g; exact (spec_TimesInGlass.o0.run N spec_TimesInGlass.c244 a0 a1_0 a1_1 a1_2 a1_3).trans (congr rfl (funext fun w0 => funext fun w1 => funext fun w2 => funext fun w3 => (spec_TimesInGlass.loop122 N N).1 w0 w1 w2 w3))
theorem spec_TimesInGlass.good (N : Nat) (a0 : Int) (a1_0 : Int) (a1_1 : Int) (a1_2 : Int) (a1_3 : Int) (r : spec_TimesInGlass.R) (h : spec_TimesInGlass.g N a0 a1_0 a1_1 a1_2 a1_3 = some r) : Go.PM.Good Go.Proofs.Tryz.prog T0 21 [.one (.int .i64 a0), .agg [.int .i64 a1_0, .int .i64 a1_1, .int .i64 a1_2, .int .i64 a1_3]] [] (spec_TimesInGlass.sig.ret r) (spec_TimesInGlass.sig.bs r) :=
  good_fn tabOk0 mixed0 spec_TimesInGlass.sig (spec_TimesInGlass.E N) Go.Proofs.Tryz.func21 (by kernel_rfl) (by kernel_rfl) 17764731 0 0 [(122, [0, 6, 16, 17, 18], [])] 37749248 false [] [(false, [.ro 25]), (false, [.any])] (by kernel_rfl) rfl rfl ((spec_TimesInGlass.g.run N a0 a1_0 a1_1 a1_2 a1_3).trans h)
noncomputable def spec_TimesInGlass.ent (N : Nat) : Ent Go.Proofs.Tryz.prog T0 := mkEnt 21 [(false, [.any]), (true, [.any, .any, .any, .any])] spec_TimesInGlass.sig (fun t => spec_TimesInGlass.g N t.1 t.2.1 t.2.2.1 t.2.2.2.1 t.2.2.2.2) (fun t r h => spec_TimesInGlass.good N t.1 t.2.1 t.2.2.1 t.2.2.2.1 t.2.2.2.2 r h)
end Go.Proofs.YtehbhinaopdkeaaGreat.M

namespace Go.Proofs.YtehbhinaopdkeaaGreat.M
open Go Go.PM Go.Proofs.YtehbhinaopdkeaaGreat.P
set_option linter.unusedVariables false
set_option maxRecDepth 100000
/-! ### impl_MirrorTurn -/
abbrev impl_MirrorTurn.R : Type := Int × Int × Bool
abbrev impl_MirrorTurn.sig : Sig := ⟨[(true, 2)], [], [.int .i64, .int .i64], [(true, 2), (false, 1)], [], [.int .i64, .int .i64, .bool]⟩
noncomputable def impl_MirrorTurn.C : Cfg D0 := ⟨Go.Proofs.Tryz.prog, T0, 79, 0, 10, 0, [], 0, false, []⟩
noncomputable def impl_MirrorTurn.E (N : Nat) : List (Ent Go.Proofs.Tryz.prog T0) := [impl_IsTurn.ent N, impl_Turn_mirror.ent N]
noncomputable def impl_MirrorTurn.O (N : Nat) : Orc D0 impl_MirrorTurn.R := orcOf (impl_MirrorTurn.E N)
noncomputable def impl_MirrorTurn.K0 : Ex → St D0 → Option impl_MirrorTurn.R := exitK impl_MirrorTurn.C Go.Proofs.Tryz.f29.results.toList [(true, [.any, .any]), (false, [.any])] (decOut impl_MirrorTurn.sig)
noncomputable def impl_MirrorTurn.c1 : Code := codeAt (Go.Proofs.Tryz.f29.body.getD .skip) []
noncomputable def impl_MirrorTurn.o0 (N : Nat) (a0_0 : Int) (a0_1 : Int) : Option impl_MirrorTurn.R :=
 (impl_IsTurn.g N a0_0 a0_1).bind fun r1 =>
 bif (!r1) then
  some (0, 0, false)
 else
 (impl_Turn_mirror.g N a0_0 a0_1).bind fun r2 =>
 some (r2.1, r2.2, true)
theorem impl_MirrorTurn.o0.run (N : Nat) (a0_0 : Int) (a0_1 : Int) : runC impl_MirrorTurn.C (impl_MirrorTurn.O N) N impl_MirrorTurn.c1 1 (st0 [.agg [.int .i64 a0_0, .int .i64 a0_1]] [] : St D0) impl_MirrorTurn.K0 = impl_MirrorTurn.o0 N a0_0 a0_1 := by kernel_rfl
noncomputable def impl_MirrorTurn.g (N : Nat) (a0_0 : Int) (a0_1 : Int) : Option impl_MirrorTurn.R := impl_MirrorTurn.o0 N a0_0 a0_1
theorem impl_MirrorTurn.g.run (N : Nat) (a0_0 : Int) (a0_1 : Int) : runC impl_MirrorTurn.C (impl_MirrorTurn.O N) N impl_MirrorTurn.c1 1 (st0 [.agg [.int .i64 a0_0, .int .i64 a0_1]] [] : St D0) impl_MirrorTurn.K0 = impl_MirrorTurn.g N a0_0 a0_1 := by
  exact (impl_MirrorTurn.o0.run N a0_0 a0_1).trans rfl
theorem impl_MirrorTurn.good (N : Nat) (a0_0 : Int) (a0_1 : Int) (r : impl_MirrorTurn.R) (h : impl_MirrorTurn.g N a0_0 a0_1 = some r) : Go.PM.Good Go.Proofs.Tryz.prog T0 29 [.agg [.int .i64 a0_0, .int .i64 a0_1]] [] (impl_MirrorTurn.sig.ret r) (impl_MirrorTurn.sig.bs r) :=
  good_fn tabOk0 mixed0 impl_MirrorTurn.sig (impl_MirrorTurn.E N) Go.Proofs.Tryz.func29 (by kernel_rfl) (by kernel_rfl) 79 0 0 [] 0 false [] [(true, [.any, .any]), (false, [.any])] (by kernel_rfl) rfl rfl ((impl_MirrorTurn.g.run N a0_0 a0_1).trans h)
noncomputable def impl_MirrorTurn.ent (N : Nat) : Ent Go.Proofs.Tryz.prog T0 := mkEnt 29 [(true, [.any, .any])] impl_MirrorTurn.sig (fun t => impl_MirrorTurn.g N t.1 t.2) (fun t r h => impl_MirrorTurn.good N t.1 t.2 r h)
end Go.Proofs.YtehbhinaopdkeaaGreat.M

namespace Go.Proofs.YtehbhinaopdkeaaGreat.M
open Go Go.PM Go.Proofs.YtehbhinaopdkeaaGreat.P
set_option linter.unusedVariables false
set_option maxRecDepth 100000
/-! ### spec_MirrorSeen -/
abbrev spec_MirrorSeen.R : Type := Int × Int × Int × Int × Bool
abbrev spec_MirrorSeen.sig : Sig := ⟨[(true, 4)], [], [.int .i64, .int .i64, .int .i64, .int .i64], [(true, 4), (false, 1)], [], [.int .i64, .int .i64, .int .i64, .int .i64, .bool]⟩
noncomputable def spec_MirrorSeen.C : Cfg D0 := ⟨Go.Proofs.Tryz.prog, T0, 79, 0, 10, 0, [], 0, false, []⟩
noncomputable def spec_MirrorSeen.E (N : Nat) : List (Ent Go.Proofs.Tryz.prog T0) := [spec_seGood.ent N, spec_seMirror.ent N]
noncomputable def spec_MirrorSeen.O (N : Nat) : Orc D0 spec_MirrorSeen.R := orcOf (spec_MirrorSeen.E N)
noncomputable def spec_MirrorSeen.K0 : Ex → St D0 → Option spec_MirrorSeen.R := exitK spec_MirrorSeen.C Go.Proofs.Tryz.f24.results.toList [(true, [.any, .any, .any, .any]), (false, [.any])] (decOut spec_MirrorSeen.sig)
noncomputable def spec_MirrorSeen.c1 : Code := codeAt (Go.Proofs.Tryz.f24.body.getD .skip) []
noncomputable def spec_MirrorSeen.o0 (N : Nat) (a0_0 : Int) (a0_1 : Int) (a0_2 : Int) (a0_3 : Int) : Option spec_MirrorSeen.R :=
 (spec_seGood.g N a0_0 a0_1 a0_2 a0_3).bind fun r1 =>
 bif (!r1) then
  some (0, 0, 0, 0, false)
 else
 (spec_seMirror.g N a0_0 a0_1 a0_2 a0_3).bind fun r2 =>
 some (r2.1, r2.2.1, r2.2.2.1, r2.2.2.2, true)
theorem spec_MirrorSeen.o0.run (N : Nat) (a0_0 : Int) (a0_1 : Int) (a0_2 : Int) (a0_3 : Int) : runC spec_MirrorSeen.C (spec_MirrorSeen.O N) N spec_MirrorSeen.c1 1 (st0 [.agg [.int .i64 a0_0, .int .i64 a0_1, .int .i64 a0_2, .int .i64 a0_3]] [] : St D0) spec_MirrorSeen.K0 = spec_MirrorSeen.o0 N a0_0 a0_1 a0_2 a0_3 := by kernel_rfl
noncomputable def spec_MirrorSeen.g (N : Nat) (a0_0 : Int) (a0_1 : Int) (a0_2 : Int) (a0_3 : Int) : Option spec_MirrorSeen.R := spec_MirrorSeen.o0 N a0_0 a0_1 a0_2 a0_3
theorem spec_MirrorSeen.g.run (N : Nat) (a0_0 : Int) (a0_1 : Int) (a0_2 : Int) (a0_3 : Int) : runC spec_MirrorSeen.C (spec_MirrorSeen.O N) N spec_MirrorSeen.c1 1 (st0 [.agg [.int .i64 a0_0, .int .i64 a0_1, .int .i64 a0_2, .int .i64 a0_3]] [] : St D0) spec_MirrorSeen.K0 = spec_MirrorSeen.g N a0_0 a0_1 a0_2 a0_3 := by
  exact (spec_MirrorSeen.o0.run N a0_0 a0_1 a0_2 a0_3).trans rfl
theorem spec_MirrorSeen.good (N : Nat) (a0_0 : Int) (a0_1 : Int) (a0_2 : Int) (a0_3 : Int) (r : spec_MirrorSeen.R) (h : spec_MirrorSeen.g N a0_0 a0_1 a0_2 a0_3 = some r) : Go.PM.Good Go.Proofs.Tryz.prog T0 24 [.agg [.int .i64 a0_0, .int .i64 a0_1, .int .i64 a0_2, .int .i64 a0_3]] [] (spec_MirrorSeen.sig.ret r) (spec_MirrorSeen.sig.bs r) :=
  good_fn tabOk0 mixed0 spec_MirrorSeen.sig (spec_MirrorSeen.E N) Go.Proofs.Tryz.func24 (by kernel_rfl) (by kernel_rfl) 79 0 0 [] 0 false [] [(true, [.any, .any, .any, .any]), (false, [.any])] (by kernel_rfl) rfl rfl ((spec_MirrorSeen.g.run N a0_0 a0_1 a0_2 a0_3).trans h)
noncomputable def spec_MirrorSeen.ent (N : Nat) : Ent Go.Proofs.Tryz.prog T0 := mkEnt 24 [(true, [.any, .any, .any, .any])] spec_MirrorSeen.sig (fun t => spec_MirrorSeen.g N t.1 t.2.1 t.2.2.1 t.2.2.2) (fun t r h => spec_MirrorSeen.good N t.1 t.2.1 t.2.2.1 t.2.2.2 r h)
end Go.Proofs.YtehbhinaopdkeaaGreat.M

namespace Go.Proofs.YtehbhinaopdkeaaGreat.M
open Go Go.PM Go.Proofs.YtehbhinaopdkeaaGreat.P
set_option linter.unusedVariables false
set_option maxRecDepth 100000
/-! ### impl_AngleOf -/
abbrev impl_AngleOf.R : Type := Int × Int × Bool
abbrev impl_AngleOf.sig : Sig := ⟨[(false, 1), (true, 2)], [], [.int .i64, .int .i64, .int .i64], [(true, 2), (false, 1)], [], [.int .i64, .int .i64, .bool]⟩
noncomputable def impl_AngleOf.C : Cfg D0 := ⟨Go.Proofs.Tryz.prog, T0, 571, 0, 15, 0, [], 4160, false, []⟩
noncomputable def impl_AngleOf.E (N : Nat) : List (Ent Go.Proofs.Tryz.prog T0) := [impl_isTime.ent N, impl_Turn_times.ent N]
noncomputable def impl_AngleOf.O (N : Nat) : Orc D0 impl_AngleOf.R := orcOf (impl_AngleOf.E N)
noncomputable def impl_AngleOf.K0 : Ex → St D0 → Option impl_AngleOf.R := exitK impl_AngleOf.C Go.Proofs.Tryz.f28.results.toList [(true, [.any, .any]), (false, [.any])] (decOut impl_AngleOf.sig)
noncomputable def impl_AngleOf.c1 : Code := codeAt (Go.Proofs.Tryz.f28.body.getD .skip) []
noncomputable def impl_AngleOf.o0 (N : Nat) (a0 : Int) (a1_0 : Int) (a1_1 : Int) : Option impl_AngleOf.R :=
 (impl_isTime.g N a0 a1_0 a1_1).bind fun r1 =>
 bif (!r1) then
  some (0, 0, false)
 else
 (impl_Turn_times.g N a1_0 a1_1 (w64 (a0 - 1))).bind fun r2 =>
 some (r2.1, r2.2, true)
theorem impl_AngleOf.o0.run (N : Nat) (a0 : Int) (a1_0 : Int) (a1_1 : Int) : runC impl_AngleOf.C (impl_AngleOf.O N) N impl_AngleOf.c1 1 (st0 [.one (.int .i64 a0), .agg [.int .i64 a1_0, .int .i64 a1_1]] [] : St D0) impl_AngleOf.K0 = impl_AngleOf.o0 N a0 a1_0 a1_1 := by kernel_rfl
noncomputable def impl_AngleOf.g (N : Nat) (a0 : Int) (a1_0 : Int) (a1_1 : Int) : Option impl_AngleOf.R := impl_AngleOf.o0 N a0 a1_0 a1_1
theorem impl_AngleOf.g.run (N : Nat) (a0 : Int) (a1_0 : Int) (a1_1 : Int) : runC impl_AngleOf.C (impl_AngleOf.O N) N impl_AngleOf.c1 1 (st0 [.one (.int .i64 a0), .agg [.int .i64 a1_0, .int .i64 a1_1]] [] : St D0) impl_AngleOf.K0 = impl_AngleOf.g N a0 a1_0 a1_1 := by
  exact (impl_AngleOf.o0.run N a0 a1_0 a1_1).trans rfl
theorem impl_AngleOf.good (N : Nat) (a0 : Int) (a1_0 : Int) (a1_1 : Int) (r : impl_AngleOf.R) (h : impl_AngleOf.g N a0 a1_0 a1_1 = some r) : Go.PM.Good Go.Proofs.Tryz.prog T0 28 [.one (.int .i64 a0), .agg [.int .i64 a1_0, .int .i64 a1_1]] [] (impl_AngleOf.sig.ret r) (impl_AngleOf.sig.bs r) :=
  good_fn tabOk0 mixed0 impl_AngleOf.sig (impl_AngleOf.E N) Go.Proofs.Tryz.func28 (by kernel_rfl) (by kernel_rfl) 571 0 0 [] 4160 false [] [(true, [.any, .any]), (false, [.any])] (by kernel_rfl) rfl rfl ((impl_AngleOf.g.run N a0 a1_0 a1_1).trans h)
noncomputable def impl_AngleOf.ent (N : Nat) : Ent Go.Proofs.Tryz.prog T0 := mkEnt 28 [(false, [.any]), (true, [.any, .any])] impl_AngleOf.sig (fun t => impl_AngleOf.g N t.1 t.2.1 t.2.2) (fun t r h => impl_AngleOf.good N t.1 t.2.1 t.2.2 r h)
end Go.Proofs.YtehbhinaopdkeaaGreat.M

namespace Go.Proofs.YtehbhinaopdkeaaGreat.M
open Go Go.PM Go.Proofs.YtehbhinaopdkeaaGreat.P
set_option linter.unusedVariables false
set_option maxRecDepth 100000
/-! ### spec_seExchange -/
abbrev spec_seExchange.R : Type := Int × Int × Int × Int
abbrev spec_seExchange.sig : Sig := ⟨[(true, 4)], [], [.int .i64, .int .i64, .int .i64, .int .i64], [(true, 4)], [], [.int .i64, .int .i64, .int .i64, .int .i64]⟩
noncomputable def spec_seExchange.C : Cfg D0 := ⟨Go.Proofs.Tryz.prog, T0, 7, 0, 8, 0, [], 0, false, []⟩
noncomputable def spec_seExchange.E (N : Nat) : List (Ent Go.Proofs.Tryz.prog T0) := []
noncomputable def spec_seExchange.O (N : Nat) : Orc D0 spec_seExchange.R := orcOf (spec_seExchange.E N)
noncomputable def spec_seExchange.K0 : Ex → St D0 → Option spec_seExchange.R := exitK spec_seExchange.C Go.Proofs.Tryz.f75.results.toList [(true, [.any, .any, .any, .any])] (decOut spec_seExchange.sig)
noncomputable def spec_seExchange.c1 : Code := codeAt (Go.Proofs.Tryz.f75.body.getD .skip) []
noncomputable def spec_seExchange.o0 (N : Nat) (a0_0 : Int) (a0_1 : Int) (a0_2 : Int) (a0_3 : Int) : Option spec_seExchange.R :=
 some (a0_2, a0_3, a0_0, a0_1)
theorem spec_seExchange.o0.run (N : Nat) (a0_0 : Int) (a0_1 : Int) (a0_2 : Int) (a0_3 : Int) : runC spec_seExchange.C (spec_seExchange.O N) N spec_seExchange.c1 1 (st0 [.agg [.int .i64 a0_0, .int .i64 a0_1, .int .i64 a0_2, .int .i64 a0_3]] [] : St D0) spec_seExchange.K0 = spec_seExchange.o0 N a0_0 a0_1 a0_2 a0_3 := by kernel_rfl
noncomputable def spec_seExchange.g (N : Nat) (a0_0 : Int) (a0_1 : Int) (a0_2 : Int) (a0_3 : Int) : Option spec_seExchange.R := spec_seExchange.o0 N a0_0 a0_1 a0_2 a0_3
theorem spec_seExchange.g.run (N : Nat) (a0_0 : Int) (a0_1 : Int) (a0_2 : Int) (a0_3 : Int) : runC spec_seExchange.C (spec_seExchange.O N) N spec_seExchange.c1 1 (st0 [.agg [.int .i64 a0_0, .int .i64 a0_1, .int .i64 a0_2, .int .i64 a0_3]] [] : St D0) spec_seExchange.K0 = spec_seExchange.g N a0_0 a0_1 a0_2 a0_3 := by
  exact (spec_seExchange.o0.run N a0_0 a0_1 a0_2 a0_3).trans rfl
theorem spec_seExchange.good (N : Nat) (a0_0 : Int) (a0_1 : Int) (a0_2 : Int) (a0_3 : Int) (r : spec_seExchange.R) (h : spec_seExchange.g N a0_0 a0_1 a0_2 a0_3 = some r) : Go.PM.Good Go.Proofs.Tryz.prog T0 75 [.agg [.int .i64 a0_0, .int .i64 a0_1, .int .i64 a0_2, .int .i64 a0_3]] [] (spec_seExchange.sig.ret r) (spec_seExchange.sig.bs r) :=
  good_fn tabOk0 mixed0 spec_seExchange.sig (spec_seExchange.E N) Go.Proofs.Tryz.func75 (by kernel_rfl) (by kernel_rfl) 7 0 0 [] 0 false [] [(true, [.any, .any, .any, .any])] (by kernel_rfl) rfl rfl ((spec_seExchange.g.run N a0_0 a0_1 a0_2 a0_3).trans h)
noncomputable def spec_seExchange.ent (N : Nat) : Ent Go.Proofs.Tryz.prog T0 := mkEnt 75 [(true, [.any, .any, .any, .any])] spec_seExchange.sig (fun t => spec_seExchange.g N t.1 t.2.1 t.2.2.1 t.2.2.2) (fun t r h => spec_seExchange.good N t.1 t.2.1 t.2.2.1 t.2.2.2 r h)
end Go.Proofs.YtehbhinaopdkeaaGreat.M

namespace Go.Proofs.YtehbhinaopdkeaaGreat.M
open Go Go.PM Go.Proofs.YtehbhinaopdkeaaGreat.P
set_option linter.unusedVariables false
set_option maxRecDepth 100000
/-! ### spec_l1Cur_seen -/
abbrev spec_l1Cur_seen.R : Type := Int × Int × Int × Int × List Int × Int × Int
abbrev spec_l1Cur_seen.sig : Sig := ⟨[(false, 1), (false, 1)], [(71, 3)], [.ptr 0 0, .int .i64, .sl false 5, .int .i64, .int .u64], [(true, 4)], [(71, 3)], [.int .i64, .int .i64, .int .i64, .int .i64, .sl false 5, .int .i64, .int .u64]⟩
noncomputable def spec_l1Cur_seen.C : Cfg D0 := ⟨Go.Proofs.Tryz.prog, T0, 38482911232115, 0, 50, 1, [(28, [0, 1, 4, 5, 16], [0, 4, 5]), (30, [0, 1, 4, 5], [0, 4, 5])], 620205720192, false, []⟩
noncomputable def spec_l1Cur_seen.E (N : Nat) : List (Ent Go.Proofs.Tryz.prog T0) := [spec_l1Cur_turn.ent N, spec_diAsked.ent N, spec_l1Cur_one.ent N, spec_l1Cur_pick.ent N, spec_diMake.ent N, spec_seOf.ent N, spec_seExchange.ent N, spec_seMirror.ent N]
noncomputable def spec_l1Cur_seen.O (N : Nat) : Orc D0 spec_l1Cur_seen.R := orcOf (spec_l1Cur_seen.E N)
noncomputable def spec_l1Cur_seen.K0 : Ex → St D0 → Option spec_l1Cur_seen.R := exitK spec_l1Cur_seen.C Go.Proofs.Tryz.f53.results.toList [(true, [.any, .any, .any, .any])] (decOut spec_l1Cur_seen.sig)
noncomputable def spec_l1Cur_seen.c1 : Code := codeAt (Go.Proofs.Tryz.f53.body.getD .skip) []
noncomputable def spec_l1Cur_seen.c2 : Code := codeAt (Go.Proofs.Tryz.f53.body.getD .skip) [false]
noncomputable def spec_l1Cur_seen.c6 : Code := codeAt (Go.Proofs.Tryz.f53.body.getD .skip) [true, false]
noncomputable def spec_l1Cur_seen.c15 : Code := codeAt (Go.Proofs.Tryz.f53.body.getD .skip) [true, true, true]
noncomputable def spec_l1Cur_seen.c28 : Code := codeAt (Go.Proofs.Tryz.f53.body.getD .skip) [true, true, false, false]
noncomputable def spec_l1Cur_seen.c29 : Code := codeAt (Go.Proofs.Tryz.f53.body.getD .skip) [true, true, false, true]
noncomputable def spec_l1Cur_seen.c30 : Code := codeAt (Go.Proofs.Tryz.f53.body.getD .skip) [true, true, true, false]
noncomputable def spec_l1Cur_seen.c31 : Code := codeAt (Go.Proofs.Tryz.f53.body.getD .skip) [true, true, true, true]
noncomputable def spec_l1Cur_seen.K31 (N : Nat) : Ex → St D0 → Option spec_l1Cur_seen.R := spec_l1Cur_seen.K0
noncomputable def spec_l1Cur_seen.o2 (N : Nat) (v0 : Int) (v1 : List Int) (v2 : Int) (v3 : Int) (v4 : Int) (v5 : Int) (v6 : Int) (v7 : Int) (v8 : Int) (v9 : Int) : Option spec_l1Cur_seen.R :=
 (spec_seOf.g N v0 v8 v9).bind fun r1 =>
 (spec_l1Cur_pick.g N 5 v1 v2 v3).bind fun r2 =>
 bif (r2.1 == 0) then
  (spec_seExchange.g N r1.1 r1.2.1 r1.2.2.1 r1.2.2.2).bind fun r3 =>
  some (r3.1, r3.2.1, r3.2.2.1, r3.2.2.2, r2.2.1, r2.2.2.1, r2.2.2.2)
 else
 bif (r2.1 == 1) then
  (spec_seMirror.g N r1.1 r1.2.1 r1.2.2.1 r1.2.2.2).bind fun r4 =>
  some (r4.1, r4.2.1, r4.2.2.1, r4.2.2.2, r2.2.1, r2.2.2.1, r2.2.2.2)
 else
 some (r1.1, r1.2.1, r1.2.2.1, r1.2.2.2, r2.2.1, r2.2.2.1, r2.2.2.2)
theorem spec_l1Cur_seen.o2.run (N : Nat) (v0 : Int) (v1 : List Int) (v2 : Int) (v3 : Int) (v4 : Int) (v5 : Int) (v6 : Int) (v7 : Int) (v8 : Int) (v9 : Int) : runC spec_l1Cur_seen.C (spec_l1Cur_seen.O N) N spec_l1Cur_seen.c31 31 (mkSt [(0, .one (.ptr 0 0)), (1, .one (.int .i64 v0)), (4, .one (.ptr 4 0)), (5, .one (.ptr 5 0))] [(0, some (71, [.sl false 5 v1, .int .i64 v2, .int .u64 v3])), (4, some (27, [.int .i64 v4, .int .i64 v5, .int .i64 v6, .int .i64 v7])), (5, some (25, [.int .i64 v8, .int .i64 v9]))] : St D0) spec_l1Cur_seen.K0 = spec_l1Cur_seen.o2 N v0 v1 v2 v3 v4 v5 v6 v7 v8 v9 := by kernel_rfl
noncomputable def spec_l1Cur_seen.d2 (N : Nat) (v0 : Int) (v1 : List Int) (v2 : Int) (v3 : Int) (v4 : Int) (v5 : Int) (v6 : Int) (v7 : Int) (v8 : Int) (v9 : Int) : Option spec_l1Cur_seen.R := spec_l1Cur_seen.o2 N v0 v1 v2 v3 v4 v5 v6 v7 v8 v9
theorem spec_l1Cur_seen.d2.run (N : Nat) (v0 : Int) (v1 : List Int) (v2 : Int) (v3 : Int) (v4 : Int) (v5 : Int) (v6 : Int) (v7 : Int) (v8 : Int) (v9 : Int) : runC spec_l1Cur_seen.C (spec_l1Cur_seen.O N) N spec_l1Cur_seen.c31 31 (mkSt [(0, .one (.ptr 0 0)), (1, .one (.int .i64 v0)), (4, .one (.ptr 4 0)), (5, .one (.ptr 5 0))] [(0, some (71, [.sl false 5 v1, .int .i64 v2, .int .u64 v3])), (4, some (27, [.int .i64 v4, .int .i64 v5, .int .i64 v6, .int .i64 v7])), (5, some (25, [.int .i64 v8, .int .i64 v9]))] : St D0) (spec_l1Cur_seen.K31 N) = spec_l1Cur_seen.d2 N v0 v1 v2 v3 v4 v5 v6 v7 v8 v9 := by
  exact (spec_l1Cur_seen.o2.run N v0 v1 v2 v3 v4 v5 v6 v7 v8 v9).trans rfl
noncomputable def spec_l1Cur_seen.K29 (N : Nat) : Ex → St D0 → Option spec_l1Cur_seen.R := (onN (fun s => spec_l1Cur_seen.C.tidy 14 s (fun s' => runC spec_l1Cur_seen.C (spec_l1Cur_seen.O N) N spec_l1Cur_seen.c15 15 s' spec_l1Cur_seen.K0)) spec_l1Cur_seen.K0)
noncomputable def spec_l1Cur_seen.o1 (N : Nat) (v0 : Int) (v1 : Bool) (v2 : List Int) (v3 : Int) (v4 : Int) (v5 : Int) (v6 : Int) (v7 : Int) (v8 : Int) (v9 : Int) (v10 : Int) (c2 : Int → (List Int) → Int → Int → Int → Int → Int → Int → Int → Int → Option spec_l1Cur_seen.R) : Option spec_l1Cur_seen.R :=
 bif v1 then
  (spec_l1Cur_turn.g N v2 v3 v4).bind fun r1 =>
  some (v9, v10, r1.1, r1.2.1, r1.2.2.1, r1.2.2.2.1, r1.2.2.2.2)
 else
 (spec_l1Cur_one.g N 3 v2 v3 v4).bind fun r2 =>
 bif r2.1 then
  (spec_l1Cur_pick.g N (w64 (v0 * v0)) r2.2.1 r2.2.2.1 r2.2.2.2).bind fun r3 =>
  (spec_diMake.g N r3.1 (w64 ((w64 (v0 * v0)) - 1))).bind fun r4 =>
  c2 v0 r3.2.1 r3.2.2.1 r3.2.2.2 v5 v6 v7 v8 r4.1 r4.2.1
 else
 c2 v0 r2.2.1 r2.2.2.1 r2.2.2.2 v5 v6 v7 v8 v9 v10
theorem spec_l1Cur_seen.o1.run (N : Nat) (H31 : Code) (v0 : Int) (v1 : Bool) (v2 : List Int) (v3 : Int) (v4 : Int) (v5 : Int) (v6 : Int) (v7 : Int) (v8 : Int) (v9 : Int) (v10 : Int) : runC spec_l1Cur_seen.C (spec_l1Cur_seen.O N) N spec_l1Cur_seen.c29 29 (mkSt [(0, .one (.ptr 0 0)), (1, .one (.int .i64 v0)), (4, .one (.ptr 4 0)), (5, .one (.ptr 5 0)), (16, .one (.bool v1))] [(0, some (71, [.sl false 5 v2, .int .i64 v3, .int .u64 v4])), (4, some (27, [.int .i64 v5, .int .i64 v6, .int .i64 v7, .int .i64 v8])), (5, some (25, [.int .i64 v9, .int .i64 v10]))] : St D0) (onN (fun s => spec_l1Cur_seen.C.tidy 14 s (fun s' => runC spec_l1Cur_seen.C (spec_l1Cur_seen.O N) N (.seq spec_l1Cur_seen.c30 H31) 15 s' spec_l1Cur_seen.K0)) spec_l1Cur_seen.K0) = spec_l1Cur_seen.o1 N v0 v1 v2 v3 v4 v5 v6 v7 v8 v9 v10 ((fun w0 w1 w2 w3 w4 w5 w6 w7 w8 w9 => runC spec_l1Cur_seen.C (spec_l1Cur_seen.O N) N H31 31 (mkSt [(0, .one (.ptr 0 0)), (1, .one (.int .i64 w0)), (4, .one (.ptr 4 0)), (5, .one (.ptr 5 0))] [(0, some (71, [.sl false 5 w1, .int .i64 w2, .int .u64 w3])), (4, some (27, [.int .i64 w4, .int .i64 w5, .int .i64 w6, .int .i64 w7])), (5, some (25, [.int .i64 w8, .int .i64 w9]))] : St D0) spec_l1Cur_seen.K0)) := by kernel_rfl
noncomputable def spec_l1Cur_seen.B15 (N : Nat) : St D0 → Option spec_l1Cur_seen.R := fun s' => runC spec_l1Cur_seen.C (spec_l1Cur_seen.O N) N spec_l1Cur_seen.c31 31 s' (spec_l1Cur_seen.K31 N)
noncomputable def spec_l1Cur_seen.d1 (N : Nat) (v0 : Int) (v1 : Bool) (v2 : List Int) (v3 : Int) (v4 : Int) (v5 : Int) (v6 : Int) (v7 : Int) (v8 : Int) (v9 : Int) (v10 : Int) : Option spec_l1Cur_seen.R := spec_l1Cur_seen.o1 N v0 v1 v2 v3 v4 v5 v6 v7 v8 v9 v10 ((fun w0 w1 w2 w3 w4 w5 w6 w7 w8 w9 => spec_l1Cur_seen.d2 N w0 w1 w2 w3 w4 w5 w6 w7 w8 w9))
theorem spec_l1Cur_seen.d1.run (N : Nat) (v0 : Int) (v1 : Bool) (v2 : List Int) (v3 : Int) (v4 : Int) (v5 : Int) (v6 : Int) (v7 : Int) (v8 : Int) (v9 : Int) (v10 : Int) : runC spec_l1Cur_seen.C (spec_l1Cur_seen.O N) N spec_l1Cur_seen.c29 29 (mkSt [(0, .one (.ptr 0 0)), (1, .one (.int .i64 v0)), (4, .one (.ptr 4 0)), (5, .one (.ptr 5 0)), (16, .one (.bool v1))] [(0, some (71, [.sl false 5 v2, .int .i64 v3, .int .u64 v4])), (4, some (27, [.int .i64 v5, .int .i64 v6, .int .i64 v7, .int .i64 v8])), (5, some (25, [.int .i64 v9, .int .i64 v10]))] : St D0) (spec_l1Cur_seen.K29 N) = spec_l1Cur_seen.d1 N v0 v1 v2 v3 v4 v5 v6 v7 v8 v9 v10 := by
  unfold spec_l1Cur_seen.d1; exact (spec_l1Cur_seen.o1.run N spec_l1Cur_seen.c31 v0 v1 v2 v3 v4 v5 v6 v7 v8 v9 v10).trans (congr rfl (funext fun w0 => funext fun w1 => funext fun w2 => funext fun w3 => funext fun w4 => funext fun w5 => funext fun w6 => funext fun w7 => funext fun w8 => funext fun w9 => spec_l1Cur_seen.d2.run N w0 w1 w2 w3 w4 w5 w6 w7 w8 w9))
noncomputable def spec_l1Cur_seen.o0 (N : Nat) (a1 : Int) (b0_0 : List Int) (b0_1 : Int) (b0_2 : Int) (c1 : Int → Bool → (List Int) → Int → Int → Int → Int → Int → Int → Int → Int → Option spec_l1Cur_seen.R) : Option spec_l1Cur_seen.R :=
 (spec_l1Cur_turn.g N b0_0 b0_1 b0_2).bind fun r1 =>
 (spec_diAsked.g N a1 r1.1 r1.2.1).bind fun r2 =>
 bif (!r2) then
  c1 a1 true r1.2.2.1 r1.2.2.2.1 r1.2.2.2.2 0 0 0 0 r1.1 r1.2.1
 else
 (spec_l1Cur_one.g N 5 r1.2.2.1 r1.2.2.2.1 r1.2.2.2.2).bind fun r3 =>
 c1 a1 r3.1 r3.2.1 r3.2.2.1 r3.2.2.2 0 0 0 0 r1.1 r1.2.1
theorem spec_l1Cur_seen.o0.run (N : Nat) (H29 : Code) (a1 : Int) (b0_0 : List Int) (b0_1 : Int) (b0_2 : Int) : runC spec_l1Cur_seen.C (spec_l1Cur_seen.O N) N (.seq spec_l1Cur_seen.c2 (.seq spec_l1Cur_seen.c6 (.seq (.seq spec_l1Cur_seen.c28 H29) spec_l1Cur_seen.c15))) 1 (st0 [.one (.ptr 0 0), .one (.int .i64 a1)] [(71, [.sl false 5 b0_0, .int .i64 b0_1, .int .u64 b0_2])] : St D0) spec_l1Cur_seen.K0 = spec_l1Cur_seen.o0 N a1 b0_0 b0_1 b0_2 ((fun w0 w1 w2 w3 w4 w5 w6 w7 w8 w9 w10 => runC spec_l1Cur_seen.C (spec_l1Cur_seen.O N) N H29 29 (mkSt [(0, .one (.ptr 0 0)), (1, .one (.int .i64 w0)), (4, .one (.ptr 4 0)), (5, .one (.ptr 5 0)), (16, .one (.bool w1))] [(0, some (71, [.sl false 5 w2, .int .i64 w3, .int .u64 w4])), (4, some (27, [.int .i64 w5, .int .i64 w6, .int .i64 w7, .int .i64 w8])), (5, some (25, [.int .i64 w9, .int .i64 w10]))] : St D0) (onN (fun s => spec_l1Cur_seen.C.tidy 14 s (fun s' => runC spec_l1Cur_seen.C (spec_l1Cur_seen.O N) N spec_l1Cur_seen.c15 15 s' spec_l1Cur_seen.K0)) spec_l1Cur_seen.K0))) := by kernel_rfl
noncomputable def spec_l1Cur_seen.B14 (N : Nat) : St D0 → Option spec_l1Cur_seen.R := fun s' => runC spec_l1Cur_seen.C (spec_l1Cur_seen.O N) N spec_l1Cur_seen.c29 29 s' (spec_l1Cur_seen.K29 N)
noncomputable def spec_l1Cur_seen.g (N : Nat) (a1 : Int) (b0_0 : List Int) (b0_1 : Int) (b0_2 : Int) : Option spec_l1Cur_seen.R := spec_l1Cur_seen.o0 N a1 b0_0 b0_1 b0_2 ((fun w0 w1 w2 w3 w4 w5 w6 w7 w8 w9 w10 => spec_l1Cur_seen.d1 N w0 w1 w2 w3 w4 w5 w6 w7 w8 w9 w10))
theorem spec_l1Cur_seen.c1_0 : spec_l1Cur_seen.c1 = (.seq spec_l1Cur_seen.c2 (.seq spec_l1Cur_seen.c6 (.seq (.seq spec_l1Cur_seen.c28 spec_l1Cur_seen.c29) spec_l1Cur_seen.c15))) := by kernel_rfl
theorem spec_l1Cur_seen.g.run (N : Nat) (a1 : Int) (b0_0 : List Int) (b0_1 : Int) (b0_2 : Int) : runC spec_l1Cur_seen.C (spec_l1Cur_seen.O N) N spec_l1Cur_seen.c1 1 (st0 [.one (.ptr 0 0), .one (.int .i64 a1)] [(71, [.sl false 5 b0_0, .int .i64 b0_1, .int .u64 b0_2])] : St D0) spec_l1Cur_seen.K0 = spec_l1Cur_seen.g N a1 b0_0 b0_1 b0_2 := by
  rw [spec_l1Cur_seen.c1_0]; unfold spec_l1Cur_seen.g; exact (spec_l1Cur_seen.o0.run N spec_l1Cur_seen.c29 a1 b0_0 b0_1 b0_2).trans (congr rfl (funext fun w0 => funext fun w1 => funext fun w2 => funext fun w3 => funext fun w4 => funext fun w5 => funext fun w6 => funext fun w7 => funext fun w8 => funext fun w9 => funext fun w10 => spec_l1Cur_seen.d1.run N w0 w1 w2 w3 w4 w5 w6 w7 w8 w9 w10))
theorem spec_l1Cur_seen.good (N : Nat) (a1 : Int) (b0_0 : List Int) (b0_1 : Int) (b0_2 : Int) (r : spec_l1Cur_seen.R) (h : spec_l1Cur_seen.g N a1 b0_0 b0_1 b0_2 = some r) : Go.PM.Good Go.Proofs.Tryz.prog T0 53 [.one (.ptr 0 0), .one (.int .i64 a1)] [(71, [.sl false 5 b0_0, .int .i64 b0_1, .int .u64 b0_2])] (spec_l1Cur_seen.sig.ret r) (spec_l1Cur_seen.sig.bs r) :=
  good_fn tabOk0 mixed0 spec_l1Cur_seen.sig (spec_l1Cur_seen.E N) Go.Proofs.Tryz.func53 (by kernel_rfl) (by kernel_rfl) 38482911232115 0 1 [(28, [0, 1, 4, 5, 16], [0, 4, 5]), (30, [0, 1, 4, 5], [0, 4, 5])] 620205720192 false [] [(true, [.any, .any, .any, .any])] (by kernel_rfl) rfl rfl ((spec_l1Cur_seen.g.run N a1 b0_0 b0_1 b0_2).trans h)
noncomputable def spec_l1Cur_seen.ent (N : Nat) : Ent Go.Proofs.Tryz.prog T0 := mkEnt 53 [(false, [.any]), (false, [.any])] spec_l1Cur_seen.sig (fun t => spec_l1Cur_seen.g N t.2.1 t.2.2.1 t.2.2.2.1 t.2.2.2.2) (fun t r h => spec_l1Cur_seen.good N t.2.1 t.2.2.1 t.2.2.2.1 t.2.2.2.2 r h)
end Go.Proofs.YtehbhinaopdkeaaGreat.M

namespace Go.Proofs.YtehbhinaopdkeaaGreat.M
open Go Go.PM Go.Proofs.YtehbhinaopdkeaaGreat.P
set_option linter.unusedVariables false
set_option maxRecDepth 100000
/-! ### spec_DrawTimeSeen -/
abbrev spec_DrawTimeSeen.R : Type := Int × Int × Int × Int × Int
abbrev spec_DrawTimeSeen.sig : Sig := ⟨[(false, 1)], [], [.sl false 5], [(false, 1), (true, 4)], [], [.int .i64, .int .i64, .int .i64, .int .i64, .int .i64]⟩
noncomputable def spec_DrawTimeSeen.C : Cfg D0 := ⟨Go.Proofs.Tryz.prog, T0, 61, 0, 15, 0, [], 12800, false, []⟩
noncomputable def spec_DrawTimeSeen.E (N : Nat) : List (Ent Go.Proofs.Tryz.prog T0) := [spec_l1Cur_hours.ent N, spec_l1Cur_seen.ent N]
noncomputable def spec_DrawTimeSeen.O (N : Nat) : Orc D0 spec_DrawTimeSeen.R := orcOf (spec_DrawTimeSeen.E N)
noncomputable def spec_DrawTimeSeen.K0 : Ex → St D0 → Option spec_DrawTimeSeen.R := exitK spec_DrawTimeSeen.C Go.Proofs.Tryz.f30.results.toList [(false, [.any]), (true, [.any, .any, .any, .any])] (decOut spec_DrawTimeSeen.sig)
noncomputable def spec_DrawTimeSeen.c1 : Code := codeAt (Go.Proofs.Tryz.f30.body.getD .skip) []
noncomputable def spec_DrawTimeSeen.o0 (N : Nat) (a0 : List Int) : Option spec_DrawTimeSeen.R :=
 (spec_l1Cur_hours.g N a0 0 0).bind fun r1 =>
 (spec_l1Cur_seen.g N r1.1 r1.2.1 r1.2.2.1 r1.2.2.2).bind fun r2 =>
 some (r1.1, r2.1, r2.2.1, r2.2.2.1, r2.2.2.2.1)
theorem spec_DrawTimeSeen.o0.run (N : Nat) (a0 : List Int) : runC spec_DrawTimeSeen.C (spec_DrawTimeSeen.O N) N spec_DrawTimeSeen.c1 1 (st0 [.one (.sl false 5 a0)] [] : St D0) spec_DrawTimeSeen.K0 = spec_DrawTimeSeen.o0 N a0 := by kernel_rfl
noncomputable def spec_DrawTimeSeen.g (N : Nat) (a0 : List Int) : Option spec_DrawTimeSeen.R := spec_DrawTimeSeen.o0 N a0
theorem spec_DrawTimeSeen.g.run (N : Nat) (a0 : List Int) : runC spec_DrawTimeSeen.C (spec_DrawTimeSeen.O N) N spec_DrawTimeSeen.c1 1 (st0 [.one (.sl false 5 a0)] [] : St D0) spec_DrawTimeSeen.K0 = spec_DrawTimeSeen.g N a0 := by
  exact (spec_DrawTimeSeen.o0.run N a0).trans rfl
theorem spec_DrawTimeSeen.good (N : Nat) (a0 : List Int) (r : spec_DrawTimeSeen.R) (h : spec_DrawTimeSeen.g N a0 = some r) : Go.PM.Good Go.Proofs.Tryz.prog T0 30 [.one (.sl false 5 a0)] [] (spec_DrawTimeSeen.sig.ret r) (spec_DrawTimeSeen.sig.bs r) :=
  good_fn tabOk0 mixed0 spec_DrawTimeSeen.sig (spec_DrawTimeSeen.E N) Go.Proofs.Tryz.func30 (by kernel_rfl) (by kernel_rfl) 61 0 0 [] 12800 false [] [(false, [.any]), (true, [.any, .any, .any, .any])] (by kernel_rfl) rfl rfl ((spec_DrawTimeSeen.g.run N a0).trans h)
noncomputable def spec_DrawTimeSeen.ent (N : Nat) : Ent Go.Proofs.Tryz.prog T0 := mkEnt 30 [(false, [.ro 5])] spec_DrawTimeSeen.sig (fun t => spec_DrawTimeSeen.g N t) (fun t r h => spec_DrawTimeSeen.good N t r h)
end Go.Proofs.YtehbhinaopdkeaaGreat.M

namespace Go.Proofs.YtehbhinaopdkeaaGreat.M
open Go Go.PM Go.Proofs.YtehbhinaopdkeaaGreat.P
set_option linter.unusedVariables false
set_option maxRecDepth 100000
/-! ### spec_DrawTimesTurned -/
abbrev spec_DrawTimesTurned.R : Type := Int × Int × Int × Int × Int
abbrev spec_DrawTimesTurned.sig : Sig := ⟨[(false, 1)], [], [.sl false 5], [(false, 1), (true, 4)], [], [.int .i64, .int .i64, .int .i64, .int .i64, .int .i64]⟩
noncomputable def spec_DrawTimesTurned.C : Cfg D0 := ⟨Go.Proofs.Tryz.prog, T0, 13, 0, 8, 0, [], 16, false, []⟩
noncomputable def spec_DrawTimesTurned.E (N : Nat) : List (Ent Go.Proofs.Tryz.prog T0) := [spec_DrawTimeSeen.ent N]
noncomputable def spec_DrawTimesTurned.O (N : Nat) : Orc D0 spec_DrawTimesTurned.R := orcOf (spec_DrawTimesTurned.E N)
noncomputable def spec_DrawTimesTurned.K0 : Ex → St D0 → Option spec_DrawTimesTurned.R := exitK spec_DrawTimesTurned.C Go.Proofs.Tryz.f5.results.toList [(false, [.any]), (true, [.any, .any, .any, .any])] (decOut spec_DrawTimesTurned.sig)
noncomputable def spec_DrawTimesTurned.c1 : Code := codeAt (Go.Proofs.Tryz.f5.body.getD .skip) []
noncomputable def spec_DrawTimesTurned.o0 (N : Nat) (a0 : List Int) : Option spec_DrawTimesTurned.R :=
 (spec_DrawTimeSeen.g N a0).bind fun r1 =>
 some (r1.1, r1.2.1, r1.2.2.1, r1.2.2.2.1, r1.2.2.2.2)
theorem spec_DrawTimesTurned.o0.run (N : Nat) (a0 : List Int) : runC spec_DrawTimesTurned.C (spec_DrawTimesTurned.O N) N spec_DrawTimesTurned.c1 1 (st0 [.one (.sl false 5 a0)] [] : St D0) spec_DrawTimesTurned.K0 = spec_DrawTimesTurned.o0 N a0 := by kernel_rfl
noncomputable def spec_DrawTimesTurned.g (N : Nat) (a0 : List Int) : Option spec_DrawTimesTurned.R := spec_DrawTimesTurned.o0 N a0
theorem spec_DrawTimesTurned.g.run (N : Nat) (a0 : List Int) : runC spec_DrawTimesTurned.C (spec_DrawTimesTurned.O N) N spec_DrawTimesTurned.c1 1 (st0 [.one (.sl false 5 a0)] [] : St D0) spec_DrawTimesTurned.K0 = spec_DrawTimesTurned.g N a0 := by
  exact (spec_DrawTimesTurned.o0.run N a0).trans rfl
theorem spec_DrawTimesTurned.good (N : Nat) (a0 : List Int) (r : spec_DrawTimesTurned.R) (h : spec_DrawTimesTurned.g N a0 = some r) : Go.PM.Good Go.Proofs.Tryz.prog T0 5 [.one (.sl false 5 a0)] [] (spec_DrawTimesTurned.sig.ret r) (spec_DrawTimesTurned.sig.bs r) :=
  good_fn tabOk0 mixed0 spec_DrawTimesTurned.sig (spec_DrawTimesTurned.E N) Go.Proofs.Tryz.func5 (by kernel_rfl) (by kernel_rfl) 13 0 0 [] 16 false [] [(false, [.any]), (true, [.any, .any, .any, .any])] (by kernel_rfl) rfl rfl ((spec_DrawTimesTurned.g.run N a0).trans h)
noncomputable def spec_DrawTimesTurned.ent (N : Nat) : Ent Go.Proofs.Tryz.prog T0 := mkEnt 5 [(false, [.ro 5])] spec_DrawTimesTurned.sig (fun t => spec_DrawTimesTurned.g N t) (fun t r h => spec_DrawTimesTurned.good N t r h)
end Go.Proofs.YtehbhinaopdkeaaGreat.M

namespace Go.Proofs.YtehbhinaopdkeaaGreat.M
open Go Go.PM Go.Proofs.YtehbhinaopdkeaaGreat.P
set_option linter.unusedVariables false
set_option maxRecDepth 100000
/-! ### spec_DrawLongHand -/
abbrev spec_DrawLongHand.R : Type := Int × Int × Int
abbrev spec_DrawLongHand.sig : Sig := ⟨[(false, 1)], [], [.sl false 5], [(false, 1), (true, 2)], [], [.int .i64, .int .i64, .int .i64]⟩
noncomputable def spec_DrawLongHand.C : Cfg D0 := ⟨Go.Proofs.Tryz.prog, T0, 29, 0, 12, 0, [], 1280, false, []⟩
noncomputable def spec_DrawLongHand.E (N : Nat) : List (Ent Go.Proofs.Tryz.prog T0) := [spec_l1Cur_hours.ent N, spec_l1Cur_turn.ent N]
noncomputable def spec_DrawLongHand.O (N : Nat) : Orc D0 spec_DrawLongHand.R := orcOf (spec_DrawLongHand.E N)
noncomputable def spec_DrawLongHand.K0 : Ex → St D0 → Option spec_DrawLongHand.R := exitK spec_DrawLongHand.C Go.Proofs.Tryz.f44.results.toList [(false, [.any]), (true, [.any, .any])] (decOut spec_DrawLongHand.sig)
noncomputable def spec_DrawLongHand.c1 : Code := codeAt (Go.Proofs.Tryz.f44.body.getD .skip) []
noncomputable def spec_DrawLongHand.o0 (N : Nat) (a0 : List Int) : Option spec_DrawLongHand.R :=
 (spec_l1Cur_hours.g N a0 0 0).bind fun r1 =>
 (spec_l1Cur_turn.g N r1.2.1 r1.2.2.1 r1.2.2.2).bind fun r2 =>
 some (r1.1, r2.1, r2.2.1)
theorem spec_DrawLongHand.o0.run (N : Nat) (a0 : List Int) : runC spec_DrawLongHand.C (spec_DrawLongHand.O N) N spec_DrawLongHand.c1 1 (st0 [.one (.sl false 5 a0)] [] : St D0) spec_DrawLongHand.K0 = spec_DrawLongHand.o0 N a0 := by kernel_rfl
noncomputable def spec_DrawLongHand.g (N : Nat) (a0 : List Int) : Option spec_DrawLongHand.R := spec_DrawLongHand.o0 N a0
theorem spec_DrawLongHand.g.run (N : Nat) (a0 : List Int) : runC spec_DrawLongHand.C (spec_DrawLongHand.O N) N spec_DrawLongHand.c1 1 (st0 [.one (.sl false 5 a0)] [] : St D0) spec_DrawLongHand.K0 = spec_DrawLongHand.g N a0 := by
  exact (spec_DrawLongHand.o0.run N a0).trans rfl
theorem spec_DrawLongHand.good (N : Nat) (a0 : List Int) (r : spec_DrawLongHand.R) (h : spec_DrawLongHand.g N a0 = some r) : Go.PM.Good Go.Proofs.Tryz.prog T0 44 [.one (.sl false 5 a0)] [] (spec_DrawLongHand.sig.ret r) (spec_DrawLongHand.sig.bs r) :=
  good_fn tabOk0 mixed0 spec_DrawLongHand.sig (spec_DrawLongHand.E N) Go.Proofs.Tryz.func44 (by kernel_rfl) (by kernel_rfl) 29 0 0 [] 1280 false [] [(false, [.any]), (true, [.any, .any])] (by kernel_rfl) rfl rfl ((spec_DrawLongHand.g.run N a0).trans h)
noncomputable def spec_DrawLongHand.ent (N : Nat) : Ent Go.Proofs.Tryz.prog T0 := mkEnt 44 [(false, [.ro 5])] spec_DrawLongHand.sig (fun t => spec_DrawLongHand.g N t) (fun t r h => spec_DrawLongHand.good N t r h)
end Go.Proofs.YtehbhinaopdkeaaGreat.M

namespace Go.Proofs.YtehbhinaopdkeaaGreat.M
open Go Go.PM Go.Proofs.YtehbhinaopdkeaaGreat.P
set_option linter.unusedVariables false
set_option maxRecDepth 100000
/-! ### spec_DrawTimesWithAngle -/
abbrev spec_DrawTimesWithAngle.R : Type := Int × Int × Int
abbrev spec_DrawTimesWithAngle.sig : Sig := ⟨[(false, 1)], [], [.sl false 5], [(false, 1), (true, 2)], [], [.int .i64, .int .i64, .int .i64]⟩
noncomputable def spec_DrawTimesWithAngle.C : Cfg D0 := ⟨Go.Proofs.Tryz.prog, T0, 13, 0, 8, 0, [], 16, false, []⟩
noncomputable def spec_DrawTimesWithAngle.E (N : Nat) : List (Ent Go.Proofs.Tryz.prog T0) := [spec_DrawLongHand.ent N]
noncomputable def spec_DrawTimesWithAngle.O (N : Nat) : Orc D0 spec_DrawTimesWithAngle.R := orcOf (spec_DrawTimesWithAngle.E N)
noncomputable def spec_DrawTimesWithAngle.K0 : Ex → St D0 → Option spec_DrawTimesWithAngle.R := exitK spec_DrawTimesWithAngle.C Go.Proofs.Tryz.f16.results.toList [(false, [.any]), (true, [.any, .any])] (decOut spec_DrawTimesWithAngle.sig)
noncomputable def spec_DrawTimesWithAngle.c1 : Code := codeAt (Go.Proofs.Tryz.f16.body.getD .skip) []
noncomputable def spec_DrawTimesWithAngle.o0 (N : Nat) (a0 : List Int) : Option spec_DrawTimesWithAngle.R :=
 (spec_DrawLongHand.g N a0).bind fun r1 =>
 some (r1.1, r1.2.1, r1.2.2)
theorem spec_DrawTimesWithAngle.o0.run (N : Nat) (a0 : List Int) : runC spec_DrawTimesWithAngle.C (spec_DrawTimesWithAngle.O N) N spec_DrawTimesWithAngle.c1 1 (st0 [.one (.sl false 5 a0)] [] : St D0) spec_DrawTimesWithAngle.K0 = spec_DrawTimesWithAngle.o0 N a0 := by kernel_rfl
noncomputable def spec_DrawTimesWithAngle.g (N : Nat) (a0 : List Int) : Option spec_DrawTimesWithAngle.R := spec_DrawTimesWithAngle.o0 N a0
theorem spec_DrawTimesWithAngle.g.run (N : Nat) (a0 : List Int) : runC spec_DrawTimesWithAngle.C (spec_DrawTimesWithAngle.O N) N spec_DrawTimesWithAngle.c1 1 (st0 [.one (.sl false 5 a0)] [] : St D0) spec_DrawTimesWithAngle.K0 = spec_DrawTimesWithAngle.g N a0 := by
  exact (spec_DrawTimesWithAngle.o0.run N a0).trans rfl
theorem spec_DrawTimesWithAngle.good (N : Nat) (a0 : List Int) (r : spec_DrawTimesWithAngle.R) (h : spec_DrawTimesWithAngle.g N a0 = some r) : Go.PM.Good Go.Proofs.Tryz.prog T0 16 [.one (.sl false 5 a0)] [] (spec_DrawTimesWithAngle.sig.ret r) (spec_DrawTimesWithAngle.sig.bs r) :=
  good_fn tabOk0 mixed0 spec_DrawTimesWithAngle.sig (spec_DrawTimesWithAngle.E N) Go.Proofs.Tryz.func16 (by kernel_rfl) (by kernel_rfl) 13 0 0 [] 16 false [] [(false, [.any]), (true, [.any, .any])] (by kernel_rfl) rfl rfl ((spec_DrawTimesWithAngle.g.run N a0).trans h)
noncomputable def spec_DrawTimesWithAngle.ent (N : Nat) : Ent Go.Proofs.Tryz.prog T0 := mkEnt 16 [(false, [.ro 5])] spec_DrawTimesWithAngle.sig (fun t => spec_DrawTimesWithAngle.g N t) (fun t r h => spec_DrawTimesWithAngle.good N t r h)
end Go.Proofs.YtehbhinaopdkeaaGreat.M

namespace Go.Proofs.YtehbhinaopdkeaaGreat.M
open Go Go.PM Go.Proofs.YtehbhinaopdkeaaGreat.P
set_option linter.unusedVariables false
set_option maxRecDepth 100000
/-! ### spec_DrawTimesInGlass -/
abbrev spec_DrawTimesInGlass.R : Type := Int × Int × Int × Int × Int
abbrev spec_DrawTimesInGlass.sig : Sig := ⟨[(false, 1)], [], [.sl false 5], [(false, 1), (true, 4)], [], [.int .i64, .int .i64, .int .i64, .int .i64, .int .i64]⟩
noncomputable def spec_DrawTimesInGlass.C : Cfg D0 := ⟨Go.Proofs.Tryz.prog, T0, 13, 0, 8, 0, [], 16, false, []⟩
noncomputable def spec_DrawTimesInGlass.E (N : Nat) : List (Ent Go.Proofs.Tryz.prog T0) := [spec_DrawTimeSeen.ent N]
noncomputable def spec_DrawTimesInGlass.O (N : Nat) : Orc D0 spec_DrawTimesInGlass.R := orcOf (spec_DrawTimesInGlass.E N)
noncomputable def spec_DrawTimesInGlass.K0 : Ex → St D0 → Option spec_DrawTimesInGlass.R := exitK spec_DrawTimesInGlass.C Go.Proofs.Tryz.f19.results.toList [(false, [.any]), (true, [.any, .any, .any, .any])] (decOut spec_DrawTimesInGlass.sig)
noncomputable def spec_DrawTimesInGlass.c1 : Code := codeAt (Go.Proofs.Tryz.f19.body.getD .skip) []
noncomputable def spec_DrawTimesInGlass.o0 (N : Nat) (a0 : List Int) : Option spec_DrawTimesInGlass.R :=
 (spec_DrawTimeSeen.g N a0).bind fun r1 =>
 some (r1.1, r1.2.1, r1.2.2.1, r1.2.2.2.1, r1.2.2.2.2)
theorem spec_DrawTimesInGlass.o0.run (N : Nat) (a0 : List Int) : runC spec_DrawTimesInGlass.C (spec_DrawTimesInGlass.O N) N spec_DrawTimesInGlass.c1 1 (st0 [.one (.sl false 5 a0)] [] : St D0) spec_DrawTimesInGlass.K0 = spec_DrawTimesInGlass.o0 N a0 := by kernel_rfl
noncomputable def spec_DrawTimesInGlass.g (N : Nat) (a0 : List Int) : Option spec_DrawTimesInGlass.R := spec_DrawTimesInGlass.o0 N a0
theorem spec_DrawTimesInGlass.g.run (N : Nat) (a0 : List Int) : runC spec_DrawTimesInGlass.C (spec_DrawTimesInGlass.O N) N spec_DrawTimesInGlass.c1 1 (st0 [.one (.sl false 5 a0)] [] : St D0) spec_DrawTimesInGlass.K0 = spec_DrawTimesInGlass.g N a0 := by
  exact (spec_DrawTimesInGlass.o0.run N a0).trans rfl
theorem spec_DrawTimesInGlass.good (N : Nat) (a0 : List Int) (r : spec_DrawTimesInGlass.R) (h : spec_DrawTimesInGlass.g N a0 = some r) : Go.PM.Good Go.Proofs.Tryz.prog T0 19 [.one (.sl false 5 a0)] [] (spec_DrawTimesInGlass.sig.ret r) (spec_DrawTimesInGlass.sig.bs r) :=
  good_fn tabOk0 mixed0 spec_DrawTimesInGlass.sig (spec_DrawTimesInGlass.E N) Go.Proofs.Tryz.func19 (by kernel_rfl) (by kernel_rfl) 13 0 0 [] 16 false [] [(false, [.any]), (true, [.any, .any, .any, .any])] (by kernel_rfl) rfl rfl ((spec_DrawTimesInGlass.g.run N a0).trans h)
noncomputable def spec_DrawTimesInGlass.ent (N : Nat) : Ent Go.Proofs.Tryz.prog T0 := mkEnt 19 [(false, [.ro 5])] spec_DrawTimesInGlass.sig (fun t => spec_DrawTimesInGlass.g N t) (fun t r h => spec_DrawTimesInGlass.good N t r h)
end Go.Proofs.YtehbhinaopdkeaaGreat.M

namespace Go.Proofs.YtehbhinaopdkeaaGreat.M
open Go Go.PM Go.Proofs.YtehbhinaopdkeaaGreat.P
set_option linter.unusedVariables false
set_option maxRecDepth 100000
/-! ### spec_DrawIsSeen -/
abbrev spec_DrawIsSeen.R : Type := Int × Int × Int × Int
abbrev spec_DrawIsSeen.sig : Sig := ⟨[(false, 1)], [], [.sl false 5], [(true, 4)], [], [.int .i64, .int .i64, .int .i64, .int .i64]⟩
noncomputable def spec_DrawIsSeen.C : Cfg D0 := ⟨Go.Proofs.Tryz.prog, T0, 13, 0, 9, 0, [], 128, false, []⟩
noncomputable def spec_DrawIsSeen.E (N : Nat) : List (Ent Go.Proofs.Tryz.prog T0) := [spec_l1Cur_seen.ent N]
noncomputable def spec_DrawIsSeen.O (N : Nat) : Orc D0 spec_DrawIsSeen.R := orcOf (spec_DrawIsSeen.E N)
noncomputable def spec_DrawIsSeen.K0 : Ex → St D0 → Option spec_DrawIsSeen.R := exitK spec_DrawIsSeen.C Go.Proofs.Tryz.f51.results.toList [(true, [.any, .any, .any, .any])] (decOut spec_DrawIsSeen.sig)
noncomputable def spec_DrawIsSeen.c1 : Code := codeAt (Go.Proofs.Tryz.f51.body.getD .skip) []
noncomputable def spec_DrawIsSeen.o0 (N : Nat) (a0 : List Int) : Option spec_DrawIsSeen.R :=
 (spec_l1Cur_seen.g N 12 a0 0 0).bind fun r1 =>
 some (r1.1, r1.2.1, r1.2.2.1, r1.2.2.2.1)
theorem spec_DrawIsSeen.o0.run (N : Nat) (a0 : List Int) : runC spec_DrawIsSeen.C (spec_DrawIsSeen.O N) N spec_DrawIsSeen.c1 1 (st0 [.one (.sl false 5 a0)] [] : St D0) spec_DrawIsSeen.K0 = spec_DrawIsSeen.o0 N a0 := by kernel_rfl
noncomputable def spec_DrawIsSeen.g (N : Nat) (a0 : List Int) : Option spec_DrawIsSeen.R := spec_DrawIsSeen.o0 N a0
theorem spec_DrawIsSeen.g.run (N : Nat) (a0 : List Int) : runC spec_DrawIsSeen.C (spec_DrawIsSeen.O N) N spec_DrawIsSeen.c1 1 (st0 [.one (.sl false 5 a0)] [] : St D0) spec_DrawIsSeen.K0 = spec_DrawIsSeen.g N a0 := by
  exact (spec_DrawIsSeen.o0.run N a0).trans rfl
theorem spec_DrawIsSeen.good (N : Nat) (a0 : List Int) (r : spec_DrawIsSeen.R) (h : spec_DrawIsSeen.g N a0 = some r) : Go.PM.Good Go.Proofs.Tryz.prog T0 51 [.one (.sl false 5 a0)] [] (spec_DrawIsSeen.sig.ret r) (spec_DrawIsSeen.sig.bs r) :=
  good_fn tabOk0 mixed0 spec_DrawIsSeen.sig (spec_DrawIsSeen.E N) Go.Proofs.Tryz.func51 (by kernel_rfl) (by kernel_rfl) 13 0 0 [] 128 false [] [(true, [.any, .any, .any, .any])] (by kernel_rfl) rfl rfl ((spec_DrawIsSeen.g.run N a0).trans h)
noncomputable def spec_DrawIsSeen.ent (N : Nat) : Ent Go.Proofs.Tryz.prog T0 := mkEnt 51 [(false, [.ro 5])] spec_DrawIsSeen.sig (fun t => spec_DrawIsSeen.g N t) (fun t r h => spec_DrawIsSeen.good N t r h)
end Go.Proofs.YtehbhinaopdkeaaGreat.M

namespace Go.Proofs.YtehbhinaopdkeaaGreat.M
open Go Go.PM Go.Proofs.YtehbhinaopdkeaaGreat.P
set_option linter.unusedVariables false
set_option maxRecDepth 100000
/-! ### spec_DrawMirrorSeen -/
abbrev spec_DrawMirrorSeen.R : Type := Int × Int × Int × Int
abbrev spec_DrawMirrorSeen.sig : Sig := ⟨[(false, 1)], [], [.sl false 5], [(true, 4)], [], [.int .i64, .int .i64, .int .i64, .int .i64]⟩
noncomputable def spec_DrawMirrorSeen.C : Cfg D0 := ⟨Go.Proofs.Tryz.prog, T0, 5, 0, 5, 0, [], 8, false, []⟩
noncomputable def spec_DrawMirrorSeen.E (N : Nat) : List (Ent Go.Proofs.Tryz.prog T0) := [spec_DrawIsSeen.ent N]
noncomputable def spec_DrawMirrorSeen.O (N : Nat) : Orc D0 spec_DrawMirrorSeen.R := orcOf (spec_DrawMirrorSeen.E N)
noncomputable def spec_DrawMirrorSeen.K0 : Ex → St D0 → Option spec_DrawMirrorSeen.R := exitK spec_DrawMirrorSeen.C Go.Proofs.Tryz.f22.results.toList [(true, [.any, .any, .any, .any])] (decOut spec_DrawMirrorSeen.sig)
noncomputable def spec_DrawMirrorSeen.c1 : Code := codeAt (Go.Proofs.Tryz.f22.body.getD .skip) []
noncomputable def spec_DrawMirrorSeen.o0 (N : Nat) (a0 : List Int) : Option spec_DrawMirrorSeen.R :=
 (spec_DrawIsSeen.g N a0).bind fun r1 =>
 some (r1.1, r1.2.1, r1.2.2.1, r1.2.2.2)
theorem spec_DrawMirrorSeen.o0.run (N : Nat) (a0 : List Int) : runC spec_DrawMirrorSeen.C (spec_DrawMirrorSeen.O N) N spec_DrawMirrorSeen.c1 1 (st0 [.one (.sl false 5 a0)] [] : St D0) spec_DrawMirrorSeen.K0 = spec_DrawMirrorSeen.o0 N a0 := by kernel_rfl
noncomputable def spec_DrawMirrorSeen.g (N : Nat) (a0 : List Int) : Option spec_DrawMirrorSeen.R := spec_DrawMirrorSeen.o0 N a0
theorem spec_DrawMirrorSeen.g.run (N : Nat) (a0 : List Int) : runC spec_DrawMirrorSeen.C (spec_DrawMirrorSeen.O N) N spec_DrawMirrorSeen.c1 1 (st0 [.one (.sl false 5 a0)] [] : St D0) spec_DrawMirrorSeen.K0 = spec_DrawMirrorSeen.g N a0 := by
  exact (spec_DrawMirrorSeen.o0.run N a0).trans rfl
theorem spec_DrawMirrorSeen.good (N : Nat) (a0 : List Int) (r : spec_DrawMirrorSeen.R) (h : spec_DrawMirrorSeen.g N a0 = some r) : Go.PM.Good Go.Proofs.Tryz.prog T0 22 [.one (.sl false 5 a0)] [] (spec_DrawMirrorSeen.sig.ret r) (spec_DrawMirrorSeen.sig.bs r) :=
  good_fn tabOk0 mixed0 spec_DrawMirrorSeen.sig (spec_DrawMirrorSeen.E N) Go.Proofs.Tryz.func22 (by kernel_rfl) (by kernel_rfl) 5 0 0 [] 8 false [] [(true, [.any, .any, .any, .any])] (by kernel_rfl) rfl rfl ((spec_DrawMirrorSeen.g.run N a0).trans h)
noncomputable def spec_DrawMirrorSeen.ent (N : Nat) : Ent Go.Proofs.Tryz.prog T0 := mkEnt 22 [(false, [.ro 5])] spec_DrawMirrorSeen.sig (fun t => spec_DrawMirrorSeen.g N t) (fun t r h => spec_DrawMirrorSeen.good N t r h)
end Go.Proofs.YtehbhinaopdkeaaGreat.M

namespace Go.Proofs.YtehbhinaopdkeaaGreat.M
open Go Go.PM Go.Proofs.YtehbhinaopdkeaaGreat.P
set_option linter.unusedVariables false
set_option maxRecDepth 100000
/-! ### spec_DrawTurnSeen -/
abbrev spec_DrawTurnSeen.R : Type := Int × Int × Int × Int × Int × Int
abbrev spec_DrawTurnSeen.sig : Sig := ⟨[(false, 1)], [], [.sl false 5], [(true, 4), (true, 2)], [], [.int .i64, .int .i64, .int .i64, .int .i64, .int .i64, .int .i64]⟩
noncomputable def spec_DrawTurnSeen.C : Cfg D0 := ⟨Go.Proofs.Tryz.prog, T0, 29, 0, 12, 0, [], 1280, false, []⟩
noncomputable def spec_DrawTurnSeen.E (N : Nat) : List (Ent Go.Proofs.Tryz.prog T0) := [spec_l1Cur_seen.ent N, spec_l1Cur_turn.ent N]
noncomputable def spec_DrawTurnSeen.O (N : Nat) : Orc D0 spec_DrawTurnSeen.R := orcOf (spec_DrawTurnSeen.E N)
noncomputable def spec_DrawTurnSeen.K0 : Ex → St D0 → Option spec_DrawTurnSeen.R := exitK spec_DrawTurnSeen.C Go.Proofs.Tryz.f25.results.toList [(true, [.any, .any, .any, .any]), (true, [.any, .any])] (decOut spec_DrawTurnSeen.sig)
noncomputable def spec_DrawTurnSeen.c1 : Code := codeAt (Go.Proofs.Tryz.f25.body.getD .skip) []
noncomputable def spec_DrawTurnSeen.o0 (N : Nat) (a0 : List Int) : Option spec_DrawTurnSeen.R :=
 (spec_l1Cur_seen.g N 12 a0 0 0).bind fun r1 =>
 (spec_l1Cur_turn.g N r1.2.2.2.2.1 r1.2.2.2.2.2.1 r1.2.2.2.2.2.2).bind fun r2 =>
 some (r1.1, r1.2.1, r1.2.2.1, r1.2.2.2.1, r2.1, r2.2.1)
theorem spec_DrawTurnSeen.o0.run (N : Nat) (a0 : List Int) : runC spec_DrawTurnSeen.C (spec_DrawTurnSeen.O N) N spec_DrawTurnSeen.c1 1 (st0 [.one (.sl false 5 a0)] [] : St D0) spec_DrawTurnSeen.K0 = spec_DrawTurnSeen.o0 N a0 := by kernel_rfl
noncomputable def spec_DrawTurnSeen.g (N : Nat) (a0 : List Int) : Option spec_DrawTurnSeen.R := spec_DrawTurnSeen.o0 N a0
theorem spec_DrawTurnSeen.g.run (N : Nat) (a0 : List Int) : runC spec_DrawTurnSeen.C (spec_DrawTurnSeen.O N) N spec_DrawTurnSeen.c1 1 (st0 [.one (.sl false 5 a0)] [] : St D0) spec_DrawTurnSeen.K0 = spec_DrawTurnSeen.g N a0 := by
  exact (spec_DrawTurnSeen.o0.run N a0).trans rfl
theorem spec_DrawTurnSeen.good (N : Nat) (a0 : List Int) (r : spec_DrawTurnSeen.R) (h : spec_DrawTurnSeen.g N a0 = some r) : Go.PM.Good Go.Proofs.Tryz.prog T0 25 [.one (.sl false 5 a0)] [] (spec_DrawTurnSeen.sig.ret r) (spec_DrawTurnSeen.sig.bs r) :=
  good_fn tabOk0 mixed0 spec_DrawTurnSeen.sig (spec_DrawTurnSeen.E N) Go.Proofs.Tryz.func25 (by kernel_rfl) (by kernel_rfl) 29 0 0 [] 1280 false [] [(true, [.any, .any, .any, .any]), (true, [.any, .any])] (by kernel_rfl) rfl rfl ((spec_DrawTurnSeen.g.run N a0).trans h)
noncomputable def spec_DrawTurnSeen.ent (N : Nat) : Ent Go.Proofs.Tryz.prog T0 := mkEnt 25 [(false, [.ro 5])] spec_DrawTurnSeen.sig (fun t => spec_DrawTurnSeen.g N t) (fun t r h => spec_DrawTurnSeen.good N t r h)
end Go.Proofs.YtehbhinaopdkeaaGreat.M

namespace Go.Proofs.YtehbhinaopdkeaaGreat.M
open Go Go.PM Go.Proofs.YtehbhinaopdkeaaGreat.P
set_option linter.unusedVariables false
set_option maxRecDepth 100000
/-! ### laws_big -/
abbrev laws_big.R : Type := Bool
abbrev laws_big.sig : Sig := ⟨[(false, 1), (false, 1)], [], [.sl false 5, .sl false 5], [(false, 1)], [], [.bool]⟩
noncomputable def laws_big.C : Cfg D0 := ⟨Go.Proofs.Tryz.prog, T0, 19, 0, 16, 0, [], 2592, false, []⟩
noncomputable def laws_big.E (N : Nat) : List (Ent Go.Proofs.Tryz.prog T0) := []
noncomputable def laws_big.O (N : Nat) : Orc D0 laws_big.R := orcOf (laws_big.E N)
noncomputable def laws_big.K0 : Ex → St D0 → Option laws_big.R := exitK laws_big.C Go.Proofs.Tryz.f4.results.toList [(false, [.any])] (decOut laws_big.sig)
noncomputable def laws_big.c1 : Code := codeAt (Go.Proofs.Tryz.f4.body.getD .skip) []
noncomputable def laws_big.o0 (N : Nat) (a0 : List Int) (a1 : List Int) : Option laws_big.R :=
 bif (decide ((a0.length : Int) > 1048576)) then
  some (true)
 else
 some ((decide ((a1.length : Int) > (w64 (1048576 - (a0.length : Int))))))
theorem laws_big.o0.run (N : Nat) (a0 : List Int) (a1 : List Int) : runC laws_big.C (laws_big.O N) N laws_big.c1 1 (st0 [.one (.sl false 5 a0), .one (.sl false 5 a1)] [] : St D0) laws_big.K0 = laws_big.o0 N a0 a1 := by kernel_rfl
noncomputable def laws_big.g (N : Nat) (a0 : List Int) (a1 : List Int) : Option laws_big.R := laws_big.o0 N a0 a1
theorem laws_big.g.run (N : Nat) (a0 : List Int) (a1 : List Int) : runC laws_big.C (laws_big.O N) N laws_big.c1 1 (st0 [.one (.sl false 5 a0), .one (.sl false 5 a1)] [] : St D0) laws_big.K0 = laws_big.g N a0 a1 := by
  exact (laws_big.o0.run N a0 a1).trans rfl
theorem laws_big.good (N : Nat) (a0 : List Int) (a1 : List Int) (r : laws_big.R) (h : laws_big.g N a0 a1 = some r) : Go.PM.Good Go.Proofs.Tryz.prog T0 4 [.one (.sl false 5 a0), .one (.sl false 5 a1)] [] (laws_big.sig.ret r) (laws_big.sig.bs r) :=
  good_fn tabOk0 mixed0 laws_big.sig (laws_big.E N) Go.Proofs.Tryz.func4 (by kernel_rfl) (by kernel_rfl) 19 0 0 [] 2592 false [] [(false, [.any])] (by kernel_rfl) rfl rfl ((laws_big.g.run N a0 a1).trans h)
noncomputable def laws_big.ent (N : Nat) : Ent Go.Proofs.Tryz.prog T0 := mkEnt 4 [(false, [.ro 5]), (false, [.ro 5])] laws_big.sig (fun t => laws_big.g N t.1 t.2) (fun t r h => laws_big.good N t.1 t.2 r h)
end Go.Proofs.YtehbhinaopdkeaaGreat.M
