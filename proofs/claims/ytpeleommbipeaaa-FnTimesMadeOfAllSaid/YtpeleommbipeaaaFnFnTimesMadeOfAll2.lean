/- What the program's functions compute, walked by the machine (part 2). No conditions but those stated. -/
import Derived.Test.YtpeleommbipeaaaFnFnTimesMadeOfAll1
namespace Go.Proofs.Ytpeleommbipeaaa.M
open Go Go.PM Go.Proofs.Ytpeleommbipeaaa.P
set_option linter.unusedVariables false
set_option maxRecDepth 100000
/-! ### impl_NeedlessClues -/
abbrev impl_NeedlessClues.R : Type := List Int × Bool
abbrev impl_NeedlessClues.sig : Sig := ⟨[(true, 2)], [], [.int .i64, .sl false 38], [(false, 1), (false, 1)], [], [.sl true 3, .bool]⟩
noncomputable def impl_NeedlessClues.C : Cfg D0 := ⟨Go.Proofs.Try.prog, T0, 2149335295, 0, 38, 0, [(250, [1, 4, 6, 18, 19], [1])]⟩
noncomputable def impl_NeedlessClues.E (N : Nat) : List (Ent Go.Proofs.Try.prog T0) := [impl_CountSolutions.ent N, impl_without.ent N, impl_solutions.ent N]
noncomputable def impl_NeedlessClues.O (N : Nat) : Orc D0 impl_NeedlessClues.R := orcOf (impl_NeedlessClues.E N)
noncomputable def impl_NeedlessClues.K0 : Ex → St D0 → Option impl_NeedlessClues.R := exitK impl_NeedlessClues.C Go.Proofs.Try.f24.results.toList [(false, [.own 3]), (false, [.any])] (decOut impl_NeedlessClues.sig)
noncomputable def impl_NeedlessClues.c1 : Code := codeAt (Go.Proofs.Try.f24.body.getD .skip) []
noncomputable def impl_NeedlessClues.c2 : Code := codeAt (Go.Proofs.Try.f24.body.getD .skip) [false]
noncomputable def impl_NeedlessClues.c6 : Code := codeAt (Go.Proofs.Try.f24.body.getD .skip) [true, false]
noncomputable def impl_NeedlessClues.c14 : Code := codeAt (Go.Proofs.Try.f24.body.getD .skip) [true, true, false]
noncomputable def impl_NeedlessClues.c30 : Code := codeAt (Go.Proofs.Try.f24.body.getD .skip) [true, true, true, false]
noncomputable def impl_NeedlessClues.c63 : Code := codeAt (Go.Proofs.Try.f24.body.getD .skip) [true, true, true, true, true]
noncomputable def impl_NeedlessClues.c124 : Code := codeAt (Go.Proofs.Try.f24.body.getD .skip) [true, true, true, true, false, false]
noncomputable def impl_NeedlessClues.c500 : Code := codeAt (Go.Proofs.Try.f24.body.getD .skip) [true, true, true, true, false, true, false, false]
noncomputable def impl_NeedlessClues.K500 (N : Nat) (Kn250 : St D0 → Option impl_NeedlessClues.R) : Ex → St D0 → Option impl_NeedlessClues.R := (onN (fun s => impl_NeedlessClues.C.tidy 250 s ((onN Kn250 (blockK 0 (onN (fun s => impl_NeedlessClues.C.tidy 62 s (fun s' => runC impl_NeedlessClues.C (impl_NeedlessClues.O N) N impl_NeedlessClues.c63 63 s' impl_NeedlessClues.K0)) impl_NeedlessClues.K0))) .normal)) (onN Kn250 (blockK 0 (onN (fun s => impl_NeedlessClues.C.tidy 62 s (fun s' => runC impl_NeedlessClues.C (impl_NeedlessClues.O N) N impl_NeedlessClues.c63 63 s' impl_NeedlessClues.K0)) impl_NeedlessClues.K0))))
noncomputable def impl_NeedlessClues.o1 (N : Nat) (v0 : Int) (v1 : List Int) (v2 : Int) (v3 : Int) (v4 : Int) (v5 : List S38) (c1 : Int → (List Int) → Int → Int → Int → (List S38) → Option impl_NeedlessClues.R) : Option impl_NeedlessClues.R :=
 bif (decide (v3 < v2)) then
  (impl_without.g N v5 v3).bind fun r1 =>
  (impl_solutions.g N v4 r1).bind fun r2 =>
  bif ((r2.length : Int) == v0) then
   bif (Nat.blt (v1.length + ([v3] : List Int).length) 17592186044416) then
    c1 v0 (v1 ++ ([v3] : List Int)) v2 (w64 (v3 + 1)) v4 v5
   else
   none
  else
  c1 v0 v1 v2 (w64 (v3 + 1)) v4 v5
 else
 some (v1, true)
theorem impl_NeedlessClues.o1.run (N : Nat) (Kn250 : St D0 → Option impl_NeedlessClues.R) (v0 : Int) (v1 : List Int) (v2 : Int) (v3 : Int) (v4 : Int) (v5 : List S38) : runC impl_NeedlessClues.C (impl_NeedlessClues.O N) N impl_NeedlessClues.c500 500 (mkSt [(1, .one (.ptr 1 0)), (4, .one (.int .i64 v0)), (6, .one (.sl true 3 v1)), (18, .one (.int .i64 v2)), (19, .one (.int .i64 v3))] [(1, some (24, [.int .i64 v4, .sl false 38 v5]))] : St D0) (onN (fun s => impl_NeedlessClues.C.tidy 250 s ((onN Kn250 (blockK 0 (onN (fun s => impl_NeedlessClues.C.tidy 62 s (fun s' => runC impl_NeedlessClues.C (impl_NeedlessClues.O N) N impl_NeedlessClues.c63 63 s' impl_NeedlessClues.K0)) impl_NeedlessClues.K0))) .normal)) (onN Kn250 (blockK 0 (onN (fun s => impl_NeedlessClues.C.tidy 62 s (fun s' => runC impl_NeedlessClues.C (impl_NeedlessClues.O N) N impl_NeedlessClues.c63 63 s' impl_NeedlessClues.K0)) impl_NeedlessClues.K0)))) = impl_NeedlessClues.o1 N v0 v1 v2 v3 v4 v5 ((fun w0 w1 w2 w3 w4 w5 => Kn250 (mkSt [(1, .one (.ptr 1 0)), (4, .one (.int .i64 w0)), (6, .one (.sl true 3 w1)), (18, .one (.int .i64 w2)), (19, .one (.int .i64 w3))] [(1, some (24, [.int .i64 w4, .sl false 38 w5]))] : St D0))) := by kernel_rfl
noncomputable def impl_NeedlessClues.d1 (N : Nat) (v0 : Int) (v1 : List Int) (v2 : Int) (v3 : Int) (v4 : Int) (v5 : List S38) (c1 : Int → (List Int) → Int → Int → Int → (List S38) → Option impl_NeedlessClues.R) : Option impl_NeedlessClues.R := impl_NeedlessClues.o1 N v0 v1 v2 v3 v4 v5 c1
theorem impl_NeedlessClues.d1.run (N : Nat) (Kn250 : St D0 → Option impl_NeedlessClues.R) (v0 : Int) (v1 : List Int) (v2 : Int) (v3 : Int) (v4 : Int) (v5 : List S38) : runC impl_NeedlessClues.C (impl_NeedlessClues.O N) N impl_NeedlessClues.c500 500 (mkSt [(1, .one (.ptr 1 0)), (4, .one (.int .i64 v0)), (6, .one (.sl true 3 v1)), (18, .one (.int .i64 v2)), (19, .one (.int .i64 v3))] [(1, some (24, [.int .i64 v4, .sl false 38 v5]))] : St D0) (impl_NeedlessClues.K500 N Kn250) = impl_NeedlessClues.d1 N v0 v1 v2 v3 v4 v5 ((fun w0 w1 w2 w3 w4 w5 => Kn250 (mkSt [(1, .one (.ptr 1 0)), (4, .one (.int .i64 w0)), (6, .one (.sl true 3 w1)), (18, .one (.int .i64 w2)), (19, .one (.int .i64 w3))] [(1, some (24, [.int .i64 w4, .sl false 38 w5]))] : St D0))) := by
  exact (impl_NeedlessClues.o1.run N Kn250 v0 v1 v2 v3 v4 v5).trans rfl
noncomputable def impl_NeedlessClues.K250 (N : Nat) : Ex → St D0 → Option impl_NeedlessClues.R := (blockK 0 (onN (fun s => impl_NeedlessClues.C.tidy 62 s (fun s' => runC impl_NeedlessClues.C (impl_NeedlessClues.O N) N impl_NeedlessClues.c63 63 s' impl_NeedlessClues.K0)) impl_NeedlessClues.K0))
noncomputable def impl_NeedlessClues.l1 (N : Nat) : Nat → Int → (List Int) → Int → Int → Int → (List S38) → Option impl_NeedlessClues.R
  | 0, _, _, _, _, _, _ => none
  | n + 1, v0, v1, v2, v3, v4, v5 => impl_NeedlessClues.d1 N v0 v1 v2 v3 v4 v5 ((fun w0 w1 w2 w3 w4 w5 => impl_NeedlessClues.l1 N n w0 w1 w2 w3 w4 w5))
theorem impl_NeedlessClues.loop250 (N : Nat) : ∀ n, (∀ (v0 : Int) (v1 : List Int) (v2 : Int) (v3 : Int) (v4 : Int) (v5 : List S38), iter (loopF impl_NeedlessClues.C (impl_NeedlessClues.O N) N impl_NeedlessClues.c500 250) n (mkSt [(1, .one (.ptr 1 0)), (4, .one (.int .i64 v0)), (6, .one (.sl true 3 v1)), (18, .one (.int .i64 v2)), (19, .one (.int .i64 v3))] [(1, some (24, [.int .i64 v4, .sl false 38 v5]))] : St D0) (impl_NeedlessClues.K250 N) = impl_NeedlessClues.l1 N n v0 v1 v2 v3 v4 v5)
  | 0 => (fun v0 v1 v2 v3 v4 v5 => rfl)
  | n + 1 => (fun v0 v1 v2 v3 v4 v5 => (impl_NeedlessClues.d1.run N (fun s => iter (loopF impl_NeedlessClues.C (impl_NeedlessClues.O N) N impl_NeedlessClues.c500 250) n s (impl_NeedlessClues.K250 N)) v0 v1 v2 v3 v4 v5).trans (show _ = impl_NeedlessClues.d1 N v0 v1 v2 v3 v4 v5 ((fun w0 w1 w2 w3 w4 w5 => impl_NeedlessClues.l1 N n w0 w1 w2 w3 w4 w5)) from (congr rfl (funext fun w0 => funext fun w1 => funext fun w2 => funext fun w3 => funext fun w4 => funext fun w5 => (impl_NeedlessClues.loop250 N n) w0 w1 w2 w3 w4 w5))))
noncomputable def impl_NeedlessClues.o0 (N : Nat) (a0_0 : Int) (a0_1 : List S38) (c1 : Int → (List Int) → Int → Int → Int → (List S38) → Option impl_NeedlessClues.R) : Option impl_NeedlessClues.R :=
 (impl_CountSolutions.g N a0_0 a0_1).bind fun r1 =>
 bif (!r1.2) then
  some (([] : List Int), false)
 else
 c1 r1.1 ([] : List Int) (a0_1.length : Int) 0 a0_0 a0_1
theorem impl_NeedlessClues.o0.run (N : Nat) (H500 : Code) (a0_0 : Int) (a0_1 : List S38) : runC impl_NeedlessClues.C (impl_NeedlessClues.O N) N (.seq impl_NeedlessClues.c2 (.seq impl_NeedlessClues.c6 (.seq impl_NeedlessClues.c14 (.seq impl_NeedlessClues.c30 (.seq (.seq impl_NeedlessClues.c124 (.block 0 (.loop H500))) impl_NeedlessClues.c63))))) 1 (st0 [.agg [.int .i64 a0_0, .sl false 38 a0_1]] [] : St D0) impl_NeedlessClues.K0 = impl_NeedlessClues.o0 N a0_0 a0_1 ((fun w0 w1 w2 w3 w4 w5 => iter (loopF impl_NeedlessClues.C (impl_NeedlessClues.O N) N H500 250) N (mkSt [(1, .one (.ptr 1 0)), (4, .one (.int .i64 w0)), (6, .one (.sl true 3 w1)), (18, .one (.int .i64 w2)), (19, .one (.int .i64 w3))] [(1, some (24, [.int .i64 w4, .sl false 38 w5]))] : St D0) (blockK 0 (onN (fun s => impl_NeedlessClues.C.tidy 62 s (fun s' => runC impl_NeedlessClues.C (impl_NeedlessClues.O N) N impl_NeedlessClues.c63 63 s' impl_NeedlessClues.K0)) impl_NeedlessClues.K0)))) := by kernel_rfl
noncomputable def impl_NeedlessClues.g (N : Nat) (a0_0 : Int) (a0_1 : List S38) : Option impl_NeedlessClues.R := impl_NeedlessClues.o0 N a0_0 a0_1 ((fun w0 w1 w2 w3 w4 w5 => impl_NeedlessClues.l1 N N w0 w1 w2 w3 w4 w5))
theorem impl_NeedlessClues.c1_0 : impl_NeedlessClues.c1 = (.seq impl_NeedlessClues.c2 (.seq impl_NeedlessClues.c6 (.seq impl_NeedlessClues.c14 (.seq impl_NeedlessClues.c30 (.seq (.seq impl_NeedlessClues.c124 (.block 0 (.loop impl_NeedlessClues.c500))) impl_NeedlessClues.c63))))) := by kernel_rfl
theorem impl_NeedlessClues.g.run (N : Nat) (a0_0 : Int) (a0_1 : List S38) : runC impl_NeedlessClues.C (impl_NeedlessClues.O N) N impl_NeedlessClues.c1 1 (st0 [.agg [.int .i64 a0_0, .sl false 38 a0_1]] [] : St D0) impl_NeedlessClues.K0 = impl_NeedlessClues.g N a0_0 a0_1 := by
  rw [impl_NeedlessClues.c1_0]; unfold impl_NeedlessClues.g; exact (impl_NeedlessClues.o0.run N impl_NeedlessClues.c500 a0_0 a0_1).trans (congr rfl (funext fun w0 => funext fun w1 => funext fun w2 => funext fun w3 => funext fun w4 => funext fun w5 => (impl_NeedlessClues.loop250 N N) w0 w1 w2 w3 w4 w5))
theorem impl_NeedlessClues.good (N : Nat) (a0_0 : Int) (a0_1 : List S38) (r : impl_NeedlessClues.R) (h : impl_NeedlessClues.g N a0_0 a0_1 = some r) : Go.PM.Good Go.Proofs.Try.prog T0 24 [.agg [.int .i64 a0_0, .sl false 38 a0_1]] [] (impl_NeedlessClues.sig.ret r) (impl_NeedlessClues.sig.bs r) :=
  good_fn tabOk0 mixed0 impl_NeedlessClues.sig (impl_NeedlessClues.E N) Go.Proofs.Try.func24 (by kernel_rfl) (by kernel_rfl) 2149335295 0 0 [(250, [1, 4, 6, 18, 19], [1])] [(false, [.own 3]), (false, [.any])] (by kernel_rfl) rfl ((impl_NeedlessClues.g.run N a0_0 a0_1).trans h)
noncomputable def impl_NeedlessClues.ent (N : Nat) : Ent Go.Proofs.Try.prog T0 := mkEnt 24 [(true, [.any, .ro 38])] impl_NeedlessClues.sig (fun t => impl_NeedlessClues.g N t.1 t.2) (fun t r h => impl_NeedlessClues.good N t.1 t.2 r h)
end Go.Proofs.Ytpeleommbipeaaa.M

namespace Go.Proofs.Ytpeleommbipeaaa.M
open Go Go.PM Go.Proofs.Ytpeleommbipeaaa.P
set_option linter.unusedVariables false
set_option maxRecDepth 100000
/-! ### impl_DropClue -/
abbrev impl_DropClue.R : Type := Int × List S38 × Bool
abbrev impl_DropClue.sig : Sig := ⟨[(true, 2), (false, 1)], [], [.int .i64, .sl false 38, .int .i64], [(true, 2), (false, 1)], [], [.int .i64, .sl false 38, .bool]⟩
noncomputable def impl_DropClue.C : Cfg D0 := ⟨Go.Proofs.Try.prog, T0, 131127, 0, 26, 0, [(12, [1, 2, 4, 17], [2, 4])]⟩
noncomputable def impl_DropClue.E (N : Nat) : List (Ent Go.Proofs.Try.prog T0) := [impl_IsPuzzle.ent N, impl_within.ent N, impl_without.ent N]
noncomputable def impl_DropClue.O (N : Nat) : Orc D0 impl_DropClue.R := orcOf (impl_DropClue.E N)
noncomputable def impl_DropClue.K0 : Ex → St D0 → Option impl_DropClue.R := exitK impl_DropClue.C Go.Proofs.Try.f26.results.toList [(true, [.any, .ro 38]), (false, [.any])] (decOut impl_DropClue.sig)
noncomputable def impl_DropClue.c1 : Code := codeAt (Go.Proofs.Try.f26.body.getD .skip) []
noncomputable def impl_DropClue.c2 : Code := codeAt (Go.Proofs.Try.f26.body.getD .skip) [false]
noncomputable def impl_DropClue.c7 : Code := codeAt (Go.Proofs.Try.f26.body.getD .skip) [true, true]
noncomputable def impl_DropClue.c12 : Code := codeAt (Go.Proofs.Try.f26.body.getD .skip) [true, false, false]
noncomputable def impl_DropClue.c13 : Code := codeAt (Go.Proofs.Try.f26.body.getD .skip) [true, false, true]
noncomputable def impl_DropClue.K13 (N : Nat) : Ex → St D0 → Option impl_DropClue.R := (onN (fun s => impl_DropClue.C.tidy 6 s (fun s' => runC impl_DropClue.C (impl_DropClue.O N) N impl_DropClue.c7 7 s' impl_DropClue.K0)) impl_DropClue.K0)
noncomputable def impl_DropClue.o1 (N : Nat) (v0 : Int) (v1 : Bool) (v2 : Int) (v3 : List S38) (v4 : Int) : Option impl_DropClue.R :=
 bif v1 then
  some (0, ([] : List S38), false)
 else
 (impl_without.g N v3 v0).bind fun r1 =>
 some (v2, r1, true)
theorem impl_DropClue.o1.run (N : Nat) (v0 : Int) (v1 : Bool) (v2 : Int) (v3 : List S38) (v4 : Int) : runC impl_DropClue.C (impl_DropClue.O N) N impl_DropClue.c13 13 (mkSt [(1, .one (.int .i64 v0)), (2, .one (.ptr 2 0)), (4, .one (.ptr 4 0)), (17, .one (.bool v1))] [(2, some (24, [.int .i64 v2, .sl false 38 v3])), (4, some (24, [.int .i64 v4, .nl]))] : St D0) (onN (fun s => impl_DropClue.C.tidy 6 s (fun s' => runC impl_DropClue.C (impl_DropClue.O N) N impl_DropClue.c7 7 s' impl_DropClue.K0)) impl_DropClue.K0) = impl_DropClue.o1 N v0 v1 v2 v3 v4 := by kernel_rfl
noncomputable def impl_DropClue.d1 (N : Nat) (v0 : Int) (v1 : Bool) (v2 : Int) (v3 : List S38) (v4 : Int) : Option impl_DropClue.R := impl_DropClue.o1 N v0 v1 v2 v3 v4
theorem impl_DropClue.d1.run (N : Nat) (v0 : Int) (v1 : Bool) (v2 : Int) (v3 : List S38) (v4 : Int) : runC impl_DropClue.C (impl_DropClue.O N) N impl_DropClue.c13 13 (mkSt [(1, .one (.int .i64 v0)), (2, .one (.ptr 2 0)), (4, .one (.ptr 4 0)), (17, .one (.bool v1))] [(2, some (24, [.int .i64 v2, .sl false 38 v3])), (4, some (24, [.int .i64 v4, .nl]))] : St D0) (impl_DropClue.K13 N) = impl_DropClue.d1 N v0 v1 v2 v3 v4 := by
  exact (impl_DropClue.o1.run N v0 v1 v2 v3 v4).trans rfl
noncomputable def impl_DropClue.o0 (N : Nat) (a0_0 : Int) (a0_1 : List S38) (a1 : Int) (c1 : Int → Bool → Int → (List S38) → Int → Option impl_DropClue.R) : Option impl_DropClue.R :=
 (impl_IsPuzzle.g N a0_0 a0_1).bind fun r1 =>
 bif (!r1) then
  c1 a1 true a0_0 a0_1 0
 else
 (impl_within.g N a1 0 (w64 ((a0_1.length : Int) - 1))).bind fun r2 =>
 c1 a1 (!r2) a0_0 a0_1 0
theorem impl_DropClue.o0.run (N : Nat) (H13 : Code) (a0_0 : Int) (a0_1 : List S38) (a1 : Int) : runC impl_DropClue.C (impl_DropClue.O N) N (.seq impl_DropClue.c2 (.seq (.seq impl_DropClue.c12 H13) impl_DropClue.c7)) 1 (st0 [.agg [.int .i64 a0_0, .sl false 38 a0_1], .one (.int .i64 a1)] [] : St D0) impl_DropClue.K0 = impl_DropClue.o0 N a0_0 a0_1 a1 ((fun w0 w1 w2 w3 w4 => runC impl_DropClue.C (impl_DropClue.O N) N H13 13 (mkSt [(1, .one (.int .i64 w0)), (2, .one (.ptr 2 0)), (4, .one (.ptr 4 0)), (17, .one (.bool w1))] [(2, some (24, [.int .i64 w2, .sl false 38 w3])), (4, some (24, [.int .i64 w4, .nl]))] : St D0) (onN (fun s => impl_DropClue.C.tidy 6 s (fun s' => runC impl_DropClue.C (impl_DropClue.O N) N impl_DropClue.c7 7 s' impl_DropClue.K0)) impl_DropClue.K0))) := by kernel_rfl
noncomputable def impl_DropClue.B6 (N : Nat) : St D0 → Option impl_DropClue.R := fun s' => runC impl_DropClue.C (impl_DropClue.O N) N impl_DropClue.c13 13 s' (impl_DropClue.K13 N)
noncomputable def impl_DropClue.g (N : Nat) (a0_0 : Int) (a0_1 : List S38) (a1 : Int) : Option impl_DropClue.R := impl_DropClue.o0 N a0_0 a0_1 a1 ((fun w0 w1 w2 w3 w4 => impl_DropClue.d1 N w0 w1 w2 w3 w4))
theorem impl_DropClue.c1_0 : impl_DropClue.c1 = (.seq impl_DropClue.c2 (.seq (.seq impl_DropClue.c12 impl_DropClue.c13) impl_DropClue.c7)) := by kernel_rfl
theorem impl_DropClue.g.run (N : Nat) (a0_0 : Int) (a0_1 : List S38) (a1 : Int) : runC impl_DropClue.C (impl_DropClue.O N) N impl_DropClue.c1 1 (st0 [.agg [.int .i64 a0_0, .sl false 38 a0_1], .one (.int .i64 a1)] [] : St D0) impl_DropClue.K0 = impl_DropClue.g N a0_0 a0_1 a1 := by
  rw [impl_DropClue.c1_0]; unfold impl_DropClue.g; exact (impl_DropClue.o0.run N impl_DropClue.c13 a0_0 a0_1 a1).trans (congr rfl (funext fun w0 => funext fun w1 => funext fun w2 => funext fun w3 => funext fun w4 => impl_DropClue.d1.run N w0 w1 w2 w3 w4))
theorem impl_DropClue.good (N : Nat) (a0_0 : Int) (a0_1 : List S38) (a1 : Int) (r : impl_DropClue.R) (h : impl_DropClue.g N a0_0 a0_1 a1 = some r) : Go.PM.Good Go.Proofs.Try.prog T0 26 [.agg [.int .i64 a0_0, .sl false 38 a0_1], .one (.int .i64 a1)] [] (impl_DropClue.sig.ret r) (impl_DropClue.sig.bs r) :=
  good_fn tabOk0 mixed0 impl_DropClue.sig (impl_DropClue.E N) Go.Proofs.Try.func26 (by kernel_rfl) (by kernel_rfl) 131127 0 0 [(12, [1, 2, 4, 17], [2, 4])] [(true, [.any, .ro 38]), (false, [.any])] (by kernel_rfl) rfl ((impl_DropClue.g.run N a0_0 a0_1 a1).trans h)
noncomputable def impl_DropClue.ent (N : Nat) : Ent Go.Proofs.Try.prog T0 := mkEnt 26 [(true, [.any, .ro 38]), (false, [.any])] impl_DropClue.sig (fun t => impl_DropClue.g N t.1 t.2.1 t.2.2) (fun t r h => impl_DropClue.good N t.1 t.2.1 t.2.2 r h)
end Go.Proofs.Ytpeleommbipeaaa.M

namespace Go.Proofs.Ytpeleommbipeaaa.M
open Go Go.PM Go.Proofs.Ytpeleommbipeaaa.P
set_option linter.unusedVariables false
set_option maxRecDepth 100000
/-! ### spec_DropClue -/
abbrev spec_DropClue.R : Type := Int × List S38 × Bool
abbrev spec_DropClue.sig : Sig := ⟨[(true, 2), (false, 1)], [], [.int .i64, .sl false 38, .int .i64], [(true, 2), (false, 1)], [], [.int .i64, .sl false 38, .bool]⟩
noncomputable def spec_DropClue.C : Cfg D0 := ⟨Go.Proofs.Try.prog, T0, 131127, 0, 26, 0, [(12, [1, 2, 4, 17], [2, 4])]⟩
noncomputable def spec_DropClue.E (N : Nat) : List (Ent Go.Proofs.Try.prog T0) := [spec_pzGood.ent N, spec_l1In.ent N, spec_pzWithout.ent N]
noncomputable def spec_DropClue.O (N : Nat) : Orc D0 spec_DropClue.R := orcOf (spec_DropClue.E N)
noncomputable def spec_DropClue.K0 : Ex → St D0 → Option spec_DropClue.R := exitK spec_DropClue.C Go.Proofs.Try.f27.results.toList [(true, [.any, .ro 38]), (false, [.any])] (decOut spec_DropClue.sig)
noncomputable def spec_DropClue.c1 : Code := codeAt (Go.Proofs.Try.f27.body.getD .skip) []
noncomputable def spec_DropClue.c2 : Code := codeAt (Go.Proofs.Try.f27.body.getD .skip) [false]
noncomputable def spec_DropClue.c7 : Code := codeAt (Go.Proofs.Try.f27.body.getD .skip) [true, true]
noncomputable def spec_DropClue.c12 : Code := codeAt (Go.Proofs.Try.f27.body.getD .skip) [true, false, false]
noncomputable def spec_DropClue.c13 : Code := codeAt (Go.Proofs.Try.f27.body.getD .skip) [true, false, true]
noncomputable def spec_DropClue.K13 (N : Nat) : Ex → St D0 → Option spec_DropClue.R := (onN (fun s => spec_DropClue.C.tidy 6 s (fun s' => runC spec_DropClue.C (spec_DropClue.O N) N spec_DropClue.c7 7 s' spec_DropClue.K0)) spec_DropClue.K0)
noncomputable def spec_DropClue.o1 (N : Nat) (v0 : Int) (v1 : Bool) (v2 : Int) (v3 : List S38) (v4 : Int) : Option spec_DropClue.R :=
 bif v1 then
  some (0, ([] : List S38), false)
 else
 (spec_pzWithout.g N v3 v0).bind fun r1 =>
 some (v2, r1, true)
theorem spec_DropClue.o1.run (N : Nat) (v0 : Int) (v1 : Bool) (v2 : Int) (v3 : List S38) (v4 : Int) : runC spec_DropClue.C (spec_DropClue.O N) N spec_DropClue.c13 13 (mkSt [(1, .one (.int .i64 v0)), (2, .one (.ptr 2 0)), (4, .one (.ptr 4 0)), (17, .one (.bool v1))] [(2, some (24, [.int .i64 v2, .sl false 38 v3])), (4, some (24, [.int .i64 v4, .nl]))] : St D0) (onN (fun s => spec_DropClue.C.tidy 6 s (fun s' => runC spec_DropClue.C (spec_DropClue.O N) N spec_DropClue.c7 7 s' spec_DropClue.K0)) spec_DropClue.K0) = spec_DropClue.o1 N v0 v1 v2 v3 v4 := by kernel_rfl
noncomputable def spec_DropClue.d1 (N : Nat) (v0 : Int) (v1 : Bool) (v2 : Int) (v3 : List S38) (v4 : Int) : Option spec_DropClue.R := spec_DropClue.o1 N v0 v1 v2 v3 v4
theorem spec_DropClue.d1.run (N : Nat) (v0 : Int) (v1 : Bool) (v2 : Int) (v3 : List S38) (v4 : Int) : runC spec_DropClue.C (spec_DropClue.O N) N spec_DropClue.c13 13 (mkSt [(1, .one (.int .i64 v0)), (2, .one (.ptr 2 0)), (4, .one (.ptr 4 0)), (17, .one (.bool v1))] [(2, some (24, [.int .i64 v2, .sl false 38 v3])), (4, some (24, [.int .i64 v4, .nl]))] : St D0) (spec_DropClue.K13 N) = spec_DropClue.d1 N v0 v1 v2 v3 v4 := by
  exact (spec_DropClue.o1.run N v0 v1 v2 v3 v4).trans rfl
noncomputable def spec_DropClue.o0 (N : Nat) (a0_0 : Int) (a0_1 : List S38) (a1 : Int) (c1 : Int → Bool → Int → (List S38) → Int → Option spec_DropClue.R) : Option spec_DropClue.R :=
 (spec_pzGood.g N a0_0 a0_1).bind fun r1 =>
 bif (!r1) then
  c1 a1 true a0_0 a0_1 0
 else
 (spec_l1In.g N a1 0 (w64 ((a0_1.length : Int) - 1))).bind fun r2 =>
 c1 a1 (!r2) a0_0 a0_1 0
theorem spec_DropClue.o0.run (N : Nat) (H13 : Code) (a0_0 : Int) (a0_1 : List S38) (a1 : Int) : runC spec_DropClue.C (spec_DropClue.O N) N (.seq spec_DropClue.c2 (.seq (.seq spec_DropClue.c12 H13) spec_DropClue.c7)) 1 (st0 [.agg [.int .i64 a0_0, .sl false 38 a0_1], .one (.int .i64 a1)] [] : St D0) spec_DropClue.K0 = spec_DropClue.o0 N a0_0 a0_1 a1 ((fun w0 w1 w2 w3 w4 => runC spec_DropClue.C (spec_DropClue.O N) N H13 13 (mkSt [(1, .one (.int .i64 w0)), (2, .one (.ptr 2 0)), (4, .one (.ptr 4 0)), (17, .one (.bool w1))] [(2, some (24, [.int .i64 w2, .sl false 38 w3])), (4, some (24, [.int .i64 w4, .nl]))] : St D0) (onN (fun s => spec_DropClue.C.tidy 6 s (fun s' => runC spec_DropClue.C (spec_DropClue.O N) N spec_DropClue.c7 7 s' spec_DropClue.K0)) spec_DropClue.K0))) := by kernel_rfl
noncomputable def spec_DropClue.B6 (N : Nat) : St D0 → Option spec_DropClue.R := fun s' => runC spec_DropClue.C (spec_DropClue.O N) N spec_DropClue.c13 13 s' (spec_DropClue.K13 N)
noncomputable def spec_DropClue.g (N : Nat) (a0_0 : Int) (a0_1 : List S38) (a1 : Int) : Option spec_DropClue.R := spec_DropClue.o0 N a0_0 a0_1 a1 ((fun w0 w1 w2 w3 w4 => spec_DropClue.d1 N w0 w1 w2 w3 w4))
theorem spec_DropClue.c1_0 : spec_DropClue.c1 = (.seq spec_DropClue.c2 (.seq (.seq spec_DropClue.c12 spec_DropClue.c13) spec_DropClue.c7)) := by kernel_rfl
theorem spec_DropClue.g.run (N : Nat) (a0_0 : Int) (a0_1 : List S38) (a1 : Int) : runC spec_DropClue.C (spec_DropClue.O N) N spec_DropClue.c1 1 (st0 [.agg [.int .i64 a0_0, .sl false 38 a0_1], .one (.int .i64 a1)] [] : St D0) spec_DropClue.K0 = spec_DropClue.g N a0_0 a0_1 a1 := by
  rw [spec_DropClue.c1_0]; unfold spec_DropClue.g; exact (spec_DropClue.o0.run N spec_DropClue.c13 a0_0 a0_1 a1).trans (congr rfl (funext fun w0 => funext fun w1 => funext fun w2 => funext fun w3 => funext fun w4 => spec_DropClue.d1.run N w0 w1 w2 w3 w4))
theorem spec_DropClue.good (N : Nat) (a0_0 : Int) (a0_1 : List S38) (a1 : Int) (r : spec_DropClue.R) (h : spec_DropClue.g N a0_0 a0_1 a1 = some r) : Go.PM.Good Go.Proofs.Try.prog T0 27 [.agg [.int .i64 a0_0, .sl false 38 a0_1], .one (.int .i64 a1)] [] (spec_DropClue.sig.ret r) (spec_DropClue.sig.bs r) :=
  good_fn tabOk0 mixed0 spec_DropClue.sig (spec_DropClue.E N) Go.Proofs.Try.func27 (by kernel_rfl) (by kernel_rfl) 131127 0 0 [(12, [1, 2, 4, 17], [2, 4])] [(true, [.any, .ro 38]), (false, [.any])] (by kernel_rfl) rfl ((spec_DropClue.g.run N a0_0 a0_1 a1).trans h)
noncomputable def spec_DropClue.ent (N : Nat) : Ent Go.Proofs.Try.prog T0 := mkEnt 27 [(true, [.any, .ro 38]), (false, [.any])] spec_DropClue.sig (fun t => spec_DropClue.g N t.1 t.2.1 t.2.2) (fun t r h => spec_DropClue.good N t.1 t.2.1 t.2.2 r h)
end Go.Proofs.Ytpeleommbipeaaa.M

namespace Go.Proofs.Ytpeleommbipeaaa.M
open Go Go.PM Go.Proofs.Ytpeleommbipeaaa.P
set_option linter.unusedVariables false
set_option maxRecDepth 100000
/-! ### impl_AddClue -/
abbrev impl_AddClue.R : Type := Int × List S38 × Bool
abbrev impl_AddClue.sig : Sig := ⟨[(true, 2), (true, 3)], [], [.int .i64, .sl false 38, .int .i64, .int .i64, .int .i64], [(true, 2), (false, 1)], [], [.int .i64, .sl false 38, .bool]⟩
noncomputable def impl_AddClue.C : Cfg D0 := ⟨Go.Proofs.Try.prog, T0, 8388735, 0, 26, 0, [(28, [4, 6, 23], [4, 6])]⟩
noncomputable def impl_AddClue.E (N : Nat) : List (Ent Go.Proofs.Try.prog T0) := [slices_Clone_impl_Clue_impl_Clue.ent N, impl_IsPuzzle.ent N]
noncomputable def impl_AddClue.O (N : Nat) : Orc D0 impl_AddClue.R := orcOf (impl_AddClue.E N)
noncomputable def impl_AddClue.K0 : Ex → St D0 → Option impl_AddClue.R := exitK impl_AddClue.C Go.Proofs.Try.f16.results.toList [(true, [.any, .ro 38]), (false, [.any])] (decOut impl_AddClue.sig)
noncomputable def impl_AddClue.c1 : Code := codeAt (Go.Proofs.Try.f16.body.getD .skip) []
noncomputable def impl_AddClue.c2 : Code := codeAt (Go.Proofs.Try.f16.body.getD .skip) [false]
noncomputable def impl_AddClue.c6 : Code := codeAt (Go.Proofs.Try.f16.body.getD .skip) [true, false]
noncomputable def impl_AddClue.c15 : Code := codeAt (Go.Proofs.Try.f16.body.getD .skip) [true, true, true]
noncomputable def impl_AddClue.c28 : Code := codeAt (Go.Proofs.Try.f16.body.getD .skip) [true, true, false, false]
noncomputable def impl_AddClue.c29 : Code := codeAt (Go.Proofs.Try.f16.body.getD .skip) [true, true, false, true]
noncomputable def impl_AddClue.K29 (N : Nat) : Ex → St D0 → Option impl_AddClue.R := (onN (fun s => impl_AddClue.C.tidy 14 s (fun s' => runC impl_AddClue.C (impl_AddClue.O N) N impl_AddClue.c15 15 s' impl_AddClue.K0)) impl_AddClue.K0)
noncomputable def impl_AddClue.o1 (N : Nat) (v0 : Bool) (v1 : Int) (v2 : Int) (v3 : List S38) : Option impl_AddClue.R :=
 bif v0 then
  some (0, ([] : List S38), false)
 else
 some (v2, v3, true)
theorem impl_AddClue.o1.run (N : Nat) (v0 : Bool) (v1 : Int) (v2 : Int) (v3 : List S38) : runC impl_AddClue.C (impl_AddClue.O N) N impl_AddClue.c29 29 (mkSt [(4, .one (.ptr 4 0)), (6, .one (.ptr 6 0)), (23, .one (.bool v0))] [(4, some (24, [.int .i64 v1, .nl])), (6, some (24, [.int .i64 v2, .sl false 38 v3]))] : St D0) (onN (fun s => impl_AddClue.C.tidy 14 s (fun s' => runC impl_AddClue.C (impl_AddClue.O N) N impl_AddClue.c15 15 s' impl_AddClue.K0)) impl_AddClue.K0) = impl_AddClue.o1 N v0 v1 v2 v3 := by kernel_rfl
noncomputable def impl_AddClue.d1 (N : Nat) (v0 : Bool) (v1 : Int) (v2 : Int) (v3 : List S38) : Option impl_AddClue.R := impl_AddClue.o1 N v0 v1 v2 v3
theorem impl_AddClue.d1.run (N : Nat) (v0 : Bool) (v1 : Int) (v2 : Int) (v3 : List S38) : runC impl_AddClue.C (impl_AddClue.O N) N impl_AddClue.c29 29 (mkSt [(4, .one (.ptr 4 0)), (6, .one (.ptr 6 0)), (23, .one (.bool v0))] [(4, some (24, [.int .i64 v1, .nl])), (6, some (24, [.int .i64 v2, .sl false 38 v3]))] : St D0) (impl_AddClue.K29 N) = impl_AddClue.d1 N v0 v1 v2 v3 := by
  exact (impl_AddClue.o1.run N v0 v1 v2 v3).trans rfl
noncomputable def impl_AddClue.o0 (N : Nat) (a0_0 : Int) (a0_1 : List S38) (a1_0 : Int) (a1_1 : Int) (a1_2 : Int) (c1 : Bool → Int → Int → (List S38) → Option impl_AddClue.R) : Option impl_AddClue.R :=
 (slices_Clone_impl_Clue_impl_Clue.g N a0_1).bind fun r1 =>
 bif (Nat.blt (r1.length + ([(⟨a1_0, a1_1, a1_2⟩ : S38)] : List S38).length) 5864062014805) then
  (impl_IsPuzzle.g N a0_0 a0_1).bind fun r2 =>
  bif (!r2) then
   c1 true 0 a0_0 (r1 ++ ([(⟨a1_0, a1_1, a1_2⟩ : S38)] : List S38))
  else
  (impl_IsPuzzle.g N a0_0 (r1 ++ ([(⟨a1_0, a1_1, a1_2⟩ : S38)] : List S38))).bind fun r3 =>
  c1 (!r3) 0 a0_0 (r1 ++ ([(⟨a1_0, a1_1, a1_2⟩ : S38)] : List S38))
 else
 none
theorem impl_AddClue.o0.run (N : Nat) (H29 : Code) (a0_0 : Int) (a0_1 : List S38) (a1_0 : Int) (a1_1 : Int) (a1_2 : Int) : runC impl_AddClue.C (impl_AddClue.O N) N (.seq impl_AddClue.c2 (.seq impl_AddClue.c6 (.seq (.seq impl_AddClue.c28 H29) impl_AddClue.c15))) 1 (st0 [.agg [.int .i64 a0_0, .sl false 38 a0_1], .agg [.int .i64 a1_0, .int .i64 a1_1, .int .i64 a1_2]] [] : St D0) impl_AddClue.K0 = impl_AddClue.o0 N a0_0 a0_1 a1_0 a1_1 a1_2 ((fun w0 w1 w2 w3 => runC impl_AddClue.C (impl_AddClue.O N) N H29 29 (mkSt [(4, .one (.ptr 4 0)), (6, .one (.ptr 6 0)), (23, .one (.bool w0))] [(4, some (24, [.int .i64 w1, .nl])), (6, some (24, [.int .i64 w2, .sl false 38 w3]))] : St D0) (onN (fun s => impl_AddClue.C.tidy 14 s (fun s' => runC impl_AddClue.C (impl_AddClue.O N) N impl_AddClue.c15 15 s' impl_AddClue.K0)) impl_AddClue.K0))) := by kernel_rfl
noncomputable def impl_AddClue.B14 (N : Nat) : St D0 → Option impl_AddClue.R := fun s' => runC impl_AddClue.C (impl_AddClue.O N) N impl_AddClue.c29 29 s' (impl_AddClue.K29 N)
noncomputable def impl_AddClue.g (N : Nat) (a0_0 : Int) (a0_1 : List S38) (a1_0 : Int) (a1_1 : Int) (a1_2 : Int) : Option impl_AddClue.R := impl_AddClue.o0 N a0_0 a0_1 a1_0 a1_1 a1_2 ((fun w0 w1 w2 w3 => impl_AddClue.d1 N w0 w1 w2 w3))
theorem impl_AddClue.c1_0 : impl_AddClue.c1 = (.seq impl_AddClue.c2 (.seq impl_AddClue.c6 (.seq (.seq impl_AddClue.c28 impl_AddClue.c29) impl_AddClue.c15))) := by kernel_rfl
theorem impl_AddClue.g.run (N : Nat) (a0_0 : Int) (a0_1 : List S38) (a1_0 : Int) (a1_1 : Int) (a1_2 : Int) : runC impl_AddClue.C (impl_AddClue.O N) N impl_AddClue.c1 1 (st0 [.agg [.int .i64 a0_0, .sl false 38 a0_1], .agg [.int .i64 a1_0, .int .i64 a1_1, .int .i64 a1_2]] [] : St D0) impl_AddClue.K0 = impl_AddClue.g N a0_0 a0_1 a1_0 a1_1 a1_2 := by
  rw [impl_AddClue.c1_0]; unfold impl_AddClue.g; exact (impl_AddClue.o0.run N impl_AddClue.c29 a0_0 a0_1 a1_0 a1_1 a1_2).trans (congr rfl (funext fun w0 => funext fun w1 => funext fun w2 => funext fun w3 => impl_AddClue.d1.run N w0 w1 w2 w3))
theorem impl_AddClue.good (N : Nat) (a0_0 : Int) (a0_1 : List S38) (a1_0 : Int) (a1_1 : Int) (a1_2 : Int) (r : impl_AddClue.R) (h : impl_AddClue.g N a0_0 a0_1 a1_0 a1_1 a1_2 = some r) : Go.PM.Good Go.Proofs.Try.prog T0 16 [.agg [.int .i64 a0_0, .sl false 38 a0_1], .agg [.int .i64 a1_0, .int .i64 a1_1, .int .i64 a1_2]] [] (impl_AddClue.sig.ret r) (impl_AddClue.sig.bs r) :=
  good_fn tabOk0 mixed0 impl_AddClue.sig (impl_AddClue.E N) Go.Proofs.Try.func16 (by kernel_rfl) (by kernel_rfl) 8388735 0 0 [(28, [4, 6, 23], [4, 6])] [(true, [.any, .ro 38]), (false, [.any])] (by kernel_rfl) rfl ((impl_AddClue.g.run N a0_0 a0_1 a1_0 a1_1 a1_2).trans h)
noncomputable def impl_AddClue.ent (N : Nat) : Ent Go.Proofs.Try.prog T0 := mkEnt 16 [(true, [.any, .ro 38]), (true, [.any, .any, .any])] impl_AddClue.sig (fun t => impl_AddClue.g N t.1 t.2.1 t.2.2.1 t.2.2.2.1 t.2.2.2.2) (fun t r h => impl_AddClue.good N t.1 t.2.1 t.2.2.1 t.2.2.2.1 t.2.2.2.2 r h)
end Go.Proofs.Ytpeleommbipeaaa.M

namespace Go.Proofs.Ytpeleommbipeaaa.M
open Go Go.PM Go.Proofs.Ytpeleommbipeaaa.P
set_option linter.unusedVariables false
set_option maxRecDepth 100000
/-! ### spec_AddClue -/
abbrev spec_AddClue.R : Type := Int × List S38 × Bool
abbrev spec_AddClue.sig : Sig := ⟨[(true, 2), (true, 3)], [], [.int .i64, .sl false 38, .int .i64, .int .i64, .int .i64], [(true, 2), (false, 1)], [], [.int .i64, .sl false 38, .bool]⟩
noncomputable def spec_AddClue.C : Cfg D0 := ⟨Go.Proofs.Try.prog, T0, 2097215, 0, 33, 0, [(12, [2, 3, 4, 21], [2, 3, 4])]⟩
noncomputable def spec_AddClue.E (N : Nat) : List (Ent Go.Proofs.Try.prog T0) := [spec_pzGood.ent N, spec_pzClue.ent N]
noncomputable def spec_AddClue.O (N : Nat) : Orc D0 spec_AddClue.R := orcOf (spec_AddClue.E N)
noncomputable def spec_AddClue.K0 : Ex → St D0 → Option spec_AddClue.R := exitK spec_AddClue.C Go.Proofs.Try.f13.results.toList [(true, [.any, .ro 38]), (false, [.any])] (decOut spec_AddClue.sig)
noncomputable def spec_AddClue.c1 : Code := codeAt (Go.Proofs.Try.f13.body.getD .skip) []
noncomputable def spec_AddClue.c2 : Code := codeAt (Go.Proofs.Try.f13.body.getD .skip) [false]
noncomputable def spec_AddClue.c7 : Code := codeAt (Go.Proofs.Try.f13.body.getD .skip) [true, true]
noncomputable def spec_AddClue.c12 : Code := codeAt (Go.Proofs.Try.f13.body.getD .skip) [true, false, false]
noncomputable def spec_AddClue.c13 : Code := codeAt (Go.Proofs.Try.f13.body.getD .skip) [true, false, true]
noncomputable def spec_AddClue.K13 (N : Nat) : Ex → St D0 → Option spec_AddClue.R := (onN (fun s => spec_AddClue.C.tidy 6 s (fun s' => runC spec_AddClue.C (spec_AddClue.O N) N spec_AddClue.c7 7 s' spec_AddClue.K0)) spec_AddClue.K0)
noncomputable def spec_AddClue.o1 (N : Nat) (v0 : Bool) (v1 : Int) (v2 : List S38) (v3 : Int) (v4 : Int) (v5 : Int) (v6 : Int) : Option spec_AddClue.R :=
 bif v0 then
  some (0, ([] : List S38), false)
 else
 bif (Nat.blt (([] : List S38).length + v2.length) 5864062014805) then
  bif (Nat.blt ((([] : List S38) ++ v2).length + ([(⟨v3, v4, v5⟩ : S38)] : List S38).length) 5864062014805) then
   some (v1, ((([] : List S38) ++ v2) ++ ([(⟨v3, v4, v5⟩ : S38)] : List S38)), true)
  else
  none
 else
 none
theorem spec_AddClue.o1.run (N : Nat) (v0 : Bool) (v1 : Int) (v2 : List S38) (v3 : Int) (v4 : Int) (v5 : Int) (v6 : Int) : runC spec_AddClue.C (spec_AddClue.O N) N spec_AddClue.c13 13 (mkSt [(2, .one (.ptr 2 0)), (3, .one (.ptr 3 0)), (4, .one (.ptr 4 0)), (21, .one (.bool v0))] [(2, some (24, [.int .i64 v1, .sl false 38 v2])), (3, some (38, [.int .i64 v3, .int .i64 v4, .int .i64 v5])), (4, some (24, [.int .i64 v6, .nl]))] : St D0) (onN (fun s => spec_AddClue.C.tidy 6 s (fun s' => runC spec_AddClue.C (spec_AddClue.O N) N spec_AddClue.c7 7 s' spec_AddClue.K0)) spec_AddClue.K0) = spec_AddClue.o1 N v0 v1 v2 v3 v4 v5 v6 := by kernel_rfl
noncomputable def spec_AddClue.d1 (N : Nat) (v0 : Bool) (v1 : Int) (v2 : List S38) (v3 : Int) (v4 : Int) (v5 : Int) (v6 : Int) : Option spec_AddClue.R := spec_AddClue.o1 N v0 v1 v2 v3 v4 v5 v6
theorem spec_AddClue.d1.run (N : Nat) (v0 : Bool) (v1 : Int) (v2 : List S38) (v3 : Int) (v4 : Int) (v5 : Int) (v6 : Int) : runC spec_AddClue.C (spec_AddClue.O N) N spec_AddClue.c13 13 (mkSt [(2, .one (.ptr 2 0)), (3, .one (.ptr 3 0)), (4, .one (.ptr 4 0)), (21, .one (.bool v0))] [(2, some (24, [.int .i64 v1, .sl false 38 v2])), (3, some (38, [.int .i64 v3, .int .i64 v4, .int .i64 v5])), (4, some (24, [.int .i64 v6, .nl]))] : St D0) (spec_AddClue.K13 N) = spec_AddClue.d1 N v0 v1 v2 v3 v4 v5 v6 := by
  exact (spec_AddClue.o1.run N v0 v1 v2 v3 v4 v5 v6).trans rfl
noncomputable def spec_AddClue.o0 (N : Nat) (a0_0 : Int) (a0_1 : List S38) (a1_0 : Int) (a1_1 : Int) (a1_2 : Int) (c1 : Bool → Int → (List S38) → Int → Int → Int → Int → Option spec_AddClue.R) : Option spec_AddClue.R :=
 (spec_pzGood.g N a0_0 a0_1).bind fun r1 =>
 bif (!r1) then
  c1 true a0_0 a0_1 a1_0 a1_1 a1_2 0
 else
 (spec_pzClue.g N a0_0 a1_0 a1_1 a1_2).bind fun r2 =>
 bif (!r2) then
  c1 true a0_0 a0_1 a1_0 a1_1 a1_2 0
 else
 c1 ((a0_1.length : Int) == 6) a0_0 a0_1 a1_0 a1_1 a1_2 0
theorem spec_AddClue.o0.run (N : Nat) (H13 : Code) (a0_0 : Int) (a0_1 : List S38) (a1_0 : Int) (a1_1 : Int) (a1_2 : Int) : runC spec_AddClue.C (spec_AddClue.O N) N (.seq spec_AddClue.c2 (.seq (.seq spec_AddClue.c12 H13) spec_AddClue.c7)) 1 (st0 [.agg [.int .i64 a0_0, .sl false 38 a0_1], .agg [.int .i64 a1_0, .int .i64 a1_1, .int .i64 a1_2]] [] : St D0) spec_AddClue.K0 = spec_AddClue.o0 N a0_0 a0_1 a1_0 a1_1 a1_2 ((fun w0 w1 w2 w3 w4 w5 w6 => runC spec_AddClue.C (spec_AddClue.O N) N H13 13 (mkSt [(2, .one (.ptr 2 0)), (3, .one (.ptr 3 0)), (4, .one (.ptr 4 0)), (21, .one (.bool w0))] [(2, some (24, [.int .i64 w1, .sl false 38 w2])), (3, some (38, [.int .i64 w3, .int .i64 w4, .int .i64 w5])), (4, some (24, [.int .i64 w6, .nl]))] : St D0) (onN (fun s => spec_AddClue.C.tidy 6 s (fun s' => runC spec_AddClue.C (spec_AddClue.O N) N spec_AddClue.c7 7 s' spec_AddClue.K0)) spec_AddClue.K0))) := by kernel_rfl
noncomputable def spec_AddClue.B6 (N : Nat) : St D0 → Option spec_AddClue.R := fun s' => runC spec_AddClue.C (spec_AddClue.O N) N spec_AddClue.c13 13 s' (spec_AddClue.K13 N)
noncomputable def spec_AddClue.g (N : Nat) (a0_0 : Int) (a0_1 : List S38) (a1_0 : Int) (a1_1 : Int) (a1_2 : Int) : Option spec_AddClue.R := spec_AddClue.o0 N a0_0 a0_1 a1_0 a1_1 a1_2 ((fun w0 w1 w2 w3 w4 w5 w6 => spec_AddClue.d1 N w0 w1 w2 w3 w4 w5 w6))
theorem spec_AddClue.c1_0 : spec_AddClue.c1 = (.seq spec_AddClue.c2 (.seq (.seq spec_AddClue.c12 spec_AddClue.c13) spec_AddClue.c7)) := by kernel_rfl
theorem spec_AddClue.g.run (N : Nat) (a0_0 : Int) (a0_1 : List S38) (a1_0 : Int) (a1_1 : Int) (a1_2 : Int) : runC spec_AddClue.C (spec_AddClue.O N) N spec_AddClue.c1 1 (st0 [.agg [.int .i64 a0_0, .sl false 38 a0_1], .agg [.int .i64 a1_0, .int .i64 a1_1, .int .i64 a1_2]] [] : St D0) spec_AddClue.K0 = spec_AddClue.g N a0_0 a0_1 a1_0 a1_1 a1_2 := by
  rw [spec_AddClue.c1_0]; unfold spec_AddClue.g; exact (spec_AddClue.o0.run N spec_AddClue.c13 a0_0 a0_1 a1_0 a1_1 a1_2).trans (congr rfl (funext fun w0 => funext fun w1 => funext fun w2 => funext fun w3 => funext fun w4 => funext fun w5 => funext fun w6 => spec_AddClue.d1.run N w0 w1 w2 w3 w4 w5 w6))
theorem spec_AddClue.good (N : Nat) (a0_0 : Int) (a0_1 : List S38) (a1_0 : Int) (a1_1 : Int) (a1_2 : Int) (r : spec_AddClue.R) (h : spec_AddClue.g N a0_0 a0_1 a1_0 a1_1 a1_2 = some r) : Go.PM.Good Go.Proofs.Try.prog T0 13 [.agg [.int .i64 a0_0, .sl false 38 a0_1], .agg [.int .i64 a1_0, .int .i64 a1_1, .int .i64 a1_2]] [] (spec_AddClue.sig.ret r) (spec_AddClue.sig.bs r) :=
  good_fn tabOk0 mixed0 spec_AddClue.sig (spec_AddClue.E N) Go.Proofs.Try.func13 (by kernel_rfl) (by kernel_rfl) 2097215 0 0 [(12, [2, 3, 4, 21], [2, 3, 4])] [(true, [.any, .ro 38]), (false, [.any])] (by kernel_rfl) rfl ((spec_AddClue.g.run N a0_0 a0_1 a1_0 a1_1 a1_2).trans h)
noncomputable def spec_AddClue.ent (N : Nat) : Ent Go.Proofs.Try.prog T0 := mkEnt 13 [(true, [.any, .ro 38]), (true, [.any, .any, .any])] spec_AddClue.sig (fun t => spec_AddClue.g N t.1 t.2.1 t.2.2.1 t.2.2.2.1 t.2.2.2.2) (fun t r h => spec_AddClue.good N t.1 t.2.1 t.2.2.1 t.2.2.2.1 t.2.2.2.2 r h)
end Go.Proofs.Ytpeleommbipeaaa.M

namespace Go.Proofs.Ytpeleommbipeaaa.M
open Go Go.PM Go.Proofs.Ytpeleommbipeaaa.P
set_option linter.unusedVariables false
set_option maxRecDepth 100000
/-! ### laws_kPuzzle -/
abbrev laws_kPuzzle.R : Type := Bool
abbrev laws_kPuzzle.sig : Sig := ⟨[(true, 2), (true, 2)], [], [.int .i64, .sl false 38, .int .i64, .sl false 38], [(false, 1)], [], [.bool]⟩
noncomputable def laws_kPuzzle.C : Cfg D0 := ⟨Go.Proofs.Try.prog, T0, 68749361215, 0, 38, 0, [(12, [2, 3, 19], [2, 3]), (58, [2, 3, 22, 23], [2, 3])]⟩
noncomputable def laws_kPuzzle.E (N : Nat) : List (Ent Go.Proofs.Try.prog T0) := []
noncomputable def laws_kPuzzle.O (N : Nat) : Orc D0 laws_kPuzzle.R := orcOf (laws_kPuzzle.E N)
noncomputable def laws_kPuzzle.K0 : Ex → St D0 → Option laws_kPuzzle.R := exitK laws_kPuzzle.C Go.Proofs.Try.f17.results.toList [(false, [.any])] (decOut laws_kPuzzle.sig)
noncomputable def laws_kPuzzle.c1 : Code := codeAt (Go.Proofs.Try.f17.body.getD .skip) []
noncomputable def laws_kPuzzle.c2 : Code := codeAt (Go.Proofs.Try.f17.body.getD .skip) [false]
noncomputable def laws_kPuzzle.c7 : Code := codeAt (Go.Proofs.Try.f17.body.getD .skip) [true, true]
noncomputable def laws_kPuzzle.c12 : Code := codeAt (Go.Proofs.Try.f17.body.getD .skip) [true, false, false]
noncomputable def laws_kPuzzle.c13 : Code := codeAt (Go.Proofs.Try.f17.body.getD .skip) [true, false, true]
noncomputable def laws_kPuzzle.c15 : Code := codeAt (Go.Proofs.Try.f17.body.getD .skip) [true, true, true]
noncomputable def laws_kPuzzle.c28 : Code := codeAt (Go.Proofs.Try.f17.body.getD .skip) [true, true, false, false]
noncomputable def laws_kPuzzle.c116 : Code := codeAt (Go.Proofs.Try.f17.body.getD .skip) [true, true, false, true, false, false]
noncomputable def laws_kPuzzle.K116 (N : Nat) (Kn58 : St D0 → Option laws_kPuzzle.R) : Ex → St D0 → Option laws_kPuzzle.R := (onN (fun s => laws_kPuzzle.C.tidy 58 s ((onN Kn58 (blockK 0 (onN (fun s => laws_kPuzzle.C.tidy 14 s (fun s' => runC laws_kPuzzle.C (laws_kPuzzle.O N) N laws_kPuzzle.c15 15 s' laws_kPuzzle.K0)) laws_kPuzzle.K0))) .normal)) (onN Kn58 (blockK 0 (onN (fun s => laws_kPuzzle.C.tidy 14 s (fun s' => runC laws_kPuzzle.C (laws_kPuzzle.O N) N laws_kPuzzle.c15 15 s' laws_kPuzzle.K0)) laws_kPuzzle.K0))))
noncomputable def laws_kPuzzle.o2 (N : Nat) (v0 : Int) (v1 : Int) (v2 : Int) (v3 : List S38) (v4 : Int) (v5 : List S38) (c2 : Int → Int → Int → (List S38) → Int → (List S38) → Option laws_kPuzzle.R) : Option laws_kPuzzle.R :=
 bif (decide (v1 < v0)) then
  bif (decide (0 ≤ v1)) then
   bif (decide (v1 < (v3.length : Int))) then
    (v3[(v1 : Int).toNat]?).bind fun x1 =>
    bif (decide (0 ≤ v1)) then
     bif (decide (v1 < (v5.length : Int))) then
      (v5[(v1 : Int).toNat]?).bind fun x2 =>
      bif (!((x1.f0 == x2.f0) && ((x1.f1 == x2.f1) && ((x1.f2 == x2.f2) && true)))) then
       some (false)
      else
      c2 v0 (w64 (v1 + 1)) v2 v3 v4 v5
     else
     none
    else
    none
   else
   none
  else
  none
 else
 some (true)
theorem laws_kPuzzle.o2.run (N : Nat) (Kn58 : St D0 → Option laws_kPuzzle.R) (v0 : Int) (v1 : Int) (v2 : Int) (v3 : List S38) (v4 : Int) (v5 : List S38) : runC laws_kPuzzle.C (laws_kPuzzle.O N) N laws_kPuzzle.c116 116 (mkSt [(2, .one (.ptr 2 0)), (3, .one (.ptr 3 0)), (22, .one (.int .i64 v0)), (23, .one (.int .i64 v1))] [(2, some (24, [.int .i64 v2, .sl false 38 v3])), (3, some (24, [.int .i64 v4, .sl false 38 v5]))] : St D0) (onN (fun s => laws_kPuzzle.C.tidy 58 s ((onN Kn58 (blockK 0 (onN (fun s => laws_kPuzzle.C.tidy 14 s (fun s' => runC laws_kPuzzle.C (laws_kPuzzle.O N) N laws_kPuzzle.c15 15 s' laws_kPuzzle.K0)) laws_kPuzzle.K0))) .normal)) (onN Kn58 (blockK 0 (onN (fun s => laws_kPuzzle.C.tidy 14 s (fun s' => runC laws_kPuzzle.C (laws_kPuzzle.O N) N laws_kPuzzle.c15 15 s' laws_kPuzzle.K0)) laws_kPuzzle.K0)))) = laws_kPuzzle.o2 N v0 v1 v2 v3 v4 v5 ((fun w0 w1 w2 w3 w4 w5 => Kn58 (mkSt [(2, .one (.ptr 2 0)), (3, .one (.ptr 3 0)), (22, .one (.int .i64 w0)), (23, .one (.int .i64 w1))] [(2, some (24, [.int .i64 w2, .sl false 38 w3])), (3, some (24, [.int .i64 w4, .sl false 38 w5]))] : St D0))) := by kernel_rfl
noncomputable def laws_kPuzzle.d2 (N : Nat) (v0 : Int) (v1 : Int) (v2 : Int) (v3 : List S38) (v4 : Int) (v5 : List S38) (c2 : Int → Int → Int → (List S38) → Int → (List S38) → Option laws_kPuzzle.R) : Option laws_kPuzzle.R := laws_kPuzzle.o2 N v0 v1 v2 v3 v4 v5 c2
theorem laws_kPuzzle.d2.run (N : Nat) (Kn58 : St D0 → Option laws_kPuzzle.R) (v0 : Int) (v1 : Int) (v2 : Int) (v3 : List S38) (v4 : Int) (v5 : List S38) : runC laws_kPuzzle.C (laws_kPuzzle.O N) N laws_kPuzzle.c116 116 (mkSt [(2, .one (.ptr 2 0)), (3, .one (.ptr 3 0)), (22, .one (.int .i64 v0)), (23, .one (.int .i64 v1))] [(2, some (24, [.int .i64 v2, .sl false 38 v3])), (3, some (24, [.int .i64 v4, .sl false 38 v5]))] : St D0) (laws_kPuzzle.K116 N Kn58) = laws_kPuzzle.d2 N v0 v1 v2 v3 v4 v5 ((fun w0 w1 w2 w3 w4 w5 => Kn58 (mkSt [(2, .one (.ptr 2 0)), (3, .one (.ptr 3 0)), (22, .one (.int .i64 w0)), (23, .one (.int .i64 w1))] [(2, some (24, [.int .i64 w2, .sl false 38 w3])), (3, some (24, [.int .i64 w4, .sl false 38 w5]))] : St D0))) := by
  exact (laws_kPuzzle.o2.run N Kn58 v0 v1 v2 v3 v4 v5).trans rfl
noncomputable def laws_kPuzzle.K58 (N : Nat) : Ex → St D0 → Option laws_kPuzzle.R := (blockK 0 (onN (fun s => laws_kPuzzle.C.tidy 14 s (fun s' => runC laws_kPuzzle.C (laws_kPuzzle.O N) N laws_kPuzzle.c15 15 s' laws_kPuzzle.K0)) laws_kPuzzle.K0))
noncomputable def laws_kPuzzle.l2 (N : Nat) : Nat → Int → Int → Int → (List S38) → Int → (List S38) → Option laws_kPuzzle.R
  | 0, _, _, _, _, _, _ => none
  | n + 1, v0, v1, v2, v3, v4, v5 => laws_kPuzzle.d2 N v0 v1 v2 v3 v4 v5 ((fun w0 w1 w2 w3 w4 w5 => laws_kPuzzle.l2 N n w0 w1 w2 w3 w4 w5))
theorem laws_kPuzzle.loop58 (N : Nat) : ∀ n, (∀ (v0 : Int) (v1 : Int) (v2 : Int) (v3 : List S38) (v4 : Int) (v5 : List S38), iter (loopF laws_kPuzzle.C (laws_kPuzzle.O N) N laws_kPuzzle.c116 58) n (mkSt [(2, .one (.ptr 2 0)), (3, .one (.ptr 3 0)), (22, .one (.int .i64 v0)), (23, .one (.int .i64 v1))] [(2, some (24, [.int .i64 v2, .sl false 38 v3])), (3, some (24, [.int .i64 v4, .sl false 38 v5]))] : St D0) (laws_kPuzzle.K58 N) = laws_kPuzzle.l2 N n v0 v1 v2 v3 v4 v5)
  | 0 => (fun v0 v1 v2 v3 v4 v5 => rfl)
  | n + 1 => (fun v0 v1 v2 v3 v4 v5 => (laws_kPuzzle.d2.run N (fun s => iter (loopF laws_kPuzzle.C (laws_kPuzzle.O N) N laws_kPuzzle.c116 58) n s (laws_kPuzzle.K58 N)) v0 v1 v2 v3 v4 v5).trans (show _ = laws_kPuzzle.d2 N v0 v1 v2 v3 v4 v5 ((fun w0 w1 w2 w3 w4 w5 => laws_kPuzzle.l2 N n w0 w1 w2 w3 w4 w5)) from (congr rfl (funext fun w0 => funext fun w1 => funext fun w2 => funext fun w3 => funext fun w4 => funext fun w5 => (laws_kPuzzle.loop58 N n) w0 w1 w2 w3 w4 w5))))
noncomputable def laws_kPuzzle.K13 (N : Nat) : Ex → St D0 → Option laws_kPuzzle.R := (onN (fun s => laws_kPuzzle.C.tidy 6 s (fun s' => runC laws_kPuzzle.C (laws_kPuzzle.O N) N laws_kPuzzle.c7 7 s' laws_kPuzzle.K0)) laws_kPuzzle.K0)
noncomputable def laws_kPuzzle.o1 (N : Nat) (v0 : Bool) (v1 : Int) (v2 : List S38) (v3 : Int) (v4 : List S38) (c2 : Int → Int → Int → (List S38) → Int → (List S38) → Option laws_kPuzzle.R) : Option laws_kPuzzle.R :=
 bif v0 then
  some (false)
 else
 c2 (v2.length : Int) 0 v1 v2 v3 v4
theorem laws_kPuzzle.o1.run (N : Nat) (H116 : Code) (v0 : Bool) (v1 : Int) (v2 : List S38) (v3 : Int) (v4 : List S38) : runC laws_kPuzzle.C (laws_kPuzzle.O N) N laws_kPuzzle.c13 13 (mkSt [(2, .one (.ptr 2 0)), (3, .one (.ptr 3 0)), (19, .one (.bool v0))] [(2, some (24, [.int .i64 v1, .sl false 38 v2])), (3, some (24, [.int .i64 v3, .sl false 38 v4]))] : St D0) (onN (fun s => laws_kPuzzle.C.tidy 6 s (fun s' => runC laws_kPuzzle.C (laws_kPuzzle.O N) N (.seq (.seq laws_kPuzzle.c28 (.block 0 (.loop H116))) laws_kPuzzle.c15) 7 s' laws_kPuzzle.K0)) laws_kPuzzle.K0) = laws_kPuzzle.o1 N v0 v1 v2 v3 v4 ((fun w0 w1 w2 w3 w4 w5 => iter (loopF laws_kPuzzle.C (laws_kPuzzle.O N) N H116 58) N (mkSt [(2, .one (.ptr 2 0)), (3, .one (.ptr 3 0)), (22, .one (.int .i64 w0)), (23, .one (.int .i64 w1))] [(2, some (24, [.int .i64 w2, .sl false 38 w3])), (3, some (24, [.int .i64 w4, .sl false 38 w5]))] : St D0) (blockK 0 (onN (fun s => laws_kPuzzle.C.tidy 14 s (fun s' => runC laws_kPuzzle.C (laws_kPuzzle.O N) N laws_kPuzzle.c15 15 s' laws_kPuzzle.K0)) laws_kPuzzle.K0)))) := by kernel_rfl
noncomputable def laws_kPuzzle.d1 (N : Nat) (v0 : Bool) (v1 : Int) (v2 : List S38) (v3 : Int) (v4 : List S38) : Option laws_kPuzzle.R := laws_kPuzzle.o1 N v0 v1 v2 v3 v4 ((fun w0 w1 w2 w3 w4 w5 => laws_kPuzzle.l2 N N w0 w1 w2 w3 w4 w5))
theorem laws_kPuzzle.d1.run (N : Nat) (v0 : Bool) (v1 : Int) (v2 : List S38) (v3 : Int) (v4 : List S38) : runC laws_kPuzzle.C (laws_kPuzzle.O N) N laws_kPuzzle.c13 13 (mkSt [(2, .one (.ptr 2 0)), (3, .one (.ptr 3 0)), (19, .one (.bool v0))] [(2, some (24, [.int .i64 v1, .sl false 38 v2])), (3, some (24, [.int .i64 v3, .sl false 38 v4]))] : St D0) (laws_kPuzzle.K13 N) = laws_kPuzzle.d1 N v0 v1 v2 v3 v4 := by
  unfold laws_kPuzzle.d1; exact (laws_kPuzzle.o1.run N laws_kPuzzle.c116 v0 v1 v2 v3 v4).trans (congr rfl (funext fun w0 => funext fun w1 => funext fun w2 => funext fun w3 => funext fun w4 => funext fun w5 => (laws_kPuzzle.loop58 N N) w0 w1 w2 w3 w4 w5))
noncomputable def laws_kPuzzle.o0 (N : Nat) (a0_0 : Int) (a0_1 : List S38) (a1_0 : Int) (a1_1 : List S38) (c1 : Bool → Int → (List S38) → Int → (List S38) → Option laws_kPuzzle.R) : Option laws_kPuzzle.R :=
 bif (a0_0 != a1_0) then
  c1 true a0_0 a0_1 a1_0 a1_1
 else
 c1 ((a0_1.length : Int) != (a1_1.length : Int)) a0_0 a0_1 a1_0 a1_1
theorem laws_kPuzzle.o0.run (N : Nat) (H13 : Code) (a0_0 : Int) (a0_1 : List S38) (a1_0 : Int) (a1_1 : List S38) : runC laws_kPuzzle.C (laws_kPuzzle.O N) N (.seq laws_kPuzzle.c2 (.seq (.seq laws_kPuzzle.c12 H13) laws_kPuzzle.c7)) 1 (st0 [.agg [.int .i64 a0_0, .sl false 38 a0_1], .agg [.int .i64 a1_0, .sl false 38 a1_1]] [] : St D0) laws_kPuzzle.K0 = laws_kPuzzle.o0 N a0_0 a0_1 a1_0 a1_1 ((fun w0 w1 w2 w3 w4 => runC laws_kPuzzle.C (laws_kPuzzle.O N) N H13 13 (mkSt [(2, .one (.ptr 2 0)), (3, .one (.ptr 3 0)), (19, .one (.bool w0))] [(2, some (24, [.int .i64 w1, .sl false 38 w2])), (3, some (24, [.int .i64 w3, .sl false 38 w4]))] : St D0) (onN (fun s => laws_kPuzzle.C.tidy 6 s (fun s' => runC laws_kPuzzle.C (laws_kPuzzle.O N) N laws_kPuzzle.c7 7 s' laws_kPuzzle.K0)) laws_kPuzzle.K0))) := by kernel_rfl
noncomputable def laws_kPuzzle.B6 (N : Nat) : St D0 → Option laws_kPuzzle.R := fun s' => runC laws_kPuzzle.C (laws_kPuzzle.O N) N laws_kPuzzle.c13 13 s' (laws_kPuzzle.K13 N)
noncomputable def laws_kPuzzle.g (N : Nat) (a0_0 : Int) (a0_1 : List S38) (a1_0 : Int) (a1_1 : List S38) : Option laws_kPuzzle.R := laws_kPuzzle.o0 N a0_0 a0_1 a1_0 a1_1 ((fun w0 w1 w2 w3 w4 => laws_kPuzzle.d1 N w0 w1 w2 w3 w4))
theorem laws_kPuzzle.c1_0 : laws_kPuzzle.c1 = (.seq laws_kPuzzle.c2 (.seq (.seq laws_kPuzzle.c12 laws_kPuzzle.c13) laws_kPuzzle.c7)) := by kernel_rfl
theorem laws_kPuzzle.g.run (N : Nat) (a0_0 : Int) (a0_1 : List S38) (a1_0 : Int) (a1_1 : List S38) : runC laws_kPuzzle.C (laws_kPuzzle.O N) N laws_kPuzzle.c1 1 (st0 [.agg [.int .i64 a0_0, .sl false 38 a0_1], .agg [.int .i64 a1_0, .sl false 38 a1_1]] [] : St D0) laws_kPuzzle.K0 = laws_kPuzzle.g N a0_0 a0_1 a1_0 a1_1 := by
  rw [laws_kPuzzle.c1_0]; unfold laws_kPuzzle.g; exact (laws_kPuzzle.o0.run N laws_kPuzzle.c13 a0_0 a0_1 a1_0 a1_1).trans (congr rfl (funext fun w0 => funext fun w1 => funext fun w2 => funext fun w3 => funext fun w4 => laws_kPuzzle.d1.run N w0 w1 w2 w3 w4))
theorem laws_kPuzzle.good (N : Nat) (a0_0 : Int) (a0_1 : List S38) (a1_0 : Int) (a1_1 : List S38) (r : laws_kPuzzle.R) (h : laws_kPuzzle.g N a0_0 a0_1 a1_0 a1_1 = some r) : Go.PM.Good Go.Proofs.Try.prog T0 17 [.agg [.int .i64 a0_0, .sl false 38 a0_1], .agg [.int .i64 a1_0, .sl false 38 a1_1]] [] (laws_kPuzzle.sig.ret r) (laws_kPuzzle.sig.bs r) :=
  good_fn tabOk0 mixed0 laws_kPuzzle.sig (laws_kPuzzle.E N) Go.Proofs.Try.func17 (by kernel_rfl) (by kernel_rfl) 68749361215 0 0 [(12, [2, 3, 19], [2, 3]), (58, [2, 3, 22, 23], [2, 3])] [(false, [.any])] (by kernel_rfl) rfl ((laws_kPuzzle.g.run N a0_0 a0_1 a1_0 a1_1).trans h)
noncomputable def laws_kPuzzle.ent (N : Nat) : Ent Go.Proofs.Try.prog T0 := mkEnt 17 [(true, [.any, .ro 38]), (true, [.any, .ro 38])] laws_kPuzzle.sig (fun t => laws_kPuzzle.g N t.1 t.2.1 t.2.2.1 t.2.2.2) (fun t r h => laws_kPuzzle.good N t.1 t.2.1 t.2.2.1 t.2.2.2 r h)
end Go.Proofs.Ytpeleommbipeaaa.M

namespace Go.Proofs.Ytpeleommbipeaaa.M
open Go Go.PM Go.Proofs.Ytpeleommbipeaaa.P
set_option linter.unusedVariables false
set_option maxRecDepth 100000
/-! ### laws_kHas -/
abbrev laws_kHas.R : Type := Bool
abbrev laws_kHas.sig : Sig := ⟨[(false, 1), (false, 1)], [], [.sl false 3, .int .i64], [(false, 1)], [], [.bool]⟩
noncomputable def laws_kHas.C : Cfg D0 := ⟨Go.Proofs.Try.prog, T0, 34771, 0, 17, 0, [(26, [1, 7, 8, 9], [])]⟩
noncomputable def laws_kHas.E (N : Nat) : List (Ent Go.Proofs.Try.prog T0) := []
noncomputable def laws_kHas.O (N : Nat) : Orc D0 laws_kHas.R := orcOf (laws_kHas.E N)
noncomputable def laws_kHas.K0 : Ex → St D0 → Option laws_kHas.R := exitK laws_kHas.C Go.Proofs.Try.f20.results.toList [(false, [.any])] (decOut laws_kHas.sig)
noncomputable def laws_kHas.c1 : Code := codeAt (Go.Proofs.Try.f20.body.getD .skip) []
noncomputable def laws_kHas.c2 : Code := codeAt (Go.Proofs.Try.f20.body.getD .skip) [false]
noncomputable def laws_kHas.c7 : Code := codeAt (Go.Proofs.Try.f20.body.getD .skip) [true, true]
noncomputable def laws_kHas.c12 : Code := codeAt (Go.Proofs.Try.f20.body.getD .skip) [true, false, false]
noncomputable def laws_kHas.c52 : Code := codeAt (Go.Proofs.Try.f20.body.getD .skip) [true, false, true, false, false]
noncomputable def laws_kHas.K52 (N : Nat) (Kn26 : St D0 → Option laws_kHas.R) : Ex → St D0 → Option laws_kHas.R := (onN (fun s => laws_kHas.C.tidy 26 s ((onN Kn26 (blockK 0 (onN (fun s => laws_kHas.C.tidy 6 s (fun s' => runC laws_kHas.C (laws_kHas.O N) N laws_kHas.c7 7 s' laws_kHas.K0)) laws_kHas.K0))) .normal)) (onN Kn26 (blockK 0 (onN (fun s => laws_kHas.C.tidy 6 s (fun s' => runC laws_kHas.C (laws_kHas.O N) N laws_kHas.c7 7 s' laws_kHas.K0)) laws_kHas.K0))))
noncomputable def laws_kHas.o1 (N : Nat) (v0 : Int) (v1 : List Int) (v2 : Int) (v3 : Int) (c1 : Int → (List Int) → Int → Int → Option laws_kHas.R) : Option laws_kHas.R :=
 bif (decide (v3 < v2)) then
  bif (decide (0 ≤ v3)) then
   bif (decide (v3 < (v1.length : Int))) then
    (v1[(v3 : Int).toNat]?).bind fun x1 =>
    bif (x1 == v0) then
     some (true)
    else
    c1 v0 v1 v2 (w64 (v3 + 1))
   else
   none
  else
  none
 else
 some (false)
theorem laws_kHas.o1.run (N : Nat) (Kn26 : St D0 → Option laws_kHas.R) (v0 : Int) (v1 : List Int) (v2 : Int) (v3 : Int) : runC laws_kHas.C (laws_kHas.O N) N laws_kHas.c52 52 (mkSt [(1, .one (.int .i64 v0)), (7, .one (.sl false 3 v1)), (8, .one (.int .i64 v2)), (9, .one (.int .i64 v3))] [] : St D0) (onN (fun s => laws_kHas.C.tidy 26 s ((onN Kn26 (blockK 0 (onN (fun s => laws_kHas.C.tidy 6 s (fun s' => runC laws_kHas.C (laws_kHas.O N) N laws_kHas.c7 7 s' laws_kHas.K0)) laws_kHas.K0))) .normal)) (onN Kn26 (blockK 0 (onN (fun s => laws_kHas.C.tidy 6 s (fun s' => runC laws_kHas.C (laws_kHas.O N) N laws_kHas.c7 7 s' laws_kHas.K0)) laws_kHas.K0)))) = laws_kHas.o1 N v0 v1 v2 v3 ((fun w0 w1 w2 w3 => Kn26 (mkSt [(1, .one (.int .i64 w0)), (7, .one (.sl false 3 w1)), (8, .one (.int .i64 w2)), (9, .one (.int .i64 w3))] [] : St D0))) := by kernel_rfl
noncomputable def laws_kHas.d1 (N : Nat) (v0 : Int) (v1 : List Int) (v2 : Int) (v3 : Int) (c1 : Int → (List Int) → Int → Int → Option laws_kHas.R) : Option laws_kHas.R := laws_kHas.o1 N v0 v1 v2 v3 c1
theorem laws_kHas.d1.run (N : Nat) (Kn26 : St D0 → Option laws_kHas.R) (v0 : Int) (v1 : List Int) (v2 : Int) (v3 : Int) : runC laws_kHas.C (laws_kHas.O N) N laws_kHas.c52 52 (mkSt [(1, .one (.int .i64 v0)), (7, .one (.sl false 3 v1)), (8, .one (.int .i64 v2)), (9, .one (.int .i64 v3))] [] : St D0) (laws_kHas.K52 N Kn26) = laws_kHas.d1 N v0 v1 v2 v3 ((fun w0 w1 w2 w3 => Kn26 (mkSt [(1, .one (.int .i64 w0)), (7, .one (.sl false 3 w1)), (8, .one (.int .i64 w2)), (9, .one (.int .i64 w3))] [] : St D0))) := by
  exact (laws_kHas.o1.run N Kn26 v0 v1 v2 v3).trans rfl
noncomputable def laws_kHas.K26 (N : Nat) : Ex → St D0 → Option laws_kHas.R := (blockK 0 (onN (fun s => laws_kHas.C.tidy 6 s (fun s' => runC laws_kHas.C (laws_kHas.O N) N laws_kHas.c7 7 s' laws_kHas.K0)) laws_kHas.K0))
noncomputable def laws_kHas.l1 (N : Nat) : Nat → Int → (List Int) → Int → Int → Option laws_kHas.R
  | 0, _, _, _, _ => none
  | n + 1, v0, v1, v2, v3 => laws_kHas.d1 N v0 v1 v2 v3 ((fun w0 w1 w2 w3 => laws_kHas.l1 N n w0 w1 w2 w3))
theorem laws_kHas.loop26 (N : Nat) : ∀ n, (∀ (v0 : Int) (v1 : List Int) (v2 : Int) (v3 : Int), iter (loopF laws_kHas.C (laws_kHas.O N) N laws_kHas.c52 26) n (mkSt [(1, .one (.int .i64 v0)), (7, .one (.sl false 3 v1)), (8, .one (.int .i64 v2)), (9, .one (.int .i64 v3))] [] : St D0) (laws_kHas.K26 N) = laws_kHas.l1 N n v0 v1 v2 v3)
  | 0 => (fun v0 v1 v2 v3 => rfl)
  | n + 1 => (fun v0 v1 v2 v3 => (laws_kHas.d1.run N (fun s => iter (loopF laws_kHas.C (laws_kHas.O N) N laws_kHas.c52 26) n s (laws_kHas.K26 N)) v0 v1 v2 v3).trans (show _ = laws_kHas.d1 N v0 v1 v2 v3 ((fun w0 w1 w2 w3 => laws_kHas.l1 N n w0 w1 w2 w3)) from (congr rfl (funext fun w0 => funext fun w1 => funext fun w2 => funext fun w3 => (laws_kHas.loop26 N n) w0 w1 w2 w3))))
noncomputable def laws_kHas.o0 (N : Nat) (a0 : List Int) (a1 : Int) (c1 : Int → (List Int) → Int → Int → Option laws_kHas.R) : Option laws_kHas.R :=
 c1 a1 a0 (a0.length : Int) 0
theorem laws_kHas.o0.run (N : Nat) (H52 : Code) (a0 : List Int) (a1 : Int) : runC laws_kHas.C (laws_kHas.O N) N (.seq laws_kHas.c2 (.seq (.seq laws_kHas.c12 (.block 0 (.loop H52))) laws_kHas.c7)) 1 (st0 [.one (.sl false 3 a0), .one (.int .i64 a1)] [] : St D0) laws_kHas.K0 = laws_kHas.o0 N a0 a1 ((fun w0 w1 w2 w3 => iter (loopF laws_kHas.C (laws_kHas.O N) N H52 26) N (mkSt [(1, .one (.int .i64 w0)), (7, .one (.sl false 3 w1)), (8, .one (.int .i64 w2)), (9, .one (.int .i64 w3))] [] : St D0) (blockK 0 (onN (fun s => laws_kHas.C.tidy 6 s (fun s' => runC laws_kHas.C (laws_kHas.O N) N laws_kHas.c7 7 s' laws_kHas.K0)) laws_kHas.K0)))) := by kernel_rfl
noncomputable def laws_kHas.g (N : Nat) (a0 : List Int) (a1 : Int) : Option laws_kHas.R := laws_kHas.o0 N a0 a1 ((fun w0 w1 w2 w3 => laws_kHas.l1 N N w0 w1 w2 w3))
theorem laws_kHas.c1_0 : laws_kHas.c1 = (.seq laws_kHas.c2 (.seq (.seq laws_kHas.c12 (.block 0 (.loop laws_kHas.c52))) laws_kHas.c7)) := by kernel_rfl
theorem laws_kHas.g.run (N : Nat) (a0 : List Int) (a1 : Int) : runC laws_kHas.C (laws_kHas.O N) N laws_kHas.c1 1 (st0 [.one (.sl false 3 a0), .one (.int .i64 a1)] [] : St D0) laws_kHas.K0 = laws_kHas.g N a0 a1 := by
  rw [laws_kHas.c1_0]; unfold laws_kHas.g; exact (laws_kHas.o0.run N laws_kHas.c52 a0 a1).trans (congr rfl (funext fun w0 => funext fun w1 => funext fun w2 => funext fun w3 => (laws_kHas.loop26 N N) w0 w1 w2 w3))
theorem laws_kHas.good (N : Nat) (a0 : List Int) (a1 : Int) (r : laws_kHas.R) (h : laws_kHas.g N a0 a1 = some r) : Go.PM.Good Go.Proofs.Try.prog T0 20 [.one (.sl false 3 a0), .one (.int .i64 a1)] [] (laws_kHas.sig.ret r) (laws_kHas.sig.bs r) :=
  good_fn tabOk0 mixed0 laws_kHas.sig (laws_kHas.E N) Go.Proofs.Try.func20 (by kernel_rfl) (by kernel_rfl) 34771 0 0 [(26, [1, 7, 8, 9], [])] [(false, [.any])] (by kernel_rfl) rfl ((laws_kHas.g.run N a0 a1).trans h)
noncomputable def laws_kHas.ent (N : Nat) : Ent Go.Proofs.Try.prog T0 := mkEnt 20 [(false, [.ro 3]), (false, [.any])] laws_kHas.sig (fun t => laws_kHas.g N t.1 t.2) (fun t r h => laws_kHas.good N t.1 t.2 r h)
end Go.Proofs.Ytpeleommbipeaaa.M

namespace Go.Proofs.Ytpeleommbipeaaa.M
open Go Go.PM Go.Proofs.Ytpeleommbipeaaa.P
set_option linter.unusedVariables false
set_option maxRecDepth 100000
/-! ### spec_pzOf -/
abbrev spec_pzOf.R : Type := Int × Int × Int
abbrev spec_pzOf.sig : Sig := ⟨[(false, 1), (false, 1), (false, 1), (false, 1)], [], [.int .i64, .int .i64, .int .i64, .int .i64], [(true, 3)], [], [.int .i64, .int .i64, .int .i64]⟩
noncomputable def spec_pzOf.C : Cfg D0 := ⟨Go.Proofs.Try.prog, T0, 2535473949017871, 0, 62, 0, []⟩
noncomputable def spec_pzOf.E (N : Nat) : List (Ent Go.Proofs.Try.prog T0) := [spec_pzAhead.ent N, spec_pzNext.ent N, spec_l1Abs.ent N]
noncomputable def spec_pzOf.O (N : Nat) : Orc D0 spec_pzOf.R := orcOf (spec_pzOf.E N)
noncomputable def spec_pzOf.K0 : Ex → St D0 → Option spec_pzOf.R := exitK spec_pzOf.C Go.Proofs.Try.f40.results.toList [(true, [.any, .any, .any])] (decOut spec_pzOf.sig)
noncomputable def spec_pzOf.c1 : Code := codeAt (Go.Proofs.Try.f40.body.getD .skip) []
noncomputable def spec_pzOf.o0 (N : Nat) (a0 : Int) (a1 : Int) (a2 : Int) (a3 : Int) : Option spec_pzOf.R :=
 bif (a1 == 0) then
  some (0, (w64 (Int.tdiv a3 60)), 0)
 else
 bif (a1 == 1) then
  bif (a2 == 0) then
   none
  else
  some (1, a2, (Int.tmod (Int.tmod a3 60) a2))
 else
 bif (a1 == 2) then
  some (2, (w64 ((w64 ((w64 ((w64 (Int.tdiv (w64 (Int.tdiv a3 60)) 10)) + (Int.tmod (w64 (Int.tdiv a3 60)) 10))) + (w64 (Int.tdiv (Int.tmod a3 60) 10)))) + (Int.tmod (Int.tmod a3 60) 10))), 0)
 else
 bif (a1 == 3) then
  (spec_pzAhead.g N a0 a3).bind fun r1 =>
  bif (decide (r1 < (w64 (30 * a0)))) then
   some (3, 1, 0)
  else
  some (3, 0, 0)
 else
 bif (a1 == 4) then
  (spec_pzNext.g N a0 a3).bind fun r2 =>
  some (4, r2, 0)
 else
 (spec_l1Abs.g N (w64 ((w64 (Int.tdiv a3 60)) - (Int.tmod a3 60)))).bind fun r3 =>
 some (5, r3, 0)
theorem spec_pzOf.o0.run (N : Nat) (a0 : Int) (a1 : Int) (a2 : Int) (a3 : Int) : runC spec_pzOf.C (spec_pzOf.O N) N spec_pzOf.c1 1 (st0 [.one (.int .i64 a0), .one (.int .i64 a1), .one (.int .i64 a2), .one (.int .i64 a3)] [] : St D0) spec_pzOf.K0 = spec_pzOf.o0 N a0 a1 a2 a3 := by kernel_rfl
noncomputable def spec_pzOf.g (N : Nat) (a0 : Int) (a1 : Int) (a2 : Int) (a3 : Int) : Option spec_pzOf.R := spec_pzOf.o0 N a0 a1 a2 a3
theorem spec_pzOf.g.run (N : Nat) (a0 : Int) (a1 : Int) (a2 : Int) (a3 : Int) : runC spec_pzOf.C (spec_pzOf.O N) N spec_pzOf.c1 1 (st0 [.one (.int .i64 a0), .one (.int .i64 a1), .one (.int .i64 a2), .one (.int .i64 a3)] [] : St D0) spec_pzOf.K0 = spec_pzOf.g N a0 a1 a2 a3 := by
  exact (spec_pzOf.o0.run N a0 a1 a2 a3).trans rfl
theorem spec_pzOf.good (N : Nat) (a0 : Int) (a1 : Int) (a2 : Int) (a3 : Int) (r : spec_pzOf.R) (h : spec_pzOf.g N a0 a1 a2 a3 = some r) : Go.PM.Good Go.Proofs.Try.prog T0 40 [.one (.int .i64 a0), .one (.int .i64 a1), .one (.int .i64 a2), .one (.int .i64 a3)] [] (spec_pzOf.sig.ret r) (spec_pzOf.sig.bs r) :=
  good_fn tabOk0 mixed0 spec_pzOf.sig (spec_pzOf.E N) Go.Proofs.Try.func40 (by kernel_rfl) (by kernel_rfl) 2535473949017871 0 0 [] [(true, [.any, .any, .any])] (by kernel_rfl) rfl ((spec_pzOf.g.run N a0 a1 a2 a3).trans h)
noncomputable def spec_pzOf.ent (N : Nat) : Ent Go.Proofs.Try.prog T0 := mkEnt 40 [(false, [.any]), (false, [.any]), (false, [.any]), (false, [.any])] spec_pzOf.sig (fun t => spec_pzOf.g N t.1 t.2.1 t.2.2.1 t.2.2.2) (fun t r h => spec_pzOf.good N t.1 t.2.1 t.2.2.1 t.2.2.2 r h)
end Go.Proofs.Ytpeleommbipeaaa.M

namespace Go.Proofs.Ytpeleommbipeaaa.M
open Go Go.PM Go.Proofs.Ytpeleommbipeaaa.P
set_option linter.unusedVariables false
set_option maxRecDepth 100000
/-! ### spec_MakePuzzle -/
abbrev spec_MakePuzzle.R : Type := Int × List S38 × Bool
abbrev spec_MakePuzzle.sig : Sig := ⟨[(false, 1), (false, 1), (false, 1), (false, 1)], [], [.int .i64, .int .i64, .int .i64, .int .i64], [(true, 2), (false, 1)], [], [.int .i64, .sl false 38, .bool]⟩
noncomputable def spec_MakePuzzle.C : Cfg D0 := ⟨Go.Proofs.Try.prog, T0, 1127016598355727, 576460752303423488, 69, 0, [(12, [0, 1, 2, 3, 8, 34], [8]), (124, [0, 1, 2, 8, 10, 11], [8, 10]), (15910, [0, 1, 2, 8, 10, 11, 12, 13], [8, 10])]⟩
noncomputable def spec_MakePuzzle.E (N : Nat) : List (Ent Go.Proofs.Try.prog T0) := [spec_diHours.ent N, spec_l1In.ent N, spec_pzOf.ent N]
noncomputable def spec_MakePuzzle.O (N : Nat) : Orc D0 spec_MakePuzzle.R := orcOf (spec_MakePuzzle.E N)
noncomputable def spec_MakePuzzle.K0 : Ex → St D0 → Option spec_MakePuzzle.R := exitK spec_MakePuzzle.C Go.Proofs.Try.f7.results.toList [(true, [.any, .ro 38]), (false, [.any])] (decOut spec_MakePuzzle.sig)
noncomputable def spec_MakePuzzle.c1 : Code := codeAt (Go.Proofs.Try.f7.body.getD .skip) []
noncomputable def spec_MakePuzzle.c2 : Code := codeAt (Go.Proofs.Try.f7.body.getD .skip) [false]
noncomputable def spec_MakePuzzle.c7 : Code := codeAt (Go.Proofs.Try.f7.body.getD .skip) [true, true]
noncomputable def spec_MakePuzzle.c12 : Code := codeAt (Go.Proofs.Try.f7.body.getD .skip) [true, false, false]
noncomputable def spec_MakePuzzle.c13 : Code := codeAt (Go.Proofs.Try.f7.body.getD .skip) [true, false, true]
noncomputable def spec_MakePuzzle.c14 : Code := codeAt (Go.Proofs.Try.f7.body.getD .skip) [true, true, false]
noncomputable def spec_MakePuzzle.c30 : Code := codeAt (Go.Proofs.Try.f7.body.getD .skip) [true, true, true, false]
noncomputable def spec_MakePuzzle.c63 : Code := codeAt (Go.Proofs.Try.f7.body.getD .skip) [true, true, true, true, true]
noncomputable def spec_MakePuzzle.c248 : Code := codeAt (Go.Proofs.Try.f7.body.getD .skip) [true, true, true, true, false, false, false]
noncomputable def spec_MakePuzzle.c496 : Code := codeAt (Go.Proofs.Try.f7.body.getD .skip) [true, true, true, true, false, false, false, false]
noncomputable def spec_MakePuzzle.c995 : Code := codeAt (Go.Proofs.Try.f7.body.getD .skip) [true, true, true, true, false, false, false, true, true]
noncomputable def spec_MakePuzzle.c3976 : Code := codeAt (Go.Proofs.Try.f7.body.getD .skip) [true, true, true, true, false, false, false, true, false, false, false]
noncomputable def spec_MakePuzzle.c7954 : Code := codeAt (Go.Proofs.Try.f7.body.getD .skip) [true, true, true, true, false, false, false, true, false, false, true, false]
noncomputable def spec_MakePuzzle.c15910 : Code := codeAt (Go.Proofs.Try.f7.body.getD .skip) [true, true, true, true, false, false, false, true, false, false, true, true, false]
noncomputable def spec_MakePuzzle.c15911 : Code := codeAt (Go.Proofs.Try.f7.body.getD .skip) [true, true, true, true, false, false, false, true, false, false, true, true, true]
noncomputable def spec_MakePuzzle.K15911 (N : Nat) (Kn124 : St D0 → Option spec_MakePuzzle.R) : Ex → St D0 → Option spec_MakePuzzle.R := (blockK 1 (onN (fun s => spec_MakePuzzle.C.tidy 994 s (fun s' => runC spec_MakePuzzle.C (spec_MakePuzzle.O N) N spec_MakePuzzle.c995 995 s' (onN (fun s => spec_MakePuzzle.C.tidy 124 s ((onN Kn124 (blockK 0 (onN (fun s => spec_MakePuzzle.C.tidy 62 s (fun s' => runC spec_MakePuzzle.C (spec_MakePuzzle.O N) N spec_MakePuzzle.c63 63 s' spec_MakePuzzle.K0)) spec_MakePuzzle.K0))) .normal)) (onN Kn124 (blockK 0 (onN (fun s => spec_MakePuzzle.C.tidy 62 s (fun s' => runC spec_MakePuzzle.C (spec_MakePuzzle.O N) N spec_MakePuzzle.c63 63 s' spec_MakePuzzle.K0)) spec_MakePuzzle.K0)))))) (onN (fun s => spec_MakePuzzle.C.tidy 124 s ((onN Kn124 (blockK 0 (onN (fun s => spec_MakePuzzle.C.tidy 62 s (fun s' => runC spec_MakePuzzle.C (spec_MakePuzzle.O N) N spec_MakePuzzle.c63 63 s' spec_MakePuzzle.K0)) spec_MakePuzzle.K0))) .normal)) (onN Kn124 (blockK 0 (onN (fun s => spec_MakePuzzle.C.tidy 62 s (fun s' => runC spec_MakePuzzle.C (spec_MakePuzzle.O N) N spec_MakePuzzle.c63 63 s' spec_MakePuzzle.K0)) spec_MakePuzzle.K0))))))
noncomputable def spec_MakePuzzle.o3 (N : Nat) (v0 : Int) (v1 : Int) (v2 : Int) (v3 : Int) (v4 : Int) (v5 : Int) (v6 : Int) (v7 : Int) (c4 : Int → Int → Int → Int → Int → Int → (List S38) → Option spec_MakePuzzle.R) : Option spec_MakePuzzle.R :=
 (spec_pzOf.g N v0 v4 v5 v1).bind fun r1 =>
 bif (Nat.blt (([] : List S38).length + ([(⟨r1.1, r1.2.1, r1.2.2⟩ : S38)] : List S38).length) 5864062014805) then
  c4 v0 v1 (w64 (v2 - 1)) v3 v6 v7 (([] : List S38) ++ ([(⟨r1.1, r1.2.1, r1.2.2⟩ : S38)] : List S38))
 else
 none
theorem spec_MakePuzzle.o3.run (N : Nat) (Kn124 : St D0 → Option spec_MakePuzzle.R) (v0 : Int) (v1 : Int) (v2 : Int) (v3 : Int) (v4 : Int) (v5 : Int) (v6 : Int) (v7 : Int) : runC spec_MakePuzzle.C (spec_MakePuzzle.O N) N spec_MakePuzzle.c15911 15911 (mkSt [(0, .one (.int .i64 v0)), (1, .one (.int .i64 v1)), (2, .one (.int .i64 v2)), (8, .one (.ptr 8 0)), (10, .one (.ptr 10 0)), (11, .one (.int .i64 v3)), (12, .one (.int .i64 v4)), (13, .one (.int .i64 v5))] [(8, some (24, [.int .i64 v6, .nl])), (10, some (24, [.int .i64 v7, .nl]))] : St D0) (blockK 1 (onN (fun s => spec_MakePuzzle.C.tidy 994 s (fun s' => runC spec_MakePuzzle.C (spec_MakePuzzle.O N) N spec_MakePuzzle.c995 995 s' (onN (fun s => spec_MakePuzzle.C.tidy 124 s ((onN Kn124 (blockK 0 (onN (fun s => spec_MakePuzzle.C.tidy 62 s (fun s' => runC spec_MakePuzzle.C (spec_MakePuzzle.O N) N spec_MakePuzzle.c63 63 s' spec_MakePuzzle.K0)) spec_MakePuzzle.K0))) .normal)) (onN Kn124 (blockK 0 (onN (fun s => spec_MakePuzzle.C.tidy 62 s (fun s' => runC spec_MakePuzzle.C (spec_MakePuzzle.O N) N spec_MakePuzzle.c63 63 s' spec_MakePuzzle.K0)) spec_MakePuzzle.K0)))))) (onN (fun s => spec_MakePuzzle.C.tidy 124 s ((onN Kn124 (blockK 0 (onN (fun s => spec_MakePuzzle.C.tidy 62 s (fun s' => runC spec_MakePuzzle.C (spec_MakePuzzle.O N) N spec_MakePuzzle.c63 63 s' spec_MakePuzzle.K0)) spec_MakePuzzle.K0))) .normal)) (onN Kn124 (blockK 0 (onN (fun s => spec_MakePuzzle.C.tidy 62 s (fun s' => runC spec_MakePuzzle.C (spec_MakePuzzle.O N) N spec_MakePuzzle.c63 63 s' spec_MakePuzzle.K0)) spec_MakePuzzle.K0)))))) = spec_MakePuzzle.o3 N v0 v1 v2 v3 v4 v5 v6 v7 ((fun w0 w1 w2 w3 w4 w5 w6 => Kn124 (mkSt [(0, .one (.int .i64 w0)), (1, .one (.int .i64 w1)), (2, .one (.int .i64 w2)), (8, .one (.ptr 8 0)), (10, .one (.ptr 10 0)), (11, .one (.int .i64 w3))] [(8, some (24, [.int .i64 w4, .nl])), (10, some (24, [.int .i64 w5, .sl true 38 w6]))] : St D0))) := by kernel_rfl
noncomputable def spec_MakePuzzle.d3 (N : Nat) (v0 : Int) (v1 : Int) (v2 : Int) (v3 : Int) (v4 : Int) (v5 : Int) (v6 : Int) (v7 : Int) (c4 : Int → Int → Int → Int → Int → Int → (List S38) → Option spec_MakePuzzle.R) : Option spec_MakePuzzle.R := spec_MakePuzzle.o3 N v0 v1 v2 v3 v4 v5 v6 v7 c4
theorem spec_MakePuzzle.d3.run (N : Nat) (Kn124 : St D0 → Option spec_MakePuzzle.R) (v0 : Int) (v1 : Int) (v2 : Int) (v3 : Int) (v4 : Int) (v5 : Int) (v6 : Int) (v7 : Int) : runC spec_MakePuzzle.C (spec_MakePuzzle.O N) N spec_MakePuzzle.c15911 15911 (mkSt [(0, .one (.int .i64 v0)), (1, .one (.int .i64 v1)), (2, .one (.int .i64 v2)), (8, .one (.ptr 8 0)), (10, .one (.ptr 10 0)), (11, .one (.int .i64 v3)), (12, .one (.int .i64 v4)), (13, .one (.int .i64 v5))] [(8, some (24, [.int .i64 v6, .nl])), (10, some (24, [.int .i64 v7, .nl]))] : St D0) (spec_MakePuzzle.K15911 N Kn124) = spec_MakePuzzle.d3 N v0 v1 v2 v3 v4 v5 v6 v7 ((fun w0 w1 w2 w3 w4 w5 w6 => Kn124 (mkSt [(0, .one (.int .i64 w0)), (1, .one (.int .i64 w1)), (2, .one (.int .i64 w2)), (8, .one (.ptr 8 0)), (10, .one (.ptr 10 0)), (11, .one (.int .i64 w3))] [(8, some (24, [.int .i64 w4, .nl])), (10, some (24, [.int .i64 w5, .sl true 38 w6]))] : St D0))) := by
  exact (spec_MakePuzzle.o3.run N Kn124 v0 v1 v2 v3 v4 v5 v6 v7).trans rfl
noncomputable def spec_MakePuzzle.K248 (N : Nat) (Kn124 : St D0 → Option spec_MakePuzzle.R) : Ex → St D0 → Option spec_MakePuzzle.R := (onN (fun s => spec_MakePuzzle.C.tidy 124 s ((onN Kn124 (blockK 0 (onN (fun s => spec_MakePuzzle.C.tidy 62 s (fun s' => runC spec_MakePuzzle.C (spec_MakePuzzle.O N) N spec_MakePuzzle.c63 63 s' spec_MakePuzzle.K0)) spec_MakePuzzle.K0))) .normal)) (onN Kn124 (blockK 0 (onN (fun s => spec_MakePuzzle.C.tidy 62 s (fun s' => runC spec_MakePuzzle.C (spec_MakePuzzle.O N) N spec_MakePuzzle.c63 63 s' spec_MakePuzzle.K0)) spec_MakePuzzle.K0))))
noncomputable def spec_MakePuzzle.o2 (N : Nat) (v0 : Int) (v1 : Int) (v2 : Int) (v3 : Int) (v4 : Int) (v5 : Int) (c3 : Int → Int → Int → Int → Int → Int → Int → Int → Option spec_MakePuzzle.R) : Option spec_MakePuzzle.R :=
 bif (decide (v2 > 0)) then
  bif ((Int.tmod (Int.tmod (w64 ((w64 (163 * v3)) + 2917)) 10009) 6) == 1) then
   c3 v0 v1 v2 (Int.tmod (w64 ((w64 (163 * (Int.tmod (w64 ((w64 (163 * v3)) + 2917)) 10009))) + 2917)) 10009) (Int.tmod (Int.tmod (w64 ((w64 (163 * v3)) + 2917)) 10009) 6) (w64 ((Int.tmod (Int.tmod (w64 ((w64 (163 * (Int.tmod (w64 ((w64 (163 * v3)) + 2917)) 10009))) + 2917)) 10009) 59) + 2)) v4 v5
  else
  c3 v0 v1 v2 (Int.tmod (w64 ((w64 (163 * v3)) + 2917)) 10009) (Int.tmod (Int.tmod (w64 ((w64 (163 * v3)) + 2917)) 10009) 6) 2 v4 v5
 else
 some (v5, ([] : List S38), true)
theorem spec_MakePuzzle.o2.run (N : Nat) (Kn124 : St D0 → Option spec_MakePuzzle.R) (H15911 : Code) (v0 : Int) (v1 : Int) (v2 : Int) (v3 : Int) (v4 : Int) (v5 : Int) : runC spec_MakePuzzle.C (spec_MakePuzzle.O N) N (.seq spec_MakePuzzle.c496 (.seq (.block 1 (.seq spec_MakePuzzle.c3976 (.seq spec_MakePuzzle.c7954 (.seq spec_MakePuzzle.c15910 H15911)))) spec_MakePuzzle.c995)) 248 (mkSt [(0, .one (.int .i64 v0)), (1, .one (.int .i64 v1)), (2, .one (.int .i64 v2)), (8, .one (.ptr 8 0)), (10, .one (.ptr 10 0)), (11, .one (.int .i64 v3))] [(8, some (24, [.int .i64 v4, .nl])), (10, some (24, [.int .i64 v5, .nl]))] : St D0) (onN (fun s => spec_MakePuzzle.C.tidy 124 s ((onN Kn124 (blockK 0 (onN (fun s => spec_MakePuzzle.C.tidy 62 s (fun s' => runC spec_MakePuzzle.C (spec_MakePuzzle.O N) N spec_MakePuzzle.c63 63 s' spec_MakePuzzle.K0)) spec_MakePuzzle.K0))) .normal)) (onN Kn124 (blockK 0 (onN (fun s => spec_MakePuzzle.C.tidy 62 s (fun s' => runC spec_MakePuzzle.C (spec_MakePuzzle.O N) N spec_MakePuzzle.c63 63 s' spec_MakePuzzle.K0)) spec_MakePuzzle.K0)))) = spec_MakePuzzle.o2 N v0 v1 v2 v3 v4 v5 ((fun w0 w1 w2 w3 w4 w5 w6 w7 => runC spec_MakePuzzle.C (spec_MakePuzzle.O N) N H15911 15911 (mkSt [(0, .one (.int .i64 w0)), (1, .one (.int .i64 w1)), (2, .one (.int .i64 w2)), (8, .one (.ptr 8 0)), (10, .one (.ptr 10 0)), (11, .one (.int .i64 w3)), (12, .one (.int .i64 w4)), (13, .one (.int .i64 w5))] [(8, some (24, [.int .i64 w6, .nl])), (10, some (24, [.int .i64 w7, .nl]))] : St D0) (blockK 1 (onN (fun s => spec_MakePuzzle.C.tidy 994 s (fun s' => runC spec_MakePuzzle.C (spec_MakePuzzle.O N) N spec_MakePuzzle.c995 995 s' (onN (fun s => spec_MakePuzzle.C.tidy 124 s ((onN Kn124 (blockK 0 (onN (fun s => spec_MakePuzzle.C.tidy 62 s (fun s' => runC spec_MakePuzzle.C (spec_MakePuzzle.O N) N spec_MakePuzzle.c63 63 s' spec_MakePuzzle.K0)) spec_MakePuzzle.K0))) .normal)) (onN Kn124 (blockK 0 (onN (fun s => spec_MakePuzzle.C.tidy 62 s (fun s' => runC spec_MakePuzzle.C (spec_MakePuzzle.O N) N spec_MakePuzzle.c63 63 s' spec_MakePuzzle.K0)) spec_MakePuzzle.K0)))))) (onN (fun s => spec_MakePuzzle.C.tidy 124 s ((onN Kn124 (blockK 0 (onN (fun s => spec_MakePuzzle.C.tidy 62 s (fun s' => runC spec_MakePuzzle.C (spec_MakePuzzle.O N) N spec_MakePuzzle.c63 63 s' spec_MakePuzzle.K0)) spec_MakePuzzle.K0))) .normal)) (onN Kn124 (blockK 0 (onN (fun s => spec_MakePuzzle.C.tidy 62 s (fun s' => runC spec_MakePuzzle.C (spec_MakePuzzle.O N) N spec_MakePuzzle.c63 63 s' spec_MakePuzzle.K0)) spec_MakePuzzle.K0)))))))) := by kernel_rfl
noncomputable def spec_MakePuzzle.B7955 (N : Nat) (Kn124 : St D0 → Option spec_MakePuzzle.R) : St D0 → Option spec_MakePuzzle.R := fun s' => runC spec_MakePuzzle.C (spec_MakePuzzle.O N) N spec_MakePuzzle.c15911 15911 s' (spec_MakePuzzle.K15911 N Kn124)
noncomputable def spec_MakePuzzle.d2 (N : Nat) (v0 : Int) (v1 : Int) (v2 : Int) (v3 : Int) (v4 : Int) (v5 : Int) (c4 : Int → Int → Int → Int → Int → Int → (List S38) → Option spec_MakePuzzle.R) : Option spec_MakePuzzle.R := spec_MakePuzzle.o2 N v0 v1 v2 v3 v4 v5 ((fun w0 w1 w2 w3 w4 w5 w6 w7 => spec_MakePuzzle.d3 N w0 w1 w2 w3 w4 w5 w6 w7 c4))
theorem spec_MakePuzzle.c248_2 : spec_MakePuzzle.c248 = (.seq spec_MakePuzzle.c496 (.seq (.block 1 (.seq spec_MakePuzzle.c3976 (.seq spec_MakePuzzle.c7954 (.seq spec_MakePuzzle.c15910 spec_MakePuzzle.c15911)))) spec_MakePuzzle.c995)) := by kernel_rfl
theorem spec_MakePuzzle.d2.run (N : Nat) (Kn124 : St D0 → Option spec_MakePuzzle.R) (v0 : Int) (v1 : Int) (v2 : Int) (v3 : Int) (v4 : Int) (v5 : Int) : runC spec_MakePuzzle.C (spec_MakePuzzle.O N) N spec_MakePuzzle.c248 248 (mkSt [(0, .one (.int .i64 v0)), (1, .one (.int .i64 v1)), (2, .one (.int .i64 v2)), (8, .one (.ptr 8 0)), (10, .one (.ptr 10 0)), (11, .one (.int .i64 v3))] [(8, some (24, [.int .i64 v4, .nl])), (10, some (24, [.int .i64 v5, .nl]))] : St D0) (spec_MakePuzzle.K248 N Kn124) = spec_MakePuzzle.d2 N v0 v1 v2 v3 v4 v5 ((fun w0 w1 w2 w3 w4 w5 w6 => Kn124 (mkSt [(0, .one (.int .i64 w0)), (1, .one (.int .i64 w1)), (2, .one (.int .i64 w2)), (8, .one (.ptr 8 0)), (10, .one (.ptr 10 0)), (11, .one (.int .i64 w3))] [(8, some (24, [.int .i64 w4, .nl])), (10, some (24, [.int .i64 w5, .sl true 38 w6]))] : St D0))) := by
  rw [spec_MakePuzzle.c248_2]; unfold spec_MakePuzzle.d2; exact (spec_MakePuzzle.o2.run N Kn124 spec_MakePuzzle.c15911 v0 v1 v2 v3 v4 v5).trans (congr rfl (funext fun w0 => funext fun w1 => funext fun w2 => funext fun w3 => funext fun w4 => funext fun w5 => funext fun w6 => funext fun w7 => spec_MakePuzzle.d3.run N Kn124 w0 w1 w2 w3 w4 w5 w6 w7))
noncomputable def spec_MakePuzzle.o5 (N : Nat) (v0 : Int) (v1 : Int) (v2 : Int) (v3 : Int) (v4 : Int) (v5 : Int) (v6 : Int) (v7 : Int) (v8 : List S38) (c4 : Int → Int → Int → Int → Int → Int → (List S38) → Option spec_MakePuzzle.R) : Option spec_MakePuzzle.R :=
 (spec_pzOf.g N v0 v4 v5 v1).bind fun r1 =>
 bif (Nat.blt (v8.length + ([(⟨r1.1, r1.2.1, r1.2.2⟩ : S38)] : List S38).length) 5864062014805) then
  c4 v0 v1 (w64 (v2 - 1)) v3 v6 v7 (v8 ++ ([(⟨r1.1, r1.2.1, r1.2.2⟩ : S38)] : List S38))
 else
 none
theorem spec_MakePuzzle.o5.run (N : Nat) (Kn124 : St D0 → Option spec_MakePuzzle.R) (v0 : Int) (v1 : Int) (v2 : Int) (v3 : Int) (v4 : Int) (v5 : Int) (v6 : Int) (v7 : Int) (v8 : List S38) : runC spec_MakePuzzle.C (spec_MakePuzzle.O N) N spec_MakePuzzle.c15911 15911 (mkSt [(0, .one (.int .i64 v0)), (1, .one (.int .i64 v1)), (2, .one (.int .i64 v2)), (8, .one (.ptr 8 0)), (10, .one (.ptr 10 0)), (11, .one (.int .i64 v3)), (12, .one (.int .i64 v4)), (13, .one (.int .i64 v5))] [(8, some (24, [.int .i64 v6, .nl])), (10, some (24, [.int .i64 v7, .sl true 38 v8]))] : St D0) (blockK 1 (onN (fun s => spec_MakePuzzle.C.tidy 994 s (fun s' => runC spec_MakePuzzle.C (spec_MakePuzzle.O N) N spec_MakePuzzle.c995 995 s' (onN (fun s => spec_MakePuzzle.C.tidy 124 s ((onN Kn124 (blockK 0 (onN (fun s => spec_MakePuzzle.C.tidy 62 s (fun s' => runC spec_MakePuzzle.C (spec_MakePuzzle.O N) N spec_MakePuzzle.c63 63 s' spec_MakePuzzle.K0)) spec_MakePuzzle.K0))) .normal)) (onN Kn124 (blockK 0 (onN (fun s => spec_MakePuzzle.C.tidy 62 s (fun s' => runC spec_MakePuzzle.C (spec_MakePuzzle.O N) N spec_MakePuzzle.c63 63 s' spec_MakePuzzle.K0)) spec_MakePuzzle.K0)))))) (onN (fun s => spec_MakePuzzle.C.tidy 124 s ((onN Kn124 (blockK 0 (onN (fun s => spec_MakePuzzle.C.tidy 62 s (fun s' => runC spec_MakePuzzle.C (spec_MakePuzzle.O N) N spec_MakePuzzle.c63 63 s' spec_MakePuzzle.K0)) spec_MakePuzzle.K0))) .normal)) (onN Kn124 (blockK 0 (onN (fun s => spec_MakePuzzle.C.tidy 62 s (fun s' => runC spec_MakePuzzle.C (spec_MakePuzzle.O N) N spec_MakePuzzle.c63 63 s' spec_MakePuzzle.K0)) spec_MakePuzzle.K0)))))) = spec_MakePuzzle.o5 N v0 v1 v2 v3 v4 v5 v6 v7 v8 ((fun w0 w1 w2 w3 w4 w5 w6 => Kn124 (mkSt [(0, .one (.int .i64 w0)), (1, .one (.int .i64 w1)), (2, .one (.int .i64 w2)), (8, .one (.ptr 8 0)), (10, .one (.ptr 10 0)), (11, .one (.int .i64 w3))] [(8, some (24, [.int .i64 w4, .nl])), (10, some (24, [.int .i64 w5, .sl true 38 w6]))] : St D0))) := by kernel_rfl
noncomputable def spec_MakePuzzle.d5 (N : Nat) (v0 : Int) (v1 : Int) (v2 : Int) (v3 : Int) (v4 : Int) (v5 : Int) (v6 : Int) (v7 : Int) (v8 : List S38) (c4 : Int → Int → Int → Int → Int → Int → (List S38) → Option spec_MakePuzzle.R) : Option spec_MakePuzzle.R := spec_MakePuzzle.o5 N v0 v1 v2 v3 v4 v5 v6 v7 v8 c4
theorem spec_MakePuzzle.d5.run (N : Nat) (Kn124 : St D0 → Option spec_MakePuzzle.R) (v0 : Int) (v1 : Int) (v2 : Int) (v3 : Int) (v4 : Int) (v5 : Int) (v6 : Int) (v7 : Int) (v8 : List S38) : runC spec_MakePuzzle.C (spec_MakePuzzle.O N) N spec_MakePuzzle.c15911 15911 (mkSt [(0, .one (.int .i64 v0)), (1, .one (.int .i64 v1)), (2, .one (.int .i64 v2)), (8, .one (.ptr 8 0)), (10, .one (.ptr 10 0)), (11, .one (.int .i64 v3)), (12, .one (.int .i64 v4)), (13, .one (.int .i64 v5))] [(8, some (24, [.int .i64 v6, .nl])), (10, some (24, [.int .i64 v7, .sl true 38 v8]))] : St D0) (spec_MakePuzzle.K15911 N Kn124) = spec_MakePuzzle.d5 N v0 v1 v2 v3 v4 v5 v6 v7 v8 ((fun w0 w1 w2 w3 w4 w5 w6 => Kn124 (mkSt [(0, .one (.int .i64 w0)), (1, .one (.int .i64 w1)), (2, .one (.int .i64 w2)), (8, .one (.ptr 8 0)), (10, .one (.ptr 10 0)), (11, .one (.int .i64 w3))] [(8, some (24, [.int .i64 w4, .nl])), (10, some (24, [.int .i64 w5, .sl true 38 w6]))] : St D0))) := by
  exact (spec_MakePuzzle.o5.run N Kn124 v0 v1 v2 v3 v4 v5 v6 v7 v8).trans rfl
noncomputable def spec_MakePuzzle.o4 (N : Nat) (v0 : Int) (v1 : Int) (v2 : Int) (v3 : Int) (v4 : Int) (v5 : Int) (v6 : List S38) (c5 : Int → Int → Int → Int → Int → Int → Int → Int → (List S38) → Option spec_MakePuzzle.R) : Option spec_MakePuzzle.R :=
 bif (decide (v2 > 0)) then
  bif ((Int.tmod (Int.tmod (w64 ((w64 (163 * v3)) + 2917)) 10009) 6) == 1) then
   c5 v0 v1 v2 (Int.tmod (w64 ((w64 (163 * (Int.tmod (w64 ((w64 (163 * v3)) + 2917)) 10009))) + 2917)) 10009) (Int.tmod (Int.tmod (w64 ((w64 (163 * v3)) + 2917)) 10009) 6) (w64 ((Int.tmod (Int.tmod (w64 ((w64 (163 * (Int.tmod (w64 ((w64 (163 * v3)) + 2917)) 10009))) + 2917)) 10009) 59) + 2)) v4 v5 v6
  else
  c5 v0 v1 v2 (Int.tmod (w64 ((w64 (163 * v3)) + 2917)) 10009) (Int.tmod (Int.tmod (w64 ((w64 (163 * v3)) + 2917)) 10009) 6) 2 v4 v5 v6
 else
 some (v5, v6, true)
theorem spec_MakePuzzle.o4.run (N : Nat) (Kn124 : St D0 → Option spec_MakePuzzle.R) (H15911 : Code) (v0 : Int) (v1 : Int) (v2 : Int) (v3 : Int) (v4 : Int) (v5 : Int) (v6 : List S38) : runC spec_MakePuzzle.C (spec_MakePuzzle.O N) N (.seq spec_MakePuzzle.c496 (.seq (.block 1 (.seq spec_MakePuzzle.c3976 (.seq spec_MakePuzzle.c7954 (.seq spec_MakePuzzle.c15910 H15911)))) spec_MakePuzzle.c995)) 248 (mkSt [(0, .one (.int .i64 v0)), (1, .one (.int .i64 v1)), (2, .one (.int .i64 v2)), (8, .one (.ptr 8 0)), (10, .one (.ptr 10 0)), (11, .one (.int .i64 v3))] [(8, some (24, [.int .i64 v4, .nl])), (10, some (24, [.int .i64 v5, .sl true 38 v6]))] : St D0) (onN (fun s => spec_MakePuzzle.C.tidy 124 s ((onN Kn124 (blockK 0 (onN (fun s => spec_MakePuzzle.C.tidy 62 s (fun s' => runC spec_MakePuzzle.C (spec_MakePuzzle.O N) N spec_MakePuzzle.c63 63 s' spec_MakePuzzle.K0)) spec_MakePuzzle.K0))) .normal)) (onN Kn124 (blockK 0 (onN (fun s => spec_MakePuzzle.C.tidy 62 s (fun s' => runC spec_MakePuzzle.C (spec_MakePuzzle.O N) N spec_MakePuzzle.c63 63 s' spec_MakePuzzle.K0)) spec_MakePuzzle.K0)))) = spec_MakePuzzle.o4 N v0 v1 v2 v3 v4 v5 v6 ((fun w0 w1 w2 w3 w4 w5 w6 w7 w8 => runC spec_MakePuzzle.C (spec_MakePuzzle.O N) N H15911 15911 (mkSt [(0, .one (.int .i64 w0)), (1, .one (.int .i64 w1)), (2, .one (.int .i64 w2)), (8, .one (.ptr 8 0)), (10, .one (.ptr 10 0)), (11, .one (.int .i64 w3)), (12, .one (.int .i64 w4)), (13, .one (.int .i64 w5))] [(8, some (24, [.int .i64 w6, .nl])), (10, some (24, [.int .i64 w7, .sl true 38 w8]))] : St D0) (blockK 1 (onN (fun s => spec_MakePuzzle.C.tidy 994 s (fun s' => runC spec_MakePuzzle.C (spec_MakePuzzle.O N) N spec_MakePuzzle.c995 995 s' (onN (fun s => spec_MakePuzzle.C.tidy 124 s ((onN Kn124 (blockK 0 (onN (fun s => spec_MakePuzzle.C.tidy 62 s (fun s' => runC spec_MakePuzzle.C (spec_MakePuzzle.O N) N spec_MakePuzzle.c63 63 s' spec_MakePuzzle.K0)) spec_MakePuzzle.K0))) .normal)) (onN Kn124 (blockK 0 (onN (fun s => spec_MakePuzzle.C.tidy 62 s (fun s' => runC spec_MakePuzzle.C (spec_MakePuzzle.O N) N spec_MakePuzzle.c63 63 s' spec_MakePuzzle.K0)) spec_MakePuzzle.K0)))))) (onN (fun s => spec_MakePuzzle.C.tidy 124 s ((onN Kn124 (blockK 0 (onN (fun s => spec_MakePuzzle.C.tidy 62 s (fun s' => runC spec_MakePuzzle.C (spec_MakePuzzle.O N) N spec_MakePuzzle.c63 63 s' spec_MakePuzzle.K0)) spec_MakePuzzle.K0))) .normal)) (onN Kn124 (blockK 0 (onN (fun s => spec_MakePuzzle.C.tidy 62 s (fun s' => runC spec_MakePuzzle.C (spec_MakePuzzle.O N) N spec_MakePuzzle.c63 63 s' spec_MakePuzzle.K0)) spec_MakePuzzle.K0)))))))) := by kernel_rfl
noncomputable def spec_MakePuzzle.d4 (N : Nat) (v0 : Int) (v1 : Int) (v2 : Int) (v3 : Int) (v4 : Int) (v5 : Int) (v6 : List S38) (c4 : Int → Int → Int → Int → Int → Int → (List S38) → Option spec_MakePuzzle.R) : Option spec_MakePuzzle.R := spec_MakePuzzle.o4 N v0 v1 v2 v3 v4 v5 v6 ((fun w0 w1 w2 w3 w4 w5 w6 w7 w8 => spec_MakePuzzle.d5 N w0 w1 w2 w3 w4 w5 w6 w7 w8 c4))
theorem spec_MakePuzzle.c248_4 : spec_MakePuzzle.c248 = (.seq spec_MakePuzzle.c496 (.seq (.block 1 (.seq spec_MakePuzzle.c3976 (.seq spec_MakePuzzle.c7954 (.seq spec_MakePuzzle.c15910 spec_MakePuzzle.c15911)))) spec_MakePuzzle.c995)) := by kernel_rfl
theorem spec_MakePuzzle.d4.run (N : Nat) (Kn124 : St D0 → Option spec_MakePuzzle.R) (v0 : Int) (v1 : Int) (v2 : Int) (v3 : Int) (v4 : Int) (v5 : Int) (v6 : List S38) : runC spec_MakePuzzle.C (spec_MakePuzzle.O N) N spec_MakePuzzle.c248 248 (mkSt [(0, .one (.int .i64 v0)), (1, .one (.int .i64 v1)), (2, .one (.int .i64 v2)), (8, .one (.ptr 8 0)), (10, .one (.ptr 10 0)), (11, .one (.int .i64 v3))] [(8, some (24, [.int .i64 v4, .nl])), (10, some (24, [.int .i64 v5, .sl true 38 v6]))] : St D0) (spec_MakePuzzle.K248 N Kn124) = spec_MakePuzzle.d4 N v0 v1 v2 v3 v4 v5 v6 ((fun w0 w1 w2 w3 w4 w5 w6 => Kn124 (mkSt [(0, .one (.int .i64 w0)), (1, .one (.int .i64 w1)), (2, .one (.int .i64 w2)), (8, .one (.ptr 8 0)), (10, .one (.ptr 10 0)), (11, .one (.int .i64 w3))] [(8, some (24, [.int .i64 w4, .nl])), (10, some (24, [.int .i64 w5, .sl true 38 w6]))] : St D0))) := by
  rw [spec_MakePuzzle.c248_4]; unfold spec_MakePuzzle.d4; exact (spec_MakePuzzle.o4.run N Kn124 spec_MakePuzzle.c15911 v0 v1 v2 v3 v4 v5 v6).trans (congr rfl (funext fun w0 => funext fun w1 => funext fun w2 => funext fun w3 => funext fun w4 => funext fun w5 => funext fun w6 => funext fun w7 => funext fun w8 => spec_MakePuzzle.d5.run N Kn124 w0 w1 w2 w3 w4 w5 w6 w7 w8))
noncomputable def spec_MakePuzzle.K124 (N : Nat) : Ex → St D0 → Option spec_MakePuzzle.R := (blockK 0 (onN (fun s => spec_MakePuzzle.C.tidy 62 s (fun s' => runC spec_MakePuzzle.C (spec_MakePuzzle.O N) N spec_MakePuzzle.c63 63 s' spec_MakePuzzle.K0)) spec_MakePuzzle.K0))
mutual
noncomputable def spec_MakePuzzle.l2 (N : Nat) : Nat → Int → Int → Int → Int → Int → Int → Option spec_MakePuzzle.R
  | 0, _, _, _, _, _, _ => none
  | n + 1, v0, v1, v2, v3, v4, v5 => spec_MakePuzzle.d2 N v0 v1 v2 v3 v4 v5 ((fun w0 w1 w2 w3 w4 w5 w6 => spec_MakePuzzle.l4 N n w0 w1 w2 w3 w4 w5 w6))
noncomputable def spec_MakePuzzle.l4 (N : Nat) : Nat → Int → Int → Int → Int → Int → Int → (List S38) → Option spec_MakePuzzle.R
  | 0, _, _, _, _, _, _, _ => none
  | n + 1, v0, v1, v2, v3, v4, v5, v6 => spec_MakePuzzle.d4 N v0 v1 v2 v3 v4 v5 v6 ((fun w0 w1 w2 w3 w4 w5 w6 => spec_MakePuzzle.l4 N n w0 w1 w2 w3 w4 w5 w6))
end
theorem spec_MakePuzzle.loop124 (N : Nat) : ∀ n, (∀ (v0 : Int) (v1 : Int) (v2 : Int) (v3 : Int) (v4 : Int) (v5 : Int), iter (loopF spec_MakePuzzle.C (spec_MakePuzzle.O N) N spec_MakePuzzle.c248 124) n (mkSt [(0, .one (.int .i64 v0)), (1, .one (.int .i64 v1)), (2, .one (.int .i64 v2)), (8, .one (.ptr 8 0)), (10, .one (.ptr 10 0)), (11, .one (.int .i64 v3))] [(8, some (24, [.int .i64 v4, .nl])), (10, some (24, [.int .i64 v5, .nl]))] : St D0) (spec_MakePuzzle.K124 N) = spec_MakePuzzle.l2 N n v0 v1 v2 v3 v4 v5) ∧ (∀ (v0 : Int) (v1 : Int) (v2 : Int) (v3 : Int) (v4 : Int) (v5 : Int) (v6 : List S38), iter (loopF spec_MakePuzzle.C (spec_MakePuzzle.O N) N spec_MakePuzzle.c248 124) n (mkSt [(0, .one (.int .i64 v0)), (1, .one (.int .i64 v1)), (2, .one (.int .i64 v2)), (8, .one (.ptr 8 0)), (10, .one (.ptr 10 0)), (11, .one (.int .i64 v3))] [(8, some (24, [.int .i64 v4, .nl])), (10, some (24, [.int .i64 v5, .sl true 38 v6]))] : St D0) (spec_MakePuzzle.K124 N) = spec_MakePuzzle.l4 N n v0 v1 v2 v3 v4 v5 v6)
  | 0 => ⟨(fun v0 v1 v2 v3 v4 v5 => rfl), (fun v0 v1 v2 v3 v4 v5 v6 => rfl)⟩
  | n + 1 => ⟨(fun v0 v1 v2 v3 v4 v5 => (spec_MakePuzzle.d2.run N (fun s => iter (loopF spec_MakePuzzle.C (spec_MakePuzzle.O N) N spec_MakePuzzle.c248 124) n s (spec_MakePuzzle.K124 N)) v0 v1 v2 v3 v4 v5).trans (show _ = spec_MakePuzzle.d2 N v0 v1 v2 v3 v4 v5 ((fun w0 w1 w2 w3 w4 w5 w6 => spec_MakePuzzle.l4 N n w0 w1 w2 w3 w4 w5 w6)) from (congr rfl (funext fun w0 => funext fun w1 => funext fun w2 => funext fun w3 => funext fun w4 => funext fun w5 => funext fun w6 => (spec_MakePuzzle.loop124 N n).2 w0 w1 w2 w3 w4 w5 w6)))), (fun v0 v1 v2 v3 v4 v5 v6 => (spec_MakePuzzle.d4.run N (fun s => iter (loopF spec_MakePuzzle.C (spec_MakePuzzle.O N) N spec_MakePuzzle.c248 124) n s (spec_MakePuzzle.K124 N)) v0 v1 v2 v3 v4 v5 v6).trans (show _ = spec_MakePuzzle.d4 N v0 v1 v2 v3 v4 v5 v6 ((fun w0 w1 w2 w3 w4 w5 w6 => spec_MakePuzzle.l4 N n w0 w1 w2 w3 w4 w5 w6)) from (congr rfl (funext fun w0 => funext fun w1 => funext fun w2 => funext fun w3 => funext fun w4 => funext fun w5 => funext fun w6 => (spec_MakePuzzle.loop124 N n).2 w0 w1 w2 w3 w4 w5 w6))))⟩
noncomputable def spec_MakePuzzle.K13 (N : Nat) : Ex → St D0 → Option spec_MakePuzzle.R := (onN (fun s => spec_MakePuzzle.C.tidy 6 s (fun s' => runC spec_MakePuzzle.C (spec_MakePuzzle.O N) N spec_MakePuzzle.c7 7 s' spec_MakePuzzle.K0)) spec_MakePuzzle.K0)
noncomputable def spec_MakePuzzle.o1 (N : Nat) (v0 : Int) (v1 : Int) (v2 : Int) (v3 : Int) (v4 : Bool) (v5 : Int) (c2 : Int → Int → Int → Int → Int → Int → Option spec_MakePuzzle.R) : Option spec_MakePuzzle.R :=
 bif v4 then
  some (0, ([] : List S38), false)
 else
 c2 v0 v1 v2 v3 v5 v0
theorem spec_MakePuzzle.o1.run (N : Nat) (H248 : Code) (v0 : Int) (v1 : Int) (v2 : Int) (v3 : Int) (v4 : Bool) (v5 : Int) : runC spec_MakePuzzle.C (spec_MakePuzzle.O N) N spec_MakePuzzle.c13 13 (mkSt [(0, .one (.int .i64 v0)), (1, .one (.int .i64 v1)), (2, .one (.int .i64 v2)), (3, .one (.int .i64 v3)), (8, .one (.ptr 8 0)), (34, .one (.bool v4))] [(8, some (24, [.int .i64 v5, .nl]))] : St D0) (onN (fun s => spec_MakePuzzle.C.tidy 6 s (fun s' => runC spec_MakePuzzle.C (spec_MakePuzzle.O N) N (.seq spec_MakePuzzle.c14 (.seq spec_MakePuzzle.c30 (.seq (.block 0 (.loop H248)) spec_MakePuzzle.c63))) 7 s' spec_MakePuzzle.K0)) spec_MakePuzzle.K0) = spec_MakePuzzle.o1 N v0 v1 v2 v3 v4 v5 ((fun w0 w1 w2 w3 w4 w5 => iter (loopF spec_MakePuzzle.C (spec_MakePuzzle.O N) N H248 124) N (mkSt [(0, .one (.int .i64 w0)), (1, .one (.int .i64 w1)), (2, .one (.int .i64 w2)), (8, .one (.ptr 8 0)), (10, .one (.ptr 10 0)), (11, .one (.int .i64 w3))] [(8, some (24, [.int .i64 w4, .nl])), (10, some (24, [.int .i64 w5, .nl]))] : St D0) (blockK 0 (onN (fun s => spec_MakePuzzle.C.tidy 62 s (fun s' => runC spec_MakePuzzle.C (spec_MakePuzzle.O N) N spec_MakePuzzle.c63 63 s' spec_MakePuzzle.K0)) spec_MakePuzzle.K0)))) := by kernel_rfl
noncomputable def spec_MakePuzzle.d1 (N : Nat) (v0 : Int) (v1 : Int) (v2 : Int) (v3 : Int) (v4 : Bool) (v5 : Int) : Option spec_MakePuzzle.R := spec_MakePuzzle.o1 N v0 v1 v2 v3 v4 v5 ((fun w0 w1 w2 w3 w4 w5 => spec_MakePuzzle.l2 N N w0 w1 w2 w3 w4 w5))
theorem spec_MakePuzzle.d1.run (N : Nat) (v0 : Int) (v1 : Int) (v2 : Int) (v3 : Int) (v4 : Bool) (v5 : Int) : runC spec_MakePuzzle.C (spec_MakePuzzle.O N) N spec_MakePuzzle.c13 13 (mkSt [(0, .one (.int .i64 v0)), (1, .one (.int .i64 v1)), (2, .one (.int .i64 v2)), (3, .one (.int .i64 v3)), (8, .one (.ptr 8 0)), (34, .one (.bool v4))] [(8, some (24, [.int .i64 v5, .nl]))] : St D0) (spec_MakePuzzle.K13 N) = spec_MakePuzzle.d1 N v0 v1 v2 v3 v4 v5 := by
  unfold spec_MakePuzzle.d1; exact (spec_MakePuzzle.o1.run N spec_MakePuzzle.c248 v0 v1 v2 v3 v4 v5).trans (congr rfl (funext fun w0 => funext fun w1 => funext fun w2 => funext fun w3 => funext fun w4 => funext fun w5 => (spec_MakePuzzle.loop124 N N).1 w0 w1 w2 w3 w4 w5))
noncomputable def spec_MakePuzzle.o0 (N : Nat) (a0 : Int) (a1 : Int) (a2 : Int) (a3 : Int) (c1 : Int → Int → Int → Int → Bool → Int → Option spec_MakePuzzle.R) : Option spec_MakePuzzle.R :=
 (spec_diHours.g N a0).bind fun r1 =>
 bif (!r1) then
  c1 a0 a1 a2 a3 true 0
 else
 (spec_l1In.g N a1 0 (w64 ((w64 (60 * a0)) - 1))).bind fun r2 =>
 bif (!r2) then
  c1 a0 a1 a2 a3 true 0
 else
 (spec_l1In.g N a2 0 6).bind fun r3 =>
 bif (!r3) then
  c1 a0 a1 a2 a3 true 0
 else
 (spec_l1In.g N a3 0 9999).bind fun r4 =>
 c1 a0 a1 a2 a3 (!r4) 0
theorem spec_MakePuzzle.o0.run (N : Nat) (H13 : Code) (a0 : Int) (a1 : Int) (a2 : Int) (a3 : Int) : runC spec_MakePuzzle.C (spec_MakePuzzle.O N) N (.seq spec_MakePuzzle.c2 (.seq (.seq spec_MakePuzzle.c12 H13) spec_MakePuzzle.c7)) 1 (st0 [.one (.int .i64 a0), .one (.int .i64 a1), .one (.int .i64 a2), .one (.int .i64 a3)] [] : St D0) spec_MakePuzzle.K0 = spec_MakePuzzle.o0 N a0 a1 a2 a3 ((fun w0 w1 w2 w3 w4 w5 => runC spec_MakePuzzle.C (spec_MakePuzzle.O N) N H13 13 (mkSt [(0, .one (.int .i64 w0)), (1, .one (.int .i64 w1)), (2, .one (.int .i64 w2)), (3, .one (.int .i64 w3)), (8, .one (.ptr 8 0)), (34, .one (.bool w4))] [(8, some (24, [.int .i64 w5, .nl]))] : St D0) (onN (fun s => spec_MakePuzzle.C.tidy 6 s (fun s' => runC spec_MakePuzzle.C (spec_MakePuzzle.O N) N spec_MakePuzzle.c7 7 s' spec_MakePuzzle.K0)) spec_MakePuzzle.K0))) := by kernel_rfl
noncomputable def spec_MakePuzzle.B6 (N : Nat) : St D0 → Option spec_MakePuzzle.R := fun s' => runC spec_MakePuzzle.C (spec_MakePuzzle.O N) N spec_MakePuzzle.c13 13 s' (spec_MakePuzzle.K13 N)
noncomputable def spec_MakePuzzle.g (N : Nat) (a0 : Int) (a1 : Int) (a2 : Int) (a3 : Int) : Option spec_MakePuzzle.R := spec_MakePuzzle.o0 N a0 a1 a2 a3 ((fun w0 w1 w2 w3 w4 w5 => spec_MakePuzzle.d1 N w0 w1 w2 w3 w4 w5))
theorem spec_MakePuzzle.c1_0 : spec_MakePuzzle.c1 = (.seq spec_MakePuzzle.c2 (.seq (.seq spec_MakePuzzle.c12 spec_MakePuzzle.c13) spec_MakePuzzle.c7)) := by kernel_rfl
theorem spec_MakePuzzle.g.run (N : Nat) (a0 : Int) (a1 : Int) (a2 : Int) (a3 : Int) : runC spec_MakePuzzle.C (spec_MakePuzzle.O N) N spec_MakePuzzle.c1 1 (st0 [.one (.int .i64 a0), .one (.int .i64 a1), .one (.int .i64 a2), .one (.int .i64 a3)] [] : St D0) spec_MakePuzzle.K0 = spec_MakePuzzle.g N a0 a1 a2 a3 := by
  rw [spec_MakePuzzle.c1_0]; unfold spec_MakePuzzle.g; exact (spec_MakePuzzle.o0.run N spec_MakePuzzle.c13 a0 a1 a2 a3).trans (congr rfl (funext fun w0 => funext fun w1 => funext fun w2 => funext fun w3 => funext fun w4 => funext fun w5 => spec_MakePuzzle.d1.run N w0 w1 w2 w3 w4 w5))
theorem spec_MakePuzzle.good (N : Nat) (a0 : Int) (a1 : Int) (a2 : Int) (a3 : Int) (r : spec_MakePuzzle.R) (h : spec_MakePuzzle.g N a0 a1 a2 a3 = some r) : Go.PM.Good Go.Proofs.Try.prog T0 7 [.one (.int .i64 a0), .one (.int .i64 a1), .one (.int .i64 a2), .one (.int .i64 a3)] [] (spec_MakePuzzle.sig.ret r) (spec_MakePuzzle.sig.bs r) :=
  good_fn tabOk0 mixed0 spec_MakePuzzle.sig (spec_MakePuzzle.E N) Go.Proofs.Try.func7 (by kernel_rfl) (by kernel_rfl) 1127016598355727 576460752303423488 0 [(12, [0, 1, 2, 3, 8, 34], [8]), (124, [0, 1, 2, 8, 10, 11], [8, 10]), (15910, [0, 1, 2, 8, 10, 11, 12, 13], [8, 10])] [(true, [.any, .ro 38]), (false, [.any])] (by kernel_rfl) rfl ((spec_MakePuzzle.g.run N a0 a1 a2 a3).trans h)
noncomputable def spec_MakePuzzle.ent (N : Nat) : Ent Go.Proofs.Try.prog T0 := mkEnt 7 [(false, [.any]), (false, [.any]), (false, [.any]), (false, [.any])] spec_MakePuzzle.sig (fun t => spec_MakePuzzle.g N t.1 t.2.1 t.2.2.1 t.2.2.2) (fun t r h => spec_MakePuzzle.good N t.1 t.2.1 t.2.2.1 t.2.2.2 r h)
end Go.Proofs.Ytpeleommbipeaaa.M

namespace Go.Proofs.Ytpeleommbipeaaa.M
open Go Go.PM Go.Proofs.Ytpeleommbipeaaa.P
set_option linter.unusedVariables false
set_option maxRecDepth 100000
/-! ### impl_MakePuzzle_1 -/
abbrev impl_MakePuzzle_1.R : Type := Int × Int
abbrev impl_MakePuzzle_1.sig : Sig := ⟨[(false, 1), (false, 1)], [(3, 1)], [.int .i64, .ptr 0 0, .int .i64], [(false, 1)], [(3, 1)], [.int .i64, .int .i64]⟩
noncomputable def impl_MakePuzzle_1.C : Cfg D0 := ⟨Go.Proofs.Try.prog, T0, 11, 0, 11, 1, []⟩
noncomputable def impl_MakePuzzle_1.E (N : Nat) : List (Ent Go.Proofs.Try.prog T0) := []
noncomputable def impl_MakePuzzle_1.O (N : Nat) : Orc D0 impl_MakePuzzle_1.R := orcOf (impl_MakePuzzle_1.E N)
noncomputable def impl_MakePuzzle_1.K0 : Ex → St D0 → Option impl_MakePuzzle_1.R := exitK impl_MakePuzzle_1.C Go.Proofs.Try.f43.results.toList [(false, [.any])] (decOut impl_MakePuzzle_1.sig)
noncomputable def impl_MakePuzzle_1.c1 : Code := codeAt (Go.Proofs.Try.f43.body.getD .skip) []
noncomputable def impl_MakePuzzle_1.o0 (N : Nat) (a0 : Int) (b0_0 : Int) : Option impl_MakePuzzle_1.R :=
 bif (a0 == 0) then
  none
 else
 some ((Int.tmod (Int.tmod (w64 ((w64 (b0_0 * 163)) + 2917)) 10009) a0), (Int.tmod (w64 ((w64 (b0_0 * 163)) + 2917)) 10009))
theorem impl_MakePuzzle_1.o0.run (N : Nat) (a0 : Int) (b0_0 : Int) : runC impl_MakePuzzle_1.C (impl_MakePuzzle_1.O N) N impl_MakePuzzle_1.c1 1 (st0 [.one (.int .i64 a0), .one (.ptr 0 0)] [(3, [.int .i64 b0_0])] : St D0) impl_MakePuzzle_1.K0 = impl_MakePuzzle_1.o0 N a0 b0_0 := by kernel_rfl
noncomputable def impl_MakePuzzle_1.g (N : Nat) (a0 : Int) (b0_0 : Int) : Option impl_MakePuzzle_1.R := impl_MakePuzzle_1.o0 N a0 b0_0
theorem impl_MakePuzzle_1.g.run (N : Nat) (a0 : Int) (b0_0 : Int) : runC impl_MakePuzzle_1.C (impl_MakePuzzle_1.O N) N impl_MakePuzzle_1.c1 1 (st0 [.one (.int .i64 a0), .one (.ptr 0 0)] [(3, [.int .i64 b0_0])] : St D0) impl_MakePuzzle_1.K0 = impl_MakePuzzle_1.g N a0 b0_0 := by
  exact (impl_MakePuzzle_1.o0.run N a0 b0_0).trans rfl
theorem impl_MakePuzzle_1.good (N : Nat) (a0 : Int) (b0_0 : Int) (r : impl_MakePuzzle_1.R) (h : impl_MakePuzzle_1.g N a0 b0_0 = some r) : Go.PM.Good Go.Proofs.Try.prog T0 43 [.one (.int .i64 a0), .one (.ptr 0 0)] [(3, [.int .i64 b0_0])] (impl_MakePuzzle_1.sig.ret r) (impl_MakePuzzle_1.sig.bs r) :=
  good_fn tabOk0 mixed0 impl_MakePuzzle_1.sig (impl_MakePuzzle_1.E N) Go.Proofs.Try.func43 (by kernel_rfl) (by kernel_rfl) 11 0 1 [] [(false, [.any])] (by kernel_rfl) rfl ((impl_MakePuzzle_1.g.run N a0 b0_0).trans h)
noncomputable def impl_MakePuzzle_1.ent (N : Nat) : Ent Go.Proofs.Try.prog T0 := mkEnt 43 [(false, [.any]), (false, [.any])] impl_MakePuzzle_1.sig (fun t => impl_MakePuzzle_1.g N t.1 t.2.2) (fun t r h => impl_MakePuzzle_1.good N t.1 t.2.2 r h)
end Go.Proofs.Ytpeleommbipeaaa.M

namespace Go.Proofs.Ytpeleommbipeaaa.M
open Go Go.PM Go.Proofs.Ytpeleommbipeaaa.P
set_option linter.unusedVariables false
set_option maxRecDepth 100000
/-! ### impl_MakePuzzle -/
abbrev impl_MakePuzzle.R : Type := Int × List S38 × Bool
abbrev impl_MakePuzzle.sig : Sig := ⟨[(false, 1), (false, 1), (false, 1), (false, 1)], [], [.int .i64, .int .i64, .int .i64, .int .i64], [(true, 2), (false, 1)], [], [.int .i64, .sl false 38, .bool]⟩
noncomputable def impl_MakePuzzle.C : Cfg D0 := ⟨Go.Proofs.Try.prog, T0, 305076912015, 8796093022208, 54, 0, [(12, [0, 1, 2, 7, 8, 27], [7, 8]), (250, [0, 1, 8, 10, 11, 32, 33], [7, 8, 11]), (32050, [0, 1, 8, 10, 11, 12, 13, 32, 33], [7, 8, 11])]⟩
noncomputable def impl_MakePuzzle.E (N : Nat) : List (Ent Go.Proofs.Try.prog T0) := [impl_isMinute.ent N, impl_within.ent N, impl_MakePuzzle_1.ent N, impl_told.ent N]
noncomputable def impl_MakePuzzle.O (N : Nat) : Orc D0 impl_MakePuzzle.R := orcOf (impl_MakePuzzle.E N)
noncomputable def impl_MakePuzzle.K0 : Ex → St D0 → Option impl_MakePuzzle.R := exitK impl_MakePuzzle.C Go.Proofs.Try.f8.results.toList [(true, [.any, .ro 38]), (false, [.any])] (decOut impl_MakePuzzle.sig)
noncomputable def impl_MakePuzzle.c1 : Code := codeAt (Go.Proofs.Try.f8.body.getD .skip) []
noncomputable def impl_MakePuzzle.c2 : Code := codeAt (Go.Proofs.Try.f8.body.getD .skip) [false]
noncomputable def impl_MakePuzzle.c7 : Code := codeAt (Go.Proofs.Try.f8.body.getD .skip) [true, true]
noncomputable def impl_MakePuzzle.c12 : Code := codeAt (Go.Proofs.Try.f8.body.getD .skip) [true, false, false]
noncomputable def impl_MakePuzzle.c13 : Code := codeAt (Go.Proofs.Try.f8.body.getD .skip) [true, false, true]
noncomputable def impl_MakePuzzle.c14 : Code := codeAt (Go.Proofs.Try.f8.body.getD .skip) [true, true, false]
noncomputable def impl_MakePuzzle.c30 : Code := codeAt (Go.Proofs.Try.f8.body.getD .skip) [true, true, true, false]
noncomputable def impl_MakePuzzle.c63 : Code := codeAt (Go.Proofs.Try.f8.body.getD .skip) [true, true, true, true, true]
noncomputable def impl_MakePuzzle.c124 : Code := codeAt (Go.Proofs.Try.f8.body.getD .skip) [true, true, true, true, false, false]
noncomputable def impl_MakePuzzle.c500 : Code := codeAt (Go.Proofs.Try.f8.body.getD .skip) [true, true, true, true, false, true, false, false]
noncomputable def impl_MakePuzzle.c1000 : Code := codeAt (Go.Proofs.Try.f8.body.getD .skip) [true, true, true, true, false, true, false, false, false]
noncomputable def impl_MakePuzzle.c2002 : Code := codeAt (Go.Proofs.Try.f8.body.getD .skip) [true, true, true, true, false, true, false, false, true, false]
noncomputable def impl_MakePuzzle.c4007 : Code := codeAt (Go.Proofs.Try.f8.body.getD .skip) [true, true, true, true, false, true, false, false, true, true, true]
noncomputable def impl_MakePuzzle.c16024 : Code := codeAt (Go.Proofs.Try.f8.body.getD .skip) [true, true, true, true, false, true, false, false, true, true, false, false, false]
noncomputable def impl_MakePuzzle.c32050 : Code := codeAt (Go.Proofs.Try.f8.body.getD .skip) [true, true, true, true, false, true, false, false, true, true, false, false, true, false]
noncomputable def impl_MakePuzzle.c32051 : Code := codeAt (Go.Proofs.Try.f8.body.getD .skip) [true, true, true, true, false, true, false, false, true, true, false, false, true, true]
noncomputable def impl_MakePuzzle.K32051 (N : Nat) (Kn250 : St D0 → Option impl_MakePuzzle.R) : Ex → St D0 → Option impl_MakePuzzle.R := (blockK 1 (onN (fun s => impl_MakePuzzle.C.tidy 4006 s (fun s' => runC impl_MakePuzzle.C (impl_MakePuzzle.O N) N impl_MakePuzzle.c4007 4007 s' (onN (fun s => impl_MakePuzzle.C.tidy 250 s ((onN Kn250 (blockK 0 (onN (fun s => impl_MakePuzzle.C.tidy 62 s (fun s' => runC impl_MakePuzzle.C (impl_MakePuzzle.O N) N impl_MakePuzzle.c63 63 s' impl_MakePuzzle.K0)) impl_MakePuzzle.K0))) .normal)) (onN Kn250 (blockK 0 (onN (fun s => impl_MakePuzzle.C.tidy 62 s (fun s' => runC impl_MakePuzzle.C (impl_MakePuzzle.O N) N impl_MakePuzzle.c63 63 s' impl_MakePuzzle.K0)) impl_MakePuzzle.K0)))))) (onN (fun s => impl_MakePuzzle.C.tidy 250 s ((onN Kn250 (blockK 0 (onN (fun s => impl_MakePuzzle.C.tidy 62 s (fun s' => runC impl_MakePuzzle.C (impl_MakePuzzle.O N) N impl_MakePuzzle.c63 63 s' impl_MakePuzzle.K0)) impl_MakePuzzle.K0))) .normal)) (onN Kn250 (blockK 0 (onN (fun s => impl_MakePuzzle.C.tidy 62 s (fun s' => runC impl_MakePuzzle.C (impl_MakePuzzle.O N) N impl_MakePuzzle.c63 63 s' impl_MakePuzzle.K0)) impl_MakePuzzle.K0))))))
noncomputable def impl_MakePuzzle.o3 (N : Nat) (v0 : Int) (v1 : Int) (v2 : Int) (v3 : Int) (v4 : Int) (v5 : Int) (v6 : Int) (v7 : Int) (v8 : Int) (c4 : Int → Int → Int → Int → Int → Int → Int → (List S38) → Option impl_MakePuzzle.R) : Option impl_MakePuzzle.R :=
 (impl_told.g N v0 v1 v2 v3).bind fun r1 =>
 bif (Nat.blt (([] : List S38).length + ([(⟨r1.1, r1.2.1, r1.2.2⟩ : S38)] : List S38).length) 5864062014805) then
  c4 v0 v1 v4 (w64 (v5 + 1)) v6 v7 v8 (([] : List S38) ++ ([(⟨r1.1, r1.2.1, r1.2.2⟩ : S38)] : List S38))
 else
 none
theorem impl_MakePuzzle.o3.run (N : Nat) (Kn250 : St D0 → Option impl_MakePuzzle.R) (v0 : Int) (v1 : Int) (v2 : Int) (v3 : Int) (v4 : Int) (v5 : Int) (v6 : Int) (v7 : Int) (v8 : Int) : runC impl_MakePuzzle.C (impl_MakePuzzle.O N) N impl_MakePuzzle.c32051 32051 (mkSt [(0, .one (.int .i64 v0)), (1, .one (.int .i64 v1)), (8, .one (.ptr 8 0)), (10, .one (.fn 43 [7])), (11, .one (.ptr 11 0)), (12, .one (.int .i64 v2)), (13, .one (.int .i64 v3)), (32, .one (.int .i64 v4)), (33, .one (.int .i64 v5))] [(7, some (3, [.int .i64 v6])), (8, some (24, [.int .i64 v7, .nl])), (11, some (24, [.int .i64 v8, .nl]))] : St D0) (blockK 1 (onN (fun s => impl_MakePuzzle.C.tidy 4006 s (fun s' => runC impl_MakePuzzle.C (impl_MakePuzzle.O N) N impl_MakePuzzle.c4007 4007 s' (onN (fun s => impl_MakePuzzle.C.tidy 250 s ((onN Kn250 (blockK 0 (onN (fun s => impl_MakePuzzle.C.tidy 62 s (fun s' => runC impl_MakePuzzle.C (impl_MakePuzzle.O N) N impl_MakePuzzle.c63 63 s' impl_MakePuzzle.K0)) impl_MakePuzzle.K0))) .normal)) (onN Kn250 (blockK 0 (onN (fun s => impl_MakePuzzle.C.tidy 62 s (fun s' => runC impl_MakePuzzle.C (impl_MakePuzzle.O N) N impl_MakePuzzle.c63 63 s' impl_MakePuzzle.K0)) impl_MakePuzzle.K0)))))) (onN (fun s => impl_MakePuzzle.C.tidy 250 s ((onN Kn250 (blockK 0 (onN (fun s => impl_MakePuzzle.C.tidy 62 s (fun s' => runC impl_MakePuzzle.C (impl_MakePuzzle.O N) N impl_MakePuzzle.c63 63 s' impl_MakePuzzle.K0)) impl_MakePuzzle.K0))) .normal)) (onN Kn250 (blockK 0 (onN (fun s => impl_MakePuzzle.C.tidy 62 s (fun s' => runC impl_MakePuzzle.C (impl_MakePuzzle.O N) N impl_MakePuzzle.c63 63 s' impl_MakePuzzle.K0)) impl_MakePuzzle.K0)))))) = impl_MakePuzzle.o3 N v0 v1 v2 v3 v4 v5 v6 v7 v8 ((fun w0 w1 w2 w3 w4 w5 w6 w7 => Kn250 (mkSt [(0, .one (.int .i64 w0)), (1, .one (.int .i64 w1)), (8, .one (.ptr 8 0)), (10, .one (.fn 43 [7])), (11, .one (.ptr 11 0)), (32, .one (.int .i64 w2)), (33, .one (.int .i64 w3))] [(7, some (3, [.int .i64 w4])), (8, some (24, [.int .i64 w5, .nl])), (11, some (24, [.int .i64 w6, .sl true 38 w7]))] : St D0))) := by kernel_rfl
noncomputable def impl_MakePuzzle.d3 (N : Nat) (v0 : Int) (v1 : Int) (v2 : Int) (v3 : Int) (v4 : Int) (v5 : Int) (v6 : Int) (v7 : Int) (v8 : Int) (c4 : Int → Int → Int → Int → Int → Int → Int → (List S38) → Option impl_MakePuzzle.R) : Option impl_MakePuzzle.R := impl_MakePuzzle.o3 N v0 v1 v2 v3 v4 v5 v6 v7 v8 c4
theorem impl_MakePuzzle.d3.run (N : Nat) (Kn250 : St D0 → Option impl_MakePuzzle.R) (v0 : Int) (v1 : Int) (v2 : Int) (v3 : Int) (v4 : Int) (v5 : Int) (v6 : Int) (v7 : Int) (v8 : Int) : runC impl_MakePuzzle.C (impl_MakePuzzle.O N) N impl_MakePuzzle.c32051 32051 (mkSt [(0, .one (.int .i64 v0)), (1, .one (.int .i64 v1)), (8, .one (.ptr 8 0)), (10, .one (.fn 43 [7])), (11, .one (.ptr 11 0)), (12, .one (.int .i64 v2)), (13, .one (.int .i64 v3)), (32, .one (.int .i64 v4)), (33, .one (.int .i64 v5))] [(7, some (3, [.int .i64 v6])), (8, some (24, [.int .i64 v7, .nl])), (11, some (24, [.int .i64 v8, .nl]))] : St D0) (impl_MakePuzzle.K32051 N Kn250) = impl_MakePuzzle.d3 N v0 v1 v2 v3 v4 v5 v6 v7 v8 ((fun w0 w1 w2 w3 w4 w5 w6 w7 => Kn250 (mkSt [(0, .one (.int .i64 w0)), (1, .one (.int .i64 w1)), (8, .one (.ptr 8 0)), (10, .one (.fn 43 [7])), (11, .one (.ptr 11 0)), (32, .one (.int .i64 w2)), (33, .one (.int .i64 w3))] [(7, some (3, [.int .i64 w4])), (8, some (24, [.int .i64 w5, .nl])), (11, some (24, [.int .i64 w6, .sl true 38 w7]))] : St D0))) := by
  exact (impl_MakePuzzle.o3.run N Kn250 v0 v1 v2 v3 v4 v5 v6 v7 v8).trans rfl
noncomputable def impl_MakePuzzle.K500 (N : Nat) (Kn250 : St D0 → Option impl_MakePuzzle.R) : Ex → St D0 → Option impl_MakePuzzle.R := (onN (fun s => impl_MakePuzzle.C.tidy 250 s ((onN Kn250 (blockK 0 (onN (fun s => impl_MakePuzzle.C.tidy 62 s (fun s' => runC impl_MakePuzzle.C (impl_MakePuzzle.O N) N impl_MakePuzzle.c63 63 s' impl_MakePuzzle.K0)) impl_MakePuzzle.K0))) .normal)) (onN Kn250 (blockK 0 (onN (fun s => impl_MakePuzzle.C.tidy 62 s (fun s' => runC impl_MakePuzzle.C (impl_MakePuzzle.O N) N impl_MakePuzzle.c63 63 s' impl_MakePuzzle.K0)) impl_MakePuzzle.K0))))
noncomputable def impl_MakePuzzle.o2 (N : Nat) (v0 : Int) (v1 : Int) (v2 : Int) (v3 : Int) (v4 : Int) (v5 : Int) (v6 : Int) (c3 : Int → Int → Int → Int → Int → Int → Int → Int → Int → Option impl_MakePuzzle.R) : Option impl_MakePuzzle.R :=
 bif (decide (v3 < v2)) then
  (impl_MakePuzzle_1.g N 6 v4).bind fun r1 =>
  bif (r1.1 == 1) then
   (impl_MakePuzzle_1.g N 59 r1.2).bind fun r2 =>
   c3 v0 v1 r1.1 (w64 (r2.1 + 2)) v2 v3 r2.2 v5 v6
  else
  c3 v0 v1 r1.1 0 v2 v3 r1.2 v5 v6
 else
 some (v6, ([] : List S38), true)
theorem impl_MakePuzzle.o2.run (N : Nat) (Kn250 : St D0 → Option impl_MakePuzzle.R) (H32051 : Code) (v0 : Int) (v1 : Int) (v2 : Int) (v3 : Int) (v4 : Int) (v5 : Int) (v6 : Int) : runC impl_MakePuzzle.C (impl_MakePuzzle.O N) N (.seq impl_MakePuzzle.c1000 (.seq impl_MakePuzzle.c2002 (.seq (.block 1 (.seq impl_MakePuzzle.c16024 (.seq impl_MakePuzzle.c32050 H32051))) impl_MakePuzzle.c4007))) 500 (mkSt [(0, .one (.int .i64 v0)), (1, .one (.int .i64 v1)), (8, .one (.ptr 8 0)), (10, .one (.fn 43 [7])), (11, .one (.ptr 11 0)), (32, .one (.int .i64 v2)), (33, .one (.int .i64 v3))] [(7, some (3, [.int .i64 v4])), (8, some (24, [.int .i64 v5, .nl])), (11, some (24, [.int .i64 v6, .nl]))] : St D0) (onN (fun s => impl_MakePuzzle.C.tidy 250 s ((onN Kn250 (blockK 0 (onN (fun s => impl_MakePuzzle.C.tidy 62 s (fun s' => runC impl_MakePuzzle.C (impl_MakePuzzle.O N) N impl_MakePuzzle.c63 63 s' impl_MakePuzzle.K0)) impl_MakePuzzle.K0))) .normal)) (onN Kn250 (blockK 0 (onN (fun s => impl_MakePuzzle.C.tidy 62 s (fun s' => runC impl_MakePuzzle.C (impl_MakePuzzle.O N) N impl_MakePuzzle.c63 63 s' impl_MakePuzzle.K0)) impl_MakePuzzle.K0)))) = impl_MakePuzzle.o2 N v0 v1 v2 v3 v4 v5 v6 ((fun w0 w1 w2 w3 w4 w5 w6 w7 w8 => runC impl_MakePuzzle.C (impl_MakePuzzle.O N) N H32051 32051 (mkSt [(0, .one (.int .i64 w0)), (1, .one (.int .i64 w1)), (8, .one (.ptr 8 0)), (10, .one (.fn 43 [7])), (11, .one (.ptr 11 0)), (12, .one (.int .i64 w2)), (13, .one (.int .i64 w3)), (32, .one (.int .i64 w4)), (33, .one (.int .i64 w5))] [(7, some (3, [.int .i64 w6])), (8, some (24, [.int .i64 w7, .nl])), (11, some (24, [.int .i64 w8, .nl]))] : St D0) (blockK 1 (onN (fun s => impl_MakePuzzle.C.tidy 4006 s (fun s' => runC impl_MakePuzzle.C (impl_MakePuzzle.O N) N impl_MakePuzzle.c4007 4007 s' (onN (fun s => impl_MakePuzzle.C.tidy 250 s ((onN Kn250 (blockK 0 (onN (fun s => impl_MakePuzzle.C.tidy 62 s (fun s' => runC impl_MakePuzzle.C (impl_MakePuzzle.O N) N impl_MakePuzzle.c63 63 s' impl_MakePuzzle.K0)) impl_MakePuzzle.K0))) .normal)) (onN Kn250 (blockK 0 (onN (fun s => impl_MakePuzzle.C.tidy 62 s (fun s' => runC impl_MakePuzzle.C (impl_MakePuzzle.O N) N impl_MakePuzzle.c63 63 s' impl_MakePuzzle.K0)) impl_MakePuzzle.K0)))))) (onN (fun s => impl_MakePuzzle.C.tidy 250 s ((onN Kn250 (blockK 0 (onN (fun s => impl_MakePuzzle.C.tidy 62 s (fun s' => runC impl_MakePuzzle.C (impl_MakePuzzle.O N) N impl_MakePuzzle.c63 63 s' impl_MakePuzzle.K0)) impl_MakePuzzle.K0))) .normal)) (onN Kn250 (blockK 0 (onN (fun s => impl_MakePuzzle.C.tidy 62 s (fun s' => runC impl_MakePuzzle.C (impl_MakePuzzle.O N) N impl_MakePuzzle.c63 63 s' impl_MakePuzzle.K0)) impl_MakePuzzle.K0)))))))) := by kernel_rfl
noncomputable def impl_MakePuzzle.B16025 (N : Nat) (Kn250 : St D0 → Option impl_MakePuzzle.R) : St D0 → Option impl_MakePuzzle.R := fun s' => runC impl_MakePuzzle.C (impl_MakePuzzle.O N) N impl_MakePuzzle.c32051 32051 s' (impl_MakePuzzle.K32051 N Kn250)
noncomputable def impl_MakePuzzle.d2 (N : Nat) (v0 : Int) (v1 : Int) (v2 : Int) (v3 : Int) (v4 : Int) (v5 : Int) (v6 : Int) (c4 : Int → Int → Int → Int → Int → Int → Int → (List S38) → Option impl_MakePuzzle.R) : Option impl_MakePuzzle.R := impl_MakePuzzle.o2 N v0 v1 v2 v3 v4 v5 v6 ((fun w0 w1 w2 w3 w4 w5 w6 w7 w8 => impl_MakePuzzle.d3 N w0 w1 w2 w3 w4 w5 w6 w7 w8 c4))
theorem impl_MakePuzzle.c500_2 : impl_MakePuzzle.c500 = (.seq impl_MakePuzzle.c1000 (.seq impl_MakePuzzle.c2002 (.seq (.block 1 (.seq impl_MakePuzzle.c16024 (.seq impl_MakePuzzle.c32050 impl_MakePuzzle.c32051))) impl_MakePuzzle.c4007))) := by kernel_rfl
theorem impl_MakePuzzle.d2.run (N : Nat) (Kn250 : St D0 → Option impl_MakePuzzle.R) (v0 : Int) (v1 : Int) (v2 : Int) (v3 : Int) (v4 : Int) (v5 : Int) (v6 : Int) : runC impl_MakePuzzle.C (impl_MakePuzzle.O N) N impl_MakePuzzle.c500 500 (mkSt [(0, .one (.int .i64 v0)), (1, .one (.int .i64 v1)), (8, .one (.ptr 8 0)), (10, .one (.fn 43 [7])), (11, .one (.ptr 11 0)), (32, .one (.int .i64 v2)), (33, .one (.int .i64 v3))] [(7, some (3, [.int .i64 v4])), (8, some (24, [.int .i64 v5, .nl])), (11, some (24, [.int .i64 v6, .nl]))] : St D0) (impl_MakePuzzle.K500 N Kn250) = impl_MakePuzzle.d2 N v0 v1 v2 v3 v4 v5 v6 ((fun w0 w1 w2 w3 w4 w5 w6 w7 => Kn250 (mkSt [(0, .one (.int .i64 w0)), (1, .one (.int .i64 w1)), (8, .one (.ptr 8 0)), (10, .one (.fn 43 [7])), (11, .one (.ptr 11 0)), (32, .one (.int .i64 w2)), (33, .one (.int .i64 w3))] [(7, some (3, [.int .i64 w4])), (8, some (24, [.int .i64 w5, .nl])), (11, some (24, [.int .i64 w6, .sl true 38 w7]))] : St D0))) := by
  rw [impl_MakePuzzle.c500_2]; unfold impl_MakePuzzle.d2; exact (impl_MakePuzzle.o2.run N Kn250 impl_MakePuzzle.c32051 v0 v1 v2 v3 v4 v5 v6).trans (congr rfl (funext fun w0 => funext fun w1 => funext fun w2 => funext fun w3 => funext fun w4 => funext fun w5 => funext fun w6 => funext fun w7 => funext fun w8 => impl_MakePuzzle.d3.run N Kn250 w0 w1 w2 w3 w4 w5 w6 w7 w8))
noncomputable def impl_MakePuzzle.o5 (N : Nat) (v0 : Int) (v1 : Int) (v2 : Int) (v3 : Int) (v4 : Int) (v5 : Int) (v6 : Int) (v7 : Int) (v8 : Int) (v9 : List S38) (c4 : Int → Int → Int → Int → Int → Int → Int → (List S38) → Option impl_MakePuzzle.R) : Option impl_MakePuzzle.R :=
 (impl_told.g N v0 v1 v2 v3).bind fun r1 =>
 bif (Nat.blt (v9.length + ([(⟨r1.1, r1.2.1, r1.2.2⟩ : S38)] : List S38).length) 5864062014805) then
  c4 v0 v1 v4 (w64 (v5 + 1)) v6 v7 v8 (v9 ++ ([(⟨r1.1, r1.2.1, r1.2.2⟩ : S38)] : List S38))
 else
 none
theorem impl_MakePuzzle.o5.run (N : Nat) (Kn250 : St D0 → Option impl_MakePuzzle.R) (v0 : Int) (v1 : Int) (v2 : Int) (v3 : Int) (v4 : Int) (v5 : Int) (v6 : Int) (v7 : Int) (v8 : Int) (v9 : List S38) : runC impl_MakePuzzle.C (impl_MakePuzzle.O N) N impl_MakePuzzle.c32051 32051 (mkSt [(0, .one (.int .i64 v0)), (1, .one (.int .i64 v1)), (8, .one (.ptr 8 0)), (10, .one (.fn 43 [7])), (11, .one (.ptr 11 0)), (12, .one (.int .i64 v2)), (13, .one (.int .i64 v3)), (32, .one (.int .i64 v4)), (33, .one (.int .i64 v5))] [(7, some (3, [.int .i64 v6])), (8, some (24, [.int .i64 v7, .nl])), (11, some (24, [.int .i64 v8, .sl true 38 v9]))] : St D0) (blockK 1 (onN (fun s => impl_MakePuzzle.C.tidy 4006 s (fun s' => runC impl_MakePuzzle.C (impl_MakePuzzle.O N) N impl_MakePuzzle.c4007 4007 s' (onN (fun s => impl_MakePuzzle.C.tidy 250 s ((onN Kn250 (blockK 0 (onN (fun s => impl_MakePuzzle.C.tidy 62 s (fun s' => runC impl_MakePuzzle.C (impl_MakePuzzle.O N) N impl_MakePuzzle.c63 63 s' impl_MakePuzzle.K0)) impl_MakePuzzle.K0))) .normal)) (onN Kn250 (blockK 0 (onN (fun s => impl_MakePuzzle.C.tidy 62 s (fun s' => runC impl_MakePuzzle.C (impl_MakePuzzle.O N) N impl_MakePuzzle.c63 63 s' impl_MakePuzzle.K0)) impl_MakePuzzle.K0)))))) (onN (fun s => impl_MakePuzzle.C.tidy 250 s ((onN Kn250 (blockK 0 (onN (fun s => impl_MakePuzzle.C.tidy 62 s (fun s' => runC impl_MakePuzzle.C (impl_MakePuzzle.O N) N impl_MakePuzzle.c63 63 s' impl_MakePuzzle.K0)) impl_MakePuzzle.K0))) .normal)) (onN Kn250 (blockK 0 (onN (fun s => impl_MakePuzzle.C.tidy 62 s (fun s' => runC impl_MakePuzzle.C (impl_MakePuzzle.O N) N impl_MakePuzzle.c63 63 s' impl_MakePuzzle.K0)) impl_MakePuzzle.K0)))))) = impl_MakePuzzle.o5 N v0 v1 v2 v3 v4 v5 v6 v7 v8 v9 ((fun w0 w1 w2 w3 w4 w5 w6 w7 => Kn250 (mkSt [(0, .one (.int .i64 w0)), (1, .one (.int .i64 w1)), (8, .one (.ptr 8 0)), (10, .one (.fn 43 [7])), (11, .one (.ptr 11 0)), (32, .one (.int .i64 w2)), (33, .one (.int .i64 w3))] [(7, some (3, [.int .i64 w4])), (8, some (24, [.int .i64 w5, .nl])), (11, some (24, [.int .i64 w6, .sl true 38 w7]))] : St D0))) := by kernel_rfl
noncomputable def impl_MakePuzzle.d5 (N : Nat) (v0 : Int) (v1 : Int) (v2 : Int) (v3 : Int) (v4 : Int) (v5 : Int) (v6 : Int) (v7 : Int) (v8 : Int) (v9 : List S38) (c4 : Int → Int → Int → Int → Int → Int → Int → (List S38) → Option impl_MakePuzzle.R) : Option impl_MakePuzzle.R := impl_MakePuzzle.o5 N v0 v1 v2 v3 v4 v5 v6 v7 v8 v9 c4
theorem impl_MakePuzzle.d5.run (N : Nat) (Kn250 : St D0 → Option impl_MakePuzzle.R) (v0 : Int) (v1 : Int) (v2 : Int) (v3 : Int) (v4 : Int) (v5 : Int) (v6 : Int) (v7 : Int) (v8 : Int) (v9 : List S38) : runC impl_MakePuzzle.C (impl_MakePuzzle.O N) N impl_MakePuzzle.c32051 32051 (mkSt [(0, .one (.int .i64 v0)), (1, .one (.int .i64 v1)), (8, .one (.ptr 8 0)), (10, .one (.fn 43 [7])), (11, .one (.ptr 11 0)), (12, .one (.int .i64 v2)), (13, .one (.int .i64 v3)), (32, .one (.int .i64 v4)), (33, .one (.int .i64 v5))] [(7, some (3, [.int .i64 v6])), (8, some (24, [.int .i64 v7, .nl])), (11, some (24, [.int .i64 v8, .sl true 38 v9]))] : St D0) (impl_MakePuzzle.K32051 N Kn250) = impl_MakePuzzle.d5 N v0 v1 v2 v3 v4 v5 v6 v7 v8 v9 ((fun w0 w1 w2 w3 w4 w5 w6 w7 => Kn250 (mkSt [(0, .one (.int .i64 w0)), (1, .one (.int .i64 w1)), (8, .one (.ptr 8 0)), (10, .one (.fn 43 [7])), (11, .one (.ptr 11 0)), (32, .one (.int .i64 w2)), (33, .one (.int .i64 w3))] [(7, some (3, [.int .i64 w4])), (8, some (24, [.int .i64 w5, .nl])), (11, some (24, [.int .i64 w6, .sl true 38 w7]))] : St D0))) := by
  exact (impl_MakePuzzle.o5.run N Kn250 v0 v1 v2 v3 v4 v5 v6 v7 v8 v9).trans rfl
noncomputable def impl_MakePuzzle.o4 (N : Nat) (v0 : Int) (v1 : Int) (v2 : Int) (v3 : Int) (v4 : Int) (v5 : Int) (v6 : Int) (v7 : List S38) (c5 : Int → Int → Int → Int → Int → Int → Int → Int → Int → (List S38) → Option impl_MakePuzzle.R) : Option impl_MakePuzzle.R :=
 bif (decide (v3 < v2)) then
  (impl_MakePuzzle_1.g N 6 v4).bind fun r1 =>
  bif (r1.1 == 1) then
   (impl_MakePuzzle_1.g N 59 r1.2).bind fun r2 =>
   c5 v0 v1 r1.1 (w64 (r2.1 + 2)) v2 v3 r2.2 v5 v6 v7
  else
  c5 v0 v1 r1.1 0 v2 v3 r1.2 v5 v6 v7
 else
 some (v6, v7, true)
theorem impl_MakePuzzle.o4.run (N : Nat) (Kn250 : St D0 → Option impl_MakePuzzle.R) (H32051 : Code) (v0 : Int) (v1 : Int) (v2 : Int) (v3 : Int) (v4 : Int) (v5 : Int) (v6 : Int) (v7 : List S38) : runC impl_MakePuzzle.C (impl_MakePuzzle.O N) N (.seq impl_MakePuzzle.c1000 (.seq impl_MakePuzzle.c2002 (.seq (.block 1 (.seq impl_MakePuzzle.c16024 (.seq impl_MakePuzzle.c32050 H32051))) impl_MakePuzzle.c4007))) 500 (mkSt [(0, .one (.int .i64 v0)), (1, .one (.int .i64 v1)), (8, .one (.ptr 8 0)), (10, .one (.fn 43 [7])), (11, .one (.ptr 11 0)), (32, .one (.int .i64 v2)), (33, .one (.int .i64 v3))] [(7, some (3, [.int .i64 v4])), (8, some (24, [.int .i64 v5, .nl])), (11, some (24, [.int .i64 v6, .sl true 38 v7]))] : St D0) (onN (fun s => impl_MakePuzzle.C.tidy 250 s ((onN Kn250 (blockK 0 (onN (fun s => impl_MakePuzzle.C.tidy 62 s (fun s' => runC impl_MakePuzzle.C (impl_MakePuzzle.O N) N impl_MakePuzzle.c63 63 s' impl_MakePuzzle.K0)) impl_MakePuzzle.K0))) .normal)) (onN Kn250 (blockK 0 (onN (fun s => impl_MakePuzzle.C.tidy 62 s (fun s' => runC impl_MakePuzzle.C (impl_MakePuzzle.O N) N impl_MakePuzzle.c63 63 s' impl_MakePuzzle.K0)) impl_MakePuzzle.K0)))) = impl_MakePuzzle.o4 N v0 v1 v2 v3 v4 v5 v6 v7 ((fun w0 w1 w2 w3 w4 w5 w6 w7 w8 w9 => runC impl_MakePuzzle.C (impl_MakePuzzle.O N) N H32051 32051 (mkSt [(0, .one (.int .i64 w0)), (1, .one (.int .i64 w1)), (8, .one (.ptr 8 0)), (10, .one (.fn 43 [7])), (11, .one (.ptr 11 0)), (12, .one (.int .i64 w2)), (13, .one (.int .i64 w3)), (32, .one (.int .i64 w4)), (33, .one (.int .i64 w5))] [(7, some (3, [.int .i64 w6])), (8, some (24, [.int .i64 w7, .nl])), (11, some (24, [.int .i64 w8, .sl true 38 w9]))] : St D0) (blockK 1 (onN (fun s => impl_MakePuzzle.C.tidy 4006 s (fun s' => runC impl_MakePuzzle.C (impl_MakePuzzle.O N) N impl_MakePuzzle.c4007 4007 s' (onN (fun s => impl_MakePuzzle.C.tidy 250 s ((onN Kn250 (blockK 0 (onN (fun s => impl_MakePuzzle.C.tidy 62 s (fun s' => runC impl_MakePuzzle.C (impl_MakePuzzle.O N) N impl_MakePuzzle.c63 63 s' impl_MakePuzzle.K0)) impl_MakePuzzle.K0))) .normal)) (onN Kn250 (blockK 0 (onN (fun s => impl_MakePuzzle.C.tidy 62 s (fun s' => runC impl_MakePuzzle.C (impl_MakePuzzle.O N) N impl_MakePuzzle.c63 63 s' impl_MakePuzzle.K0)) impl_MakePuzzle.K0)))))) (onN (fun s => impl_MakePuzzle.C.tidy 250 s ((onN Kn250 (blockK 0 (onN (fun s => impl_MakePuzzle.C.tidy 62 s (fun s' => runC impl_MakePuzzle.C (impl_MakePuzzle.O N) N impl_MakePuzzle.c63 63 s' impl_MakePuzzle.K0)) impl_MakePuzzle.K0))) .normal)) (onN Kn250 (blockK 0 (onN (fun s => impl_MakePuzzle.C.tidy 62 s (fun s' => runC impl_MakePuzzle.C (impl_MakePuzzle.O N) N impl_MakePuzzle.c63 63 s' impl_MakePuzzle.K0)) impl_MakePuzzle.K0)))))))) := by kernel_rfl
noncomputable def impl_MakePuzzle.d4 (N : Nat) (v0 : Int) (v1 : Int) (v2 : Int) (v3 : Int) (v4 : Int) (v5 : Int) (v6 : Int) (v7 : List S38) (c4 : Int → Int → Int → Int → Int → Int → Int → (List S38) → Option impl_MakePuzzle.R) : Option impl_MakePuzzle.R := impl_MakePuzzle.o4 N v0 v1 v2 v3 v4 v5 v6 v7 ((fun w0 w1 w2 w3 w4 w5 w6 w7 w8 w9 => impl_MakePuzzle.d5 N w0 w1 w2 w3 w4 w5 w6 w7 w8 w9 c4))
theorem impl_MakePuzzle.c500_4 : impl_MakePuzzle.c500 = (.seq impl_MakePuzzle.c1000 (.seq impl_MakePuzzle.c2002 (.seq (.block 1 (.seq impl_MakePuzzle.c16024 (.seq impl_MakePuzzle.c32050 impl_MakePuzzle.c32051))) impl_MakePuzzle.c4007))) := by kernel_rfl
theorem impl_MakePuzzle.d4.run (N : Nat) (Kn250 : St D0 → Option impl_MakePuzzle.R) (v0 : Int) (v1 : Int) (v2 : Int) (v3 : Int) (v4 : Int) (v5 : Int) (v6 : Int) (v7 : List S38) : runC impl_MakePuzzle.C (impl_MakePuzzle.O N) N impl_MakePuzzle.c500 500 (mkSt [(0, .one (.int .i64 v0)), (1, .one (.int .i64 v1)), (8, .one (.ptr 8 0)), (10, .one (.fn 43 [7])), (11, .one (.ptr 11 0)), (32, .one (.int .i64 v2)), (33, .one (.int .i64 v3))] [(7, some (3, [.int .i64 v4])), (8, some (24, [.int .i64 v5, .nl])), (11, some (24, [.int .i64 v6, .sl true 38 v7]))] : St D0) (impl_MakePuzzle.K500 N Kn250) = impl_MakePuzzle.d4 N v0 v1 v2 v3 v4 v5 v6 v7 ((fun w0 w1 w2 w3 w4 w5 w6 w7 => Kn250 (mkSt [(0, .one (.int .i64 w0)), (1, .one (.int .i64 w1)), (8, .one (.ptr 8 0)), (10, .one (.fn 43 [7])), (11, .one (.ptr 11 0)), (32, .one (.int .i64 w2)), (33, .one (.int .i64 w3))] [(7, some (3, [.int .i64 w4])), (8, some (24, [.int .i64 w5, .nl])), (11, some (24, [.int .i64 w6, .sl true 38 w7]))] : St D0))) := by
  rw [impl_MakePuzzle.c500_4]; unfold impl_MakePuzzle.d4; exact (impl_MakePuzzle.o4.run N Kn250 impl_MakePuzzle.c32051 v0 v1 v2 v3 v4 v5 v6 v7).trans (congr rfl (funext fun w0 => funext fun w1 => funext fun w2 => funext fun w3 => funext fun w4 => funext fun w5 => funext fun w6 => funext fun w7 => funext fun w8 => funext fun w9 => impl_MakePuzzle.d5.run N Kn250 w0 w1 w2 w3 w4 w5 w6 w7 w8 w9))
noncomputable def impl_MakePuzzle.K250 (N : Nat) : Ex → St D0 → Option impl_MakePuzzle.R := (blockK 0 (onN (fun s => impl_MakePuzzle.C.tidy 62 s (fun s' => runC impl_MakePuzzle.C (impl_MakePuzzle.O N) N impl_MakePuzzle.c63 63 s' impl_MakePuzzle.K0)) impl_MakePuzzle.K0))
mutual
noncomputable def impl_MakePuzzle.l2 (N : Nat) : Nat → Int → Int → Int → Int → Int → Int → Int → Option impl_MakePuzzle.R
  | 0, _, _, _, _, _, _, _ => none
  | n + 1, v0, v1, v2, v3, v4, v5, v6 => impl_MakePuzzle.d2 N v0 v1 v2 v3 v4 v5 v6 ((fun w0 w1 w2 w3 w4 w5 w6 w7 => impl_MakePuzzle.l4 N n w0 w1 w2 w3 w4 w5 w6 w7))
noncomputable def impl_MakePuzzle.l4 (N : Nat) : Nat → Int → Int → Int → Int → Int → Int → Int → (List S38) → Option impl_MakePuzzle.R
  | 0, _, _, _, _, _, _, _, _ => none
  | n + 1, v0, v1, v2, v3, v4, v5, v6, v7 => impl_MakePuzzle.d4 N v0 v1 v2 v3 v4 v5 v6 v7 ((fun w0 w1 w2 w3 w4 w5 w6 w7 => impl_MakePuzzle.l4 N n w0 w1 w2 w3 w4 w5 w6 w7))
end
theorem impl_MakePuzzle.loop250 (N : Nat) : ∀ n, (∀ (v0 : Int) (v1 : Int) (v2 : Int) (v3 : Int) (v4 : Int) (v5 : Int) (v6 : Int), iter (loopF impl_MakePuzzle.C (impl_MakePuzzle.O N) N impl_MakePuzzle.c500 250) n (mkSt [(0, .one (.int .i64 v0)), (1, .one (.int .i64 v1)), (8, .one (.ptr 8 0)), (10, .one (.fn 43 [7])), (11, .one (.ptr 11 0)), (32, .one (.int .i64 v2)), (33, .one (.int .i64 v3))] [(7, some (3, [.int .i64 v4])), (8, some (24, [.int .i64 v5, .nl])), (11, some (24, [.int .i64 v6, .nl]))] : St D0) (impl_MakePuzzle.K250 N) = impl_MakePuzzle.l2 N n v0 v1 v2 v3 v4 v5 v6) ∧ (∀ (v0 : Int) (v1 : Int) (v2 : Int) (v3 : Int) (v4 : Int) (v5 : Int) (v6 : Int) (v7 : List S38), iter (loopF impl_MakePuzzle.C (impl_MakePuzzle.O N) N impl_MakePuzzle.c500 250) n (mkSt [(0, .one (.int .i64 v0)), (1, .one (.int .i64 v1)), (8, .one (.ptr 8 0)), (10, .one (.fn 43 [7])), (11, .one (.ptr 11 0)), (32, .one (.int .i64 v2)), (33, .one (.int .i64 v3))] [(7, some (3, [.int .i64 v4])), (8, some (24, [.int .i64 v5, .nl])), (11, some (24, [.int .i64 v6, .sl true 38 v7]))] : St D0) (impl_MakePuzzle.K250 N) = impl_MakePuzzle.l4 N n v0 v1 v2 v3 v4 v5 v6 v7)
  | 0 => ⟨(fun v0 v1 v2 v3 v4 v5 v6 => rfl), (fun v0 v1 v2 v3 v4 v5 v6 v7 => rfl)⟩
  | n + 1 => ⟨(fun v0 v1 v2 v3 v4 v5 v6 => (impl_MakePuzzle.d2.run N (fun s => iter (loopF impl_MakePuzzle.C (impl_MakePuzzle.O N) N impl_MakePuzzle.c500 250) n s (impl_MakePuzzle.K250 N)) v0 v1 v2 v3 v4 v5 v6).trans (show _ = impl_MakePuzzle.d2 N v0 v1 v2 v3 v4 v5 v6 ((fun w0 w1 w2 w3 w4 w5 w6 w7 => impl_MakePuzzle.l4 N n w0 w1 w2 w3 w4 w5 w6 w7)) from (congr rfl (funext fun w0 => funext fun w1 => funext fun w2 => funext fun w3 => funext fun w4 => funext fun w5 => funext fun w6 => funext fun w7 => (impl_MakePuzzle.loop250 N n).2 w0 w1 w2 w3 w4 w5 w6 w7)))), (fun v0 v1 v2 v3 v4 v5 v6 v7 => (impl_MakePuzzle.d4.run N (fun s => iter (loopF impl_MakePuzzle.C (impl_MakePuzzle.O N) N impl_MakePuzzle.c500 250) n s (impl_MakePuzzle.K250 N)) v0 v1 v2 v3 v4 v5 v6 v7).trans (show _ = impl_MakePuzzle.d4 N v0 v1 v2 v3 v4 v5 v6 v7 ((fun w0 w1 w2 w3 w4 w5 w6 w7 => impl_MakePuzzle.l4 N n w0 w1 w2 w3 w4 w5 w6 w7)) from (congr rfl (funext fun w0 => funext fun w1 => funext fun w2 => funext fun w3 => funext fun w4 => funext fun w5 => funext fun w6 => funext fun w7 => (impl_MakePuzzle.loop250 N n).2 w0 w1 w2 w3 w4 w5 w6 w7))))⟩
noncomputable def impl_MakePuzzle.K13 (N : Nat) : Ex → St D0 → Option impl_MakePuzzle.R := (onN (fun s => impl_MakePuzzle.C.tidy 6 s (fun s' => runC impl_MakePuzzle.C (impl_MakePuzzle.O N) N impl_MakePuzzle.c7 7 s' impl_MakePuzzle.K0)) impl_MakePuzzle.K0)
noncomputable def impl_MakePuzzle.o1 (N : Nat) (v0 : Int) (v1 : Int) (v2 : Int) (v3 : Bool) (v4 : Int) (v5 : Int) (c2 : Int → Int → Int → Int → Int → Int → Int → Option impl_MakePuzzle.R) : Option impl_MakePuzzle.R :=
 bif v3 then
  some (0, ([] : List S38), false)
 else
 c2 v0 v1 v2 0 v4 v5 v0
theorem impl_MakePuzzle.o1.run (N : Nat) (H500 : Code) (v0 : Int) (v1 : Int) (v2 : Int) (v3 : Bool) (v4 : Int) (v5 : Int) : runC impl_MakePuzzle.C (impl_MakePuzzle.O N) N impl_MakePuzzle.c13 13 (mkSt [(0, .one (.int .i64 v0)), (1, .one (.int .i64 v1)), (2, .one (.int .i64 v2)), (7, .one (.ptr 7 0)), (8, .one (.ptr 8 0)), (27, .one (.bool v3))] [(7, some (3, [.int .i64 v4])), (8, some (24, [.int .i64 v5, .nl]))] : St D0) (onN (fun s => impl_MakePuzzle.C.tidy 6 s (fun s' => runC impl_MakePuzzle.C (impl_MakePuzzle.O N) N (.seq impl_MakePuzzle.c14 (.seq impl_MakePuzzle.c30 (.seq (.seq impl_MakePuzzle.c124 (.block 0 (.loop H500))) impl_MakePuzzle.c63))) 7 s' impl_MakePuzzle.K0)) impl_MakePuzzle.K0) = impl_MakePuzzle.o1 N v0 v1 v2 v3 v4 v5 ((fun w0 w1 w2 w3 w4 w5 w6 => iter (loopF impl_MakePuzzle.C (impl_MakePuzzle.O N) N H500 250) N (mkSt [(0, .one (.int .i64 w0)), (1, .one (.int .i64 w1)), (8, .one (.ptr 8 0)), (10, .one (.fn 43 [7])), (11, .one (.ptr 11 0)), (32, .one (.int .i64 w2)), (33, .one (.int .i64 w3))] [(7, some (3, [.int .i64 w4])), (8, some (24, [.int .i64 w5, .nl])), (11, some (24, [.int .i64 w6, .nl]))] : St D0) (blockK 0 (onN (fun s => impl_MakePuzzle.C.tidy 62 s (fun s' => runC impl_MakePuzzle.C (impl_MakePuzzle.O N) N impl_MakePuzzle.c63 63 s' impl_MakePuzzle.K0)) impl_MakePuzzle.K0)))) := by kernel_rfl
noncomputable def impl_MakePuzzle.d1 (N : Nat) (v0 : Int) (v1 : Int) (v2 : Int) (v3 : Bool) (v4 : Int) (v5 : Int) : Option impl_MakePuzzle.R := impl_MakePuzzle.o1 N v0 v1 v2 v3 v4 v5 ((fun w0 w1 w2 w3 w4 w5 w6 => impl_MakePuzzle.l2 N N w0 w1 w2 w3 w4 w5 w6))
theorem impl_MakePuzzle.d1.run (N : Nat) (v0 : Int) (v1 : Int) (v2 : Int) (v3 : Bool) (v4 : Int) (v5 : Int) : runC impl_MakePuzzle.C (impl_MakePuzzle.O N) N impl_MakePuzzle.c13 13 (mkSt [(0, .one (.int .i64 v0)), (1, .one (.int .i64 v1)), (2, .one (.int .i64 v2)), (7, .one (.ptr 7 0)), (8, .one (.ptr 8 0)), (27, .one (.bool v3))] [(7, some (3, [.int .i64 v4])), (8, some (24, [.int .i64 v5, .nl]))] : St D0) (impl_MakePuzzle.K13 N) = impl_MakePuzzle.d1 N v0 v1 v2 v3 v4 v5 := by
  unfold impl_MakePuzzle.d1; exact (impl_MakePuzzle.o1.run N impl_MakePuzzle.c500 v0 v1 v2 v3 v4 v5).trans (congr rfl (funext fun w0 => funext fun w1 => funext fun w2 => funext fun w3 => funext fun w4 => funext fun w5 => funext fun w6 => (impl_MakePuzzle.loop250 N N).1 w0 w1 w2 w3 w4 w5 w6))
noncomputable def impl_MakePuzzle.o0 (N : Nat) (a0 : Int) (a1 : Int) (a2 : Int) (a3 : Int) (c1 : Int → Int → Int → Bool → Int → Int → Option impl_MakePuzzle.R) : Option impl_MakePuzzle.R :=
 (impl_isMinute.g N a0 a1).bind fun r1 =>
 bif (!r1) then
  c1 a0 a1 a2 true a3 0
 else
 (impl_within.g N a2 0 6).bind fun r2 =>
 bif (!r2) then
  c1 a0 a1 a2 true a3 0
 else
 (impl_within.g N a3 0 9999).bind fun r3 =>
 c1 a0 a1 a2 (!r3) a3 0
theorem impl_MakePuzzle.o0.run (N : Nat) (H13 : Code) (a0 : Int) (a1 : Int) (a2 : Int) (a3 : Int) : runC impl_MakePuzzle.C (impl_MakePuzzle.O N) N (.seq impl_MakePuzzle.c2 (.seq (.seq impl_MakePuzzle.c12 H13) impl_MakePuzzle.c7)) 1 (st0 [.one (.int .i64 a0), .one (.int .i64 a1), .one (.int .i64 a2), .one (.int .i64 a3)] [] : St D0) impl_MakePuzzle.K0 = impl_MakePuzzle.o0 N a0 a1 a2 a3 ((fun w0 w1 w2 w3 w4 w5 => runC impl_MakePuzzle.C (impl_MakePuzzle.O N) N H13 13 (mkSt [(0, .one (.int .i64 w0)), (1, .one (.int .i64 w1)), (2, .one (.int .i64 w2)), (7, .one (.ptr 7 0)), (8, .one (.ptr 8 0)), (27, .one (.bool w3))] [(7, some (3, [.int .i64 w4])), (8, some (24, [.int .i64 w5, .nl]))] : St D0) (onN (fun s => impl_MakePuzzle.C.tidy 6 s (fun s' => runC impl_MakePuzzle.C (impl_MakePuzzle.O N) N impl_MakePuzzle.c7 7 s' impl_MakePuzzle.K0)) impl_MakePuzzle.K0))) := by kernel_rfl
noncomputable def impl_MakePuzzle.B6 (N : Nat) : St D0 → Option impl_MakePuzzle.R := fun s' => runC impl_MakePuzzle.C (impl_MakePuzzle.O N) N impl_MakePuzzle.c13 13 s' (impl_MakePuzzle.K13 N)
noncomputable def impl_MakePuzzle.g (N : Nat) (a0 : Int) (a1 : Int) (a2 : Int) (a3 : Int) : Option impl_MakePuzzle.R := impl_MakePuzzle.o0 N a0 a1 a2 a3 ((fun w0 w1 w2 w3 w4 w5 => impl_MakePuzzle.d1 N w0 w1 w2 w3 w4 w5))
theorem impl_MakePuzzle.c1_0 : impl_MakePuzzle.c1 = (.seq impl_MakePuzzle.c2 (.seq (.seq impl_MakePuzzle.c12 impl_MakePuzzle.c13) impl_MakePuzzle.c7)) := by kernel_rfl
theorem impl_MakePuzzle.g.run (N : Nat) (a0 : Int) (a1 : Int) (a2 : Int) (a3 : Int) : runC impl_MakePuzzle.C (impl_MakePuzzle.O N) N impl_MakePuzzle.c1 1 (st0 [.one (.int .i64 a0), .one (.int .i64 a1), .one (.int .i64 a2), .one (.int .i64 a3)] [] : St D0) impl_MakePuzzle.K0 = impl_MakePuzzle.g N a0 a1 a2 a3 := by
  rw [impl_MakePuzzle.c1_0]; unfold impl_MakePuzzle.g; exact (impl_MakePuzzle.o0.run N impl_MakePuzzle.c13 a0 a1 a2 a3).trans (congr rfl (funext fun w0 => funext fun w1 => funext fun w2 => funext fun w3 => funext fun w4 => funext fun w5 => impl_MakePuzzle.d1.run N w0 w1 w2 w3 w4 w5))
theorem impl_MakePuzzle.good (N : Nat) (a0 : Int) (a1 : Int) (a2 : Int) (a3 : Int) (r : impl_MakePuzzle.R) (h : impl_MakePuzzle.g N a0 a1 a2 a3 = some r) : Go.PM.Good Go.Proofs.Try.prog T0 8 [.one (.int .i64 a0), .one (.int .i64 a1), .one (.int .i64 a2), .one (.int .i64 a3)] [] (impl_MakePuzzle.sig.ret r) (impl_MakePuzzle.sig.bs r) :=
  good_fn tabOk0 mixed0 impl_MakePuzzle.sig (impl_MakePuzzle.E N) Go.Proofs.Try.func8 (by kernel_rfl) (by kernel_rfl) 305076912015 8796093022208 0 [(12, [0, 1, 2, 7, 8, 27], [7, 8]), (250, [0, 1, 8, 10, 11, 32, 33], [7, 8, 11]), (32050, [0, 1, 8, 10, 11, 12, 13, 32, 33], [7, 8, 11])] [(true, [.any, .ro 38]), (false, [.any])] (by kernel_rfl) rfl ((impl_MakePuzzle.g.run N a0 a1 a2 a3).trans h)
noncomputable def impl_MakePuzzle.ent (N : Nat) : Ent Go.Proofs.Try.prog T0 := mkEnt 8 [(false, [.any]), (false, [.any]), (false, [.any]), (false, [.any])] impl_MakePuzzle.sig (fun t => impl_MakePuzzle.g N t.1 t.2.1 t.2.2.1 t.2.2.2) (fun t r h => impl_MakePuzzle.good N t.1 t.2.1 t.2.2.1 t.2.2.2 r h)
end Go.Proofs.Ytpeleommbipeaaa.M

namespace Go.Proofs.Ytpeleommbipeaaa.M
open Go Go.PM Go.Proofs.Ytpeleommbipeaaa.P
set_option linter.unusedVariables false
set_option maxRecDepth 100000
/-! ### laws_FnTimesMadeOfAll -/
abbrev laws_FnTimesMadeOfAll.R : Type := Bool
abbrev laws_FnTimesMadeOfAll.sig : Sig := ⟨[(false, 1), (false, 1), (false, 1), (false, 1), (true, 2), (true, 2), (true, 3), (true, 2), (false, 1), (false, 1), (true, 3), (false, 1)], [], [.int .i64, .int .i64, .int .i64, .int .i64, .int .i64, .sl false 38, .int .i64, .sl false 38, .int .i64, .int .i64, .int .i64, .int .i64, .sl false 38, .int .i64, .int .i64, .int .i64, .int .i64, .int .i64, .int .i64], [(false, 1)], [], [.bool]⟩
noncomputable def laws_FnTimesMadeOfAll.C : Cfg D0 := ⟨Go.Proofs.Try.prog, T0, 133759930352941697707069811290092600440073102432417544965906120868029439264552627808061749137407, 0, 333, 0, [(60, [0, 1, 2, 8, 9, 11, 16, 17, 18, 19, 22, 25, 26, 83], [16, 17, 18, 19, 22, 25]), (62, [8, 9, 11, 16, 17, 18, 19, 22], [16, 17, 18, 19, 22]), (1002, [8, 9, 11, 16, 17, 18, 19, 22, 115], [16, 17, 18, 19, 22]), (2044, [8, 9, 11, 16, 17, 18, 19, 22, 31, 32, 147], [16, 17, 18, 19, 22, 31]), (2046, [8, 9, 11, 17, 18, 19, 22], [17, 18, 19, 22]), (130990, [8, 9, 11, 17, 18, 19, 22, 193], [17, 18, 19, 22]), (524284, [8, 17, 18, 19, 43, 44, 47, 48, 279], [17, 18, 19, 43, 47]), (524286, [8, 19, 47, 48], [19, 47]), (2097148, [8, 19, 47, 316], [19, 47]), (8388586, [8, 19, 47, 48, 307], [19, 47])]⟩
noncomputable def laws_FnTimesMadeOfAll.E (N : Nat) : List (Ent Go.Proofs.Try.prog T0) := [impl_MakePuzzle.ent N, spec_MakePuzzle.ent N, laws_kPuzzle.ent N, impl_Solutions.ent N, impl_IsPuzzle.ent N, laws_kHas.ent N, impl_HarderPuzzle.ent N, spec_HarderPuzzle.ent N, impl_IsSolved.ent N, impl_NeedlessClues.ent N, laws_kSame.ent N, impl_AddClue.ent N, spec_AddClue.ent N, impl_DropClue.ent N, spec_DropClue.ent N, impl_DoesFit.ent N, spec_DoesFit.ent N, impl_IsClue.ent N, spec_IsClue.ent N]
noncomputable def laws_FnTimesMadeOfAll.O (N : Nat) : Orc D0 laws_FnTimesMadeOfAll.R := orcOf (laws_FnTimesMadeOfAll.E N)
noncomputable def laws_FnTimesMadeOfAll.K0 : Ex → St D0 → Option laws_FnTimesMadeOfAll.R := exitK laws_FnTimesMadeOfAll.C Go.Proofs.Try.f5.results.toList [(false, [.any])] (decOut laws_FnTimesMadeOfAll.sig)
noncomputable def laws_FnTimesMadeOfAll.c1 : Code := codeAt (Go.Proofs.Try.f5.body.getD .skip) []
noncomputable def laws_FnTimesMadeOfAll.c2 : Code := codeAt (Go.Proofs.Try.f5.body.getD .skip) [false]
noncomputable def laws_FnTimesMadeOfAll.c6 : Code := codeAt (Go.Proofs.Try.f5.body.getD .skip) [true, false]
noncomputable def laws_FnTimesMadeOfAll.c14 : Code := codeAt (Go.Proofs.Try.f5.body.getD .skip) [true, true, false]
noncomputable def laws_FnTimesMadeOfAll.c31 : Code := codeAt (Go.Proofs.Try.f5.body.getD .skip) [true, true, true, true]
noncomputable def laws_FnTimesMadeOfAll.c60 : Code := codeAt (Go.Proofs.Try.f5.body.getD .skip) [true, true, true, false, false]
noncomputable def laws_FnTimesMadeOfAll.c61 : Code := codeAt (Go.Proofs.Try.f5.body.getD .skip) [true, true, true, false, true]
noncomputable def laws_FnTimesMadeOfAll.c63 : Code := codeAt (Go.Proofs.Try.f5.body.getD .skip) [true, true, true, true, true]
noncomputable def laws_FnTimesMadeOfAll.c124 : Code := codeAt (Go.Proofs.Try.f5.body.getD .skip) [true, true, true, true, false, false]
noncomputable def laws_FnTimesMadeOfAll.c126 : Code := codeAt (Go.Proofs.Try.f5.body.getD .skip) [true, true, true, true, true, false]
noncomputable def laws_FnTimesMadeOfAll.c251 : Code := codeAt (Go.Proofs.Try.f5.body.getD .skip) [true, true, true, true, false, true, true]
noncomputable def laws_FnTimesMadeOfAll.c254 : Code := codeAt (Go.Proofs.Try.f5.body.getD .skip) [true, true, true, true, true, true, false]
noncomputable def laws_FnTimesMadeOfAll.c500 : Code := codeAt (Go.Proofs.Try.f5.body.getD .skip) [true, true, true, true, false, true, false, false]
noncomputable def laws_FnTimesMadeOfAll.c510 : Code := codeAt (Go.Proofs.Try.f5.body.getD .skip) [true, true, true, true, true, true, true, false]
noncomputable def laws_FnTimesMadeOfAll.c1002 : Code := codeAt (Go.Proofs.Try.f5.body.getD .skip) [true, true, true, true, false, true, false, true, false]
noncomputable def laws_FnTimesMadeOfAll.c1003 : Code := codeAt (Go.Proofs.Try.f5.body.getD .skip) [true, true, true, true, false, true, false, true, true]
noncomputable def laws_FnTimesMadeOfAll.c1023 : Code := codeAt (Go.Proofs.Try.f5.body.getD .skip) [true, true, true, true, true, true, true, true, true]
noncomputable def laws_FnTimesMadeOfAll.c2044 : Code := codeAt (Go.Proofs.Try.f5.body.getD .skip) [true, true, true, true, true, true, true, true, false, false]
noncomputable def laws_FnTimesMadeOfAll.c2045 : Code := codeAt (Go.Proofs.Try.f5.body.getD .skip) [true, true, true, true, true, true, true, true, false, true]
noncomputable def laws_FnTimesMadeOfAll.c2047 : Code := codeAt (Go.Proofs.Try.f5.body.getD .skip) [true, true, true, true, true, true, true, true, true, true]
noncomputable def laws_FnTimesMadeOfAll.c4092 : Code := codeAt (Go.Proofs.Try.f5.body.getD .skip) [true, true, true, true, true, true, true, true, true, false, false]
noncomputable def laws_FnTimesMadeOfAll.c4094 : Code := codeAt (Go.Proofs.Try.f5.body.getD .skip) [true, true, true, true, true, true, true, true, true, true, false]
noncomputable def laws_FnTimesMadeOfAll.c8187 : Code := codeAt (Go.Proofs.Try.f5.body.getD .skip) [true, true, true, true, true, true, true, true, true, false, true, true]
noncomputable def laws_FnTimesMadeOfAll.c8190 : Code := codeAt (Go.Proofs.Try.f5.body.getD .skip) [true, true, true, true, true, true, true, true, true, true, true, false]
noncomputable def laws_FnTimesMadeOfAll.c16372 : Code := codeAt (Go.Proofs.Try.f5.body.getD .skip) [true, true, true, true, true, true, true, true, true, false, true, false, false]
noncomputable def laws_FnTimesMadeOfAll.c16382 : Code := codeAt (Go.Proofs.Try.f5.body.getD .skip) [true, true, true, true, true, true, true, true, true, true, true, true, false]
noncomputable def laws_FnTimesMadeOfAll.c32746 : Code := codeAt (Go.Proofs.Try.f5.body.getD .skip) [true, true, true, true, true, true, true, true, true, false, true, false, true, false]
noncomputable def laws_FnTimesMadeOfAll.c32766 : Code := codeAt (Go.Proofs.Try.f5.body.getD .skip) [true, true, true, true, true, true, true, true, true, true, true, true, true, false]
noncomputable def laws_FnTimesMadeOfAll.c65494 : Code := codeAt (Go.Proofs.Try.f5.body.getD .skip) [true, true, true, true, true, true, true, true, true, false, true, false, true, true, false]
noncomputable def laws_FnTimesMadeOfAll.c65534 : Code := codeAt (Go.Proofs.Try.f5.body.getD .skip) [true, true, true, true, true, true, true, true, true, true, true, true, true, true, false]
noncomputable def laws_FnTimesMadeOfAll.c130990 : Code := codeAt (Go.Proofs.Try.f5.body.getD .skip) [true, true, true, true, true, true, true, true, true, false, true, false, true, true, true, false]
noncomputable def laws_FnTimesMadeOfAll.c130991 : Code := codeAt (Go.Proofs.Try.f5.body.getD .skip) [true, true, true, true, true, true, true, true, true, false, true, false, true, true, true, true]
noncomputable def laws_FnTimesMadeOfAll.c131070 : Code := codeAt (Go.Proofs.Try.f5.body.getD .skip) [true, true, true, true, true, true, true, true, true, true, true, true, true, true, true, false]
noncomputable def laws_FnTimesMadeOfAll.c262143 : Code := codeAt (Go.Proofs.Try.f5.body.getD .skip) [true, true, true, true, true, true, true, true, true, true, true, true, true, true, true, true, true]
noncomputable def laws_FnTimesMadeOfAll.c524284 : Code := codeAt (Go.Proofs.Try.f5.body.getD .skip) [true, true, true, true, true, true, true, true, true, true, true, true, true, true, true, true, false, false]
noncomputable def laws_FnTimesMadeOfAll.c524285 : Code := codeAt (Go.Proofs.Try.f5.body.getD .skip) [true, true, true, true, true, true, true, true, true, true, true, true, true, true, true, true, false, true]
noncomputable def laws_FnTimesMadeOfAll.c524287 : Code := codeAt (Go.Proofs.Try.f5.body.getD .skip) [true, true, true, true, true, true, true, true, true, true, true, true, true, true, true, true, true, true]
noncomputable def laws_FnTimesMadeOfAll.c1048572 : Code := codeAt (Go.Proofs.Try.f5.body.getD .skip) [true, true, true, true, true, true, true, true, true, true, true, true, true, true, true, true, true, false, false]
noncomputable def laws_FnTimesMadeOfAll.c1048575 : Code := codeAt (Go.Proofs.Try.f5.body.getD .skip) [true, true, true, true, true, true, true, true, true, true, true, true, true, true, true, true, true, true, true]
noncomputable def laws_FnTimesMadeOfAll.c2097147 : Code := codeAt (Go.Proofs.Try.f5.body.getD .skip) [true, true, true, true, true, true, true, true, true, true, true, true, true, true, true, true, true, false, true, true]
noncomputable def laws_FnTimesMadeOfAll.c2097148 : Code := codeAt (Go.Proofs.Try.f5.body.getD .skip) [true, true, true, true, true, true, true, true, true, true, true, true, true, true, true, true, true, true, false, false]
noncomputable def laws_FnTimesMadeOfAll.c2097149 : Code := codeAt (Go.Proofs.Try.f5.body.getD .skip) [true, true, true, true, true, true, true, true, true, true, true, true, true, true, true, true, true, true, false, true]
noncomputable def laws_FnTimesMadeOfAll.c4194292 : Code := codeAt (Go.Proofs.Try.f5.body.getD .skip) [true, true, true, true, true, true, true, true, true, true, true, true, true, true, true, true, true, false, true, false, false]
noncomputable def laws_FnTimesMadeOfAll.c8388586 : Code := codeAt (Go.Proofs.Try.f5.body.getD .skip) [true, true, true, true, true, true, true, true, true, true, true, true, true, true, true, true, true, false, true, false, true, false]
noncomputable def laws_FnTimesMadeOfAll.c8388587 : Code := codeAt (Go.Proofs.Try.f5.body.getD .skip) [true, true, true, true, true, true, true, true, true, true, true, true, true, true, true, true, true, false, true, false, true, true]
noncomputable def laws_FnTimesMadeOfAll.K2097149 (N : Nat) : Ex → St D0 → Option laws_FnTimesMadeOfAll.R := (onN (fun s => laws_FnTimesMadeOfAll.C.tidy 1048574 s (fun s' => runC laws_FnTimesMadeOfAll.C (laws_FnTimesMadeOfAll.O N) N laws_FnTimesMadeOfAll.c1048575 1048575 s' laws_FnTimesMadeOfAll.K0)) laws_FnTimesMadeOfAll.K0)
noncomputable def laws_FnTimesMadeOfAll.o10 (N : Nat) (v0 : Int) (v1 : Bool) (v2 : Int) (v3 : List S38) (v4 : Int) (v5 : List S38) : Option laws_FnTimesMadeOfAll.R :=
 bif v1 then
  bif (decide (0 ≤ v0)) then
   bif (decide (v0 < (v3.length : Int))) then
    (v3[(v0 : Int).toNat]?).bind fun x1 =>
    (impl_AddClue.g N v4 v5 x1.f0 x1.f1 x1.f2).bind fun r2 =>
    bif r2.2.2 then
     (laws_kPuzzle.g N r2.1 r2.2.1 v2 v3).bind fun r3 =>
     some (r3)
    else
    some (false)
   else
   none
  else
  none
 else
 some (true)
theorem laws_FnTimesMadeOfAll.o10.run (N : Nat) (v0 : Int) (v1 : Bool) (v2 : Int) (v3 : List S38) (v4 : Int) (v5 : List S38) : runC laws_FnTimesMadeOfAll.C (laws_FnTimesMadeOfAll.O N) N laws_FnTimesMadeOfAll.c2097149 2097149 (mkSt [(8, .one (.int .i64 v0)), (19, .one (.ptr 19 0)), (47, .one (.ptr 47 0)), (316, .one (.bool v1))] [(19, some (24, [.int .i64 v2, .sl false 38 v3])), (47, some (24, [.int .i64 v4, .sl false 38 v5]))] : St D0) (onN (fun s => laws_FnTimesMadeOfAll.C.tidy 1048574 s (fun s' => runC laws_FnTimesMadeOfAll.C (laws_FnTimesMadeOfAll.O N) N laws_FnTimesMadeOfAll.c1048575 1048575 s' laws_FnTimesMadeOfAll.K0)) laws_FnTimesMadeOfAll.K0) = laws_FnTimesMadeOfAll.o10 N v0 v1 v2 v3 v4 v5 := by kernel_rfl
noncomputable def laws_FnTimesMadeOfAll.d10 (N : Nat) (v0 : Int) (v1 : Bool) (v2 : Int) (v3 : List S38) (v4 : Int) (v5 : List S38) : Option laws_FnTimesMadeOfAll.R := laws_FnTimesMadeOfAll.o10 N v0 v1 v2 v3 v4 v5
theorem laws_FnTimesMadeOfAll.d10.run (N : Nat) (v0 : Int) (v1 : Bool) (v2 : Int) (v3 : List S38) (v4 : Int) (v5 : List S38) : runC laws_FnTimesMadeOfAll.C (laws_FnTimesMadeOfAll.O N) N laws_FnTimesMadeOfAll.c2097149 2097149 (mkSt [(8, .one (.int .i64 v0)), (19, .one (.ptr 19 0)), (47, .one (.ptr 47 0)), (316, .one (.bool v1))] [(19, some (24, [.int .i64 v2, .sl false 38 v3])), (47, some (24, [.int .i64 v4, .sl false 38 v5]))] : St D0) (laws_FnTimesMadeOfAll.K2097149 N) = laws_FnTimesMadeOfAll.d10 N v0 v1 v2 v3 v4 v5 := by
  exact (laws_FnTimesMadeOfAll.o10.run N v0 v1 v2 v3 v4 v5).trans rfl
noncomputable def laws_FnTimesMadeOfAll.K524287 (N : Nat) : Ex → St D0 → Option laws_FnTimesMadeOfAll.R := laws_FnTimesMadeOfAll.K0
noncomputable def laws_FnTimesMadeOfAll.o9 (N : Nat) (v0 : Int) (v1 : Bool) (v2 : Int) (v3 : List S38) (v4 : Int) (v5 : List S38) (c10 : Int → Bool → Int → (List S38) → Int → (List S38) → Option laws_FnTimesMadeOfAll.R) : Option laws_FnTimesMadeOfAll.R :=
 bif v1 then
  c10 v0 (v0 == (w64 ((v3.length : Int) - 1))) v2 v3 v4 v5
 else
 c10 v0 false v2 v3 v4 v5
theorem laws_FnTimesMadeOfAll.o9.run (N : Nat) (H2097149 : Code) (v0 : Int) (v1 : Bool) (v2 : Int) (v3 : List S38) (v4 : Int) (v5 : List S38) : runC laws_FnTimesMadeOfAll.C (laws_FnTimesMadeOfAll.O N) N (.seq (.seq laws_FnTimesMadeOfAll.c2097148 H2097149) laws_FnTimesMadeOfAll.c1048575) 524287 (mkSt [(8, .one (.int .i64 v0)), (19, .one (.ptr 19 0)), (47, .one (.ptr 47 0)), (48, .one (.bool v1))] [(19, some (24, [.int .i64 v2, .sl false 38 v3])), (47, some (24, [.int .i64 v4, .sl false 38 v5]))] : St D0) laws_FnTimesMadeOfAll.K0 = laws_FnTimesMadeOfAll.o9 N v0 v1 v2 v3 v4 v5 ((fun w0 w1 w2 w3 w4 w5 => runC laws_FnTimesMadeOfAll.C (laws_FnTimesMadeOfAll.O N) N H2097149 2097149 (mkSt [(8, .one (.int .i64 w0)), (19, .one (.ptr 19 0)), (47, .one (.ptr 47 0)), (316, .one (.bool w1))] [(19, some (24, [.int .i64 w2, .sl false 38 w3])), (47, some (24, [.int .i64 w4, .sl false 38 w5]))] : St D0) (onN (fun s => laws_FnTimesMadeOfAll.C.tidy 1048574 s (fun s' => runC laws_FnTimesMadeOfAll.C (laws_FnTimesMadeOfAll.O N) N laws_FnTimesMadeOfAll.c1048575 1048575 s' laws_FnTimesMadeOfAll.K0)) laws_FnTimesMadeOfAll.K0))) := by kernel_rfl
noncomputable def laws_FnTimesMadeOfAll.B1048574 (N : Nat) : St D0 → Option laws_FnTimesMadeOfAll.R := fun s' => runC laws_FnTimesMadeOfAll.C (laws_FnTimesMadeOfAll.O N) N laws_FnTimesMadeOfAll.c2097149 2097149 s' (laws_FnTimesMadeOfAll.K2097149 N)
noncomputable def laws_FnTimesMadeOfAll.d9 (N : Nat) (v0 : Int) (v1 : Bool) (v2 : Int) (v3 : List S38) (v4 : Int) (v5 : List S38) : Option laws_FnTimesMadeOfAll.R := laws_FnTimesMadeOfAll.o9 N v0 v1 v2 v3 v4 v5 ((fun w0 w1 w2 w3 w4 w5 => laws_FnTimesMadeOfAll.d10 N w0 w1 w2 w3 w4 w5))
theorem laws_FnTimesMadeOfAll.c524287_9 : laws_FnTimesMadeOfAll.c524287 = (.seq (.seq laws_FnTimesMadeOfAll.c2097148 laws_FnTimesMadeOfAll.c2097149) laws_FnTimesMadeOfAll.c1048575) := by kernel_rfl
theorem laws_FnTimesMadeOfAll.d9.run (N : Nat) (v0 : Int) (v1 : Bool) (v2 : Int) (v3 : List S38) (v4 : Int) (v5 : List S38) : runC laws_FnTimesMadeOfAll.C (laws_FnTimesMadeOfAll.O N) N laws_FnTimesMadeOfAll.c524287 524287 (mkSt [(8, .one (.int .i64 v0)), (19, .one (.ptr 19 0)), (47, .one (.ptr 47 0)), (48, .one (.bool v1))] [(19, some (24, [.int .i64 v2, .sl false 38 v3])), (47, some (24, [.int .i64 v4, .sl false 38 v5]))] : St D0) (laws_FnTimesMadeOfAll.K524287 N) = laws_FnTimesMadeOfAll.d9 N v0 v1 v2 v3 v4 v5 := by
  rw [laws_FnTimesMadeOfAll.c524287_9]; unfold laws_FnTimesMadeOfAll.d9; exact (laws_FnTimesMadeOfAll.o9.run N laws_FnTimesMadeOfAll.c2097149 v0 v1 v2 v3 v4 v5).trans (congr rfl (funext fun w0 => funext fun w1 => funext fun w2 => funext fun w3 => funext fun w4 => funext fun w5 => laws_FnTimesMadeOfAll.d10.run N w0 w1 w2 w3 w4 w5))
noncomputable def laws_FnTimesMadeOfAll.B262143 (N : Nat) : St D0 → Option laws_FnTimesMadeOfAll.R := fun s' => runC laws_FnTimesMadeOfAll.C (laws_FnTimesMadeOfAll.O N) N laws_FnTimesMadeOfAll.c524287 524287 s' (laws_FnTimesMadeOfAll.K524287 N)
noncomputable def laws_FnTimesMadeOfAll.K8388587 (N : Nat) : Ex → St D0 → Option laws_FnTimesMadeOfAll.R := (onN (fun s => laws_FnTimesMadeOfAll.C.tidy 524286 s (laws_FnTimesMadeOfAll.B262143 N)) laws_FnTimesMadeOfAll.K0)
noncomputable def laws_FnTimesMadeOfAll.o8 (N : Nat) (v0 : Int) (v1 : Bool) (v2 : Bool) (v3 : Int) (v4 : List S38) (v5 : Int) (v6 : List S38) (c9 : Int → Bool → Int → (List S38) → Int → (List S38) → Option laws_FnTimesMadeOfAll.R) : Option laws_FnTimesMadeOfAll.R :=
 bif v2 then
  some (false)
 else
 c9 v0 v1 v3 v4 v5 v6
theorem laws_FnTimesMadeOfAll.o8.run (N : Nat) (Kb262143 : St D0 → Option laws_FnTimesMadeOfAll.R) (v0 : Int) (v1 : Bool) (v2 : Bool) (v3 : Int) (v4 : List S38) (v5 : Int) (v6 : List S38) : runC laws_FnTimesMadeOfAll.C (laws_FnTimesMadeOfAll.O N) N laws_FnTimesMadeOfAll.c8388587 8388587 (mkSt [(8, .one (.int .i64 v0)), (19, .one (.ptr 19 0)), (47, .one (.ptr 47 0)), (48, .one (.bool v1)), (307, .one (.bool v2))] [(19, some (24, [.int .i64 v3, .sl false 38 v4])), (47, some (24, [.int .i64 v5, .sl false 38 v6]))] : St D0) (onN (fun s => laws_FnTimesMadeOfAll.C.tidy 524286 s Kb262143) laws_FnTimesMadeOfAll.K0) = laws_FnTimesMadeOfAll.o8 N v0 v1 v2 v3 v4 v5 v6 ((fun w0 w1 w2 w3 w4 w5 => Kb262143 (mkSt [(8, .one (.int .i64 w0)), (19, .one (.ptr 19 0)), (47, .one (.ptr 47 0)), (48, .one (.bool w1))] [(19, some (24, [.int .i64 w2, .sl false 38 w3])), (47, some (24, [.int .i64 w4, .sl false 38 w5]))] : St D0))) := by kernel_rfl
noncomputable def laws_FnTimesMadeOfAll.d8 (N : Nat) (v0 : Int) (v1 : Bool) (v2 : Bool) (v3 : Int) (v4 : List S38) (v5 : Int) (v6 : List S38) : Option laws_FnTimesMadeOfAll.R := laws_FnTimesMadeOfAll.o8 N v0 v1 v2 v3 v4 v5 v6 ((fun w0 w1 w2 w3 w4 w5 => laws_FnTimesMadeOfAll.d9 N w0 w1 w2 w3 w4 w5))
theorem laws_FnTimesMadeOfAll.d8.run (N : Nat) (v0 : Int) (v1 : Bool) (v2 : Bool) (v3 : Int) (v4 : List S38) (v5 : Int) (v6 : List S38) : runC laws_FnTimesMadeOfAll.C (laws_FnTimesMadeOfAll.O N) N laws_FnTimesMadeOfAll.c8388587 8388587 (mkSt [(8, .one (.int .i64 v0)), (19, .one (.ptr 19 0)), (47, .one (.ptr 47 0)), (48, .one (.bool v1)), (307, .one (.bool v2))] [(19, some (24, [.int .i64 v3, .sl false 38 v4])), (47, some (24, [.int .i64 v5, .sl false 38 v6]))] : St D0) (laws_FnTimesMadeOfAll.K8388587 N) = laws_FnTimesMadeOfAll.d8 N v0 v1 v2 v3 v4 v5 v6 := by
  unfold laws_FnTimesMadeOfAll.d8; exact (laws_FnTimesMadeOfAll.o8.run N (laws_FnTimesMadeOfAll.B262143 N) v0 v1 v2 v3 v4 v5 v6).trans (congr rfl (funext fun w0 => funext fun w1 => funext fun w2 => funext fun w3 => funext fun w4 => funext fun w5 => laws_FnTimesMadeOfAll.d9.run N w0 w1 w2 w3 w4 w5))
noncomputable def laws_FnTimesMadeOfAll.K524285 (N : Nat) : Ex → St D0 → Option laws_FnTimesMadeOfAll.R := (onN (fun s => laws_FnTimesMadeOfAll.C.tidy 262142 s (fun s' => runC laws_FnTimesMadeOfAll.C (laws_FnTimesMadeOfAll.O N) N laws_FnTimesMadeOfAll.c262143 262143 s' laws_FnTimesMadeOfAll.K0)) laws_FnTimesMadeOfAll.K0)
noncomputable def laws_FnTimesMadeOfAll.o7 (N : Nat) (v0 : Int) (v1 : Bool) (v2 : Bool) (v3 : Bool) (v4 : Int) (v5 : List S38) (v6 : Int) (v7 : Int) (v8 : Int) (v9 : Int) (v10 : List S38) (v11 : Int) (v12 : List S38) (v13 : Int) (v14 : List S38) (c8 : Int → Bool → Bool → Int → (List S38) → Int → (List S38) → Option laws_FnTimesMadeOfAll.R) (c9 : Int → Bool → Int → (List S38) → Int → (List S38) → Option laws_FnTimesMadeOfAll.R) : Option laws_FnTimesMadeOfAll.R :=
 bif v3 then
  some (false)
 else
 bif v1 then
  (impl_DropClue.g N v11 v12 (v5.length : Int)).bind fun r1 =>
  bif (!r1.2.2) then
   c8 v0 v2 true v9 v10 v13 v14
  else
  (laws_kPuzzle.g N r1.1 r1.2.1 v4 v5).bind fun r2 =>
  bif (!r2) then
   c8 v0 v2 true v9 v10 v13 v14
  else
  bif (decide (0 ≤ (v5.length : Int))) then
   bif (decide ((v5.length : Int) < (v12.length : Int))) then
    (v12[((v5.length : Int) : Int).toNat]?).bind fun x3 =>
    c8 v0 v2 (!((x3.f0 == v6) && ((x3.f1 == v7) && ((x3.f2 == v8) && true)))) v9 v10 v13 v14
   else
   none
  else
  none
 else
 c9 v0 v2 v9 v10 v13 v14
theorem laws_FnTimesMadeOfAll.o7.run (N : Nat) (H524287 : Code) (H8388587 : Code) (v0 : Int) (v1 : Bool) (v2 : Bool) (v3 : Bool) (v4 : Int) (v5 : List S38) (v6 : Int) (v7 : Int) (v8 : Int) (v9 : Int) (v10 : List S38) (v11 : Int) (v12 : List S38) (v13 : Int) (v14 : List S38) : runC laws_FnTimesMadeOfAll.C (laws_FnTimesMadeOfAll.O N) N laws_FnTimesMadeOfAll.c524285 524285 (mkSt [(8, .one (.int .i64 v0)), (17, .one (.ptr 17 0)), (18, .one (.ptr 18 0)), (19, .one (.ptr 19 0)), (43, .one (.ptr 43 0)), (44, .one (.bool v1)), (47, .one (.ptr 47 0)), (48, .one (.bool v2)), (279, .one (.bool v3))] [(17, some (24, [.int .i64 v4, .sl false 38 v5])), (18, some (38, [.int .i64 v6, .int .i64 v7, .int .i64 v8])), (19, some (24, [.int .i64 v9, .sl false 38 v10])), (43, some (24, [.int .i64 v11, .sl false 38 v12])), (47, some (24, [.int .i64 v13, .sl false 38 v14]))] : St D0) (onN (fun s => laws_FnTimesMadeOfAll.C.tidy 262142 s (fun s' => runC laws_FnTimesMadeOfAll.C (laws_FnTimesMadeOfAll.O N) N (.seq (.seq laws_FnTimesMadeOfAll.c1048572 (.cond (.tmp 280) (.seq laws_FnTimesMadeOfAll.c4194292 (.seq laws_FnTimesMadeOfAll.c8388586 H8388587)) laws_FnTimesMadeOfAll.c2097147)) H524287) 262143 s' laws_FnTimesMadeOfAll.K0)) laws_FnTimesMadeOfAll.K0) = laws_FnTimesMadeOfAll.o7 N v0 v1 v2 v3 v4 v5 v6 v7 v8 v9 v10 v11 v12 v13 v14 ((fun w0 w1 w2 w3 w4 w5 w6 => runC laws_FnTimesMadeOfAll.C (laws_FnTimesMadeOfAll.O N) N H8388587 8388587 (mkSt [(8, .one (.int .i64 w0)), (19, .one (.ptr 19 0)), (47, .one (.ptr 47 0)), (48, .one (.bool w1)), (307, .one (.bool w2))] [(19, some (24, [.int .i64 w3, .sl false 38 w4])), (47, some (24, [.int .i64 w5, .sl false 38 w6]))] : St D0) (onN (fun s => laws_FnTimesMadeOfAll.C.tidy 524286 s (fun s' => runC laws_FnTimesMadeOfAll.C (laws_FnTimesMadeOfAll.O N) N H524287 524287 s' laws_FnTimesMadeOfAll.K0)) laws_FnTimesMadeOfAll.K0))) ((fun w0 w1 w2 w3 w4 w5 => runC laws_FnTimesMadeOfAll.C (laws_FnTimesMadeOfAll.O N) N H524287 524287 (mkSt [(8, .one (.int .i64 w0)), (19, .one (.ptr 19 0)), (47, .one (.ptr 47 0)), (48, .one (.bool w1))] [(19, some (24, [.int .i64 w2, .sl false 38 w3])), (47, some (24, [.int .i64 w4, .sl false 38 w5]))] : St D0) laws_FnTimesMadeOfAll.K0)) := by kernel_rfl
noncomputable def laws_FnTimesMadeOfAll.B4194293 (N : Nat) : St D0 → Option laws_FnTimesMadeOfAll.R := fun s' => runC laws_FnTimesMadeOfAll.C (laws_FnTimesMadeOfAll.O N) N laws_FnTimesMadeOfAll.c8388587 8388587 s' (laws_FnTimesMadeOfAll.K8388587 N)
noncomputable def laws_FnTimesMadeOfAll.d7 (N : Nat) (v0 : Int) (v1 : Bool) (v2 : Bool) (v3 : Bool) (v4 : Int) (v5 : List S38) (v6 : Int) (v7 : Int) (v8 : Int) (v9 : Int) (v10 : List S38) (v11 : Int) (v12 : List S38) (v13 : Int) (v14 : List S38) : Option laws_FnTimesMadeOfAll.R := laws_FnTimesMadeOfAll.o7 N v0 v1 v2 v3 v4 v5 v6 v7 v8 v9 v10 v11 v12 v13 v14 ((fun w0 w1 w2 w3 w4 w5 w6 => laws_FnTimesMadeOfAll.d8 N w0 w1 w2 w3 w4 w5 w6)) ((fun w0 w1 w2 w3 w4 w5 => laws_FnTimesMadeOfAll.d9 N w0 w1 w2 w3 w4 w5))
theorem laws_FnTimesMadeOfAll.d7.run (N : Nat) (v0 : Int) (v1 : Bool) (v2 : Bool) (v3 : Bool) (v4 : Int) (v5 : List S38) (v6 : Int) (v7 : Int) (v8 : Int) (v9 : Int) (v10 : List S38) (v11 : Int) (v12 : List S38) (v13 : Int) (v14 : List S38) : runC laws_FnTimesMadeOfAll.C (laws_FnTimesMadeOfAll.O N) N laws_FnTimesMadeOfAll.c524285 524285 (mkSt [(8, .one (.int .i64 v0)), (17, .one (.ptr 17 0)), (18, .one (.ptr 18 0)), (19, .one (.ptr 19 0)), (43, .one (.ptr 43 0)), (44, .one (.bool v1)), (47, .one (.ptr 47 0)), (48, .one (.bool v2)), (279, .one (.bool v3))] [(17, some (24, [.int .i64 v4, .sl false 38 v5])), (18, some (38, [.int .i64 v6, .int .i64 v7, .int .i64 v8])), (19, some (24, [.int .i64 v9, .sl false 38 v10])), (43, some (24, [.int .i64 v11, .sl false 38 v12])), (47, some (24, [.int .i64 v13, .sl false 38 v14]))] : St D0) (laws_FnTimesMadeOfAll.K524285 N) = laws_FnTimesMadeOfAll.d7 N v0 v1 v2 v3 v4 v5 v6 v7 v8 v9 v10 v11 v12 v13 v14 := by
  unfold laws_FnTimesMadeOfAll.d7; exact (laws_FnTimesMadeOfAll.o7.run N laws_FnTimesMadeOfAll.c524287 laws_FnTimesMadeOfAll.c8388587 v0 v1 v2 v3 v4 v5 v6 v7 v8 v9 v10 v11 v12 v13 v14).trans (congr (congr rfl (funext fun w0 => funext fun w1 => funext fun w2 => funext fun w3 => funext fun w4 => funext fun w5 => funext fun w6 => laws_FnTimesMadeOfAll.d8.run N w0 w1 w2 w3 w4 w5 w6)) (funext fun w0 => funext fun w1 => funext fun w2 => funext fun w3 => funext fun w4 => funext fun w5 => laws_FnTimesMadeOfAll.d9.run N w0 w1 w2 w3 w4 w5))
noncomputable def laws_FnTimesMadeOfAll.K2047 (N : Nat) : Ex → St D0 → Option laws_FnTimesMadeOfAll.R := laws_FnTimesMadeOfAll.K0
noncomputable def laws_FnTimesMadeOfAll.o6 (N : Nat) (v0 : Int) (v1 : Int) (v2 : Int) (v3 : Int) (v4 : List S38) (v5 : Int) (v6 : Int) (v7 : Int) (v8 : Int) (v9 : List S38) (v10 : Int) (v11 : Int) (v12 : Int) (c7 : Int → Bool → Bool → Bool → Int → (List S38) → Int → Int → Int → Int → (List S38) → Int → (List S38) → Int → (List S38) → Option laws_FnTimesMadeOfAll.R) : Option laws_FnTimesMadeOfAll.R :=
 (impl_AddClue.g N v3 v4 v5 v6 v7).bind fun r1 =>
 (spec_AddClue.g N v3 v4 v5 v6 v7).bind fun r2 =>
 (impl_DropClue.g N v8 v9 v0).bind fun r3 =>
 (spec_DropClue.g N v8 v9 v0).bind fun r4 =>
 (impl_DoesFit.g N v1 v10 v11 v12 v2).bind fun r5 =>
 (spec_DoesFit.g N v1 v10 v11 v12 v2).bind fun r6 =>
 bif (!(r1.2.2 == r2.2.2)) then
  c7 v0 r1.2.2 r3.2.2 true v3 v4 v5 v6 v7 v8 v9 r1.1 r1.2.1 r3.1 r3.2.1
 else
 (laws_kPuzzle.g N r1.1 r1.2.1 r2.1 r2.2.1).bind fun r7 =>
 bif (!r7) then
  c7 v0 r1.2.2 r3.2.2 true v3 v4 v5 v6 v7 v8 v9 r1.1 r1.2.1 r3.1 r3.2.1
 else
 bif (!(r3.2.2 == r4.2.2)) then
  c7 v0 r1.2.2 r3.2.2 true v3 v4 v5 v6 v7 v8 v9 r1.1 r1.2.1 r3.1 r3.2.1
 else
 (laws_kPuzzle.g N r3.1 r3.2.1 r4.1 r4.2.1).bind fun r8 =>
 bif (!r8) then
  c7 v0 r1.2.2 r3.2.2 true v3 v4 v5 v6 v7 v8 v9 r1.1 r1.2.1 r3.1 r3.2.1
 else
 bif (!(r5.2 == r6.2)) then
  c7 v0 r1.2.2 r3.2.2 true v3 v4 v5 v6 v7 v8 v9 r1.1 r1.2.1 r3.1 r3.2.1
 else
 bif (!(r5.1 == r6.1)) then
  c7 v0 r1.2.2 r3.2.2 true v3 v4 v5 v6 v7 v8 v9 r1.1 r1.2.1 r3.1 r3.2.1
 else
 (impl_IsClue.g N v1 v10 v11 v12).bind fun r9 =>
 (spec_IsClue.g N v1 v10 v11 v12).bind fun r10 =>
 bif (!(r9 == r10)) then
  c7 v0 r1.2.2 r3.2.2 true v3 v4 v5 v6 v7 v8 v9 r1.1 r1.2.1 r3.1 r3.2.1
 else
 bif r5.2 then
  (impl_IsClue.g N v1 v10 v11 v12).bind fun r11 =>
  c7 v0 r1.2.2 r3.2.2 (!r11) v3 v4 v5 v6 v7 v8 v9 r1.1 r1.2.1 r3.1 r3.2.1
 else
 c7 v0 r1.2.2 r3.2.2 false v3 v4 v5 v6 v7 v8 v9 r1.1 r1.2.1 r3.1 r3.2.1
theorem laws_FnTimesMadeOfAll.o6.run (N : Nat) (H524285 : Code) (v0 : Int) (v1 : Int) (v2 : Int) (v3 : Int) (v4 : List S38) (v5 : Int) (v6 : Int) (v7 : Int) (v8 : Int) (v9 : List S38) (v10 : Int) (v11 : Int) (v12 : Int) : runC laws_FnTimesMadeOfAll.C (laws_FnTimesMadeOfAll.O N) N (.seq laws_FnTimesMadeOfAll.c4094 (.seq laws_FnTimesMadeOfAll.c8190 (.seq laws_FnTimesMadeOfAll.c16382 (.seq laws_FnTimesMadeOfAll.c32766 (.seq laws_FnTimesMadeOfAll.c65534 (.seq laws_FnTimesMadeOfAll.c131070 (.seq (.seq laws_FnTimesMadeOfAll.c524284 H524285) laws_FnTimesMadeOfAll.c262143))))))) 2047 (mkSt [(8, .one (.int .i64 v0)), (9, .one (.int .i64 v1)), (11, .one (.int .i64 v2)), (17, .one (.ptr 17 0)), (18, .one (.ptr 18 0)), (19, .one (.ptr 19 0)), (22, .one (.ptr 22 0))] [(17, some (24, [.int .i64 v3, .sl false 38 v4])), (18, some (38, [.int .i64 v5, .int .i64 v6, .int .i64 v7])), (19, some (24, [.int .i64 v8, .sl false 38 v9])), (22, some (38, [.int .i64 v10, .int .i64 v11, .int .i64 v12]))] : St D0) laws_FnTimesMadeOfAll.K0 = laws_FnTimesMadeOfAll.o6 N v0 v1 v2 v3 v4 v5 v6 v7 v8 v9 v10 v11 v12 ((fun w0 w1 w2 w3 w4 w5 w6 w7 w8 w9 w10 w11 w12 w13 w14 => runC laws_FnTimesMadeOfAll.C (laws_FnTimesMadeOfAll.O N) N H524285 524285 (mkSt [(8, .one (.int .i64 w0)), (17, .one (.ptr 17 0)), (18, .one (.ptr 18 0)), (19, .one (.ptr 19 0)), (43, .one (.ptr 43 0)), (44, .one (.bool w1)), (47, .one (.ptr 47 0)), (48, .one (.bool w2)), (279, .one (.bool w3))] [(17, some (24, [.int .i64 w4, .sl false 38 w5])), (18, some (38, [.int .i64 w6, .int .i64 w7, .int .i64 w8])), (19, some (24, [.int .i64 w9, .sl false 38 w10])), (43, some (24, [.int .i64 w11, .sl false 38 w12])), (47, some (24, [.int .i64 w13, .sl false 38 w14]))] : St D0) (onN (fun s => laws_FnTimesMadeOfAll.C.tidy 262142 s (fun s' => runC laws_FnTimesMadeOfAll.C (laws_FnTimesMadeOfAll.O N) N laws_FnTimesMadeOfAll.c262143 262143 s' laws_FnTimesMadeOfAll.K0)) laws_FnTimesMadeOfAll.K0))) := by kernel_rfl
noncomputable def laws_FnTimesMadeOfAll.B262142 (N : Nat) : St D0 → Option laws_FnTimesMadeOfAll.R := fun s' => runC laws_FnTimesMadeOfAll.C (laws_FnTimesMadeOfAll.O N) N laws_FnTimesMadeOfAll.c524285 524285 s' (laws_FnTimesMadeOfAll.K524285 N)
noncomputable def laws_FnTimesMadeOfAll.d6 (N : Nat) (v0 : Int) (v1 : Int) (v2 : Int) (v3 : Int) (v4 : List S38) (v5 : Int) (v6 : Int) (v7 : Int) (v8 : Int) (v9 : List S38) (v10 : Int) (v11 : Int) (v12 : Int) : Option laws_FnTimesMadeOfAll.R := laws_FnTimesMadeOfAll.o6 N v0 v1 v2 v3 v4 v5 v6 v7 v8 v9 v10 v11 v12 ((fun w0 w1 w2 w3 w4 w5 w6 w7 w8 w9 w10 w11 w12 w13 w14 => laws_FnTimesMadeOfAll.d7 N w0 w1 w2 w3 w4 w5 w6 w7 w8 w9 w10 w11 w12 w13 w14))
theorem laws_FnTimesMadeOfAll.c2047_6 : laws_FnTimesMadeOfAll.c2047 = (.seq laws_FnTimesMadeOfAll.c4094 (.seq laws_FnTimesMadeOfAll.c8190 (.seq laws_FnTimesMadeOfAll.c16382 (.seq laws_FnTimesMadeOfAll.c32766 (.seq laws_FnTimesMadeOfAll.c65534 (.seq laws_FnTimesMadeOfAll.c131070 (.seq (.seq laws_FnTimesMadeOfAll.c524284 laws_FnTimesMadeOfAll.c524285) laws_FnTimesMadeOfAll.c262143))))))) := by kernel_rfl
theorem laws_FnTimesMadeOfAll.d6.run (N : Nat) (v0 : Int) (v1 : Int) (v2 : Int) (v3 : Int) (v4 : List S38) (v5 : Int) (v6 : Int) (v7 : Int) (v8 : Int) (v9 : List S38) (v10 : Int) (v11 : Int) (v12 : Int) : runC laws_FnTimesMadeOfAll.C (laws_FnTimesMadeOfAll.O N) N laws_FnTimesMadeOfAll.c2047 2047 (mkSt [(8, .one (.int .i64 v0)), (9, .one (.int .i64 v1)), (11, .one (.int .i64 v2)), (17, .one (.ptr 17 0)), (18, .one (.ptr 18 0)), (19, .one (.ptr 19 0)), (22, .one (.ptr 22 0))] [(17, some (24, [.int .i64 v3, .sl false 38 v4])), (18, some (38, [.int .i64 v5, .int .i64 v6, .int .i64 v7])), (19, some (24, [.int .i64 v8, .sl false 38 v9])), (22, some (38, [.int .i64 v10, .int .i64 v11, .int .i64 v12]))] : St D0) (laws_FnTimesMadeOfAll.K2047 N) = laws_FnTimesMadeOfAll.d6 N v0 v1 v2 v3 v4 v5 v6 v7 v8 v9 v10 v11 v12 := by
  rw [laws_FnTimesMadeOfAll.c2047_6]; unfold laws_FnTimesMadeOfAll.d6; exact (laws_FnTimesMadeOfAll.o6.run N laws_FnTimesMadeOfAll.c524285 v0 v1 v2 v3 v4 v5 v6 v7 v8 v9 v10 v11 v12).trans (congr rfl (funext fun w0 => funext fun w1 => funext fun w2 => funext fun w3 => funext fun w4 => funext fun w5 => funext fun w6 => funext fun w7 => funext fun w8 => funext fun w9 => funext fun w10 => funext fun w11 => funext fun w12 => funext fun w13 => funext fun w14 => laws_FnTimesMadeOfAll.d7.run N w0 w1 w2 w3 w4 w5 w6 w7 w8 w9 w10 w11 w12 w13 w14))
noncomputable def laws_FnTimesMadeOfAll.B1023 (N : Nat) : St D0 → Option laws_FnTimesMadeOfAll.R := fun s' => runC laws_FnTimesMadeOfAll.C (laws_FnTimesMadeOfAll.O N) N laws_FnTimesMadeOfAll.c2047 2047 s' (laws_FnTimesMadeOfAll.K2047 N)
noncomputable def laws_FnTimesMadeOfAll.K130991 (N : Nat) : Ex → St D0 → Option laws_FnTimesMadeOfAll.R := (onN (fun s => laws_FnTimesMadeOfAll.C.tidy 2046 s (laws_FnTimesMadeOfAll.B1023 N)) laws_FnTimesMadeOfAll.K0)
noncomputable def laws_FnTimesMadeOfAll.o5 (N : Nat) (v0 : Int) (v1 : Int) (v2 : Int) (v3 : Bool) (v4 : Int) (v5 : List S38) (v6 : Int) (v7 : Int) (v8 : Int) (v9 : Int) (v10 : List S38) (v11 : Int) (v12 : Int) (v13 : Int) (c6 : Int → Int → Int → Int → (List S38) → Int → Int → Int → Int → (List S38) → Int → Int → Int → Option laws_FnTimesMadeOfAll.R) : Option laws_FnTimesMadeOfAll.R :=
 bif v3 then
  some (false)
 else
 c6 v0 v1 v2 v4 v5 v6 v7 v8 v9 v10 v11 v12 v13
theorem laws_FnTimesMadeOfAll.o5.run (N : Nat) (Kb1023 : St D0 → Option laws_FnTimesMadeOfAll.R) (v0 : Int) (v1 : Int) (v2 : Int) (v3 : Bool) (v4 : Int) (v5 : List S38) (v6 : Int) (v7 : Int) (v8 : Int) (v9 : Int) (v10 : List S38) (v11 : Int) (v12 : Int) (v13 : Int) : runC laws_FnTimesMadeOfAll.C (laws_FnTimesMadeOfAll.O N) N laws_FnTimesMadeOfAll.c130991 130991 (mkSt [(8, .one (.int .i64 v0)), (9, .one (.int .i64 v1)), (11, .one (.int .i64 v2)), (17, .one (.ptr 17 0)), (18, .one (.ptr 18 0)), (19, .one (.ptr 19 0)), (22, .one (.ptr 22 0)), (193, .one (.bool v3))] [(17, some (24, [.int .i64 v4, .sl false 38 v5])), (18, some (38, [.int .i64 v6, .int .i64 v7, .int .i64 v8])), (19, some (24, [.int .i64 v9, .sl false 38 v10])), (22, some (38, [.int .i64 v11, .int .i64 v12, .int .i64 v13]))] : St D0) (onN (fun s => laws_FnTimesMadeOfAll.C.tidy 2046 s Kb1023) laws_FnTimesMadeOfAll.K0) = laws_FnTimesMadeOfAll.o5 N v0 v1 v2 v3 v4 v5 v6 v7 v8 v9 v10 v11 v12 v13 ((fun w0 w1 w2 w3 w4 w5 w6 w7 w8 w9 w10 w11 w12 => Kb1023 (mkSt [(8, .one (.int .i64 w0)), (9, .one (.int .i64 w1)), (11, .one (.int .i64 w2)), (17, .one (.ptr 17 0)), (18, .one (.ptr 18 0)), (19, .one (.ptr 19 0)), (22, .one (.ptr 22 0))] [(17, some (24, [.int .i64 w3, .sl false 38 w4])), (18, some (38, [.int .i64 w5, .int .i64 w6, .int .i64 w7])), (19, some (24, [.int .i64 w8, .sl false 38 w9])), (22, some (38, [.int .i64 w10, .int .i64 w11, .int .i64 w12]))] : St D0))) := by kernel_rfl
noncomputable def laws_FnTimesMadeOfAll.d5 (N : Nat) (v0 : Int) (v1 : Int) (v2 : Int) (v3 : Bool) (v4 : Int) (v5 : List S38) (v6 : Int) (v7 : Int) (v8 : Int) (v9 : Int) (v10 : List S38) (v11 : Int) (v12 : Int) (v13 : Int) : Option laws_FnTimesMadeOfAll.R := laws_FnTimesMadeOfAll.o5 N v0 v1 v2 v3 v4 v5 v6 v7 v8 v9 v10 v11 v12 v13 ((fun w0 w1 w2 w3 w4 w5 w6 w7 w8 w9 w10 w11 w12 => laws_FnTimesMadeOfAll.d6 N w0 w1 w2 w3 w4 w5 w6 w7 w8 w9 w10 w11 w12))
theorem laws_FnTimesMadeOfAll.d5.run (N : Nat) (v0 : Int) (v1 : Int) (v2 : Int) (v3 : Bool) (v4 : Int) (v5 : List S38) (v6 : Int) (v7 : Int) (v8 : Int) (v9 : Int) (v10 : List S38) (v11 : Int) (v12 : Int) (v13 : Int) : runC laws_FnTimesMadeOfAll.C (laws_FnTimesMadeOfAll.O N) N laws_FnTimesMadeOfAll.c130991 130991 (mkSt [(8, .one (.int .i64 v0)), (9, .one (.int .i64 v1)), (11, .one (.int .i64 v2)), (17, .one (.ptr 17 0)), (18, .one (.ptr 18 0)), (19, .one (.ptr 19 0)), (22, .one (.ptr 22 0)), (193, .one (.bool v3))] [(17, some (24, [.int .i64 v4, .sl false 38 v5])), (18, some (38, [.int .i64 v6, .int .i64 v7, .int .i64 v8])), (19, some (24, [.int .i64 v9, .sl false 38 v10])), (22, some (38, [.int .i64 v11, .int .i64 v12, .int .i64 v13]))] : St D0) (laws_FnTimesMadeOfAll.K130991 N) = laws_FnTimesMadeOfAll.d5 N v0 v1 v2 v3 v4 v5 v6 v7 v8 v9 v10 v11 v12 v13 := by
  unfold laws_FnTimesMadeOfAll.d5; exact (laws_FnTimesMadeOfAll.o5.run N (laws_FnTimesMadeOfAll.B1023 N) v0 v1 v2 v3 v4 v5 v6 v7 v8 v9 v10 v11 v12 v13).trans (congr rfl (funext fun w0 => funext fun w1 => funext fun w2 => funext fun w3 => funext fun w4 => funext fun w5 => funext fun w6 => funext fun w7 => funext fun w8 => funext fun w9 => funext fun w10 => funext fun w11 => funext fun w12 => laws_FnTimesMadeOfAll.d6.run N w0 w1 w2 w3 w4 w5 w6 w7 w8 w9 w10 w11 w12))
noncomputable def laws_FnTimesMadeOfAll.K2045 (N : Nat) : Ex → St D0 → Option laws_FnTimesMadeOfAll.R := (onN (fun s => laws_FnTimesMadeOfAll.C.tidy 1022 s (fun s' => runC laws_FnTimesMadeOfAll.C (laws_FnTimesMadeOfAll.O N) N laws_FnTimesMadeOfAll.c1023 1023 s' laws_FnTimesMadeOfAll.K0)) laws_FnTimesMadeOfAll.K0)
noncomputable def laws_FnTimesMadeOfAll.o4 (N : Nat) (v0 : Int) (v1 : Int) (v2 : Int) (v3 : Bool) (v4 : Bool) (v5 : Int) (v6 : List S38) (v7 : Int) (v8 : List S38) (v9 : Int) (v10 : Int) (v11 : Int) (v12 : Int) (v13 : List S38) (v14 : Int) (v15 : Int) (v16 : Int) (v17 : Int) (v18 : List S38) (c5 : Int → Int → Int → Bool → Int → (List S38) → Int → Int → Int → Int → (List S38) → Int → Int → Int → Option laws_FnTimesMadeOfAll.R) (c6 : Int → Int → Int → Int → (List S38) → Int → Int → Int → Int → (List S38) → Int → Int → Int → Option laws_FnTimesMadeOfAll.R) : Option laws_FnTimesMadeOfAll.R :=
 bif v4 then
  some (false)
 else
 bif v3 then
  (impl_Solutions.g N v5 v6).bind fun r1 =>
  (impl_Solutions.g N v17 v18).bind fun r2 =>
  (impl_NeedlessClues.g N v17 v18).bind fun r3 =>
  bif (!r1.2) then
   c5 v0 v1 v2 true v7 v8 v9 v10 v11 v12 v13 v14 v15 v16
  else
  bif (!r2.2) then
   c5 v0 v1 v2 true v7 v8 v9 v10 v11 v12 v13 v14 v15 v16
  else
  (laws_kSame.g N r1.1 r2.1).bind fun r4 =>
  bif (!r4) then
   c5 v0 v1 v2 true v7 v8 v9 v10 v11 v12 v13 v14 v15 v16
  else
  bif (decide ((v18.length : Int) > (v6.length : Int))) then
   c5 v0 v1 v2 true v7 v8 v9 v10 v11 v12 v13 v14 v15 v16
  else
  bif (!r3.2) then
   c5 v0 v1 v2 true v7 v8 v9 v10 v11 v12 v13 v14 v15 v16
  else
  c5 v0 v1 v2 ((r3.1.length : Int) != 0) v7 v8 v9 v10 v11 v12 v13 v14 v15 v16
 else
 c6 v0 v1 v2 v7 v8 v9 v10 v11 v12 v13 v14 v15 v16
theorem laws_FnTimesMadeOfAll.o4.run (N : Nat) (H2047 : Code) (H130991 : Code) (v0 : Int) (v1 : Int) (v2 : Int) (v3 : Bool) (v4 : Bool) (v5 : Int) (v6 : List S38) (v7 : Int) (v8 : List S38) (v9 : Int) (v10 : Int) (v11 : Int) (v12 : Int) (v13 : List S38) (v14 : Int) (v15 : Int) (v16 : Int) (v17 : Int) (v18 : List S38) : runC laws_FnTimesMadeOfAll.C (laws_FnTimesMadeOfAll.O N) N laws_FnTimesMadeOfAll.c2045 2045 (mkSt [(8, .one (.int .i64 v0)), (9, .one (.int .i64 v1)), (11, .one (.int .i64 v2)), (16, .one (.ptr 16 0)), (17, .one (.ptr 17 0)), (18, .one (.ptr 18 0)), (19, .one (.ptr 19 0)), (22, .one (.ptr 22 0)), (31, .one (.ptr 31 0)), (32, .one (.bool v3)), (147, .one (.bool v4))] [(16, some (24, [.int .i64 v5, .sl false 38 v6])), (17, some (24, [.int .i64 v7, .sl false 38 v8])), (18, some (38, [.int .i64 v9, .int .i64 v10, .int .i64 v11])), (19, some (24, [.int .i64 v12, .sl false 38 v13])), (22, some (38, [.int .i64 v14, .int .i64 v15, .int .i64 v16])), (31, some (24, [.int .i64 v17, .sl false 38 v18]))] : St D0) (onN (fun s => laws_FnTimesMadeOfAll.C.tidy 1022 s (fun s' => runC laws_FnTimesMadeOfAll.C (laws_FnTimesMadeOfAll.O N) N (.seq (.seq laws_FnTimesMadeOfAll.c4092 (.cond (.tmp 148) (.seq laws_FnTimesMadeOfAll.c16372 (.seq laws_FnTimesMadeOfAll.c32746 (.seq laws_FnTimesMadeOfAll.c65494 (.seq laws_FnTimesMadeOfAll.c130990 H130991)))) laws_FnTimesMadeOfAll.c8187)) H2047) 1023 s' laws_FnTimesMadeOfAll.K0)) laws_FnTimesMadeOfAll.K0) = laws_FnTimesMadeOfAll.o4 N v0 v1 v2 v3 v4 v5 v6 v7 v8 v9 v10 v11 v12 v13 v14 v15 v16 v17 v18 ((fun w0 w1 w2 w3 w4 w5 w6 w7 w8 w9 w10 w11 w12 w13 => runC laws_FnTimesMadeOfAll.C (laws_FnTimesMadeOfAll.O N) N H130991 130991 (mkSt [(8, .one (.int .i64 w0)), (9, .one (.int .i64 w1)), (11, .one (.int .i64 w2)), (17, .one (.ptr 17 0)), (18, .one (.ptr 18 0)), (19, .one (.ptr 19 0)), (22, .one (.ptr 22 0)), (193, .one (.bool w3))] [(17, some (24, [.int .i64 w4, .sl false 38 w5])), (18, some (38, [.int .i64 w6, .int .i64 w7, .int .i64 w8])), (19, some (24, [.int .i64 w9, .sl false 38 w10])), (22, some (38, [.int .i64 w11, .int .i64 w12, .int .i64 w13]))] : St D0) (onN (fun s => laws_FnTimesMadeOfAll.C.tidy 2046 s (fun s' => runC laws_FnTimesMadeOfAll.C (laws_FnTimesMadeOfAll.O N) N H2047 2047 s' laws_FnTimesMadeOfAll.K0)) laws_FnTimesMadeOfAll.K0))) ((fun w0 w1 w2 w3 w4 w5 w6 w7 w8 w9 w10 w11 w12 => runC laws_FnTimesMadeOfAll.C (laws_FnTimesMadeOfAll.O N) N H2047 2047 (mkSt [(8, .one (.int .i64 w0)), (9, .one (.int .i64 w1)), (11, .one (.int .i64 w2)), (17, .one (.ptr 17 0)), (18, .one (.ptr 18 0)), (19, .one (.ptr 19 0)), (22, .one (.ptr 22 0))] [(17, some (24, [.int .i64 w3, .sl false 38 w4])), (18, some (38, [.int .i64 w5, .int .i64 w6, .int .i64 w7])), (19, some (24, [.int .i64 w8, .sl false 38 w9])), (22, some (38, [.int .i64 w10, .int .i64 w11, .int .i64 w12]))] : St D0) laws_FnTimesMadeOfAll.K0)) := by kernel_rfl
noncomputable def laws_FnTimesMadeOfAll.B65495 (N : Nat) : St D0 → Option laws_FnTimesMadeOfAll.R := fun s' => runC laws_FnTimesMadeOfAll.C (laws_FnTimesMadeOfAll.O N) N laws_FnTimesMadeOfAll.c130991 130991 s' (laws_FnTimesMadeOfAll.K130991 N)
noncomputable def laws_FnTimesMadeOfAll.d4 (N : Nat) (v0 : Int) (v1 : Int) (v2 : Int) (v3 : Bool) (v4 : Bool) (v5 : Int) (v6 : List S38) (v7 : Int) (v8 : List S38) (v9 : Int) (v10 : Int) (v11 : Int) (v12 : Int) (v13 : List S38) (v14 : Int) (v15 : Int) (v16 : Int) (v17 : Int) (v18 : List S38) : Option laws_FnTimesMadeOfAll.R := laws_FnTimesMadeOfAll.o4 N v0 v1 v2 v3 v4 v5 v6 v7 v8 v9 v10 v11 v12 v13 v14 v15 v16 v17 v18 ((fun w0 w1 w2 w3 w4 w5 w6 w7 w8 w9 w10 w11 w12 w13 => laws_FnTimesMadeOfAll.d5 N w0 w1 w2 w3 w4 w5 w6 w7 w8 w9 w10 w11 w12 w13)) ((fun w0 w1 w2 w3 w4 w5 w6 w7 w8 w9 w10 w11 w12 => laws_FnTimesMadeOfAll.d6 N w0 w1 w2 w3 w4 w5 w6 w7 w8 w9 w10 w11 w12))
theorem laws_FnTimesMadeOfAll.d4.run (N : Nat) (v0 : Int) (v1 : Int) (v2 : Int) (v3 : Bool) (v4 : Bool) (v5 : Int) (v6 : List S38) (v7 : Int) (v8 : List S38) (v9 : Int) (v10 : Int) (v11 : Int) (v12 : Int) (v13 : List S38) (v14 : Int) (v15 : Int) (v16 : Int) (v17 : Int) (v18 : List S38) : runC laws_FnTimesMadeOfAll.C (laws_FnTimesMadeOfAll.O N) N laws_FnTimesMadeOfAll.c2045 2045 (mkSt [(8, .one (.int .i64 v0)), (9, .one (.int .i64 v1)), (11, .one (.int .i64 v2)), (16, .one (.ptr 16 0)), (17, .one (.ptr 17 0)), (18, .one (.ptr 18 0)), (19, .one (.ptr 19 0)), (22, .one (.ptr 22 0)), (31, .one (.ptr 31 0)), (32, .one (.bool v3)), (147, .one (.bool v4))] [(16, some (24, [.int .i64 v5, .sl false 38 v6])), (17, some (24, [.int .i64 v7, .sl false 38 v8])), (18, some (38, [.int .i64 v9, .int .i64 v10, .int .i64 v11])), (19, some (24, [.int .i64 v12, .sl false 38 v13])), (22, some (38, [.int .i64 v14, .int .i64 v15, .int .i64 v16])), (31, some (24, [.int .i64 v17, .sl false 38 v18]))] : St D0) (laws_FnTimesMadeOfAll.K2045 N) = laws_FnTimesMadeOfAll.d4 N v0 v1 v2 v3 v4 v5 v6 v7 v8 v9 v10 v11 v12 v13 v14 v15 v16 v17 v18 := by
  unfold laws_FnTimesMadeOfAll.d4; exact (laws_FnTimesMadeOfAll.o4.run N laws_FnTimesMadeOfAll.c2047 laws_FnTimesMadeOfAll.c130991 v0 v1 v2 v3 v4 v5 v6 v7 v8 v9 v10 v11 v12 v13 v14 v15 v16 v17 v18).trans (congr (congr rfl (funext fun w0 => funext fun w1 => funext fun w2 => funext fun w3 => funext fun w4 => funext fun w5 => funext fun w6 => funext fun w7 => funext fun w8 => funext fun w9 => funext fun w10 => funext fun w11 => funext fun w12 => funext fun w13 => laws_FnTimesMadeOfAll.d5.run N w0 w1 w2 w3 w4 w5 w6 w7 w8 w9 w10 w11 w12 w13)) (funext fun w0 => funext fun w1 => funext fun w2 => funext fun w3 => funext fun w4 => funext fun w5 => funext fun w6 => funext fun w7 => funext fun w8 => funext fun w9 => funext fun w10 => funext fun w11 => funext fun w12 => laws_FnTimesMadeOfAll.d6.run N w0 w1 w2 w3 w4 w5 w6 w7 w8 w9 w10 w11 w12))
noncomputable def laws_FnTimesMadeOfAll.K63 (N : Nat) : Ex → St D0 → Option laws_FnTimesMadeOfAll.R := laws_FnTimesMadeOfAll.K0
noncomputable def laws_FnTimesMadeOfAll.o3 (N : Nat) (v0 : Int) (v1 : Int) (v2 : Int) (v3 : Int) (v4 : List S38) (v5 : Int) (v6 : List S38) (v7 : Int) (v8 : Int) (v9 : Int) (v10 : Int) (v11 : List S38) (v12 : Int) (v13 : Int) (v14 : Int) (c4 : Int → Int → Int → Bool → Bool → Int → (List S38) → Int → (List S38) → Int → Int → Int → Int → (List S38) → Int → Int → Int → Int → (List S38) → Option laws_FnTimesMadeOfAll.R) : Option laws_FnTimesMadeOfAll.R :=
 (impl_HarderPuzzle.g N v3 v4).bind fun r1 =>
 (spec_HarderPuzzle.g N v3 v4).bind fun r2 =>
 (impl_IsSolved.g N v3 v4).bind fun r3 =>
 bif (!(r1.2.2 == r2.2.2)) then
  c4 v0 v1 v2 r1.2.2 true v3 v4 v5 v6 v7 v8 v9 v10 v11 v12 v13 v14 r1.1 r1.2.1
 else
 (laws_kPuzzle.g N r1.1 r1.2.1 r2.1 r2.2.1).bind fun r4 =>
 bif (!r4) then
  c4 v0 v1 v2 r1.2.2 true v3 v4 v5 v6 v7 v8 v9 v10 v11 v12 v13 v14 r1.1 r1.2.1
 else
 bif r3.2 then
  c4 v0 v1 v2 r1.2.2 (!(r1.2.2 == r3.1)) v3 v4 v5 v6 v7 v8 v9 v10 v11 v12 v13 v14 r1.1 r1.2.1
 else
 c4 v0 v1 v2 r1.2.2 (!(r1.2.2 == false)) v3 v4 v5 v6 v7 v8 v9 v10 v11 v12 v13 v14 r1.1 r1.2.1
theorem laws_FnTimesMadeOfAll.o3.run (N : Nat) (H2045 : Code) (v0 : Int) (v1 : Int) (v2 : Int) (v3 : Int) (v4 : List S38) (v5 : Int) (v6 : List S38) (v7 : Int) (v8 : Int) (v9 : Int) (v10 : Int) (v11 : List S38) (v12 : Int) (v13 : Int) (v14 : Int) : runC laws_FnTimesMadeOfAll.C (laws_FnTimesMadeOfAll.O N) N (.seq laws_FnTimesMadeOfAll.c126 (.seq laws_FnTimesMadeOfAll.c254 (.seq laws_FnTimesMadeOfAll.c510 (.seq (.seq laws_FnTimesMadeOfAll.c2044 H2045) laws_FnTimesMadeOfAll.c1023)))) 63 (mkSt [(8, .one (.int .i64 v0)), (9, .one (.int .i64 v1)), (11, .one (.int .i64 v2)), (16, .one (.ptr 16 0)), (17, .one (.ptr 17 0)), (18, .one (.ptr 18 0)), (19, .one (.ptr 19 0)), (22, .one (.ptr 22 0))] [(16, some (24, [.int .i64 v3, .sl false 38 v4])), (17, some (24, [.int .i64 v5, .sl false 38 v6])), (18, some (38, [.int .i64 v7, .int .i64 v8, .int .i64 v9])), (19, some (24, [.int .i64 v10, .sl false 38 v11])), (22, some (38, [.int .i64 v12, .int .i64 v13, .int .i64 v14]))] : St D0) laws_FnTimesMadeOfAll.K0 = laws_FnTimesMadeOfAll.o3 N v0 v1 v2 v3 v4 v5 v6 v7 v8 v9 v10 v11 v12 v13 v14 ((fun w0 w1 w2 w3 w4 w5 w6 w7 w8 w9 w10 w11 w12 w13 w14 w15 w16 w17 w18 => runC laws_FnTimesMadeOfAll.C (laws_FnTimesMadeOfAll.O N) N H2045 2045 (mkSt [(8, .one (.int .i64 w0)), (9, .one (.int .i64 w1)), (11, .one (.int .i64 w2)), (16, .one (.ptr 16 0)), (17, .one (.ptr 17 0)), (18, .one (.ptr 18 0)), (19, .one (.ptr 19 0)), (22, .one (.ptr 22 0)), (31, .one (.ptr 31 0)), (32, .one (.bool w3)), (147, .one (.bool w4))] [(16, some (24, [.int .i64 w5, .sl false 38 w6])), (17, some (24, [.int .i64 w7, .sl false 38 w8])), (18, some (38, [.int .i64 w9, .int .i64 w10, .int .i64 w11])), (19, some (24, [.int .i64 w12, .sl false 38 w13])), (22, some (38, [.int .i64 w14, .int .i64 w15, .int .i64 w16])), (31, some (24, [.int .i64 w17, .sl false 38 w18]))] : St D0) (onN (fun s => laws_FnTimesMadeOfAll.C.tidy 1022 s (fun s' => runC laws_FnTimesMadeOfAll.C (laws_FnTimesMadeOfAll.O N) N laws_FnTimesMadeOfAll.c1023 1023 s' laws_FnTimesMadeOfAll.K0)) laws_FnTimesMadeOfAll.K0))) := by kernel_rfl
noncomputable def laws_FnTimesMadeOfAll.B1022 (N : Nat) : St D0 → Option laws_FnTimesMadeOfAll.R := fun s' => runC laws_FnTimesMadeOfAll.C (laws_FnTimesMadeOfAll.O N) N laws_FnTimesMadeOfAll.c2045 2045 s' (laws_FnTimesMadeOfAll.K2045 N)
noncomputable def laws_FnTimesMadeOfAll.d3 (N : Nat) (v0 : Int) (v1 : Int) (v2 : Int) (v3 : Int) (v4 : List S38) (v5 : Int) (v6 : List S38) (v7 : Int) (v8 : Int) (v9 : Int) (v10 : Int) (v11 : List S38) (v12 : Int) (v13 : Int) (v14 : Int) : Option laws_FnTimesMadeOfAll.R := laws_FnTimesMadeOfAll.o3 N v0 v1 v2 v3 v4 v5 v6 v7 v8 v9 v10 v11 v12 v13 v14 ((fun w0 w1 w2 w3 w4 w5 w6 w7 w8 w9 w10 w11 w12 w13 w14 w15 w16 w17 w18 => laws_FnTimesMadeOfAll.d4 N w0 w1 w2 w3 w4 w5 w6 w7 w8 w9 w10 w11 w12 w13 w14 w15 w16 w17 w18))
theorem laws_FnTimesMadeOfAll.c63_3 : laws_FnTimesMadeOfAll.c63 = (.seq laws_FnTimesMadeOfAll.c126 (.seq laws_FnTimesMadeOfAll.c254 (.seq laws_FnTimesMadeOfAll.c510 (.seq (.seq laws_FnTimesMadeOfAll.c2044 laws_FnTimesMadeOfAll.c2045) laws_FnTimesMadeOfAll.c1023)))) := by kernel_rfl
theorem laws_FnTimesMadeOfAll.d3.run (N : Nat) (v0 : Int) (v1 : Int) (v2 : Int) (v3 : Int) (v4 : List S38) (v5 : Int) (v6 : List S38) (v7 : Int) (v8 : Int) (v9 : Int) (v10 : Int) (v11 : List S38) (v12 : Int) (v13 : Int) (v14 : Int) : runC laws_FnTimesMadeOfAll.C (laws_FnTimesMadeOfAll.O N) N laws_FnTimesMadeOfAll.c63 63 (mkSt [(8, .one (.int .i64 v0)), (9, .one (.int .i64 v1)), (11, .one (.int .i64 v2)), (16, .one (.ptr 16 0)), (17, .one (.ptr 17 0)), (18, .one (.ptr 18 0)), (19, .one (.ptr 19 0)), (22, .one (.ptr 22 0))] [(16, some (24, [.int .i64 v3, .sl false 38 v4])), (17, some (24, [.int .i64 v5, .sl false 38 v6])), (18, some (38, [.int .i64 v7, .int .i64 v8, .int .i64 v9])), (19, some (24, [.int .i64 v10, .sl false 38 v11])), (22, some (38, [.int .i64 v12, .int .i64 v13, .int .i64 v14]))] : St D0) (laws_FnTimesMadeOfAll.K63 N) = laws_FnTimesMadeOfAll.d3 N v0 v1 v2 v3 v4 v5 v6 v7 v8 v9 v10 v11 v12 v13 v14 := by
  rw [laws_FnTimesMadeOfAll.c63_3]; unfold laws_FnTimesMadeOfAll.d3; exact (laws_FnTimesMadeOfAll.o3.run N laws_FnTimesMadeOfAll.c2045 v0 v1 v2 v3 v4 v5 v6 v7 v8 v9 v10 v11 v12 v13 v14).trans (congr rfl (funext fun w0 => funext fun w1 => funext fun w2 => funext fun w3 => funext fun w4 => funext fun w5 => funext fun w6 => funext fun w7 => funext fun w8 => funext fun w9 => funext fun w10 => funext fun w11 => funext fun w12 => funext fun w13 => funext fun w14 => funext fun w15 => funext fun w16 => funext fun w17 => funext fun w18 => laws_FnTimesMadeOfAll.d4.run N w0 w1 w2 w3 w4 w5 w6 w7 w8 w9 w10 w11 w12 w13 w14 w15 w16 w17 w18))
noncomputable def laws_FnTimesMadeOfAll.B31 (N : Nat) : St D0 → Option laws_FnTimesMadeOfAll.R := fun s' => runC laws_FnTimesMadeOfAll.C (laws_FnTimesMadeOfAll.O N) N laws_FnTimesMadeOfAll.c63 63 s' (laws_FnTimesMadeOfAll.K63 N)
noncomputable def laws_FnTimesMadeOfAll.K1003 (N : Nat) : Ex → St D0 → Option laws_FnTimesMadeOfAll.R := (onN (fun s => laws_FnTimesMadeOfAll.C.tidy 62 s (laws_FnTimesMadeOfAll.B31 N)) laws_FnTimesMadeOfAll.K0)
noncomputable def laws_FnTimesMadeOfAll.o2 (N : Nat) (v0 : Int) (v1 : Int) (v2 : Int) (v3 : Bool) (v4 : Int) (v5 : List S38) (v6 : Int) (v7 : List S38) (v8 : Int) (v9 : Int) (v10 : Int) (v11 : Int) (v12 : List S38) (v13 : Int) (v14 : Int) (v15 : Int) (c3 : Int → Int → Int → Int → (List S38) → Int → (List S38) → Int → Int → Int → Int → (List S38) → Int → Int → Int → Option laws_FnTimesMadeOfAll.R) : Option laws_FnTimesMadeOfAll.R :=
 bif v3 then
  some (false)
 else
 c3 v0 v1 v2 v4 v5 v6 v7 v8 v9 v10 v11 v12 v13 v14 v15
theorem laws_FnTimesMadeOfAll.o2.run (N : Nat) (Kb31 : St D0 → Option laws_FnTimesMadeOfAll.R) (v0 : Int) (v1 : Int) (v2 : Int) (v3 : Bool) (v4 : Int) (v5 : List S38) (v6 : Int) (v7 : List S38) (v8 : Int) (v9 : Int) (v10 : Int) (v11 : Int) (v12 : List S38) (v13 : Int) (v14 : Int) (v15 : Int) : runC laws_FnTimesMadeOfAll.C (laws_FnTimesMadeOfAll.O N) N laws_FnTimesMadeOfAll.c1003 1003 (mkSt [(8, .one (.int .i64 v0)), (9, .one (.int .i64 v1)), (11, .one (.int .i64 v2)), (16, .one (.ptr 16 0)), (17, .one (.ptr 17 0)), (18, .one (.ptr 18 0)), (19, .one (.ptr 19 0)), (22, .one (.ptr 22 0)), (115, .one (.bool v3))] [(16, some (24, [.int .i64 v4, .sl false 38 v5])), (17, some (24, [.int .i64 v6, .sl false 38 v7])), (18, some (38, [.int .i64 v8, .int .i64 v9, .int .i64 v10])), (19, some (24, [.int .i64 v11, .sl false 38 v12])), (22, some (38, [.int .i64 v13, .int .i64 v14, .int .i64 v15]))] : St D0) (onN (fun s => laws_FnTimesMadeOfAll.C.tidy 62 s Kb31) laws_FnTimesMadeOfAll.K0) = laws_FnTimesMadeOfAll.o2 N v0 v1 v2 v3 v4 v5 v6 v7 v8 v9 v10 v11 v12 v13 v14 v15 ((fun w0 w1 w2 w3 w4 w5 w6 w7 w8 w9 w10 w11 w12 w13 w14 => Kb31 (mkSt [(8, .one (.int .i64 w0)), (9, .one (.int .i64 w1)), (11, .one (.int .i64 w2)), (16, .one (.ptr 16 0)), (17, .one (.ptr 17 0)), (18, .one (.ptr 18 0)), (19, .one (.ptr 19 0)), (22, .one (.ptr 22 0))] [(16, some (24, [.int .i64 w3, .sl false 38 w4])), (17, some (24, [.int .i64 w5, .sl false 38 w6])), (18, some (38, [.int .i64 w7, .int .i64 w8, .int .i64 w9])), (19, some (24, [.int .i64 w10, .sl false 38 w11])), (22, some (38, [.int .i64 w12, .int .i64 w13, .int .i64 w14]))] : St D0))) := by kernel_rfl
noncomputable def laws_FnTimesMadeOfAll.d2 (N : Nat) (v0 : Int) (v1 : Int) (v2 : Int) (v3 : Bool) (v4 : Int) (v5 : List S38) (v6 : Int) (v7 : List S38) (v8 : Int) (v9 : Int) (v10 : Int) (v11 : Int) (v12 : List S38) (v13 : Int) (v14 : Int) (v15 : Int) : Option laws_FnTimesMadeOfAll.R := laws_FnTimesMadeOfAll.o2 N v0 v1 v2 v3 v4 v5 v6 v7 v8 v9 v10 v11 v12 v13 v14 v15 ((fun w0 w1 w2 w3 w4 w5 w6 w7 w8 w9 w10 w11 w12 w13 w14 => laws_FnTimesMadeOfAll.d3 N w0 w1 w2 w3 w4 w5 w6 w7 w8 w9 w10 w11 w12 w13 w14))
theorem laws_FnTimesMadeOfAll.d2.run (N : Nat) (v0 : Int) (v1 : Int) (v2 : Int) (v3 : Bool) (v4 : Int) (v5 : List S38) (v6 : Int) (v7 : List S38) (v8 : Int) (v9 : Int) (v10 : Int) (v11 : Int) (v12 : List S38) (v13 : Int) (v14 : Int) (v15 : Int) : runC laws_FnTimesMadeOfAll.C (laws_FnTimesMadeOfAll.O N) N laws_FnTimesMadeOfAll.c1003 1003 (mkSt [(8, .one (.int .i64 v0)), (9, .one (.int .i64 v1)), (11, .one (.int .i64 v2)), (16, .one (.ptr 16 0)), (17, .one (.ptr 17 0)), (18, .one (.ptr 18 0)), (19, .one (.ptr 19 0)), (22, .one (.ptr 22 0)), (115, .one (.bool v3))] [(16, some (24, [.int .i64 v4, .sl false 38 v5])), (17, some (24, [.int .i64 v6, .sl false 38 v7])), (18, some (38, [.int .i64 v8, .int .i64 v9, .int .i64 v10])), (19, some (24, [.int .i64 v11, .sl false 38 v12])), (22, some (38, [.int .i64 v13, .int .i64 v14, .int .i64 v15]))] : St D0) (laws_FnTimesMadeOfAll.K1003 N) = laws_FnTimesMadeOfAll.d2 N v0 v1 v2 v3 v4 v5 v6 v7 v8 v9 v10 v11 v12 v13 v14 v15 := by
  unfold laws_FnTimesMadeOfAll.d2; exact (laws_FnTimesMadeOfAll.o2.run N (laws_FnTimesMadeOfAll.B31 N) v0 v1 v2 v3 v4 v5 v6 v7 v8 v9 v10 v11 v12 v13 v14 v15).trans (congr rfl (funext fun w0 => funext fun w1 => funext fun w2 => funext fun w3 => funext fun w4 => funext fun w5 => funext fun w6 => funext fun w7 => funext fun w8 => funext fun w9 => funext fun w10 => funext fun w11 => funext fun w12 => funext fun w13 => funext fun w14 => laws_FnTimesMadeOfAll.d3.run N w0 w1 w2 w3 w4 w5 w6 w7 w8 w9 w10 w11 w12 w13 w14))
noncomputable def laws_FnTimesMadeOfAll.K61 (N : Nat) : Ex → St D0 → Option laws_FnTimesMadeOfAll.R := (onN (fun s => laws_FnTimesMadeOfAll.C.tidy 30 s (fun s' => runC laws_FnTimesMadeOfAll.C (laws_FnTimesMadeOfAll.O N) N laws_FnTimesMadeOfAll.c31 31 s' laws_FnTimesMadeOfAll.K0)) laws_FnTimesMadeOfAll.K0)
noncomputable def laws_FnTimesMadeOfAll.o1 (N : Nat) (v0 : Int) (v1 : Int) (v2 : Int) (v3 : Int) (v4 : Int) (v5 : Int) (v6 : Bool) (v7 : Bool) (v8 : Int) (v9 : List S38) (v10 : Int) (v11 : List S38) (v12 : Int) (v13 : Int) (v14 : Int) (v15 : Int) (v16 : List S38) (v17 : Int) (v18 : Int) (v19 : Int) (v20 : Int) (v21 : List S38) (c2 : Int → Int → Int → Bool → Int → (List S38) → Int → (List S38) → Int → Int → Int → Int → (List S38) → Int → Int → Int → Option laws_FnTimesMadeOfAll.R) (c3 : Int → Int → Int → Int → (List S38) → Int → (List S38) → Int → Int → Int → Int → (List S38) → Int → Int → Int → Option laws_FnTimesMadeOfAll.R) : Option laws_FnTimesMadeOfAll.R :=
 bif v7 then
  some (false)
 else
 bif v6 then
  (impl_Solutions.g N v20 v21).bind fun r1 =>
  (impl_IsPuzzle.g N v20 v21).bind fun r2 =>
  bif (!r2) then
   c2 v3 v4 v5 true v8 v9 v10 v11 v12 v13 v14 v15 v16 v17 v18 v19
  else
  bif (!r1.2) then
   c2 v3 v4 v5 true v8 v9 v10 v11 v12 v13 v14 v15 v16 v17 v18 v19
  else
  (laws_kHas.g N r1.1 v1).bind fun r3 =>
  bif (!r3) then
   c2 v3 v4 v5 true v8 v9 v10 v11 v12 v13 v14 v15 v16 v17 v18 v19
  else
  bif ((v21.length : Int) != v2) then
   c2 v3 v4 v5 true v8 v9 v10 v11 v12 v13 v14 v15 v16 v17 v18 v19
  else
  c2 v3 v4 v5 (v20 != v0) v8 v9 v10 v11 v12 v13 v14 v15 v16 v17 v18 v19
 else
 c3 v3 v4 v5 v8 v9 v10 v11 v12 v13 v14 v15 v16 v17 v18 v19
theorem laws_FnTimesMadeOfAll.o1.run (N : Nat) (H63 : Code) (H1003 : Code) (v0 : Int) (v1 : Int) (v2 : Int) (v3 : Int) (v4 : Int) (v5 : Int) (v6 : Bool) (v7 : Bool) (v8 : Int) (v9 : List S38) (v10 : Int) (v11 : List S38) (v12 : Int) (v13 : Int) (v14 : Int) (v15 : Int) (v16 : List S38) (v17 : Int) (v18 : Int) (v19 : Int) (v20 : Int) (v21 : List S38) : runC laws_FnTimesMadeOfAll.C (laws_FnTimesMadeOfAll.O N) N laws_FnTimesMadeOfAll.c61 61 (mkSt [(0, .one (.int .i64 v0)), (1, .one (.int .i64 v1)), (2, .one (.int .i64 v2)), (8, .one (.int .i64 v3)), (9, .one (.int .i64 v4)), (11, .one (.int .i64 v5)), (16, .one (.ptr 16 0)), (17, .one (.ptr 17 0)), (18, .one (.ptr 18 0)), (19, .one (.ptr 19 0)), (22, .one (.ptr 22 0)), (25, .one (.ptr 25 0)), (26, .one (.bool v6)), (83, .one (.bool v7))] [(16, some (24, [.int .i64 v8, .sl false 38 v9])), (17, some (24, [.int .i64 v10, .sl false 38 v11])), (18, some (38, [.int .i64 v12, .int .i64 v13, .int .i64 v14])), (19, some (24, [.int .i64 v15, .sl false 38 v16])), (22, some (38, [.int .i64 v17, .int .i64 v18, .int .i64 v19])), (25, some (24, [.int .i64 v20, .sl false 38 v21]))] : St D0) (onN (fun s => laws_FnTimesMadeOfAll.C.tidy 30 s (fun s' => runC laws_FnTimesMadeOfAll.C (laws_FnTimesMadeOfAll.O N) N (.seq (.seq laws_FnTimesMadeOfAll.c124 (.cond (.tmp 84) (.seq laws_FnTimesMadeOfAll.c500 (.seq laws_FnTimesMadeOfAll.c1002 H1003)) laws_FnTimesMadeOfAll.c251)) H63) 31 s' laws_FnTimesMadeOfAll.K0)) laws_FnTimesMadeOfAll.K0) = laws_FnTimesMadeOfAll.o1 N v0 v1 v2 v3 v4 v5 v6 v7 v8 v9 v10 v11 v12 v13 v14 v15 v16 v17 v18 v19 v20 v21 ((fun w0 w1 w2 w3 w4 w5 w6 w7 w8 w9 w10 w11 w12 w13 w14 w15 => runC laws_FnTimesMadeOfAll.C (laws_FnTimesMadeOfAll.O N) N H1003 1003 (mkSt [(8, .one (.int .i64 w0)), (9, .one (.int .i64 w1)), (11, .one (.int .i64 w2)), (16, .one (.ptr 16 0)), (17, .one (.ptr 17 0)), (18, .one (.ptr 18 0)), (19, .one (.ptr 19 0)), (22, .one (.ptr 22 0)), (115, .one (.bool w3))] [(16, some (24, [.int .i64 w4, .sl false 38 w5])), (17, some (24, [.int .i64 w6, .sl false 38 w7])), (18, some (38, [.int .i64 w8, .int .i64 w9, .int .i64 w10])), (19, some (24, [.int .i64 w11, .sl false 38 w12])), (22, some (38, [.int .i64 w13, .int .i64 w14, .int .i64 w15]))] : St D0) (onN (fun s => laws_FnTimesMadeOfAll.C.tidy 62 s (fun s' => runC laws_FnTimesMadeOfAll.C (laws_FnTimesMadeOfAll.O N) N H63 63 s' laws_FnTimesMadeOfAll.K0)) laws_FnTimesMadeOfAll.K0))) ((fun w0 w1 w2 w3 w4 w5 w6 w7 w8 w9 w10 w11 w12 w13 w14 => runC laws_FnTimesMadeOfAll.C (laws_FnTimesMadeOfAll.O N) N H63 63 (mkSt [(8, .one (.int .i64 w0)), (9, .one (.int .i64 w1)), (11, .one (.int .i64 w2)), (16, .one (.ptr 16 0)), (17, .one (.ptr 17 0)), (18, .one (.ptr 18 0)), (19, .one (.ptr 19 0)), (22, .one (.ptr 22 0))] [(16, some (24, [.int .i64 w3, .sl false 38 w4])), (17, some (24, [.int .i64 w5, .sl false 38 w6])), (18, some (38, [.int .i64 w7, .int .i64 w8, .int .i64 w9])), (19, some (24, [.int .i64 w10, .sl false 38 w11])), (22, some (38, [.int .i64 w12, .int .i64 w13, .int .i64 w14]))] : St D0) laws_FnTimesMadeOfAll.K0)) := by kernel_rfl
noncomputable def laws_FnTimesMadeOfAll.B501 (N : Nat) : St D0 → Option laws_FnTimesMadeOfAll.R := fun s' => runC laws_FnTimesMadeOfAll.C (laws_FnTimesMadeOfAll.O N) N laws_FnTimesMadeOfAll.c1003 1003 s' (laws_FnTimesMadeOfAll.K1003 N)
noncomputable def laws_FnTimesMadeOfAll.d1 (N : Nat) (v0 : Int) (v1 : Int) (v2 : Int) (v3 : Int) (v4 : Int) (v5 : Int) (v6 : Bool) (v7 : Bool) (v8 : Int) (v9 : List S38) (v10 : Int) (v11 : List S38) (v12 : Int) (v13 : Int) (v14 : Int) (v15 : Int) (v16 : List S38) (v17 : Int) (v18 : Int) (v19 : Int) (v20 : Int) (v21 : List S38) : Option laws_FnTimesMadeOfAll.R := laws_FnTimesMadeOfAll.o1 N v0 v1 v2 v3 v4 v5 v6 v7 v8 v9 v10 v11 v12 v13 v14 v15 v16 v17 v18 v19 v20 v21 ((fun w0 w1 w2 w3 w4 w5 w6 w7 w8 w9 w10 w11 w12 w13 w14 w15 => laws_FnTimesMadeOfAll.d2 N w0 w1 w2 w3 w4 w5 w6 w7 w8 w9 w10 w11 w12 w13 w14 w15)) ((fun w0 w1 w2 w3 w4 w5 w6 w7 w8 w9 w10 w11 w12 w13 w14 => laws_FnTimesMadeOfAll.d3 N w0 w1 w2 w3 w4 w5 w6 w7 w8 w9 w10 w11 w12 w13 w14))
theorem laws_FnTimesMadeOfAll.d1.run (N : Nat) (v0 : Int) (v1 : Int) (v2 : Int) (v3 : Int) (v4 : Int) (v5 : Int) (v6 : Bool) (v7 : Bool) (v8 : Int) (v9 : List S38) (v10 : Int) (v11 : List S38) (v12 : Int) (v13 : Int) (v14 : Int) (v15 : Int) (v16 : List S38) (v17 : Int) (v18 : Int) (v19 : Int) (v20 : Int) (v21 : List S38) : runC laws_FnTimesMadeOfAll.C (laws_FnTimesMadeOfAll.O N) N laws_FnTimesMadeOfAll.c61 61 (mkSt [(0, .one (.int .i64 v0)), (1, .one (.int .i64 v1)), (2, .one (.int .i64 v2)), (8, .one (.int .i64 v3)), (9, .one (.int .i64 v4)), (11, .one (.int .i64 v5)), (16, .one (.ptr 16 0)), (17, .one (.ptr 17 0)), (18, .one (.ptr 18 0)), (19, .one (.ptr 19 0)), (22, .one (.ptr 22 0)), (25, .one (.ptr 25 0)), (26, .one (.bool v6)), (83, .one (.bool v7))] [(16, some (24, [.int .i64 v8, .sl false 38 v9])), (17, some (24, [.int .i64 v10, .sl false 38 v11])), (18, some (38, [.int .i64 v12, .int .i64 v13, .int .i64 v14])), (19, some (24, [.int .i64 v15, .sl false 38 v16])), (22, some (38, [.int .i64 v17, .int .i64 v18, .int .i64 v19])), (25, some (24, [.int .i64 v20, .sl false 38 v21]))] : St D0) (laws_FnTimesMadeOfAll.K61 N) = laws_FnTimesMadeOfAll.d1 N v0 v1 v2 v3 v4 v5 v6 v7 v8 v9 v10 v11 v12 v13 v14 v15 v16 v17 v18 v19 v20 v21 := by
  unfold laws_FnTimesMadeOfAll.d1; exact (laws_FnTimesMadeOfAll.o1.run N laws_FnTimesMadeOfAll.c63 laws_FnTimesMadeOfAll.c1003 v0 v1 v2 v3 v4 v5 v6 v7 v8 v9 v10 v11 v12 v13 v14 v15 v16 v17 v18 v19 v20 v21).trans (congr (congr rfl (funext fun w0 => funext fun w1 => funext fun w2 => funext fun w3 => funext fun w4 => funext fun w5 => funext fun w6 => funext fun w7 => funext fun w8 => funext fun w9 => funext fun w10 => funext fun w11 => funext fun w12 => funext fun w13 => funext fun w14 => funext fun w15 => laws_FnTimesMadeOfAll.d2.run N w0 w1 w2 w3 w4 w5 w6 w7 w8 w9 w10 w11 w12 w13 w14 w15)) (funext fun w0 => funext fun w1 => funext fun w2 => funext fun w3 => funext fun w4 => funext fun w5 => funext fun w6 => funext fun w7 => funext fun w8 => funext fun w9 => funext fun w10 => funext fun w11 => funext fun w12 => funext fun w13 => funext fun w14 => laws_FnTimesMadeOfAll.d3.run N w0 w1 w2 w3 w4 w5 w6 w7 w8 w9 w10 w11 w12 w13 w14))
noncomputable def laws_FnTimesMadeOfAll.o0 (N : Nat) (a0 : Int) (a1 : Int) (a2 : Int) (a3 : Int) (a4_0 : Int) (a4_1 : List S38) (a5_0 : Int) (a5_1 : List S38) (a6_0 : Int) (a6_1 : Int) (a6_2 : Int) (a7_0 : Int) (a7_1 : List S38) (a8 : Int) (a9 : Int) (a10_0 : Int) (a10_1 : Int) (a10_2 : Int) (a11 : Int) (c1 : Int → Int → Int → Int → Int → Int → Bool → Bool → Int → (List S38) → Int → (List S38) → Int → Int → Int → Int → (List S38) → Int → Int → Int → Int → (List S38) → Option laws_FnTimesMadeOfAll.R) : Option laws_FnTimesMadeOfAll.R :=
 (impl_MakePuzzle.g N a0 a1 a2 a3).bind fun r1 =>
 (spec_MakePuzzle.g N a0 a1 a2 a3).bind fun r2 =>
 bif (!(r1.2.2 == r2.2.2)) then
  c1 a0 a1 a2 a8 a9 a11 r1.2.2 true a4_0 a4_1 a5_0 a5_1 a6_0 a6_1 a6_2 a7_0 a7_1 a10_0 a10_1 a10_2 r1.1 r1.2.1
 else
 (laws_kPuzzle.g N r1.1 r1.2.1 r2.1 r2.2.1).bind fun r3 =>
 c1 a0 a1 a2 a8 a9 a11 r1.2.2 (!r3) a4_0 a4_1 a5_0 a5_1 a6_0 a6_1 a6_2 a7_0 a7_1 a10_0 a10_1 a10_2 r1.1 r1.2.1
theorem laws_FnTimesMadeOfAll.o0.run (N : Nat) (H61 : Code) (a0 : Int) (a1 : Int) (a2 : Int) (a3 : Int) (a4_0 : Int) (a4_1 : List S38) (a5_0 : Int) (a5_1 : List S38) (a6_0 : Int) (a6_1 : Int) (a6_2 : Int) (a7_0 : Int) (a7_1 : List S38) (a8 : Int) (a9 : Int) (a10_0 : Int) (a10_1 : Int) (a10_2 : Int) (a11 : Int) : runC laws_FnTimesMadeOfAll.C (laws_FnTimesMadeOfAll.O N) N (.seq laws_FnTimesMadeOfAll.c2 (.seq laws_FnTimesMadeOfAll.c6 (.seq laws_FnTimesMadeOfAll.c14 (.seq (.seq laws_FnTimesMadeOfAll.c60 H61) laws_FnTimesMadeOfAll.c31)))) 1 (st0 [.one (.int .i64 a0), .one (.int .i64 a1), .one (.int .i64 a2), .one (.int .i64 a3), .agg [.int .i64 a4_0, .sl false 38 a4_1], .agg [.int .i64 a5_0, .sl false 38 a5_1], .agg [.int .i64 a6_0, .int .i64 a6_1, .int .i64 a6_2], .agg [.int .i64 a7_0, .sl false 38 a7_1], .one (.int .i64 a8), .one (.int .i64 a9), .agg [.int .i64 a10_0, .int .i64 a10_1, .int .i64 a10_2], .one (.int .i64 a11)] [] : St D0) laws_FnTimesMadeOfAll.K0 = laws_FnTimesMadeOfAll.o0 N a0 a1 a2 a3 a4_0 a4_1 a5_0 a5_1 a6_0 a6_1 a6_2 a7_0 a7_1 a8 a9 a10_0 a10_1 a10_2 a11 ((fun w0 w1 w2 w3 w4 w5 w6 w7 w8 w9 w10 w11 w12 w13 w14 w15 w16 w17 w18 w19 w20 w21 => runC laws_FnTimesMadeOfAll.C (laws_FnTimesMadeOfAll.O N) N H61 61 (mkSt [(0, .one (.int .i64 w0)), (1, .one (.int .i64 w1)), (2, .one (.int .i64 w2)), (8, .one (.int .i64 w3)), (9, .one (.int .i64 w4)), (11, .one (.int .i64 w5)), (16, .one (.ptr 16 0)), (17, .one (.ptr 17 0)), (18, .one (.ptr 18 0)), (19, .one (.ptr 19 0)), (22, .one (.ptr 22 0)), (25, .one (.ptr 25 0)), (26, .one (.bool w6)), (83, .one (.bool w7))] [(16, some (24, [.int .i64 w8, .sl false 38 w9])), (17, some (24, [.int .i64 w10, .sl false 38 w11])), (18, some (38, [.int .i64 w12, .int .i64 w13, .int .i64 w14])), (19, some (24, [.int .i64 w15, .sl false 38 w16])), (22, some (38, [.int .i64 w17, .int .i64 w18, .int .i64 w19])), (25, some (24, [.int .i64 w20, .sl false 38 w21]))] : St D0) (onN (fun s => laws_FnTimesMadeOfAll.C.tidy 30 s (fun s' => runC laws_FnTimesMadeOfAll.C (laws_FnTimesMadeOfAll.O N) N laws_FnTimesMadeOfAll.c31 31 s' laws_FnTimesMadeOfAll.K0)) laws_FnTimesMadeOfAll.K0))) := by kernel_rfl
noncomputable def laws_FnTimesMadeOfAll.B30 (N : Nat) : St D0 → Option laws_FnTimesMadeOfAll.R := fun s' => runC laws_FnTimesMadeOfAll.C (laws_FnTimesMadeOfAll.O N) N laws_FnTimesMadeOfAll.c61 61 s' (laws_FnTimesMadeOfAll.K61 N)
noncomputable def laws_FnTimesMadeOfAll.g (N : Nat) (a0 : Int) (a1 : Int) (a2 : Int) (a3 : Int) (a4_0 : Int) (a4_1 : List S38) (a5_0 : Int) (a5_1 : List S38) (a6_0 : Int) (a6_1 : Int) (a6_2 : Int) (a7_0 : Int) (a7_1 : List S38) (a8 : Int) (a9 : Int) (a10_0 : Int) (a10_1 : Int) (a10_2 : Int) (a11 : Int) : Option laws_FnTimesMadeOfAll.R := laws_FnTimesMadeOfAll.o0 N a0 a1 a2 a3 a4_0 a4_1 a5_0 a5_1 a6_0 a6_1 a6_2 a7_0 a7_1 a8 a9 a10_0 a10_1 a10_2 a11 ((fun w0 w1 w2 w3 w4 w5 w6 w7 w8 w9 w10 w11 w12 w13 w14 w15 w16 w17 w18 w19 w20 w21 => laws_FnTimesMadeOfAll.d1 N w0 w1 w2 w3 w4 w5 w6 w7 w8 w9 w10 w11 w12 w13 w14 w15 w16 w17 w18 w19 w20 w21))
theorem laws_FnTimesMadeOfAll.c1_0 : laws_FnTimesMadeOfAll.c1 = (.seq laws_FnTimesMadeOfAll.c2 (.seq laws_FnTimesMadeOfAll.c6 (.seq laws_FnTimesMadeOfAll.c14 (.seq (.seq laws_FnTimesMadeOfAll.c60 laws_FnTimesMadeOfAll.c61) laws_FnTimesMadeOfAll.c31)))) := by kernel_rfl
theorem laws_FnTimesMadeOfAll.g.run (N : Nat) (a0 : Int) (a1 : Int) (a2 : Int) (a3 : Int) (a4_0 : Int) (a4_1 : List S38) (a5_0 : Int) (a5_1 : List S38) (a6_0 : Int) (a6_1 : Int) (a6_2 : Int) (a7_0 : Int) (a7_1 : List S38) (a8 : Int) (a9 : Int) (a10_0 : Int) (a10_1 : Int) (a10_2 : Int) (a11 : Int) : runC laws_FnTimesMadeOfAll.C (laws_FnTimesMadeOfAll.O N) N laws_FnTimesMadeOfAll.c1 1 (st0 [.one (.int .i64 a0), .one (.int .i64 a1), .one (.int .i64 a2), .one (.int .i64 a3), .agg [.int .i64 a4_0, .sl false 38 a4_1], .agg [.int .i64 a5_0, .sl false 38 a5_1], .agg [.int .i64 a6_0, .int .i64 a6_1, .int .i64 a6_2], .agg [.int .i64 a7_0, .sl false 38 a7_1], .one (.int .i64 a8), .one (.int .i64 a9), .agg [.int .i64 a10_0, .int .i64 a10_1, .int .i64 a10_2], .one (.int .i64 a11)] [] : St D0) laws_FnTimesMadeOfAll.K0 = laws_FnTimesMadeOfAll.g N a0 a1 a2 a3 a4_0 a4_1 a5_0 a5_1 a6_0 a6_1 a6_2 a7_0 a7_1 a8 a9 a10_0 a10_1 a10_2 a11 := by
  rw [laws_FnTimesMadeOfAll.c1_0]; unfold laws_FnTimesMadeOfAll.g; exact (laws_FnTimesMadeOfAll.o0.run N laws_FnTimesMadeOfAll.c61 a0 a1 a2 a3 a4_0 a4_1 a5_0 a5_1 a6_0 a6_1 a6_2 a7_0 a7_1 a8 a9 a10_0 a10_1 a10_2 a11).trans (congr rfl (funext fun w0 => funext fun w1 => funext fun w2 => funext fun w3 => funext fun w4 => funext fun w5 => funext fun w6 => funext fun w7 => funext fun w8 => funext fun w9 => funext fun w10 => funext fun w11 => funext fun w12 => funext fun w13 => funext fun w14 => funext fun w15 => funext fun w16 => funext fun w17 => funext fun w18 => funext fun w19 => funext fun w20 => funext fun w21 => laws_FnTimesMadeOfAll.d1.run N w0 w1 w2 w3 w4 w5 w6 w7 w8 w9 w10 w11 w12 w13 w14 w15 w16 w17 w18 w19 w20 w21))
theorem laws_FnTimesMadeOfAll.good (N : Nat) (a0 : Int) (a1 : Int) (a2 : Int) (a3 : Int) (a4_0 : Int) (a4_1 : List S38) (a5_0 : Int) (a5_1 : List S38) (a6_0 : Int) (a6_1 : Int) (a6_2 : Int) (a7_0 : Int) (a7_1 : List S38) (a8 : Int) (a9 : Int) (a10_0 : Int) (a10_1 : Int) (a10_2 : Int) (a11 : Int) (r : laws_FnTimesMadeOfAll.R) (h : laws_FnTimesMadeOfAll.g N a0 a1 a2 a3 a4_0 a4_1 a5_0 a5_1 a6_0 a6_1 a6_2 a7_0 a7_1 a8 a9 a10_0 a10_1 a10_2 a11 = some r) : Go.PM.Good Go.Proofs.Try.prog T0 5 [.one (.int .i64 a0), .one (.int .i64 a1), .one (.int .i64 a2), .one (.int .i64 a3), .agg [.int .i64 a4_0, .sl false 38 a4_1], .agg [.int .i64 a5_0, .sl false 38 a5_1], .agg [.int .i64 a6_0, .int .i64 a6_1, .int .i64 a6_2], .agg [.int .i64 a7_0, .sl false 38 a7_1], .one (.int .i64 a8), .one (.int .i64 a9), .agg [.int .i64 a10_0, .int .i64 a10_1, .int .i64 a10_2], .one (.int .i64 a11)] [] (laws_FnTimesMadeOfAll.sig.ret r) (laws_FnTimesMadeOfAll.sig.bs r) :=
  good_fn tabOk0 mixed0 laws_FnTimesMadeOfAll.sig (laws_FnTimesMadeOfAll.E N) Go.Proofs.Try.func5 (by kernel_rfl) (by kernel_rfl) 133759930352941697707069811290092600440073102432417544965906120868029439264552627808061749137407 0 0 [(60, [0, 1, 2, 8, 9, 11, 16, 17, 18, 19, 22, 25, 26, 83], [16, 17, 18, 19, 22, 25]), (62, [8, 9, 11, 16, 17, 18, 19, 22], [16, 17, 18, 19, 22]), (1002, [8, 9, 11, 16, 17, 18, 19, 22, 115], [16, 17, 18, 19, 22]), (2044, [8, 9, 11, 16, 17, 18, 19, 22, 31, 32, 147], [16, 17, 18, 19, 22, 31]), (2046, [8, 9, 11, 17, 18, 19, 22], [17, 18, 19, 22]), (130990, [8, 9, 11, 17, 18, 19, 22, 193], [17, 18, 19, 22]), (524284, [8, 17, 18, 19, 43, 44, 47, 48, 279], [17, 18, 19, 43, 47]), (524286, [8, 19, 47, 48], [19, 47]), (2097148, [8, 19, 47, 316], [19, 47]), (8388586, [8, 19, 47, 48, 307], [19, 47])] [(false, [.any])] (by kernel_rfl) rfl ((laws_FnTimesMadeOfAll.g.run N a0 a1 a2 a3 a4_0 a4_1 a5_0 a5_1 a6_0 a6_1 a6_2 a7_0 a7_1 a8 a9 a10_0 a10_1 a10_2 a11).trans h)
noncomputable def laws_FnTimesMadeOfAll.ent (N : Nat) : Ent Go.Proofs.Try.prog T0 := mkEnt 5 [(false, [.any]), (false, [.any]), (false, [.any]), (false, [.any]), (true, [.any, .ro 38]), (true, [.any, .ro 38]), (true, [.any, .any, .any]), (true, [.any, .ro 38]), (false, [.any]), (false, [.any]), (true, [.any, .any, .any]), (false, [.any])] laws_FnTimesMadeOfAll.sig (fun t => laws_FnTimesMadeOfAll.g N t.1 t.2.1 t.2.2.1 t.2.2.2.1 t.2.2.2.2.1 t.2.2.2.2.2.1 t.2.2.2.2.2.2.1 t.2.2.2.2.2.2.2.1 t.2.2.2.2.2.2.2.2.1 t.2.2.2.2.2.2.2.2.2.1 t.2.2.2.2.2.2.2.2.2.2.1 t.2.2.2.2.2.2.2.2.2.2.2.1 t.2.2.2.2.2.2.2.2.2.2.2.2.1 t.2.2.2.2.2.2.2.2.2.2.2.2.2.1 t.2.2.2.2.2.2.2.2.2.2.2.2.2.2.1 t.2.2.2.2.2.2.2.2.2.2.2.2.2.2.2.1 t.2.2.2.2.2.2.2.2.2.2.2.2.2.2.2.2.1 t.2.2.2.2.2.2.2.2.2.2.2.2.2.2.2.2.2.1 t.2.2.2.2.2.2.2.2.2.2.2.2.2.2.2.2.2.2) (fun t r h => laws_FnTimesMadeOfAll.good N t.1 t.2.1 t.2.2.1 t.2.2.2.1 t.2.2.2.2.1 t.2.2.2.2.2.1 t.2.2.2.2.2.2.1 t.2.2.2.2.2.2.2.1 t.2.2.2.2.2.2.2.2.1 t.2.2.2.2.2.2.2.2.2.1 t.2.2.2.2.2.2.2.2.2.2.1 t.2.2.2.2.2.2.2.2.2.2.2.1 t.2.2.2.2.2.2.2.2.2.2.2.2.1 t.2.2.2.2.2.2.2.2.2.2.2.2.2.1 t.2.2.2.2.2.2.2.2.2.2.2.2.2.2.1 t.2.2.2.2.2.2.2.2.2.2.2.2.2.2.2.1 t.2.2.2.2.2.2.2.2.2.2.2.2.2.2.2.2.1 t.2.2.2.2.2.2.2.2.2.2.2.2.2.2.2.2.2.1 t.2.2.2.2.2.2.2.2.2.2.2.2.2.2.2.2.2.2 r h)
end Go.Proofs.Ytpeleommbipeaaa.M

namespace Go.Proofs.Ytpeleommbipeaaa.M
open Go Go.PM Go.Proofs.Ytpeleommbipeaaa.P
set_option linter.unusedVariables false
set_option maxRecDepth 100000
def FnTimesMadeOfAll.Pure : Prop := ∀ (y0 : Int) (y1 : Int) (y2 : Int) (y3 : Int) (y4 : Int × (List S38)) (y5 : Int × (List S38)) (y6 : Int × Int × Int) (y7 : Int × (List S38)) (y8 : Int) (y9 : Int) (y10 : Int × Int × Int) (y11 : Int), ((Lit.int .i64 y0).wf = true) → ((Lit.int .i64 y1).wf = true) → ((Lit.int .i64 y2).wf = true) → ((Lit.int .i64 y3).wf = true) → (((Lit.int .i64 y4.1).wf = true) ∧ (y4.2.length ≤ maxLen ∧ y4.2.length * 24 ≤ 140737488351232 ∧ ∀ x ∈ y4.2, ((Lit.int .i64 x.f0).wf = true) ∧ ((Lit.int .i64 x.f1).wf = true) ∧ ((Lit.int .i64 x.f2).wf = true))) → (((Lit.int .i64 y5.1).wf = true) ∧ (y5.2.length ≤ maxLen ∧ y5.2.length * 24 ≤ 140737488351232 ∧ ∀ x ∈ y5.2, ((Lit.int .i64 x.f0).wf = true) ∧ ((Lit.int .i64 x.f1).wf = true) ∧ ((Lit.int .i64 x.f2).wf = true))) → (((Lit.int .i64 y6.1).wf = true) ∧ ((Lit.int .i64 y6.2.1).wf = true) ∧ ((Lit.int .i64 y6.2.2).wf = true)) → (((Lit.int .i64 y7.1).wf = true) ∧ (y7.2.length ≤ maxLen ∧ y7.2.length * 24 ≤ 140737488351232 ∧ ∀ x ∈ y7.2, ((Lit.int .i64 x.f0).wf = true) ∧ ((Lit.int .i64 x.f1).wf = true) ∧ ((Lit.int .i64 x.f2).wf = true))) → ((Lit.int .i64 y8).wf = true) → ((Lit.int .i64 y9).wf = true) → (((Lit.int .i64 y10.1).wf = true) ∧ ((Lit.int .i64 y10.2.1).wf = true) ∧ ((Lit.int .i64 y10.2.2).wf = true)) → ((Lit.int .i64 y11).wf = true) → ∃ N, laws_FnTimesMadeOfAll.g N y0 y1 y2 y3 y4.1 y4.2 y5.1 y5.2 y6.1 y6.2.1 y6.2.2 y7.1 y7.2 y8 y9 y10.1 y10.2.1 y10.2.2 y11 = some true
end Go.Proofs.Ytpeleommbipeaaa.M
