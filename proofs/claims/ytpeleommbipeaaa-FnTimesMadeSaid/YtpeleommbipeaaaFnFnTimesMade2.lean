/- What the program's functions compute, walked by the machine (part 2). No conditions but those stated. -/
import Derived.Test.YtpeleommbipeaaaFnFnTimesMade1
namespace Go.Proofs.Ytpeleommbipeaaa.M
open Go Go.PM Go.Proofs.Ytpeleommbipeaaa.P
set_option linter.unusedVariables false
set_option maxRecDepth 100000
/-! ### impl_NeedlessClues -/
abbrev impl_NeedlessClues.R : Type := List Int × Bool
abbrev impl_NeedlessClues.sig : Sig := ⟨[(true, 2)], [], [.int .i64, .sl false 38], [(false, 1), (false, 1)], [], [.sl true 3, .bool]⟩
noncomputable def impl_NeedlessClues.C : Cfg D0 := ⟨Go.Proofs.Try.prog, T0, 2149335295, 0, 38, 0, [(250, [1, 4, 6, 18, 19], [1])]⟩
noncomputable def impl_NeedlessClues.E (N : Nat) : List (Ent Go.Proofs.Try.prog T0) := [impl_CountSolutions.ent N, impl_without.ent N, impl_solutions.ent N]
noncomputable def impl_NeedlessClues.O (N : Nat) : Orc D0 impl_NeedlessClues.R := orcOf (impl_NeedlessClues.E N)
noncomputable def impl_NeedlessClues.K0 : Ex → St D0 → Option impl_NeedlessClues.R := exitK impl_NeedlessClues.C Go.Proofs.Try.f24.results.toList [(false, [.own 3]), (false, [.any])] (decOut impl_NeedlessClues.sig)
noncomputable def impl_NeedlessClues.c1 : Code := codeAt (Go.Proofs.Try.f24.body.getD .skip) []
noncomputable def impl_NeedlessClues.c2 : Code := codeAt (Go.Proofs.Try.f24.body.getD .skip) [false]
noncomputable def impl_NeedlessClues.c6 : Code := codeAt (Go.Proofs.Try.f24.body.getD .skip) [true, false]
noncomputable def impl_NeedlessClues.c14 : Code := codeAt (Go.Proofs.Try.f24.body.getD .skip) [true, true, false]
noncomputable def impl_NeedlessClues.c30 : Code := codeAt (Go.Proofs.Try.f24.body.getD .skip) [true, true, true, false]
noncomputable def impl_NeedlessClues.c63 : Code := codeAt (Go.Proofs.Try.f24.body.getD .skip) [true, true, true, true, true]
noncomputable def impl_NeedlessClues.c124 : Code := codeAt (Go.Proofs.Try.f24.body.getD .skip) [true, true, true, true, false, false]
noncomputable def impl_NeedlessClues.c500 : Code := codeAt (Go.Proofs.Try.f24.body.getD .skip) [true, true, true, true, false, true, false, false]
noncomputable def impl_NeedlessClues.K500 (N : Nat) (Kn250 : St D0 → Option impl_NeedlessClues.R) : Ex → St D0 → Option impl_NeedlessClues.R := (onN (fun s => impl_NeedlessClues.C.tidy 250 s ((onN Kn250 (blockK 0 (onN (fun s => impl_NeedlessClues.C.tidy 62 s (fun s' => runC impl_NeedlessClues.C (impl_NeedlessClues.O N) N impl_NeedlessClues.c63 63 s' impl_NeedlessClues.K0)) impl_NeedlessClues.K0))) .normal)) (onN Kn250 (blockK 0 (onN (fun s => impl_NeedlessClues.C.tidy 62 s (fun s' => runC impl_NeedlessClues.C (impl_NeedlessClues.O N) N impl_NeedlessClues.c63 63 s' impl_NeedlessClues.K0)) impl_NeedlessClues.K0))))
noncomputable def impl_NeedlessClues.o1 (N : Nat) (v0 : Int) (v1 : List Int) (v2 : Int) (v3 : Int) (v4 : Int) (v5 : List S38) (c1 : Int → (List Int) → Int → Int → Int → (List S38) → Option impl_NeedlessClues.R) : Option impl_NeedlessClues.R :=
 bif (decide (v3 < v2)) then
  (impl_without.g N v5 v3).bind fun r1 =>
  (impl_solutions.g N v4 r1).bind fun r2 =>
  bif ((r2.length : Int) == v0) then
   bif (Nat.blt (v1.length + ([v3] : List Int).length) 17592186044416) then
    c1 v0 (v1 ++ ([v3] : List Int)) v2 (w64 (v3 + 1)) v4 v5
   else
   none
  else
  c1 v0 v1 v2 (w64 (v3 + 1)) v4 v5
 else
 some (v1, true)
theorem impl_NeedlessClues.o1.run (N : Nat) (Kn250 : St D0 → Option impl_NeedlessClues.R) (v0 : Int) (v1 : List Int) (v2 : Int) (v3 : Int) (v4 : Int) (v5 : List S38) : runC impl_NeedlessClues.C (impl_NeedlessClues.O N) N impl_NeedlessClues.c500 500 (mkSt [(1, .one (.ptr 1 0)), (4, .one (.int .i64 v0)), (6, .one (.sl true 3 v1)), (18, .one (.int .i64 v2)), (19, .one (.int .i64 v3))] [(1, some (24, [.int .i64 v4, .sl false 38 v5]))] : St D0) (onN (fun s => impl_NeedlessClues.C.tidy 250 s ((onN Kn250 (blockK 0 (onN (fun s => impl_NeedlessClues.C.tidy 62 s (fun s' => runC impl_NeedlessClues.C (impl_NeedlessClues.O N) N impl_NeedlessClues.c63 63 s' impl_NeedlessClues.K0)) impl_NeedlessClues.K0))) .normal)) (onN Kn250 (blockK 0 (onN (fun s => impl_NeedlessClues.C.tidy 62 s (fun s' => runC impl_NeedlessClues.C (impl_NeedlessClues.O N) N impl_NeedlessClues.c63 63 s' impl_NeedlessClues.K0)) impl_NeedlessClues.K0)))) = impl_NeedlessClues.o1 N v0 v1 v2 v3 v4 v5 ((fun w0 w1 w2 w3 w4 w5 => Kn250 (mkSt [(1, .one (.ptr 1 0)), (4, .one (.int .i64 w0)), (6, .one (.sl true 3 w1)), (18, .one (.int .i64 w2)), (19, .one (.int .i64 w3))] [(1, some (24, [.int .i64 w4, .sl false 38 w5]))] : St D0))) := by kernel_rfl
noncomputable def impl_NeedlessClues.d1 (N : Nat) (v0 : Int) (v1 : List Int) (v2 : Int) (v3 : Int) (v4 : Int) (v5 : List S38) (c1 : Int → (List Int) → Int → Int → Int → (List S38) → Option impl_NeedlessClues.R) : Option impl_NeedlessClues.R := impl_NeedlessClues.o1 N v0 v1 v2 v3 v4 v5 c1
theorem impl_NeedlessClues.d1.run (N : Nat) (Kn250 : St D0 → Option impl_NeedlessClues.R) (v0 : Int) (v1 : List Int) (v2 : Int) (v3 : Int) (v4 : Int) (v5 : List S38) : runC impl_NeedlessClues.C (impl_NeedlessClues.O N) N impl_NeedlessClues.c500 500 (mkSt [(1, .one (.ptr 1 0)), (4, .one (.int .i64 v0)), (6, .one (.sl true 3 v1)), (18, .one (.int .i64 v2)), (19, .one (.int .i64 v3))] [(1, some (24, [.int .i64 v4, .sl false 38 v5]))] : St D0) (impl_NeedlessClues.K500 N Kn250) = impl_NeedlessClues.d1 N v0 v1 v2 v3 v4 v5 ((fun w0 w1 w2 w3 w4 w5 => Kn250 (mkSt [(1, .one (.ptr 1 0)), (4, .one (.int .i64 w0)), (6, .one (.sl true 3 w1)), (18, .one (.int .i64 w2)), (19, .one (.int .i64 w3))] [(1, some (24, [.int .i64 w4, .sl false 38 w5]))] : St D0))) := by
  exact (impl_NeedlessClues.o1.run N Kn250 v0 v1 v2 v3 v4 v5).trans rfl
noncomputable def impl_NeedlessClues.K250 (N : Nat) : Ex → St D0 → Option impl_NeedlessClues.R := (blockK 0 (onN (fun s => impl_NeedlessClues.C.tidy 62 s (fun s' => runC impl_NeedlessClues.C (impl_NeedlessClues.O N) N impl_NeedlessClues.c63 63 s' impl_NeedlessClues.K0)) impl_NeedlessClues.K0))
noncomputable def impl_NeedlessClues.l1 (N : Nat) : Nat → Int → (List Int) → Int → Int → Int → (List S38) → Option impl_NeedlessClues.R
  | 0, _, _, _, _, _, _ => none
  | n + 1, v0, v1, v2, v3, v4, v5 => impl_NeedlessClues.d1 N v0 v1 v2 v3 v4 v5 ((fun w0 w1 w2 w3 w4 w5 => impl_NeedlessClues.l1 N n w0 w1 w2 w3 w4 w5))
theorem impl_NeedlessClues.loop250 (N : Nat) : ∀ n, (∀ (v0 : Int) (v1 : List Int) (v2 : Int) (v3 : Int) (v4 : Int) (v5 : List S38), iter (loopF impl_NeedlessClues.C (impl_NeedlessClues.O N) N impl_NeedlessClues.c500 250) n (mkSt [(1, .one (.ptr 1 0)), (4, .one (.int .i64 v0)), (6, .one (.sl true 3 v1)), (18, .one (.int .i64 v2)), (19, .one (.int .i64 v3))] [(1, some (24, [.int .i64 v4, .sl false 38 v5]))] : St D0) (impl_NeedlessClues.K250 N) = impl_NeedlessClues.l1 N n v0 v1 v2 v3 v4 v5)
  | 0 => (fun v0 v1 v2 v3 v4 v5 => rfl)
  | n + 1 => (fun v0 v1 v2 v3 v4 v5 => (impl_NeedlessClues.d1.run N (fun s => iter (loopF impl_NeedlessClues.C (impl_NeedlessClues.O N) N impl_NeedlessClues.c500 250) n s (impl_NeedlessClues.K250 N)) v0 v1 v2 v3 v4 v5).trans (show _ = impl_NeedlessClues.d1 N v0 v1 v2 v3 v4 v5 ((fun w0 w1 w2 w3 w4 w5 => impl_NeedlessClues.l1 N n w0 w1 w2 w3 w4 w5)) from (congr rfl (funext fun w0 => funext fun w1 => funext fun w2 => funext fun w3 => funext fun w4 => funext fun w5 => (impl_NeedlessClues.loop250 N n) w0 w1 w2 w3 w4 w5))))
noncomputable def impl_NeedlessClues.o0 (N : Nat) (a0_0 : Int) (a0_1 : List S38) (c1 : Int → (List Int) → Int → Int → Int → (List S38) → Option impl_NeedlessClues.R) : Option impl_NeedlessClues.R :=
 (impl_CountSolutions.g N a0_0 a0_1).bind fun r1 =>
 bif (!r1.2) then
  some (([] : List Int), false)
 else
 c1 r1.1 ([] : List Int) (a0_1.length : Int) 0 a0_0 a0_1
theorem impl_NeedlessClues.o0.run (N : Nat) (H500 : Code) (a0_0 : Int) (a0_1 : List S38) : runC impl_NeedlessClues.C (impl_NeedlessClues.O N) N (.seq impl_NeedlessClues.c2 (.seq impl_NeedlessClues.c6 (.seq impl_NeedlessClues.c14 (.seq impl_NeedlessClues.c30 (.seq (.seq impl_NeedlessClues.c124 (.block 0 (.loop H500))) impl_NeedlessClues.c63))))) 1 (st0 [.agg [.int .i64 a0_0, .sl false 38 a0_1]] [] : St D0) impl_NeedlessClues.K0 = impl_NeedlessClues.o0 N a0_0 a0_1 ((fun w0 w1 w2 w3 w4 w5 => iter (loopF impl_NeedlessClues.C (impl_NeedlessClues.O N) N H500 250) N (mkSt [(1, .one (.ptr 1 0)), (4, .one (.int .i64 w0)), (6, .one (.sl true 3 w1)), (18, .one (.int .i64 w2)), (19, .one (.int .i64 w3))] [(1, some (24, [.int .i64 w4, .sl false 38 w5]))] : St D0) (blockK 0 (onN (fun s => impl_NeedlessClues.C.tidy 62 s (fun s' => runC impl_NeedlessClues.C (impl_NeedlessClues.O N) N impl_NeedlessClues.c63 63 s' impl_NeedlessClues.K0)) impl_NeedlessClues.K0)))) := by kernel_rfl
noncomputable def impl_NeedlessClues.g (N : Nat) (a0_0 : Int) (a0_1 : List S38) : Option impl_NeedlessClues.R := impl_NeedlessClues.o0 N a0_0 a0_1 ((fun w0 w1 w2 w3 w4 w5 => impl_NeedlessClues.l1 N N w0 w1 w2 w3 w4 w5))
theorem impl_NeedlessClues.c1_0 : impl_NeedlessClues.c1 = (.seq impl_NeedlessClues.c2 (.seq impl_NeedlessClues.c6 (.seq impl_NeedlessClues.c14 (.seq impl_NeedlessClues.c30 (.seq (.seq impl_NeedlessClues.c124 (.block 0 (.loop impl_NeedlessClues.c500))) impl_NeedlessClues.c63))))) := by kernel_rfl
theorem impl_NeedlessClues.g.run (N : Nat) (a0_0 : Int) (a0_1 : List S38) : runC impl_NeedlessClues.C (impl_NeedlessClues.O N) N impl_NeedlessClues.c1 1 (st0 [.agg [.int .i64 a0_0, .sl false 38 a0_1]] [] : St D0) impl_NeedlessClues.K0 = impl_NeedlessClues.g N a0_0 a0_1 := by
  rw [impl_NeedlessClues.c1_0]; unfold impl_NeedlessClues.g; exact (impl_NeedlessClues.o0.run N impl_NeedlessClues.c500 a0_0 a0_1).trans (congr rfl (funext fun w0 => funext fun w1 => funext fun w2 => funext fun w3 => funext fun w4 => funext fun w5 => (impl_NeedlessClues.loop250 N N) w0 w1 w2 w3 w4 w5))
theorem impl_NeedlessClues.good (N : Nat) (a0_0 : Int) (a0_1 : List S38) (r : impl_NeedlessClues.R) (h : impl_NeedlessClues.g N a0_0 a0_1 = some r) : Go.PM.Good Go.Proofs.Try.prog T0 24 [.agg [.int .i64 a0_0, .sl false 38 a0_1]] [] (impl_NeedlessClues.sig.ret r) (impl_NeedlessClues.sig.bs r) :=
  good_fn tabOk0 mixed0 impl_NeedlessClues.sig (impl_NeedlessClues.E N) Go.Proofs.Try.func24 (by kernel_rfl) (by kernel_rfl) 2149335295 0 0 [(250, [1, 4, 6, 18, 19], [1])] [(false, [.own 3]), (false, [.any])] (by kernel_rfl) rfl ((impl_NeedlessClues.g.run N a0_0 a0_1).trans h)
noncomputable def impl_NeedlessClues.ent (N : Nat) : Ent Go.Proofs.Try.prog T0 := mkEnt 24 [(true, [.any, .ro 38])] impl_NeedlessClues.sig (fun t => impl_NeedlessClues.g N t.1 t.2) (fun t r h => impl_NeedlessClues.good N t.1 t.2 r h)
end Go.Proofs.Ytpeleommbipeaaa.M

namespace Go.Proofs.Ytpeleommbipeaaa.M
open Go Go.PM Go.Proofs.Ytpeleommbipeaaa.P
set_option linter.unusedVariables false
set_option maxRecDepth 100000
/-! ### impl_DropClue -/
abbrev impl_DropClue.R : Type := Int × List S38 × Bool
abbrev impl_DropClue.sig : Sig := ⟨[(true, 2), (false, 1)], [], [.int .i64, .sl false 38, .int .i64], [(true, 2), (false, 1)], [], [.int .i64, .sl false 38, .bool]⟩
noncomputable def impl_DropClue.C : Cfg D0 := ⟨Go.Proofs.Try.prog, T0, 131127, 0, 26, 0, [(12, [1, 2, 4, 17], [2, 4])]⟩
noncomputable def impl_DropClue.E (N : Nat) : List (Ent Go.Proofs.Try.prog T0) := [impl_IsPuzzle.ent N, impl_within.ent N, impl_without.ent N]
noncomputable def impl_DropClue.O (N : Nat) : Orc D0 impl_DropClue.R := orcOf (impl_DropClue.E N)
noncomputable def impl_DropClue.K0 : Ex → St D0 → Option impl_DropClue.R := exitK impl_DropClue.C Go.Proofs.Try.f26.results.toList [(true, [.any, .ro 38]), (false, [.any])] (decOut impl_DropClue.sig)
noncomputable def impl_DropClue.c1 : Code := codeAt (Go.Proofs.Try.f26.body.getD .skip) []
noncomputable def impl_DropClue.c2 : Code := codeAt (Go.Proofs.Try.f26.body.getD .skip) [false]
noncomputable def impl_DropClue.c7 : Code := codeAt (Go.Proofs.Try.f26.body.getD .skip) [true, true]
noncomputable def impl_DropClue.c12 : Code := codeAt (Go.Proofs.Try.f26.body.getD .skip) [true, false, false]
noncomputable def impl_DropClue.c13 : Code := codeAt (Go.Proofs.Try.f26.body.getD .skip) [true, false, true]
noncomputable def impl_DropClue.K13 (N : Nat) : Ex → St D0 → Option impl_DropClue.R := (onN (fun s => impl_DropClue.C.tidy 6 s (fun s' => runC impl_DropClue.C (impl_DropClue.O N) N impl_DropClue.c7 7 s' impl_DropClue.K0)) impl_DropClue.K0)
noncomputable def impl_DropClue.o1 (N : Nat) (v0 : Int) (v1 : Bool) (v2 : Int) (v3 : List S38) (v4 : Int) : Option impl_DropClue.R :=
 bif v1 then
  some (0, ([] : List S38), false)
 else
 (impl_without.g N v3 v0).bind fun r1 =>
 some (v2, r1, true)
theorem impl_DropClue.o1.run (N : Nat) (v0 : Int) (v1 : Bool) (v2 : Int) (v3 : List S38) (v4 : Int) : runC impl_DropClue.C (impl_DropClue.O N) N impl_DropClue.c13 13 (mkSt [(1, .one (.int .i64 v0)), (2, .one (.ptr 2 0)), (4, .one (.ptr 4 0)), (17, .one (.bool v1))] [(2, some (24, [.int .i64 v2, .sl false 38 v3])), (4, some (24, [.int .i64 v4, .nl]))] : St D0) (onN (fun s => impl_DropClue.C.tidy 6 s (fun s' => runC impl_DropClue.C (impl_DropClue.O N) N impl_DropClue.c7 7 s' impl_DropClue.K0)) impl_DropClue.K0) = impl_DropClue.o1 N v0 v1 v2 v3 v4 := by kernel_rfl
noncomputable def impl_DropClue.d1 (N : Nat) (v0 : Int) (v1 : Bool) (v2 : Int) (v3 : List S38) (v4 : Int) : Option impl_DropClue.R := impl_DropClue.o1 N v0 v1 v2 v3 v4
theorem impl_DropClue.d1.run (N : Nat) (v0 : Int) (v1 : Bool) (v2 : Int) (v3 : List S38) (v4 : Int) : runC impl_DropClue.C (impl_DropClue.O N) N impl_DropClue.c13 13 (mkSt [(1, .one (.int .i64 v0)), (2, .one (.ptr 2 0)), (4, .one (.ptr 4 0)), (17, .one (.bool v1))] [(2, some (24, [.int .i64 v2, .sl false 38 v3])), (4, some (24, [.int .i64 v4, .nl]))] : St D0) (impl_DropClue.K13 N) = impl_DropClue.d1 N v0 v1 v2 v3 v4 := by
  exact (impl_DropClue.o1.run N v0 v1 v2 v3 v4).trans rfl
noncomputable def impl_DropClue.o0 (N : Nat) (a0_0 : Int) (a0_1 : List S38) (a1 : Int) (c1 : Int → Bool → Int → (List S38) → Int → Option impl_DropClue.R) : Option impl_DropClue.R :=
 (impl_IsPuzzle.g N a0_0 a0_1).bind fun r1 =>
 bif (!r1) then
  c1 a1 true a0_0 a0_1 0
 else
 (impl_within.g N a1 0 (w64 ((a0_1.length : Int) - 1))).bind fun r2 =>
 c1 a1 (!r2) a0_0 a0_1 0
theorem impl_DropClue.o0.run (N : Nat) (H13 : Code) (a0_0 : Int) (a0_1 : List S38) (a1 : Int) : runC impl_DropClue.C (impl_DropClue.O N) N (.seq impl_DropClue.c2 (.seq (.seq impl_DropClue.c12 H13) impl_DropClue.c7)) 1 (st0 [.agg [.int .i64 a0_0, .sl false 38 a0_1], .one (.int .i64 a1)] [] : St D0) impl_DropClue.K0 = impl_DropClue.o0 N a0_0 a0_1 a1 ((fun w0 w1 w2 w3 w4 => runC impl_DropClue.C (impl_DropClue.O N) N H13 13 (mkSt [(1, .one (.int .i64 w0)), (2, .one (.ptr 2 0)), (4, .one (.ptr 4 0)), (17, .one (.bool w1))] [(2, some (24, [.int .i64 w2, .sl false 38 w3])), (4, some (24, [.int .i64 w4, .nl]))] : St D0) (onN (fun s => impl_DropClue.C.tidy 6 s (fun s' => runC impl_DropClue.C (impl_DropClue.O N) N impl_DropClue.c7 7 s' impl_DropClue.K0)) impl_DropClue.K0))) := by kernel_rfl
noncomputable def impl_DropClue.B6 (N : Nat) : St D0 → Option impl_DropClue.R := fun s' => runC impl_DropClue.C (impl_DropClue.O N) N impl_DropClue.c13 13 s' (impl_DropClue.K13 N)
noncomputable def impl_DropClue.g (N : Nat) (a0_0 : Int) (a0_1 : List S38) (a1 : Int) : Option impl_DropClue.R := impl_DropClue.o0 N a0_0 a0_1 a1 ((fun w0 w1 w2 w3 w4 => impl_DropClue.d1 N w0 w1 w2 w3 w4))
theorem impl_DropClue.c1_0 : impl_DropClue.c1 = (.seq impl_DropClue.c2 (.seq (.seq impl_DropClue.c12 impl_DropClue.c13) impl_DropClue.c7)) := by kernel_rfl
theorem impl_DropClue.g.run (N : Nat) (a0_0 : Int) (a0_1 : List S38) (a1 : Int) : runC impl_DropClue.C (impl_DropClue.O N) N impl_DropClue.c1 1 (st0 [.agg [.int .i64 a0_0, .sl false 38 a0_1], .one (.int .i64 a1)] [] : St D0) impl_DropClue.K0 = impl_DropClue.g N a0_0 a0_1 a1 := by
  rw [impl_DropClue.c1_0]; unfold impl_DropClue.g; exact (impl_DropClue.o0.run N impl_DropClue.c13 a0_0 a0_1 a1).trans (congr rfl (funext fun w0 => funext fun w1 => funext fun w2 => funext fun w3 => funext fun w4 => impl_DropClue.d1.run N w0 w1 w2 w3 w4))
theorem impl_DropClue.good (N : Nat) (a0_0 : Int) (a0_1 : List S38) (a1 : Int) (r : impl_DropClue.R) (h : impl_DropClue.g N a0_0 a0_1 a1 = some r) : Go.PM.Good Go.Proofs.Try.prog T0 26 [.agg [.int .i64 a0_0, .sl false 38 a0_1], .one (.int .i64 a1)] [] (impl_DropClue.sig.ret r) (impl_DropClue.sig.bs r) :=
  good_fn tabOk0 mixed0 impl_DropClue.sig (impl_DropClue.E N) Go.Proofs.Try.func26 (by kernel_rfl) (by kernel_rfl) 131127 0 0 [(12, [1, 2, 4, 17], [2, 4])] [(true, [.any, .ro 38]), (false, [.any])] (by kernel_rfl) rfl ((impl_DropClue.g.run N a0_0 a0_1 a1).trans h)
noncomputable def impl_DropClue.ent (N : Nat) : Ent Go.Proofs.Try.prog T0 := mkEnt 26 [(true, [.any, .ro 38]), (false, [.any])] impl_DropClue.sig (fun t => impl_DropClue.g N t.1 t.2.1 t.2.2) (fun t r h => impl_DropClue.good N t.1 t.2.1 t.2.2 r h)
end Go.Proofs.Ytpeleommbipeaaa.M

namespace Go.Proofs.Ytpeleommbipeaaa.M
open Go Go.PM Go.Proofs.Ytpeleommbipeaaa.P
set_option linter.unusedVariables false
set_option maxRecDepth 100000
/-! ### spec_DropClue -/
abbrev spec_DropClue.R : Type := Int × List S38 × Bool
abbrev spec_DropClue.sig : Sig := ⟨[(true, 2), (false, 1)], [], [.int .i64, .sl false 38, .int .i64], [(true, 2), (false, 1)], [], [.int .i64, .sl false 38, .bool]⟩
noncomputable def spec_DropClue.C : Cfg D0 := ⟨Go.Proofs.Try.prog, T0, 131127, 0, 26, 0, [(12, [1, 2, 4, 17], [2, 4])]⟩
noncomputable def spec_DropClue.E (N : Nat) : List (Ent Go.Proofs.Try.prog T0) := [spec_pzGood.ent N, spec_l1In.ent N, spec_pzWithout.ent N]
noncomputable def spec_DropClue.O (N : Nat) : Orc D0 spec_DropClue.R := orcOf (spec_DropClue.E N)
noncomputable def spec_DropClue.K0 : Ex → St D0 → Option spec_DropClue.R := exitK spec_DropClue.C Go.Proofs.Try.f27.results.toList [(true, [.any, .ro 38]), (false, [.any])] (decOut spec_DropClue.sig)
noncomputable def spec_DropClue.c1 : Code := codeAt (Go.Proofs.Try.f27.body.getD .skip) []
noncomputable def spec_DropClue.c2 : Code := codeAt (Go.Proofs.Try.f27.body.getD .skip) [false]
noncomputable def spec_DropClue.c7 : Code := codeAt (Go.Proofs.Try.f27.body.getD .skip) [true, true]
noncomputable def spec_DropClue.c12 : Code := codeAt (Go.Proofs.Try.f27.body.getD .skip) [true, false, false]
noncomputable def spec_DropClue.c13 : Code := codeAt (Go.Proofs.Try.f27.body.getD .skip) [true, false, true]
noncomputable def spec_DropClue.K13 (N : Nat) : Ex → St D0 → Option spec_DropClue.R := (onN (fun s => spec_DropClue.C.tidy 6 s (fun s' => runC spec_DropClue.C (spec_DropClue.O N) N spec_DropClue.c7 7 s' spec_DropClue.K0)) spec_DropClue.K0)
noncomputable def spec_DropClue.o1 (N : Nat) (v0 : Int) (v1 : Bool) (v2 : Int) (v3 : List S38) (v4 : Int) : Option spec_DropClue.R :=
 bif v1 then
  some (0, ([] : List S38), false)
 else
 (spec_pzWithout.g N v3 v0).bind fun r1 =>
 some (v2, r1, true)
theorem spec_DropClue.o1.run (N : Nat) (v0 : Int) (v1 : Bool) (v2 : Int) (v3 : List S38) (v4 : Int) : runC spec_DropClue.C (spec_DropClue.O N) N spec_DropClue.c13 13 (mkSt [(1, .one (.int .i64 v0)), (2, .one (.ptr 2 0)), (4, .one (.ptr 4 0)), (17, .one (.bool v1))] [(2, some (24, [.int .i64 v2, .sl false 38 v3])), (4, some (24, [.int .i64 v4, .nl]))] : St D0) (onN (fun s => spec_DropClue.C.tidy 6 s (fun s' => runC spec_DropClue.C (spec_DropClue.O N) N spec_DropClue.c7 7 s' spec_DropClue.K0)) spec_DropClue.K0) = spec_DropClue.o1 N v0 v1 v2 v3 v4 := by kernel_rfl
noncomputable def spec_DropClue.d1 (N : Nat) (v0 : Int) (v1 : Bool) (v2 : Int) (v3 : List S38) (v4 : Int) : Option spec_DropClue.R := spec_DropClue.o1 N v0 v1 v2 v3 v4
theorem spec_DropClue.d1.run (N : Nat) (v0 : Int) (v1 : Bool) (v2 : Int) (v3 : List S38) (v4 : Int) : runC spec_DropClue.C (spec_DropClue.O N) N spec_DropClue.c13 13 (mkSt [(1, .one (.int .i64 v0)), (2, .one (.ptr 2 0)), (4, .one (.ptr 4 0)), (17, .one (.bool v1))] [(2, some (24, [.int .i64 v2, .sl false 38 v3])), (4, some (24, [.int .i64 v4, .nl]))] : St D0) (spec_DropClue.K13 N) = spec_DropClue.d1 N v0 v1 v2 v3 v4 := by
  exact (spec_DropClue.o1.run N v0 v1 v2 v3 v4).trans rfl
noncomputable def spec_DropClue.o0 (N : Nat) (a0_0 : Int) (a0_1 : List S38) (a1 : Int) (c1 : Int → Bool → Int → (List S38) → Int → Option spec_DropClue.R) : Option spec_DropClue.R :=
 (spec_pzGood.g N a0_0 a0_1).bind fun r1 =>
 bif (!r1) then
  c1 a1 true a0_0 a0_1 0
 else
 (spec_l1In.g N a1 0 (w64 ((a0_1.length : Int) - 1))).bind fun r2 =>
 c1 a1 (!r2) a0_0 a0_1 0
theorem spec_DropClue.o0.run (N : Nat) (H13 : Code) (a0_0 : Int) (a0_1 : List S38) (a1 : Int) : runC spec_DropClue.C (spec_DropClue.O N) N (.seq spec_DropClue.c2 (.seq (.seq spec_DropClue.c12 H13) spec_DropClue.c7)) 1 (st0 [.agg [.int .i64 a0_0, .sl false 38 a0_1], .one (.int .i64 a1)] [] : St D0) spec_DropClue.K0 = spec_DropClue.o0 N a0_0 a0_1 a1 ((fun w0 w1 w2 w3 w4 => runC spec_DropClue.C (spec_DropClue.O N) N H13 13 (mkSt [(1, .one (.int .i64 w0)), (2, .one (.ptr 2 0)), (4, .one (.ptr 4 0)), (17, .one (.bool w1))] [(2, some (24, [.int .i64 w2, .sl false 38 w3])), (4, some (24, [.int .i64 w4, .nl]))] : St D0) (onN (fun s => spec_DropClue.C.tidy 6 s (fun s' => runC spec_DropClue.C (spec_DropClue.O N) N spec_DropClue.c7 7 s' spec_DropClue.K0)) spec_DropClue.K0))) := by kernel_rfl
noncomputable def spec_DropClue.B6 (N : Nat) : St D0 → Option spec_DropClue.R := fun s' => runC spec_DropClue.C (spec_DropClue.O N) N spec_DropClue.c13 13 s' (spec_DropClue.K13 N)
noncomputable def spec_DropClue.g (N : Nat) (a0_0 : Int) (a0_1 : List S38) (a1 : Int) : Option spec_DropClue.R := spec_DropClue.o0 N a0_0 a0_1 a1 ((fun w0 w1 w2 w3 w4 => spec_DropClue.d1 N w0 w1 w2 w3 w4))
theorem spec_DropClue.c1_0 : spec_DropClue.c1 = (.seq spec_DropClue.c2 (.seq (.seq spec_DropClue.c12 spec_DropClue.c13) spec_DropClue.c7)) := by kernel_rfl
theorem spec_DropClue.g.run (N : Nat) (a0_0 : Int) (a0_1 : List S38) (a1 : Int) : runC spec_DropClue.C (spec_DropClue.O N) N spec_DropClue.c1 1 (st0 [.agg [.int .i64 a0_0, .sl false 38 a0_1], .one (.int .i64 a1)] [] : St D0) spec_DropClue.K0 = spec_DropClue.g N a0_0 a0_1 a1 := by
  rw [spec_DropClue.c1_0]; unfold spec_DropClue.g; exact (spec_DropClue.o0.run N spec_DropClue.c13 a0_0 a0_1 a1).trans (congr rfl (funext fun w0 => funext fun w1 => funext fun w2 => funext fun w3 => funext fun w4 => spec_DropClue.d1.run N w0 w1 w2 w3 w4))
theorem spec_DropClue.good (N : Nat) (a0_0 : Int) (a0_1 : List S38) (a1 : Int) (r : spec_DropClue.R) (h : spec_DropClue.g N a0_0 a0_1 a1 = some r) : Go.PM.Good Go.Proofs.Try.prog T0 27 [.agg [.int .i64 a0_0, .sl false 38 a0_1], .one (.int .i64 a1)] [] (spec_DropClue.sig.ret r) (spec_DropClue.sig.bs r) :=
  good_fn tabOk0 mixed0 spec_DropClue.sig (spec_DropClue.E N) Go.Proofs.Try.func27 (by kernel_rfl) (by kernel_rfl) 131127 0 0 [(12, [1, 2, 4, 17], [2, 4])] [(true, [.any, .ro 38]), (false, [.any])] (by kernel_rfl) rfl ((spec_DropClue.g.run N a0_0 a0_1 a1).trans h)
noncomputable def spec_DropClue.ent (N : Nat) : Ent Go.Proofs.Try.prog T0 := mkEnt 27 [(true, [.any, .ro 38]), (false, [.any])] spec_DropClue.sig (fun t => spec_DropClue.g N t.1 t.2.1 t.2.2) (fun t r h => spec_DropClue.good N t.1 t.2.1 t.2.2 r h)
end Go.Proofs.Ytpeleommbipeaaa.M

namespace Go.Proofs.Ytpeleommbipeaaa.M
open Go Go.PM Go.Proofs.Ytpeleommbipeaaa.P
set_option linter.unusedVariables false
set_option maxRecDepth 100000
/-! ### impl_AddClue -/
abbrev impl_AddClue.R : Type := Int × List S38 × Bool
abbrev impl_AddClue.sig : Sig := ⟨[(true, 2), (true, 3)], [], [.int .i64, .sl false 38, .int .i64, .int .i64, .int .i64], [(true, 2), (false, 1)], [], [.int .i64, .sl false 38, .bool]⟩
noncomputable def impl_AddClue.C : Cfg D0 := ⟨Go.Proofs.Try.prog, T0, 8388735, 33554432, 26, 0, [(28, [4, 6, 23], [4, 6])]⟩
noncomputable def impl_AddClue.E (N : Nat) : List (Ent Go.Proofs.Try.prog T0) := [slices_Clone_impl_Clue_impl_Clue.ent N, impl_IsPuzzle.ent N]
noncomputable def impl_AddClue.O (N : Nat) : Orc D0 impl_AddClue.R := orcOf (impl_AddClue.E N)
noncomputable def impl_AddClue.K0 : Ex → St D0 → Option impl_AddClue.R := exitK impl_AddClue.C Go.Proofs.Try.f16.results.toList [(true, [.any, .ro 38]), (false, [.any])] (decOut impl_AddClue.sig)
noncomputable def impl_AddClue.c1 : Code := codeAt (Go.Proofs.Try.f16.body.getD .skip) []
noncomputable def impl_AddClue.c2 : Code := codeAt (Go.Proofs.Try.f16.body.getD .skip) [false]
noncomputable def impl_AddClue.c6 : Code := codeAt (Go.Proofs.Try.f16.body.getD .skip) [true, false]
noncomputable def impl_AddClue.c15 : Code := codeAt (Go.Proofs.Try.f16.body.getD .skip) [true, true, true]
noncomputable def impl_AddClue.c28 : Code := codeAt (Go.Proofs.Try.f16.body.getD .skip) [true, true, false, false]
noncomputable def impl_AddClue.c29 : Code := codeAt (Go.Proofs.Try.f16.body.getD .skip) [true, true, false, true]
noncomputable def impl_AddClue.K29 (N : Nat) : Ex → St D0 → Option impl_AddClue.R := (onN (fun s => impl_AddClue.C.tidy 14 s (fun s' => runC impl_AddClue.C (impl_AddClue.O N) N impl_AddClue.c15 15 s' impl_AddClue.K0)) impl_AddClue.K0)
noncomputable def impl_AddClue.o1 (N : Nat) (v0 : Bool) (v1 : Int) (v2 : Int) (v3 : List S38) : Option impl_AddClue.R :=
 bif v0 then
  some (0, ([] : List S38), false)
 else
 some (v2, v3, true)
theorem impl_AddClue.o1.run (N : Nat) (v0 : Bool) (v1 : Int) (v2 : Int) (v3 : List S38) : runC impl_AddClue.C (impl_AddClue.O N) N impl_AddClue.c29 29 (mkSt [(4, .one (.ptr 4 0)), (6, .one (.ptr 6 0)), (23, .one (.bool v0))] [(4, some (24, [.int .i64 v1, .nl])), (6, some (24, [.int .i64 v2, .sl false 38 v3]))] : St D0) (onN (fun s => impl_AddClue.C.tidy 14 s (fun s' => runC impl_AddClue.C (impl_AddClue.O N) N impl_AddClue.c15 15 s' impl_AddClue.K0)) impl_AddClue.K0) = impl_AddClue.o1 N v0 v1 v2 v3 := by kernel_rfl
noncomputable def impl_AddClue.d1 (N : Nat) (v0 : Bool) (v1 : Int) (v2 : Int) (v3 : List S38) : Option impl_AddClue.R := impl_AddClue.o1 N v0 v1 v2 v3
theorem impl_AddClue.d1.run (N : Nat) (v0 : Bool) (v1 : Int) (v2 : Int) (v3 : List S38) : runC impl_AddClue.C (impl_AddClue.O N) N impl_AddClue.c29 29 (mkSt [(4, .one (.ptr 4 0)), (6, .one (.ptr 6 0)), (23, .one (.bool v0))] [(4, some (24, [.int .i64 v1, .nl])), (6, some (24, [.int .i64 v2, .sl false 38 v3]))] : St D0) (impl_AddClue.K29 N) = impl_AddClue.d1 N v0 v1 v2 v3 := by
  exact (impl_AddClue.o1.run N v0 v1 v2 v3).trans rfl
noncomputable def impl_AddClue.o0 (N : Nat) (a0_0 : Int) (a0_1 : List S38) (a1_0 : Int) (a1_1 : Int) (a1_2 : Int) (c1 : Bool → Int → Int → (List S38) → Option impl_AddClue.R) : Option impl_AddClue.R :=
 (slices_Clone_impl_Clue_impl_Clue.g N a0_1).bind fun r1 =>
 bif (Nat.blt (r1.length + ([(⟨a1_0, a1_1, a1_2⟩ : S38)] : List S38).length) 5864062014805) then
  (impl_IsPuzzle.g N a0_0 a0_1).bind fun r2 =>
  bif (!r2) then
   c1 true 0 a0_0 (r1 ++ ([(⟨a1_0, a1_1, a1_2⟩ : S38)] : List S38))
  else
  (impl_IsPuzzle.g N a0_0 (r1 ++ ([(⟨a1_0, a1_1, a1_2⟩ : S38)] : List S38))).bind fun r3 =>
  c1 (!r3) 0 a0_0 (r1 ++ ([(⟨a1_0, a1_1, a1_2⟩ : S38)] : List S38))
 else
 none
theorem impl_AddClue.o0.run (N : Nat) (H29 : Code) (a0_0 : Int) (a0_1 : List S38) (a1_0 : Int) (a1_1 : Int) (a1_2 : Int) : runC impl_AddClue.C (impl_AddClue.O N) N (.seq impl_AddClue.c2 (.seq impl_AddClue.c6 (.seq (.seq impl_AddClue.c28 H29) impl_AddClue.c15))) 1 (st0 [.agg [.int .i64 a0_0, .sl false 38 a0_1], .agg [.int .i64 a1_0, .int .i64 a1_1, .int .i64 a1_2]] [] : St D0) impl_AddClue.K0 = impl_AddClue.o0 N a0_0 a0_1 a1_0 a1_1 a1_2 ((fun w0 w1 w2 w3 => runC impl_AddClue.C (impl_AddClue.O N) N H29 29 (mkSt [(4, .one (.ptr 4 0)), (6, .one (.ptr 6 0)), (23, .one (.bool w0))] [(4, some (24, [.int .i64 w1, .nl])), (6, some (24, [.int .i64 w2, .sl false 38 w3]))] : St D0) (onN (fun s => impl_AddClue.C.tidy 14 s (fun s' => runC impl_AddClue.C (impl_AddClue.O N) N impl_AddClue.c15 15 s' impl_AddClue.K0)) impl_AddClue.K0))) := by kernel_rfl
noncomputable def impl_AddClue.B14 (N : Nat) : St D0 → Option impl_AddClue.R := fun s' => runC impl_AddClue.C (impl_AddClue.O N) N impl_AddClue.c29 29 s' (impl_AddClue.K29 N)
noncomputable def impl_AddClue.g (N : Nat) (a0_0 : Int) (a0_1 : List S38) (a1_0 : Int) (a1_1 : Int) (a1_2 : Int) : Option impl_AddClue.R := impl_AddClue.o0 N a0_0 a0_1 a1_0 a1_1 a1_2 ((fun w0 w1 w2 w3 => impl_AddClue.d1 N w0 w1 w2 w3))
theorem impl_AddClue.c1_0 : impl_AddClue.c1 = (.seq impl_AddClue.c2 (.seq impl_AddClue.c6 (.seq (.seq impl_AddClue.c28 impl_AddClue.c29) impl_AddClue.c15))) := by kernel_rfl
theorem impl_AddClue.g.run (N : Nat) (a0_0 : Int) (a0_1 : List S38) (a1_0 : Int) (a1_1 : Int) (a1_2 : Int) : runC impl_AddClue.C (impl_AddClue.O N) N impl_AddClue.c1 1 (st0 [.agg [.int .i64 a0_0, .sl false 38 a0_1], .agg [.int .i64 a1_0, .int .i64 a1_1, .int .i64 a1_2]] [] : St D0) impl_AddClue.K0 = impl_AddClue.g N a0_0 a0_1 a1_0 a1_1 a1_2 := by
  rw [impl_AddClue.c1_0]; unfold impl_AddClue.g; exact (impl_AddClue.o0.run N impl_AddClue.c29 a0_0 a0_1 a1_0 a1_1 a1_2).trans (congr rfl (funext fun w0 => funext fun w1 => funext fun w2 => funext fun w3 => impl_AddClue.d1.run N w0 w1 w2 w3))
theorem impl_AddClue.good (N : Nat) (a0_0 : Int) (a0_1 : List S38) (a1_0 : Int) (a1_1 : Int) (a1_2 : Int) (r : impl_AddClue.R) (h : impl_AddClue.g N a0_0 a0_1 a1_0 a1_1 a1_2 = some r) : Go.PM.Good Go.Proofs.Try.prog T0 16 [.agg [.int .i64 a0_0, .sl false 38 a0_1], .agg [.int .i64 a1_0, .int .i64 a1_1, .int .i64 a1_2]] [] (impl_AddClue.sig.ret r) (impl_AddClue.sig.bs r) :=
  good_fn tabOk0 mixed0 impl_AddClue.sig (impl_AddClue.E N) Go.Proofs.Try.func16 (by kernel_rfl) (by kernel_rfl) 8388735 33554432 0 [(28, [4, 6, 23], [4, 6])] [(true, [.any, .ro 38]), (false, [.any])] (by kernel_rfl) rfl ((impl_AddClue.g.run N a0_0 a0_1 a1_0 a1_1 a1_2).trans h)
noncomputable def impl_AddClue.ent (N : Nat) : Ent Go.Proofs.Try.prog T0 := mkEnt 16 [(true, [.any, .ro 38]), (true, [.any, .any, .any])] impl_AddClue.sig (fun t => impl_AddClue.g N t.1 t.2.1 t.2.2.1 t.2.2.2.1 t.2.2.2.2) (fun t r h => impl_AddClue.good N t.1 t.2.1 t.2.2.1 t.2.2.2.1 t.2.2.2.2 r h)
end Go.Proofs.Ytpeleommbipeaaa.M

namespace Go.Proofs.Ytpeleommbipeaaa.M
open Go Go.PM Go.Proofs.Ytpeleommbipeaaa.P
set_option linter.unusedVariables false
set_option maxRecDepth 100000
/-! ### spec_AddClue -/
abbrev spec_AddClue.R : Type := Int × List S38 × Bool
abbrev spec_AddClue.sig : Sig := ⟨[(true, 2), (true, 3)], [], [.int .i64, .sl false 38, .int .i64, .int .i64, .int .i64], [(true, 2), (false, 1)], [], [.int .i64, .sl false 38, .bool]⟩
noncomputable def spec_AddClue.C : Cfg D0 := ⟨Go.Proofs.Try.prog, T0, 2097215, 0, 33, 0, [(12, [2, 3, 4, 21], [2, 3, 4])]⟩
noncomputable def spec_AddClue.E (N : Nat) : List (Ent Go.Proofs.Try.prog T0) := [spec_pzGood.ent N, spec_pzClue.ent N]
noncomputable def spec_AddClue.O (N : Nat) : Orc D0 spec_AddClue.R := orcOf (spec_AddClue.E N)
noncomputable def spec_AddClue.K0 : Ex → St D0 → Option spec_AddClue.R := exitK spec_AddClue.C Go.Proofs.Try.f13.results.toList [(true, [.any, .ro 38]), (false, [.any])] (decOut spec_AddClue.sig)
noncomputable def spec_AddClue.c1 : Code := codeAt (Go.Proofs.Try.f13.body.getD .skip) []
noncomputable def spec_AddClue.c2 : Code := codeAt (Go.Proofs.Try.f13.body.getD .skip) [false]
noncomputable def spec_AddClue.c7 : Code := codeAt (Go.Proofs.Try.f13.body.getD .skip) [true, true]
noncomputable def spec_AddClue.c12 : Code := codeAt (Go.Proofs.Try.f13.body.getD .skip) [true, false, false]
noncomputable def spec_AddClue.c13 : Code := codeAt (Go.Proofs.Try.f13.body.getD .skip) [true, false, true]
noncomputable def spec_AddClue.K13 (N : Nat) : Ex → St D0 → Option spec_AddClue.R := (onN (fun s => spec_AddClue.C.tidy 6 s (fun s' => runC spec_AddClue.C (spec_AddClue.O N) N spec_AddClue.c7 7 s' spec_AddClue.K0)) spec_AddClue.K0)
noncomputable def spec_AddClue.o1 (N : Nat) (v0 : Bool) (v1 : Int) (v2 : List S38) (v3 : Int) (v4 : Int) (v5 : Int) (v6 : Int) : Option spec_AddClue.R :=
 bif v0 then
  some (0, ([] : List S38), false)
 else
 bif (Nat.blt (([] : List S38).length + v2.length) 5864062014805) then
  bif (Nat.blt ((([] : List S38) ++ v2).length + ([(⟨v3, v4, v5⟩ : S38)] : List S38).length) 5864062014805) then
   some (v1, ((([] : List S38) ++ v2) ++ ([(⟨v3, v4, v5⟩ : S38)] : List S38)), true)
  else
  none
 else
 none
theorem spec_AddClue.o1.run (N : Nat) (v0 : Bool) (v1 : Int) (v2 : List S38) (v3 : Int) (v4 : Int) (v5 : Int) (v6 : Int) : runC spec_AddClue.C (spec_AddClue.O N) N spec_AddClue.c13 13 (mkSt [(2, .one (.ptr 2 0)), (3, .one (.ptr 3 0)), (4, .one (.ptr 4 0)), (21, .one (.bool v0))] [(2, some (24, [.int .i64 v1, .sl false 38 v2])), (3, some (38, [.int .i64 v3, .int .i64 v4, .int .i64 v5])), (4, some (24, [.int .i64 v6, .nl]))] : St D0) (onN (fun s => spec_AddClue.C.tidy 6 s (fun s' => runC spec_AddClue.C (spec_AddClue.O N) N spec_AddClue.c7 7 s' spec_AddClue.K0)) spec_AddClue.K0) = spec_AddClue.o1 N v0 v1 v2 v3 v4 v5 v6 := by kernel_rfl
noncomputable def spec_AddClue.d1 (N : Nat) (v0 : Bool) (v1 : Int) (v2 : List S38) (v3 : Int) (v4 : Int) (v5 : Int) (v6 : Int) : Option spec_AddClue.R := spec_AddClue.o1 N v0 v1 v2 v3 v4 v5 v6
theorem spec_AddClue.d1.run (N : Nat) (v0 : Bool) (v1 : Int) (v2 : List S38) (v3 : Int) (v4 : Int) (v5 : Int) (v6 : Int) : runC spec_AddClue.C (spec_AddClue.O N) N spec_AddClue.c13 13 (mkSt [(2, .one (.ptr 2 0)), (3, .one (.ptr 3 0)), (4, .one (.ptr 4 0)), (21, .one (.bool v0))] [(2, some (24, [.int .i64 v1, .sl false 38 v2])), (3, some (38, [.int .i64 v3, .int .i64 v4, .int .i64 v5])), (4, some (24, [.int .i64 v6, .nl]))] : St D0) (spec_AddClue.K13 N) = spec_AddClue.d1 N v0 v1 v2 v3 v4 v5 v6 := by
  exact (spec_AddClue.o1.run N v0 v1 v2 v3 v4 v5 v6).trans rfl
noncomputable def spec_AddClue.o0 (N : Nat) (a0_0 : Int) (a0_1 : List S38) (a1_0 : Int) (a1_1 : Int) (a1_2 : Int) (c1 : Bool → Int → (List S38) → Int → Int → Int → Int → Option spec_AddClue.R) : Option spec_AddClue.R :=
 (spec_pzGood.g N a0_0 a0_1).bind fun r1 =>
 bif (!r1) then
  c1 true a0_0 a0_1 a1_0 a1_1 a1_2 0
 else
 (spec_pzClue.g N a0_0 a1_0 a1_1 a1_2).bind fun r2 =>
 bif (!r2) then
  c1 true a0_0 a0_1 a1_0 a1_1 a1_2 0
 else
 c1 ((a0_1.length : Int) == 6) a0_0 a0_1 a1_0 a1_1 a1_2 0
theorem spec_AddClue.o0.run (N : Nat) (H13 : Code) (a0_0 : Int) (a0_1 : List S38) (a1_0 : Int) (a1_1 : Int) (a1_2 : Int) : runC spec_AddClue.C (spec_AddClue.O N) N (.seq spec_AddClue.c2 (.seq (.seq spec_AddClue.c12 H13) spec_AddClue.c7)) 1 (st0 [.agg [.int .i64 a0_0, .sl false 38 a0_1], .agg [.int .i64 a1_0, .int .i64 a1_1, .int .i64 a1_2]] [] : St D0) spec_AddClue.K0 = spec_AddClue.o0 N a0_0 a0_1 a1_0 a1_1 a1_2 ((fun w0 w1 w2 w3 w4 w5 w6 => runC spec_AddClue.C (spec_AddClue.O N) N H13 13 (mkSt [(2, .one (.ptr 2 0)), (3, .one (.ptr 3 0)), (4, .one (.ptr 4 0)), (21, .one (.bool w0))] [(2, some (24, [.int .i64 w1, .sl false 38 w2])), (3, some (38, [.int .i64 w3, .int .i64 w4, .int .i64 w5])), (4, some (24, [.int .i64 w6, .nl]))] : St D0) (onN (fun s => spec_AddClue.C.tidy 6 s (fun s' => runC spec_AddClue.C (spec_AddClue.O N) N spec_AddClue.c7 7 s' spec_AddClue.K0)) spec_AddClue.K0))) := by kernel_rfl
noncomputable def spec_AddClue.B6 (N : Nat) : St D0 → Option spec_AddClue.R := fun s' => runC spec_AddClue.C (spec_AddClue.O N) N spec_AddClue.c13 13 s' (spec_AddClue.K13 N)
noncomputable def spec_AddClue.g (N : Nat) (a0_0 : Int) (a0_1 : List S38) (a1_0 : Int) (a1_1 : Int) (a1_2 : Int) : Option spec_AddClue.R := spec_AddClue.o0 N a0_0 a0_1 a1_0 a1_1 a1_2 ((fun w0 w1 w2 w3 w4 w5 w6 => spec_AddClue.d1 N w0 w1 w2 w3 w4 w5 w6))
theorem spec_AddClue.c1_0 : spec_AddClue.c1 = (.seq spec_AddClue.c2 (.seq (.seq spec_AddClue.c12 spec_AddClue.c13) spec_AddClue.c7)) := by kernel_rfl
theorem spec_AddClue.g.run (N : Nat) (a0_0 : Int) (a0_1 : List S38) (a1_0 : Int) (a1_1 : Int) (a1_2 : Int) : runC spec_AddClue.C (spec_AddClue.O N) N spec_AddClue.c1 1 (st0 [.agg [.int .i64 a0_0, .sl false 38 a0_1], .agg [.int .i64 a1_0, .int .i64 a1_1, .int .i64 a1_2]] [] : St D0) spec_AddClue.K0 = spec_AddClue.g N a0_0 a0_1 a1_0 a1_1 a1_2 := by
  rw [spec_AddClue.c1_0]; unfold spec_AddClue.g; exact (spec_AddClue.o0.run N spec_AddClue.c13 a0_0 a0_1 a1_0 a1_1 a1_2).trans (congr rfl (funext fun w0 => funext fun w1 => funext fun w2 => funext fun w3 => funext fun w4 => funext fun w5 => funext fun w6 => spec_AddClue.d1.run N w0 w1 w2 w3 w4 w5 w6))
theorem spec_AddClue.good (N : Nat) (a0_0 : Int) (a0_1 : List S38) (a1_0 : Int) (a1_1 : Int) (a1_2 : Int) (r : spec_AddClue.R) (h : spec_AddClue.g N a0_0 a0_1 a1_0 a1_1 a1_2 = some r) : Go.PM.Good Go.Proofs.Try.prog T0 13 [.agg [.int .i64 a0_0, .sl false 38 a0_1], .agg [.int .i64 a1_0, .int .i64 a1_1, .int .i64 a1_2]] [] (spec_AddClue.sig.ret r) (spec_AddClue.sig.bs r) :=
  good_fn tabOk0 mixed0 spec_AddClue.sig (spec_AddClue.E N) Go.Proofs.Try.func13 (by kernel_rfl) (by kernel_rfl) 2097215 0 0 [(12, [2, 3, 4, 21], [2, 3, 4])] [(true, [.any, .ro 38]), (false, [.any])] (by kernel_rfl) rfl ((spec_AddClue.g.run N a0_0 a0_1 a1_0 a1_1 a1_2).trans h)
noncomputable def spec_AddClue.ent (N : Nat) : Ent Go.Proofs.Try.prog T0 := mkEnt 13 [(true, [.any, .ro 38]), (true, [.any, .any, .any])] spec_AddClue.sig (fun t => spec_AddClue.g N t.1 t.2.1 t.2.2.1 t.2.2.2.1 t.2.2.2.2) (fun t r h => spec_AddClue.good N t.1 t.2.1 t.2.2.1 t.2.2.2.1 t.2.2.2.2 r h)
end Go.Proofs.Ytpeleommbipeaaa.M

namespace Go.Proofs.Ytpeleommbipeaaa.M
open Go Go.PM Go.Proofs.Ytpeleommbipeaaa.P
set_option linter.unusedVariables false
set_option maxRecDepth 100000
/-! ### laws_kPuzzle -/
abbrev laws_kPuzzle.R : Type := Bool
abbrev laws_kPuzzle.sig : Sig := ⟨[(true, 2), (true, 2)], [], [.int .i64, .sl false 38, .int .i64, .sl false 38], [(false, 1)], [], [.bool]⟩
noncomputable def laws_kPuzzle.C : Cfg D0 := ⟨Go.Proofs.Try.prog, T0, 68749361215, 0, 38, 0, [(12, [2, 3, 19], [2, 3]), (58, [2, 3, 22, 23], [2, 3])]⟩
noncomputable def laws_kPuzzle.E (N : Nat) : List (Ent Go.Proofs.Try.prog T0) := []
noncomputable def laws_kPuzzle.O (N : Nat) : Orc D0 laws_kPuzzle.R := orcOf (laws_kPuzzle.E N)
noncomputable def laws_kPuzzle.K0 : Ex → St D0 → Option laws_kPuzzle.R := exitK laws_kPuzzle.C Go.Proofs.Try.f17.results.toList [(false, [.any])] (decOut laws_kPuzzle.sig)
noncomputable def laws_kPuzzle.c1 : Code := codeAt (Go.Proofs.Try.f17.body.getD .skip) []
noncomputable def laws_kPuzzle.c2 : Code := codeAt (Go.Proofs.Try.f17.body.getD .skip) [false]
noncomputable def laws_kPuzzle.c7 : Code := codeAt (Go.Proofs.Try.f17.body.getD .skip) [true, true]
noncomputable def laws_kPuzzle.c12 : Code := codeAt (Go.Proofs.Try.f17.body.getD .skip) [true, false, false]
noncomputable def laws_kPuzzle.c13 : Code := codeAt (Go.Proofs.Try.f17.body.getD .skip) [true, false, true]
noncomputable def laws_kPuzzle.c15 : Code := codeAt (Go.Proofs.Try.f17.body.getD .skip) [true, true, true]
noncomputable def laws_kPuzzle.c28 : Code := codeAt (Go.Proofs.Try.f17.body.getD .skip) [true, true, false, false]
noncomputable def laws_kPuzzle.c116 : Code := codeAt (Go.Proofs.Try.f17.body.getD .skip) [true, true, false, true, false, false]
noncomputable def laws_kPuzzle.K116 (N : Nat) (Kn58 : St D0 → Option laws_kPuzzle.R) : Ex → St D0 → Option laws_kPuzzle.R := (onN (fun s => laws_kPuzzle.C.tidy 58 s ((onN Kn58 (blockK 0 (onN (fun s => laws_kPuzzle.C.tidy 14 s (fun s' => runC laws_kPuzzle.C (laws_kPuzzle.O N) N laws_kPuzzle.c15 15 s' laws_kPuzzle.K0)) laws_kPuzzle.K0))) .normal)) (onN Kn58 (blockK 0 (onN (fun s => laws_kPuzzle.C.tidy 14 s (fun s' => runC laws_kPuzzle.C (laws_kPuzzle.O N) N laws_kPuzzle.c15 15 s' laws_kPuzzle.K0)) laws_kPuzzle.K0))))
noncomputable def laws_kPuzzle.o2 (N : Nat) (v0 : Int) (v1 : Int) (v2 : Int) (v3 : List S38) (v4 : Int) (v5 : List S38) (c2 : Int → Int → Int → (List S38) → Int → (List S38) → Option laws_kPuzzle.R) : Option laws_kPuzzle.R :=
 bif (decide (v1 < v0)) then
  bif (decide (0 ≤ v1)) then
   bif (decide (v1 < (v3.length : Int))) then
    (v3[(v1 : Int).toNat]?).bind fun x1 =>
    bif (decide (0 ≤ v1)) then
     bif (decide (v1 < (v5.length : Int))) then
      (v5[(v1 : Int).toNat]?).bind fun x2 =>
      bif (!((x1.f0 == x2.f0) && ((x1.f1 == x2.f1) && ((x1.f2 == x2.f2) && true)))) then
       some (false)
      else
      c2 v0 (w64 (v1 + 1)) v2 v3 v4 v5
     else
     none
    else
    none
   else
   none
  else
  none
 else
 some (true)
theorem laws_kPuzzle.o2.run (N : Nat) (Kn58 : St D0 → Option laws_kPuzzle.R) (v0 : Int) (v1 : Int) (v2 : Int) (v3 : List S38) (v4 : Int) (v5 : List S38) : runC laws_kPuzzle.C (laws_kPuzzle.O N) N laws_kPuzzle.c116 116 (mkSt [(2, .one (.ptr 2 0)), (3, .one (.ptr 3 0)), (22, .one (.int .i64 v0)), (23, .one (.int .i64 v1))] [(2, some (24, [.int .i64 v2, .sl false 38 v3])), (3, some (24, [.int .i64 v4, .sl false 38 v5]))] : St D0) (onN (fun s => laws_kPuzzle.C.tidy 58 s ((onN Kn58 (blockK 0 (onN (fun s => laws_kPuzzle.C.tidy 14 s (fun s' => runC laws_kPuzzle.C (laws_kPuzzle.O N) N laws_kPuzzle.c15 15 s' laws_kPuzzle.K0)) laws_kPuzzle.K0))) .normal)) (onN Kn58 (blockK 0 (onN (fun s => laws_kPuzzle.C.tidy 14 s (fun s' => runC laws_kPuzzle.C (laws_kPuzzle.O N) N laws_kPuzzle.c15 15 s' laws_kPuzzle.K0)) laws_kPuzzle.K0)))) = laws_kPuzzle.o2 N v0 v1 v2 v3 v4 v5 ((fun w0 w1 w2 w3 w4 w5 => Kn58 (mkSt [(2, .one (.ptr 2 0)), (3, .one (.ptr 3 0)), (22, .one (.int .i64 w0)), (23, .one (.int .i64 w1))] [(2, some (24, [.int .i64 w2, .sl false 38 w3])), (3, some (24, [.int .i64 w4, .sl false 38 w5]))] : St D0))) := by kernel_rfl
noncomputable def laws_kPuzzle.d2 (N : Nat) (v0 : Int) (v1 : Int) (v2 : Int) (v3 : List S38) (v4 : Int) (v5 : List S38) (c2 : Int → Int → Int → (List S38) → Int → (List S38) → Option laws_kPuzzle.R) : Option laws_kPuzzle.R := laws_kPuzzle.o2 N v0 v1 v2 v3 v4 v5 c2
theorem laws_kPuzzle.d2.run (N : Nat) (Kn58 : St D0 → Option laws_kPuzzle.R) (v0 : Int) (v1 : Int) (v2 : Int) (v3 : List S38) (v4 : Int) (v5 : List S38) : runC laws_kPuzzle.C (laws_kPuzzle.O N) N laws_kPuzzle.c116 116 (mkSt [(2, .one (.ptr 2 0)), (3, .one (.ptr 3 0)), (22, .one (.int .i64 v0)), (23, .one (.int .i64 v1))] [(2, some (24, [.int .i64 v2, .sl false 38 v3])), (3, some (24, [.int .i64 v4, .sl false 38 v5]))] : St D0) (laws_kPuzzle.K116 N Kn58) = laws_kPuzzle.d2 N v0 v1 v2 v3 v4 v5 ((fun w0 w1 w2 w3 w4 w5 => Kn58 (mkSt [(2, .one (.ptr 2 0)), (3, .one (.ptr 3 0)), (22, .one (.int .i64 w0)), (23, .one (.int .i64 w1))] [(2, some (24, [.int .i64 w2, .sl false 38 w3])), (3, some (24, [.int .i64 w4, .sl false 38 w5]))] : St D0))) := by
  exact (laws_kPuzzle.o2.run N Kn58 v0 v1 v2 v3 v4 v5).trans rfl
noncomputable def laws_kPuzzle.K58 (N : Nat) : Ex → St D0 → Option laws_kPuzzle.R := (blockK 0 (onN (fun s => laws_kPuzzle.C.tidy 14 s (fun s' => runC laws_kPuzzle.C (laws_kPuzzle.O N) N laws_kPuzzle.c15 15 s' laws_kPuzzle.K0)) laws_kPuzzle.K0))
noncomputable def laws_kPuzzle.l2 (N : Nat) : Nat → Int → Int → Int → (List S38) → Int → (List S38) → Option laws_kPuzzle.R
  | 0, _, _, _, _, _, _ => none
  | n + 1, v0, v1, v2, v3, v4, v5 => laws_kPuzzle.d2 N v0 v1 v2 v3 v4 v5 ((fun w0 w1 w2 w3 w4 w5 => laws_kPuzzle.l2 N n w0 w1 w2 w3 w4 w5))
theorem laws_kPuzzle.loop58 (N : Nat) : ∀ n, (∀ (v0 : Int) (v1 : Int) (v2 : Int) (v3 : List S38) (v4 : Int) (v5 : List S38), iter (loopF laws_kPuzzle.C (laws_kPuzzle.O N) N laws_kPuzzle.c116 58) n (mkSt [(2, .one (.ptr 2 0)), (3, .one (.ptr 3 0)), (22, .one (.int .i64 v0)), (23, .one (.int .i64 v1))] [(2, some (24, [.int .i64 v2, .sl false 38 v3])), (3, some (24, [.int .i64 v4, .sl false 38 v5]))] : St D0) (laws_kPuzzle.K58 N) = laws_kPuzzle.l2 N n v0 v1 v2 v3 v4 v5)
  | 0 => (fun v0 v1 v2 v3 v4 v5 => rfl)
  | n + 1 => (fun v0 v1 v2 v3 v4 v5 => (laws_kPuzzle.d2.run N (fun s => iter (loopF laws_kPuzzle.C (laws_kPuzzle.O N) N laws_kPuzzle.c116 58) n s (laws_kPuzzle.K58 N)) v0 v1 v2 v3 v4 v5).trans (show _ = laws_kPuzzle.d2 N v0 v1 v2 v3 v4 v5 ((fun w0 w1 w2 w3 w4 w5 => laws_kPuzzle.l2 N n w0 w1 w2 w3 w4 w5)) from (congr rfl (funext fun w0 => funext fun w1 => funext fun w2 => funext fun w3 => funext fun w4 => funext fun w5 => (laws_kPuzzle.loop58 N n) w0 w1 w2 w3 w4 w5))))
noncomputable def laws_kPuzzle.K13 (N : Nat) : Ex → St D0 → Option laws_kPuzzle.R := (onN (fun s => laws_kPuzzle.C.tidy 6 s (fun s' => runC laws_kPuzzle.C (laws_kPuzzle.O N) N laws_kPuzzle.c7 7 s' laws_kPuzzle.K0)) laws_kPuzzle.K0)
noncomputable def laws_kPuzzle.o1 (N : Nat) (v0 : Bool) (v1 : Int) (v2 : List S38) (v3 : Int) (v4 : List S38) (c2 : Int → Int → Int → (List S38) → Int → (List S38) → Option laws_kPuzzle.R) : Option laws_kPuzzle.R :=
 bif v0 then
  some (false)
 else
 c2 (v2.length : Int) 0 v1 v2 v3 v4
theorem laws_kPuzzle.o1.run (N : Nat) (H116 : Code) (v0 : Bool) (v1 : Int) (v2 : List S38) (v3 : Int) (v4 : List S38) : runC laws_kPuzzle.C (laws_kPuzzle.O N) N laws_kPuzzle.c13 13 (mkSt [(2, .one (.ptr 2 0)), (3, .one (.ptr 3 0)), (19, .one (.bool v0))] [(2, some (24, [.int .i64 v1, .sl false 38 v2])), (3, some (24, [.int .i64 v3, .sl false 38 v4]))] : St D0) (onN (fun s => laws_kPuzzle.C.tidy 6 s (fun s' => runC laws_kPuzzle.C (laws_kPuzzle.O N) N (.seq (.seq laws_kPuzzle.c28 (.block 0 (.loop H116))) laws_kPuzzle.c15) 7 s' laws_kPuzzle.K0)) laws_kPuzzle.K0) = laws_kPuzzle.o1 N v0 v1 v2 v3 v4 ((fun w0 w1 w2 w3 w4 w5 => iter (loopF laws_kPuzzle.C (laws_kPuzzle.O N) N H116 58) N (mkSt [(2, .one (.ptr 2 0)), (3, .one (.ptr 3 0)), (22, .one (.int .i64 w0)), (23, .one (.int .i64 w1))] [(2, some (24, [.int .i64 w2, .sl false 38 w3])), (3, some (24, [.int .i64 w4, .sl false 38 w5]))] : St D0) (blockK 0 (onN (fun s => laws_kPuzzle.C.tidy 14 s (fun s' => runC laws_kPuzzle.C (laws_kPuzzle.O N) N laws_kPuzzle.c15 15 s' laws_kPuzzle.K0)) laws_kPuzzle.K0)))) := by kernel_rfl
noncomputable def laws_kPuzzle.d1 (N : Nat) (v0 : Bool) (v1 : Int) (v2 : List S38) (v3 : Int) (v4 : List S38) : Option laws_kPuzzle.R := laws_kPuzzle.o1 N v0 v1 v2 v3 v4 ((fun w0 w1 w2 w3 w4 w5 => laws_kPuzzle.l2 N N w0 w1 w2 w3 w4 w5))
theorem laws_kPuzzle.d1.run (N : Nat) (v0 : Bool) (v1 : Int) (v2 : List S38) (v3 : Int) (v4 : List S38) : runC laws_kPuzzle.C (laws_kPuzzle.O N) N laws_kPuzzle.c13 13 (mkSt [(2, .one (.ptr 2 0)), (3, .one (.ptr 3 0)), (19, .one (.bool v0))] [(2, some (24, [.int .i64 v1, .sl false 38 v2])), (3, some (24, [.int .i64 v3, .sl false 38 v4]))] : St D0) (laws_kPuzzle.K13 N) = laws_kPuzzle.d1 N v0 v1 v2 v3 v4 := by
  unfold laws_kPuzzle.d1; exact (laws_kPuzzle.o1.run N laws_kPuzzle.c116 v0 v1 v2 v3 v4).trans (congr rfl (funext fun w0 => funext fun w1 => funext fun w2 => funext fun w3 => funext fun w4 => funext fun w5 => (laws_kPuzzle.loop58 N N) w0 w1 w2 w3 w4 w5))
noncomputable def laws_kPuzzle.o0 (N : Nat) (a0_0 : Int) (a0_1 : List S38) (a1_0 : Int) (a1_1 : List S38) (c1 : Bool → Int → (List S38) → Int → (List S38) → Option laws_kPuzzle.R) : Option laws_kPuzzle.R :=
 bif (a0_0 != a1_0) then
  c1 true a0_0 a0_1 a1_0 a1_1
 else
 c1 ((a0_1.length : Int) != (a1_1.length : Int)) a0_0 a0_1 a1_0 a1_1
theorem laws_kPuzzle.o0.run (N : Nat) (H13 : Code) (a0_0 : Int) (a0_1 : List S38) (a1_0 : Int) (a1_1 : List S38) : runC laws_kPuzzle.C (laws_kPuzzle.O N) N (.seq laws_kPuzzle.c2 (.seq (.seq laws_kPuzzle.c12 H13) laws_kPuzzle.c7)) 1 (st0 [.agg [.int .i64 a0_0, .sl false 38 a0_1], .agg [.int .i64 a1_0, .sl false 38 a1_1]] [] : St D0) laws_kPuzzle.K0 = laws_kPuzzle.o0 N a0_0 a0_1 a1_0 a1_1 ((fun w0 w1 w2 w3 w4 => runC laws_kPuzzle.C (laws_kPuzzle.O N) N H13 13 (mkSt [(2, .one (.ptr 2 0)), (3, .one (.ptr 3 0)), (19, .one (.bool w0))] [(2, some (24, [.int .i64 w1, .sl false 38 w2])), (3, some (24, [.int .i64 w3, .sl false 38 w4]))] : St D0) (onN (fun s => laws_kPuzzle.C.tidy 6 s (fun s' => runC laws_kPuzzle.C (laws_kPuzzle.O N) N laws_kPuzzle.c7 7 s' laws_kPuzzle.K0)) laws_kPuzzle.K0))) := by kernel_rfl
noncomputable def laws_kPuzzle.B6 (N : Nat) : St D0 → Option laws_kPuzzle.R := fun s' => runC laws_kPuzzle.C (laws_kPuzzle.O N) N laws_kPuzzle.c13 13 s' (laws_kPuzzle.K13 N)
noncomputable def laws_kPuzzle.g (N : Nat) (a0_0 : Int) (a0_1 : List S38) (a1_0 : Int) (a1_1 : List S38) : Option laws_kPuzzle.R := laws_kPuzzle.o0 N a0_0 a0_1 a1_0 a1_1 ((fun w0 w1 w2 w3 w4 => laws_kPuzzle.d1 N w0 w1 w2 w3 w4))
theorem laws_kPuzzle.c1_0 : laws_kPuzzle.c1 = (.seq laws_kPuzzle.c2 (.seq (.seq laws_kPuzzle.c12 laws_kPuzzle.c13) laws_kPuzzle.c7)) := by kernel_rfl
theorem laws_kPuzzle.g.run (N : Nat) (a0_0 : Int) (a0_1 : List S38) (a1_0 : Int) (a1_1 : List S38) : runC laws_kPuzzle.C (laws_kPuzzle.O N) N laws_kPuzzle.c1 1 (st0 [.agg [.int .i64 a0_0, .sl false 38 a0_1], .agg [.int .i64 a1_0, .sl false 38 a1_1]] [] : St D0) laws_kPuzzle.K0 = laws_kPuzzle.g N a0_0 a0_1 a1_0 a1_1 := by
  rw [laws_kPuzzle.c1_0]; unfold laws_kPuzzle.g; exact (laws_kPuzzle.o0.run N laws_kPuzzle.c13 a0_0 a0_1 a1_0 a1_1).trans (congr rfl (funext fun w0 => funext fun w1 => funext fun w2 => funext fun w3 => funext fun w4 => laws_kPuzzle.d1.run N w0 w1 w2 w3 w4))
theorem laws_kPuzzle.good (N : Nat) (a0_0 : Int) (a0_1 : List S38) (a1_0 : Int) (a1_1 : List S38) (r : laws_kPuzzle.R) (h : laws_kPuzzle.g N a0_0 a0_1 a1_0 a1_1 = some r) : Go.PM.Good Go.Proofs.Try.prog T0 17 [.agg [.int .i64 a0_0, .sl false 38 a0_1], .agg [.int .i64 a1_0, .sl false 38 a1_1]] [] (laws_kPuzzle.sig.ret r) (laws_kPuzzle.sig.bs r) :=
  good_fn tabOk0 mixed0 laws_kPuzzle.sig (laws_kPuzzle.E N) Go.Proofs.Try.func17 (by kernel_rfl) (by kernel_rfl) 68749361215 0 0 [(12, [2, 3, 19], [2, 3]), (58, [2, 3, 22, 23], [2, 3])] [(false, [.any])] (by kernel_rfl) rfl ((laws_kPuzzle.g.run N a0_0 a0_1 a1_0 a1_1).trans h)
noncomputable def laws_kPuzzle.ent (N : Nat) : Ent Go.Proofs.Try.prog T0 := mkEnt 17 [(true, [.any, .ro 38]), (true, [.any, .ro 38])] laws_kPuzzle.sig (fun t => laws_kPuzzle.g N t.1 t.2.1 t.2.2.1 t.2.2.2) (fun t r h => laws_kPuzzle.good N t.1 t.2.1 t.2.2.1 t.2.2.2 r h)
end Go.Proofs.Ytpeleommbipeaaa.M

namespace Go.Proofs.Ytpeleommbipeaaa.M
open Go Go.PM Go.Proofs.Ytpeleommbipeaaa.P
set_option linter.unusedVariables false
set_option maxRecDepth 100000
/-! ### laws_kHas -/
abbrev laws_kHas.R : Type := Bool
abbrev laws_kHas.sig : Sig := ⟨[(false, 1), (false, 1)], [], [.sl false 3, .int .i64], [(false, 1)], [], [.bool]⟩
noncomputable def laws_kHas.C : Cfg D0 := ⟨Go.Proofs.Try.prog, T0, 34771, 0, 17, 0, [(26, [1, 7, 8, 9], [])]⟩
noncomputable def laws_kHas.E (N : Nat) : List (Ent Go.Proofs.Try.prog T0) := []
noncomputable def laws_kHas.O (N : Nat) : Orc D0 laws_kHas.R := orcOf (laws_kHas.E N)
noncomputable def laws_kHas.K0 : Ex → St D0 → Option laws_kHas.R := exitK laws_kHas.C Go.Proofs.Try.f20.results.toList [(false, [.any])] (decOut laws_kHas.sig)
noncomputable def laws_kHas.c1 : Code := codeAt (Go.Proofs.Try.f20.body.getD .skip) []
noncomputable def laws_kHas.c2 : Code := codeAt (Go.Proofs.Try.f20.body.getD .skip) [false]
noncomputable def laws_kHas.c7 : Code := codeAt (Go.Proofs.Try.f20.body.getD .skip) [true, true]
noncomputable def laws_kHas.c12 : Code := codeAt (Go.Proofs.Try.f20.body.getD .skip) [true, false, false]
noncomputable def laws_kHas.c52 : Code := codeAt (Go.Proofs.Try.f20.body.getD .skip) [true, false, true, false, false]
noncomputable def laws_kHas.K52 (N : Nat) (Kn26 : St D0 → Option laws_kHas.R) : Ex → St D0 → Option laws_kHas.R := (onN (fun s => laws_kHas.C.tidy 26 s ((onN Kn26 (blockK 0 (onN (fun s => laws_kHas.C.tidy 6 s (fun s' => runC laws_kHas.C (laws_kHas.O N) N laws_kHas.c7 7 s' laws_kHas.K0)) laws_kHas.K0))) .normal)) (onN Kn26 (blockK 0 (onN (fun s => laws_kHas.C.tidy 6 s (fun s' => runC laws_kHas.C (laws_kHas.O N) N laws_kHas.c7 7 s' laws_kHas.K0)) laws_kHas.K0))))
noncomputable def laws_kHas.o1 (N : Nat) (v0 : Int) (v1 : List Int) (v2 : Int) (v3 : Int) (c1 : Int → (List Int) → Int → Int → Option laws_kHas.R) : Option laws_kHas.R :=
 bif (decide (v3 < v2)) then
  bif (decide (0 ≤ v3)) then
   bif (decide (v3 < (v1.length : Int))) then
    (v1[(v3 : Int).toNat]?).bind fun x1 =>
    bif (x1 == v0) then
     some (true)
    else
    c1 v0 v1 v2 (w64 (v3 + 1))
   else
   none
  else
  none
 else
 some (false)
theorem laws_kHas.o1.run (N : Nat) (Kn26 : St D0 → Option laws_kHas.R) (v0 : Int) (v1 : List Int) (v2 : Int) (v3 : Int) : runC laws_kHas.C (laws_kHas.O N) N laws_kHas.c52 52 (mkSt [(1, .one (.int .i64 v0)), (7, .one (.sl false 3 v1)), (8, .one (.int .i64 v2)), (9, .one (.int .i64 v3))] [] : St D0) (onN (fun s => laws_kHas.C.tidy 26 s ((onN Kn26 (blockK 0 (onN (fun s => laws_kHas.C.tidy 6 s (fun s' => runC laws_kHas.C (laws_kHas.O N) N laws_kHas.c7 7 s' laws_kHas.K0)) laws_kHas.K0))) .normal)) (onN Kn26 (blockK 0 (onN (fun s => laws_kHas.C.tidy 6 s (fun s' => runC laws_kHas.C (laws_kHas.O N) N laws_kHas.c7 7 s' laws_kHas.K0)) laws_kHas.K0)))) = laws_kHas.o1 N v0 v1 v2 v3 ((fun w0 w1 w2 w3 => Kn26 (mkSt [(1, .one (.int .i64 w0)), (7, .one (.sl false 3 w1)), (8, .one (.int .i64 w2)), (9, .one (.int .i64 w3))] [] : St D0))) := by kernel_rfl
noncomputable def laws_kHas.d1 (N : Nat) (v0 : Int) (v1 : List Int) (v2 : Int) (v3 : Int) (c1 : Int → (List Int) → Int → Int → Option laws_kHas.R) : Option laws_kHas.R := laws_kHas.o1 N v0 v1 v2 v3 c1
theorem laws_kHas.d1.run (N : Nat) (Kn26 : St D0 → Option laws_kHas.R) (v0 : Int) (v1 : List Int) (v2 : Int) (v3 : Int) : runC laws_kHas.C (laws_kHas.O N) N laws_kHas.c52 52 (mkSt [(1, .one (.int .i64 v0)), (7, .one (.sl false 3 v1)), (8, .one (.int .i64 v2)), (9, .one (.int .i64 v3))] [] : St D0) (laws_kHas.K52 N Kn26) = laws_kHas.d1 N v0 v1 v2 v3 ((fun w0 w1 w2 w3 => Kn26 (mkSt [(1, .one (.int .i64 w0)), (7, .one (.sl false 3 w1)), (8, .one (.int .i64 w2)), (9, .one (.int .i64 w3))] [] : St D0))) := by
  exact (laws_kHas.o1.run N Kn26 v0 v1 v2 v3).trans rfl
noncomputable def laws_kHas.K26 (N : Nat) : Ex → St D0 → Option laws_kHas.R := (blockK 0 (onN (fun s => laws_kHas.C.tidy 6 s (fun s' => runC laws_kHas.C (laws_kHas.O N) N laws_kHas.c7 7 s' laws_kHas.K0)) laws_kHas.K0))
noncomputable def laws_kHas.l1 (N : Nat) : Nat → Int → (List Int) → Int → Int → Option laws_kHas.R
  | 0, _, _, _, _ => none
  | n + 1, v0, v1, v2, v3 => laws_kHas.d1 N v0 v1 v2 v3 ((fun w0 w1 w2 w3 => laws_kHas.l1 N n w0 w1 w2 w3))
theorem laws_kHas.loop26 (N : Nat) : ∀ n, (∀ (v0 : Int) (v1 : List Int) (v2 : Int) (v3 : Int), iter (loopF laws_kHas.C (laws_kHas.O N) N laws_kHas.c52 26) n (mkSt [(1, .one (.int .i64 v0)), (7, .one (.sl false 3 v1)), (8, .one (.int .i64 v2)), (9, .one (.int .i64 v3))] [] : St D0) (laws_kHas.K26 N) = laws_kHas.l1 N n v0 v1 v2 v3)
  | 0 => (fun v0 v1 v2 v3 => rfl)
  | n + 1 => (fun v0 v1 v2 v3 => (laws_kHas.d1.run N (fun s => iter (loopF laws_kHas.C (laws_kHas.O N) N laws_kHas.c52 26) n s (laws_kHas.K26 N)) v0 v1 v2 v3).trans (show _ = laws_kHas.d1 N v0 v1 v2 v3 ((fun w0 w1 w2 w3 => laws_kHas.l1 N n w0 w1 w2 w3)) from (congr rfl (funext fun w0 => funext fun w1 => funext fun w2 => funext fun w3 => (laws_kHas.loop26 N n) w0 w1 w2 w3))))
noncomputable def laws_kHas.o0 (N : Nat) (a0 : List Int) (a1 : Int) (c1 : Int → (List Int) → Int → Int → Option laws_kHas.R) : Option laws_kHas.R :=
 c1 a1 a0 (a0.length : Int) 0
theorem laws_kHas.o0.run (N : Nat) (H52 : Code) (a0 : List Int) (a1 : Int) : runC laws_kHas.C (laws_kHas.O N) N (.seq laws_kHas.c2 (.seq (.seq laws_kHas.c12 (.block 0 (.loop H52))) laws_kHas.c7)) 1 (st0 [.one (.sl false 3 a0), .one (.int .i64 a1)] [] : St D0) laws_kHas.K0 = laws_kHas.o0 N a0 a1 ((fun w0 w1 w2 w3 => iter (loopF laws_kHas.C (laws_kHas.O N) N H52 26) N (mkSt [(1, .one (.int .i64 w0)), (7, .one (.sl false 3 w1)), (8, .one (.int .i64 w2)), (9, .one (.int .i64 w3))] [] : St D0) (blockK 0 (onN (fun s => laws_kHas.C.tidy 6 s (fun s' => runC laws_kHas.C (laws_kHas.O N) N laws_kHas.c7 7 s' laws_kHas.K0)) laws_kHas.K0)))) := by kernel_rfl
noncomputable def laws_kHas.g (N : Nat) (a0 : List Int) (a1 : Int) : Option laws_kHas.R := laws_kHas.o0 N a0 a1 ((fun w0 w1 w2 w3 => laws_kHas.l1 N N w0 w1 w2 w3))
theorem laws_kHas.c1_0 : laws_kHas.c1 = (.seq laws_kHas.c2 (.seq (.seq laws_kHas.c12 (.block 0 (.loop laws_kHas.c52))) laws_kHas.c7)) := by kernel_rfl
theorem laws_kHas.g.run (N : Nat) (a0 : List Int) (a1 : Int) : runC laws_kHas.C (laws_kHas.O N) N laws_kHas.c1 1 (st0 [.one (.sl false 3 a0), .one (.int .i64 a1)] [] : St D0) laws_kHas.K0 = laws_kHas.g N a0 a1 := by
  rw [laws_kHas.c1_0]; unfold laws_kHas.g; exact (laws_kHas.o0.run N laws_kHas.c52 a0 a1).trans (congr rfl (funext fun w0 => funext fun w1 => funext fun w2 => funext fun w3 => (laws_kHas.loop26 N N) w0 w1 w2 w3))
theorem laws_kHas.good (N : Nat) (a0 : List Int) (a1 : Int) (r : laws_kHas.R) (h : laws_kHas.g N a0 a1 = some r) : Go.PM.Good Go.Proofs.Try.prog T0 20 [.one (.sl false 3 a0), .one (.int .i64 a1)] [] (laws_kHas.sig.ret r) (laws_kHas.sig.bs r) :=
  good_fn tabOk0 mixed0 laws_kHas.sig (laws_kHas.E N) Go.Proofs.Try.func20 (by kernel_rfl) (by kernel_rfl) 34771 0 0 [(26, [1, 7, 8, 9], [])] [(false, [.any])] (by kernel_rfl) rfl ((laws_kHas.g.run N a0 a1).trans h)
noncomputable def laws_kHas.ent (N : Nat) : Ent Go.Proofs.Try.prog T0 := mkEnt 20 [(false, [.ro 3]), (false, [.any])] laws_kHas.sig (fun t => laws_kHas.g N t.1 t.2) (fun t r h => laws_kHas.good N t.1 t.2 r h)
end Go.Proofs.Ytpeleommbipeaaa.M

namespace Go.Proofs.Ytpeleommbipeaaa.M
open Go Go.PM Go.Proofs.Ytpeleommbipeaaa.P
set_option linter.unusedVariables false
set_option maxRecDepth 100000
/-! ### spec_pzOf -/
abbrev spec_pzOf.R : Type := Int × Int × Int
abbrev spec_pzOf.sig : Sig := ⟨[(false, 1), (false, 1), (false, 1), (false, 1)], [], [.int .i64, .int .i64, .int .i64, .int .i64], [(true, 3)], [], [.int .i64, .int .i64, .int .i64]⟩
noncomputable def spec_pzOf.C : Cfg D0 := ⟨Go.Proofs.Try.prog, T0, 2535473949017871, 0, 62, 0, []⟩
noncomputable def spec_pzOf.E (N : Nat) : List (Ent Go.Proofs.Try.prog T0) := [spec_pzAhead.ent N, spec_pzNext.ent N, spec_l1Abs.ent N]
noncomputable def spec_pzOf.O (N : Nat) : Orc D0 spec_pzOf.R := orcOf (spec_pzOf.E N)
noncomputable def spec_pzOf.K0 : Ex → St D0 → Option spec_pzOf.R := exitK spec_pzOf.C Go.Proofs.Try.f40.results.toList [(true, [.any, .any, .any])] (decOut spec_pzOf.sig)
noncomputable def spec_pzOf.c1 : Code := codeAt (Go.Proofs.Try.f40.body.getD .skip) []
noncomputable def spec_pzOf.o0 (N : Nat) (a0 : Int) (a1 : Int) (a2 : Int) (a3 : Int) : Option spec_pzOf.R :=
 bif (a1 == 0) then
  some (0, (w64 (Int.tdiv a3 60)), 0)
 else
 bif (a1 == 1) then
  bif (a2 == 0) then
   none
  else
  some (1, a2, (Int.tmod (Int.tmod a3 60) a2))
 else
 bif (a1 == 2) then
  some (2, (w64 ((w64 ((w64 ((w64 (Int.tdiv (w64 (Int.tdiv a3 60)) 10)) + (Int.tmod (w64 (Int.tdiv a3 60)) 10))) + (w64 (Int.tdiv (Int.tmod a3 60) 10)))) + (Int.tmod (Int.tmod a3 60) 10))), 0)
 else
 bif (a1 == 3) then
  (spec_pzAhead.g N a0 a3).bind fun r1 =>
  bif (decide (r1 < (w64 (30 * a0)))) then
   some (3, 1, 0)
  else
  some (3, 0, 0)
 else
 bif (a1 == 4) then
  (spec_pzNext.g N a0 a3).bind fun r2 =>
  some (4, r2, 0)
 else
 (spec_l1Abs.g N (w64 ((w64 (Int.tdiv a3 60)) - (Int.tmod a3 60)))).bind fun r3 =>
 some (5, r3, 0)
theorem spec_pzOf.o0.run (N : Nat) (a0 : Int) (a1 : Int) (a2 : Int) (a3 : Int) : runC spec_pzOf.C (spec_pzOf.O N) N spec_pzOf.c1 1 (st0 [.one (.int .i64 a0), .one (.int .i64 a1), .one (.int .i64 a2), .one (.int .i64 a3)] [] : St D0) spec_pzOf.K0 = spec_pzOf.o0 N a0 a1 a2 a3 := by kernel_rfl
noncomputable def spec_pzOf.g (N : Nat) (a0 : Int) (a1 : Int) (a2 : Int) (a3 : Int) : Option spec_pzOf.R := spec_pzOf.o0 N a0 a1 a2 a3
theorem spec_pzOf.g.run (N : Nat) (a0 : Int) (a1 : Int) (a2 : Int) (a3 : Int) : runC spec_pzOf.C (spec_pzOf.O N) N spec_pzOf.c1 1 (st0 [.one (.int .i64 a0), .one (.int .i64 a1), .one (.int .i64 a2), .one (.int .i64 a3)] [] : St D0) spec_pzOf.K0 = spec_pzOf.g N a0 a1 a2 a3 := by
  exact (spec_pzOf.o0.run N a0 a1 a2 a3).trans rfl
theorem spec_pzOf.good (N : Nat) (a0 : Int) (a1 : Int) (a2 : Int) (a3 : Int) (r : spec_pzOf.R) (h : spec_pzOf.g N a0 a1 a2 a3 = some r) : Go.PM.Good Go.Proofs.Try.prog T0 40 [.one (.int .i64 a0), .one (.int .i64 a1), .one (.int .i64 a2), .one (.int .i64 a3)] [] (spec_pzOf.sig.ret r) (spec_pzOf.sig.bs r) :=
  good_fn tabOk0 mixed0 spec_pzOf.sig (spec_pzOf.E N) Go.Proofs.Try.func40 (by kernel_rfl) (by kernel_rfl) 2535473949017871 0 0 [] [(true, [.any, .any, .any])] (by kernel_rfl) rfl ((spec_pzOf.g.run N a0 a1 a2 a3).trans h)
noncomputable def spec_pzOf.ent (N : Nat) : Ent Go.Proofs.Try.prog T0 := mkEnt 40 [(false, [.any]), (false, [.any]), (false, [.any]), (false, [.any])] spec_pzOf.sig (fun t => spec_pzOf.g N t.1 t.2.1 t.2.2.1 t.2.2.2) (fun t r h => spec_pzOf.good N t.1 t.2.1 t.2.2.1 t.2.2.2 r h)
end Go.Proofs.Ytpeleommbipeaaa.M

namespace Go.Proofs.Ytpeleommbipeaaa.M
open Go Go.PM Go.Proofs.Ytpeleommbipeaaa.P
set_option linter.unusedVariables false
set_option maxRecDepth 100000
/-! ### spec_MakePuzzle -/
abbrev spec_MakePuzzle.R : Type := Int × List S38 × Bool
abbrev spec_MakePuzzle.sig : Sig := ⟨[(false, 1), (false, 1), (false, 1), (false, 1)], [], [.int .i64, .int .i64, .int .i64, .int .i64], [(true, 2), (false, 1)], [], [.int .i64, .sl true 38, .bool]⟩
noncomputable def spec_MakePuzzle.C : Cfg D0 := ⟨Go.Proofs.Try.prog, T0, 1127016598355727, 295724365931656249344, 69, 0, [(12, [0, 1, 2, 3, 8, 34], [8]), (124, [0, 1, 2, 8, 10, 11], [8, 10]), (15910, [0, 1, 2, 8, 10, 11, 12, 13], [8, 10])]⟩
noncomputable def spec_MakePuzzle.E (N : Nat) : List (Ent Go.Proofs.Try.prog T0) := [spec_diHours.ent N, spec_l1In.ent N, spec_pzOf.ent N]
noncomputable def spec_MakePuzzle.O (N : Nat) : Orc D0 spec_MakePuzzle.R := orcOf (spec_MakePuzzle.E N)
noncomputable def spec_MakePuzzle.K0 : Ex → St D0 → Option spec_MakePuzzle.R := exitK spec_MakePuzzle.C Go.Proofs.Try.f7.results.toList [(true, [.any, .own 38]), (false, [.any])] (decOut spec_MakePuzzle.sig)
noncomputable def spec_MakePuzzle.c1 : Code := codeAt (Go.Proofs.Try.f7.body.getD .skip) []
noncomputable def spec_MakePuzzle.c2 : Code := codeAt (Go.Proofs.Try.f7.body.getD .skip) [false]
noncomputable def spec_MakePuzzle.c7 : Code := codeAt (Go.Proofs.Try.f7.body.getD .skip) [true, true]
noncomputable def spec_MakePuzzle.c12 : Code := codeAt (Go.Proofs.Try.f7.body.getD .skip) [true, false, false]
noncomputable def spec_MakePuzzle.c13 : Code := codeAt (Go.Proofs.Try.f7.body.getD .skip) [true, false, true]
noncomputable def spec_MakePuzzle.c14 : Code := codeAt (Go.Proofs.Try.f7.body.getD .skip) [true, true, false]
noncomputable def spec_MakePuzzle.c30 : Code := codeAt (Go.Proofs.Try.f7.body.getD .skip) [true, true, true, false]
noncomputable def spec_MakePuzzle.c63 : Code := codeAt (Go.Proofs.Try.f7.body.getD .skip) [true, true, true, true, true]
noncomputable def spec_MakePuzzle.c248 : Code := codeAt (Go.Proofs.Try.f7.body.getD .skip) [true, true, true, true, false, false, false]
noncomputable def spec_MakePuzzle.c496 : Code := codeAt (Go.Proofs.Try.f7.body.getD .skip) [true, true, true, true, false, false, false, false]
noncomputable def spec_MakePuzzle.c995 : Code := codeAt (Go.Proofs.Try.f7.body.getD .skip) [true, true, true, true, false, false, false, true, true]
noncomputable def spec_MakePuzzle.c3976 : Code := codeAt (Go.Proofs.Try.f7.body.getD .skip) [true, true, true, true, false, false, false, true, false, false, false]
noncomputable def spec_MakePuzzle.c7954 : Code := codeAt (Go.Proofs.Try.f7.body.getD .skip) [true, true, true, true, false, false, false, true, false, false, true, false]
noncomputable def spec_MakePuzzle.c15910 : Code := codeAt (Go.Proofs.Try.f7.body.getD .skip) [true, true, true, true, false, false, false, true, false, false, true, true, false]
noncomputable def spec_MakePuzzle.c15911 : Code := codeAt (Go.Proofs.Try.f7.body.getD .skip) [true, true, true, true, false, false, false, true, false, false, true, true, true]
noncomputable def spec_MakePuzzle.K15911 (N : Nat) (Kn124 : St D0 → Option spec_MakePuzzle.R) : Ex → St D0 → Option spec_MakePuzzle.R := (blockK 1 (onN (fun s => spec_MakePuzzle.C.tidy 994 s (fun s' => runC spec_MakePuzzle.C (spec_MakePuzzle.O N) N spec_MakePuzzle.c995 995 s' (onN (fun s => spec_MakePuzzle.C.tidy 124 s ((onN Kn124 (blockK 0 (onN (fun s => spec_MakePuzzle.C.tidy 62 s (fun s' => runC spec_MakePuzzle.C (spec_MakePuzzle.O N) N spec_MakePuzzle.c63 63 s' spec_MakePuzzle.K0)) spec_MakePuzzle.K0))) .normal)) (onN Kn124 (blockK 0 (onN (fun s => spec_MakePuzzle.C.tidy 62 s (fun s' => runC spec_MakePuzzle.C (spec_MakePuzzle.O N) N spec_MakePuzzle.c63 63 s' spec_MakePuzzle.K0)) spec_MakePuzzle.K0)))))) (onN (fun s => spec_MakePuzzle.C.tidy 124 s ((onN Kn124 (blockK 0 (onN (fun s => spec_MakePuzzle.C.tidy 62 s (fun s' => runC spec_MakePuzzle.C (spec_MakePuzzle.O N) N spec_MakePuzzle.c63 63 s' spec_MakePuzzle.K0)) spec_MakePuzzle.K0))) .normal)) (onN Kn124 (blockK 0 (onN (fun s => spec_MakePuzzle.C.tidy 62 s (fun s' => runC spec_MakePuzzle.C (spec_MakePuzzle.O N) N spec_MakePuzzle.c63 63 s' spec_MakePuzzle.K0)) spec_MakePuzzle.K0))))))
noncomputable def spec_MakePuzzle.o3 (N : Nat) (v0 : Int) (v1 : Int) (v2 : Int) (v3 : Int) (v4 : Int) (v5 : Int) (v6 : Int) (v7 : Int) (c4 : Int → Int → Int → Int → Int → Int → (List S38) → Option spec_MakePuzzle.R) : Option spec_MakePuzzle.R :=
 (spec_pzOf.g N v0 v4 v5 v1).bind fun r1 =>
 bif (Nat.blt (([] : List S38).length + ([(⟨r1.1, r1.2.1, r1.2.2⟩ : S38)] : List S38).length) 5864062014805) then
  c4 v0 v1 (w64 (v2 - 1)) v3 v6 v7 (([] : List S38) ++ ([(⟨r1.1, r1.2.1, r1.2.2⟩ : S38)] : List S38))
 else
 none
theorem spec_MakePuzzle.o3.run (N : Nat) (Kn124 : St D0 → Option spec_MakePuzzle.R) (v0 : Int) (v1 : Int) (v2 : Int) (v3 : Int) (v4 : Int) (v5 : Int) (v6 : Int) (v7 : Int) : runC spec_MakePuzzle.C (spec_MakePuzzle.O N) N spec_MakePuzzle.c15911 15911 (mkSt [(0, .one (.int .i64 v0)), (1, .one (.int .i64 v1)), (2, .one (.int .i64 v2)), (8, .one (.ptr 8 0)), (10, .one (.ptr 10 0)), (11, .one (.int .i64 v3)), (12, .one (.int .i64 v4)), (13, .one (.int .i64 v5))] [(8, some (24, [.int .i64 v6, .nl])), (10, some (24, [.int .i64 v7, .nl]))] : St D0) (blockK 1 (onN (fun s => spec_MakePuzzle.C.tidy 994 s (fun s' => runC spec_MakePuzzle.C (spec_MakePuzzle.O N) N spec_MakePuzzle.c995 995 s' (onN (fun s => spec_MakePuzzle.C.tidy 124 s ((onN Kn124 (blockK 0 (onN (fun s => spec_MakePuzzle.C.tidy 62 s (fun s' => runC spec_MakePuzzle.C (spec_MakePuzzle.O N) N spec_MakePuzzle.c63 63 s' spec_MakePuzzle.K0)) spec_MakePuzzle.K0))) .normal)) (onN Kn124 (blockK 0 (onN (fun s => spec_MakePuzzle.C.tidy 62 s (fun s' => runC spec_MakePuzzle.C (spec_MakePuzzle.O N) N spec_MakePuzzle.c63 63 s' spec_MakePuzzle.K0)) spec_MakePuzzle.K0)))))) (onN (fun s => spec_MakePuzzle.C.tidy 124 s ((onN Kn124 (blockK 0 (onN (fun s => spec_MakePuzzle.C.tidy 62 s (fun s' => runC spec_MakePuzzle.C (spec_MakePuzzle.O N) N spec_MakePuzzle.c63 63 s' spec_MakePuzzle.K0)) spec_MakePuzzle.K0))) .normal)) (onN Kn124 (blockK 0 (onN (fun s => spec_MakePuzzle.C.tidy 62 s (fun s' => runC spec_MakePuzzle.C (spec_MakePuzzle.O N) N spec_MakePuzzle.c63 63 s' spec_MakePuzzle.K0)) spec_MakePuzzle.K0)))))) = spec_MakePuzzle.o3 N v0 v1 v2 v3 v4 v5 v6 v7 ((fun w0 w1 w2 w3 w4 w5 w6 => Kn124 (mkSt [(0, .one (.int .i64 w0)), (1, .one (.int .i64 w1)), (2, .one (.int .i64 w2)), (8, .one (.ptr 8 0)), (10, .one (.ptr 10 0)), (11, .one (.int .i64 w3))] [(8, some (24, [.int .i64 w4, .nl])), (10, some (24, [.int .i64 w5, .sl true 38 w6]))] : St D0))) := by kernel_rfl
noncomputable def spec_MakePuzzle.d3 (N : Nat) (v0 : Int) (v1 : Int) (v2 : Int) (v3 : Int) (v4 : Int) (v5 : Int) (v6 : Int) (v7 : Int) (c4 : Int → Int → Int → Int → Int → Int → (List S38) → Option spec_MakePuzzle.R) : Option spec_MakePuzzle.R := spec_MakePuzzle.o3 N v0 v1 v2 v3 v4 v5 v6 v7 c4
theorem spec_MakePuzzle.d3.run (N : Nat) (Kn124 : St D0 → Option spec_MakePuzzle.R) (v0 : Int) (v1 : Int) (v2 : Int) (v3 : Int) (v4 : Int) (v5 : Int) (v6 : Int) (v7 : Int) : runC spec_MakePuzzle.C (spec_MakePuzzle.O N) N spec_MakePuzzle.c15911 15911 (mkSt [(0, .one (.int .i64 v0)), (1, .one (.int .i64 v1)), (2, .one (.int .i64 v2)), (8, .one (.ptr 8 0)), (10, .one (.ptr 10 0)), (11, .one (.int .i64 v3)), (12, .one (.int .i64 v4)), (13, .one (.int .i64 v5))] [(8, some (24, [.int .i64 v6, .nl])), (10, some (24, [.int .i64 v7, .nl]))] : St D0) (spec_MakePuzzle.K15911 N Kn124) = spec_MakePuzzle.d3 N v0 v1 v2 v3 v4 v5 v6 v7 ((fun w0 w1 w2 w3 w4 w5 w6 => Kn124 (mkSt [(0, .one (.int .i64 w0)), (1, .one (.int .i64 w1)), (2, .one (.int .i64 w2)), (8, .one (.ptr 8 0)), (10, .one (.ptr 10 0)), (11, .one (.int .i64 w3))] [(8, some (24, [.int .i64 w4, .nl])), (10, some (24, [.int .i64 w5, .sl true 38 w6]))] : St D0))) := by
  exact (spec_MakePuzzle.o3.run N Kn124 v0 v1 v2 v3 v4 v5 v6 v7).trans rfl
noncomputable def spec_MakePuzzle.K248 (N : Nat) (Kn124 : St D0 → Option spec_MakePuzzle.R) : Ex → St D0 → Option spec_MakePuzzle.R := (onN (fun s => spec_MakePuzzle.C.tidy 124 s ((onN Kn124 (blockK 0 (onN (fun s => spec_MakePuzzle.C.tidy 62 s (fun s' => runC spec_MakePuzzle.C (spec_MakePuzzle.O N) N spec_MakePuzzle.c63 63 s' spec_MakePuzzle.K0)) spec_MakePuzzle.K0))) .normal)) (onN Kn124 (blockK 0 (onN (fun s => spec_MakePuzzle.C.tidy 62 s (fun s' => runC spec_MakePuzzle.C (spec_MakePuzzle.O N) N spec_MakePuzzle.c63 63 s' spec_MakePuzzle.K0)) spec_MakePuzzle.K0))))
noncomputable def spec_MakePuzzle.o2 (N : Nat) (v0 : Int) (v1 : Int) (v2 : Int) (v3 : Int) (v4 : Int) (v5 : Int) (c3 : Int → Int → Int → Int → Int → Int → Int → Int → Option spec_MakePuzzle.R) : Option spec_MakePuzzle.R :=
 bif (decide (v2 > 0)) then
  bif ((Int.tmod (Int.tmod (w64 ((w64 (163 * v3)) + 2917)) 10009) 6) == 1) then
   c3 v0 v1 v2 (Int.tmod (w64 ((w64 (163 * (Int.tmod (w64 ((w64 (163 * v3)) + 2917)) 10009))) + 2917)) 10009) (Int.tmod (Int.tmod (w64 ((w64 (163 * v3)) + 2917)) 10009) 6) (w64 ((Int.tmod (Int.tmod (w64 ((w64 (163 * (Int.tmod (w64 ((w64 (163 * v3)) + 2917)) 10009))) + 2917)) 10009) 59) + 2)) v4 v5
  else
  c3 v0 v1 v2 (Int.tmod (w64 ((w64 (163 * v3)) + 2917)) 10009) (Int.tmod (Int.tmod (w64 ((w64 (163 * v3)) + 2917)) 10009) 6) 2 v4 v5
 else
 some (v5, ([] : List S38), true)
theorem spec_MakePuzzle.o2.run (N : Nat) (Kn124 : St D0 → Option spec_MakePuzzle.R) (H15911 : Code) (v0 : Int) (v1 : Int) (v2 : Int) (v3 : Int) (v4 : Int) (v5 : Int) : runC spec_MakePuzzle.C (spec_MakePuzzle.O N) N (.seq spec_MakePuzzle.c496 (.seq (.block 1 (.seq spec_MakePuzzle.c3976 (.seq spec_MakePuzzle.c7954 (.seq spec_MakePuzzle.c15910 H15911)))) spec_MakePuzzle.c995)) 248 (mkSt [(0, .one (.int .i64 v0)), (1, .one (.int .i64 v1)), (2, .one (.int .i64 v2)), (8, .one (.ptr 8 0)), (10, .one (.ptr 10 0)), (11, .one (.int .i64 v3))] [(8, some (24, [.int .i64 v4, .nl])), (10, some (24, [.int .i64 v5, .nl]))] : St D0) (onN (fun s => spec_MakePuzzle.C.tidy 124 s ((onN Kn124 (blockK 0 (onN (fun s => spec_MakePuzzle.C.tidy 62 s (fun s' => runC spec_MakePuzzle.C (spec_MakePuzzle.O N) N spec_MakePuzzle.c63 63 s' spec_MakePuzzle.K0)) spec_MakePuzzle.K0))) .normal)) (onN Kn124 (blockK 0 (onN (fun s => spec_MakePuzzle.C.tidy 62 s (fun s' => runC spec_MakePuzzle.C (spec_MakePuzzle.O N) N spec_MakePuzzle.c63 63 s' spec_MakePuzzle.K0)) spec_MakePuzzle.K0)))) = spec_MakePuzzle.o2 N v0 v1 v2 v3 v4 v5 ((fun w0 w1 w2 w3 w4 w5 w6 w7 => runC spec_MakePuzzle.C (spec_MakePuzzle.O N) N H15911 15911 (mkSt [(0, .one (.int .i64 w0)), (1, .one (.int .i64 w1)), (2, .one (.int .i64 w2)), (8, .one (.ptr 8 0)), (10, .one (.ptr 10 0)), (11, .one (.int .i64 w3)), (12, .one (.int .i64 w4)), (13, .one (.int .i64 w5))] [(8, some (24, [.int .i64 w6, .nl])), (10, some (24, [.int .i64 w7, .nl]))] : St D0) (blockK 1 (onN (fun s => spec_MakePuzzle.C.tidy 994 s (fun s' => runC spec_MakePuzzle.C (spec_MakePuzzle.O N) N spec_MakePuzzle.c995 995 s' (onN (fun s => spec_MakePuzzle.C.tidy 124 s ((onN Kn124 (blockK 0 (onN (fun s => spec_MakePuzzle.C.tidy 62 s (fun s' => runC spec_MakePuzzle.C (spec_MakePuzzle.O N) N spec_MakePuzzle.c63 63 s' spec_MakePuzzle.K0)) spec_MakePuzzle.K0))) .normal)) (onN Kn124 (blockK 0 (onN (fun s => spec_MakePuzzle.C.tidy 62 s (fun s' => runC spec_MakePuzzle.C (spec_MakePuzzle.O N) N spec_MakePuzzle.c63 63 s' spec_MakePuzzle.K0)) spec_MakePuzzle.K0)))))) (onN (fun s => spec_MakePuzzle.C.tidy 124 s ((onN Kn124 (blockK 0 (onN (fun s => spec_MakePuzzle.C.tidy 62 s (fun s' => runC spec_MakePuzzle.C (spec_MakePuzzle.O N) N spec_MakePuzzle.c63 63 s' spec_MakePuzzle.K0)) spec_MakePuzzle.K0))) .normal)) (onN Kn124 (blockK 0 (onN (fun s => spec_MakePuzzle.C.tidy 62 s (fun s' => runC spec_MakePuzzle.C (spec_MakePuzzle.O N) N spec_MakePuzzle.c63 63 s' spec_MakePuzzle.K0)) spec_MakePuzzle.K0)))))))) := by kernel_rfl
noncomputable def spec_MakePuzzle.B7955 (N : Nat) (Kn124 : St D0 → Option spec_MakePuzzle.R) : St D0 → Option spec_MakePuzzle.R := fun s' => runC spec_MakePuzzle.C (spec_MakePuzzle.O N) N spec_MakePuzzle.c15911 15911 s' (spec_MakePuzzle.K15911 N Kn124)
noncomputable def spec_MakePuzzle.d2 (N : Nat) (v0 : Int) (v1 : Int) (v2 : Int) (v3 : Int) (v4 : Int) (v5 : Int) (c4 : Int → Int → Int → Int → Int → Int → (List S38) → Option spec_MakePuzzle.R) : Option spec_MakePuzzle.R := spec_MakePuzzle.o2 N v0 v1 v2 v3 v4 v5 ((fun w0 w1 w2 w3 w4 w5 w6 w7 => spec_MakePuzzle.d3 N w0 w1 w2 w3 w4 w5 w6 w7 c4))
theorem spec_MakePuzzle.c248_2 : spec_MakePuzzle.c248 = (.seq spec_MakePuzzle.c496 (.seq (.block 1 (.seq spec_MakePuzzle.c3976 (.seq spec_MakePuzzle.c7954 (.seq spec_MakePuzzle.c15910 spec_MakePuzzle.c15911)))) spec_MakePuzzle.c995)) := by kernel_rfl
theorem spec_MakePuzzle.d2.run (N : Nat) (Kn124 : St D0 → Option spec_MakePuzzle.R) (v0 : Int) (v1 : Int) (v2 : Int) (v3 : Int) (v4 : Int) (v5 : Int) : runC spec_MakePuzzle.C (spec_MakePuzzle.O N) N spec_MakePuzzle.c248 248 (mkSt [(0, .one (.int .i64 v0)), (1, .one (.int .i64 v1)), (2, .one (.int .i64 v2)), (8, .one (.ptr 8 0)), (10, .one (.ptr 10 0)), (11, .one (.int .i64 v3))] [(8, some (24, [.int .i64 v4, .nl])), (10, some (24, [.int .i64 v5, .nl]))] : St D0) (spec_MakePuzzle.K248 N Kn124) = spec_MakePuzzle.d2 N v0 v1 v2 v3 v4 v5 ((fun w0 w1 w2 w3 w4 w5 w6 => Kn124 (mkSt [(0, .one (.int .i64 w0)), (1, .one (.int .i64 w1)), (2, .one (.int .i64 w2)), (8, .one (.ptr 8 0)), (10, .one (.ptr 10 0)), (11, .one (.int .i64 w3))] [(8, some (24, [.int .i64 w4, .nl])), (10, some (24, [.int .i64 w5, .sl true 38 w6]))] : St D0))) := by
  rw [spec_MakePuzzle.c248_2]; unfold spec_MakePuzzle.d2; exact (spec_MakePuzzle.o2.run N Kn124 spec_MakePuzzle.c15911 v0 v1 v2 v3 v4 v5).trans (congr rfl (funext fun w0 => funext fun w1 => funext fun w2 => funext fun w3 => funext fun w4 => funext fun w5 => funext fun w6 => funext fun w7 => spec_MakePuzzle.d3.run N Kn124 w0 w1 w2 w3 w4 w5 w6 w7))
noncomputable def spec_MakePuzzle.o5 (N : Nat) (v0 : Int) (v1 : Int) (v2 : Int) (v3 : Int) (v4 : Int) (v5 : Int) (v6 : Int) (v7 : Int) (v8 : List S38) (c4 : Int → Int → Int → Int → Int → Int → (List S38) → Option spec_MakePuzzle.R) : Option spec_MakePuzzle.R :=
 (spec_pzOf.g N v0 v4 v5 v1).bind fun r1 =>
 bif (Nat.blt (v8.length + ([(⟨r1.1, r1.2.1, r1.2.2⟩ : S38)] : List S38).length) 5864062014805) then
  c4 v0 v1 (w64 (v2 - 1)) v3 v6 v7 (v8 ++ ([(⟨r1.1, r1.2.1, r1.2.2⟩ : S38)] : List S38))
 else
 none
theorem spec_MakePuzzle.o5.run (N : Nat) (Kn124 : St D0 → Option spec_MakePuzzle.R) (v0 : Int) (v1 : Int) (v2 : Int) (v3 : Int) (v4 : Int) (v5 : Int) (v6 : Int) (v7 : Int) (v8 : List S38) : runC spec_MakePuzzle.C (spec_MakePuzzle.O N) N spec_MakePuzzle.c15911 15911 (mkSt [(0, .one (.int .i64 v0)), (1, .one (.int .i64 v1)), (2, .one (.int .i64 v2)), (8, .one (.ptr 8 0)), (10, .one (.ptr 10 0)), (11, .one (.int .i64 v3)), (12, .one (.int .i64 v4)), (13, .one (.int .i64 v5))] [(8, some (24, [.int .i64 v6, .nl])), (10, some (24, [.int .i64 v7, .sl true 38 v8]))] : St D0) (blockK 1 (onN (fun s => spec_MakePuzzle.C.tidy 994 s (fun s' => runC spec_MakePuzzle.C (spec_MakePuzzle.O N) N spec_MakePuzzle.c995 995 s' (onN (fun s => spec_MakePuzzle.C.tidy 124 s ((onN Kn124 (blockK 0 (onN (fun s => spec_MakePuzzle.C.tidy 62 s (fun s' => runC spec_MakePuzzle.C (spec_MakePuzzle.O N) N spec_MakePuzzle.c63 63 s' spec_MakePuzzle.K0)) spec_MakePuzzle.K0))) .normal)) (onN Kn124 (blockK 0 (onN (fun s => spec_MakePuzzle.C.tidy 62 s (fun s' => runC spec_MakePuzzle.C (spec_MakePuzzle.O N) N spec_MakePuzzle.c63 63 s' spec_MakePuzzle.K0)) spec_MakePuzzle.K0)))))) (onN (fun s => spec_MakePuzzle.C.tidy 124 s ((onN Kn124 (blockK 0 (onN (fun s => spec_MakePuzzle.C.tidy 62 s (fun s' => runC spec_MakePuzzle.C (spec_MakePuzzle.O N) N spec_MakePuzzle.c63 63 s' spec_MakePuzzle.K0)) spec_MakePuzzle.K0))) .normal)) (onN Kn124 (blockK 0 (onN (fun s => spec_MakePuzzle.C.tidy 62 s (fun s' => runC spec_MakePuzzle.C (spec_MakePuzzle.O N) N spec_MakePuzzle.c63 63 s' spec_MakePuzzle.K0)) spec_MakePuzzle.K0)))))) = spec_MakePuzzle.o5 N v0 v1 v2 v3 v4 v5 v6 v7 v8 ((fun w0 w1 w2 w3 w4 w5 w6 => Kn124 (mkSt [(0, .one (.int .i64 w0)), (1, .one (.int .i64 w1)), (2, .one (.int .i64 w2)), (8, .one (.ptr 8 0)), (10, .one (.ptr 10 0)), (11, .one (.int .i64 w3))] [(8, some (24, [.int .i64 w4, .nl])), (10, some (24, [.int .i64 w5, .sl true 38 w6]))] : St D0))) := by kernel_rfl
noncomputable def spec_MakePuzzle.d5 (N : Nat) (v0 : Int) (v1 : Int) (v2 : Int) (v3 : Int) (v4 : Int) (v5 : Int) (v6 : Int) (v7 : Int) (v8 : List S38) (c4 : Int → Int → Int → Int → Int → Int → (List S38) → Option spec_MakePuzzle.R) : Option spec_MakePuzzle.R := spec_MakePuzzle.o5 N v0 v1 v2 v3 v4 v5 v6 v7 v8 c4
theorem spec_MakePuzzle.d5.run (N : Nat) (Kn124 : St D0 → Option spec_MakePuzzle.R) (v0 : Int) (v1 : Int) (v2 : Int) (v3 : Int) (v4 : Int) (v5 : Int) (v6 : Int) (v7 : Int) (v8 : List S38) : runC spec_MakePuzzle.C (spec_MakePuzzle.O N) N spec_MakePuzzle.c15911 15911 (mkSt [(0, .one (.int .i64 v0)), (1, .one (.int .i64 v1)), (2, .one (.int .i64 v2)), (8, .one (.ptr 8 0)), (10, .one (.ptr 10 0)), (11, .one (.int .i64 v3)), (12, .one (.int .i64 v4)), (13, .one (.int .i64 v5))] [(8, some (24, [.int .i64 v6, .nl])), (10, some (24, [.int .i64 v7, .sl true 38 v8]))] : St D0) (spec_MakePuzzle.K15911 N Kn124) = spec_MakePuzzle.d5 N v0 v1 v2 v3 v4 v5 v6 v7 v8 ((fun w0 w1 w2 w3 w4 w5 w6 => Kn124 (mkSt [(0, .one (.int .i64 w0)), (1, .one (.int .i64 w1)), (2, .one (.int .i64 w2)), (8, .one (.ptr 8 0)), (10, .one (.ptr 10 0)), (11, .one (.int .i64 w3))] [(8, some (24, [.int .i64 w4, .nl])), (10, some (24, [.int .i64 w5, .sl true 38 w6]))] : St D0))) := by
  exact (spec_MakePuzzle.o5.run N Kn124 v0 v1 v2 v3 v4 v5 v6 v7 v8).trans rfl
noncomputable def spec_MakePuzzle.o4 (N : Nat) (v0 : Int) (v1 : Int) (v2 : Int) (v3 : Int) (v4 : Int) (v5 : Int) (v6 : List S38) (c5 : Int → Int → Int → Int → Int → Int → Int → Int → (List S38) → Option spec_MakePuzzle.R) : Option spec_MakePuzzle.R :=
 bif (decide (v2 > 0)) then
  bif ((Int.tmod (Int.tmod (w64 ((w64 (163 * v3)) + 2917)) 10009) 6) == 1) then
   c5 v0 v1 v2 (Int.tmod (w64 ((w64 (163 * (Int.tmod (w64 ((w64 (163 * v3)) + 2917)) 10009))) + 2917)) 10009) (Int.tmod (Int.tmod (w64 ((w64 (163 * v3)) + 2917)) 10009) 6) (w64 ((Int.tmod (Int.tmod (w64 ((w64 (163 * (Int.tmod (w64 ((w64 (163 * v3)) + 2917)) 10009))) + 2917)) 10009) 59) + 2)) v4 v5 v6
  else
  c5 v0 v1 v2 (Int.tmod (w64 ((w64 (163 * v3)) + 2917)) 10009) (Int.tmod (Int.tmod (w64 ((w64 (163 * v3)) + 2917)) 10009) 6) 2 v4 v5 v6
 else
 some (v5, v6, true)
theorem spec_MakePuzzle.o4.run (N : Nat) (Kn124 : St D0 → Option spec_MakePuzzle.R) (H15911 : Code) (v0 : Int) (v1 : Int) (v2 : Int) (v3 : Int) (v4 : Int) (v5 : Int) (v6 : List S38) : runC spec_MakePuzzle.C (spec_MakePuzzle.O N) N (.seq spec_MakePuzzle.c496 (.seq (.block 1 (.seq spec_MakePuzzle.c3976 (.seq spec_MakePuzzle.c7954 (.seq spec_MakePuzzle.c15910 H15911)))) spec_MakePuzzle.c995)) 248 (mkSt [(0, .one (.int .i64 v0)), (1, .one (.int .i64 v1)), (2, .one (.int .i64 v2)), (8, .one (.ptr 8 0)), (10, .one (.ptr 10 0)), (11, .one (.int .i64 v3))] [(8, some (24, [.int .i64 v4, .nl])), (10, some (24, [.int .i64 v5, .sl true 38 v6]))] : St D0) (onN (fun s => spec_MakePuzzle.C.tidy 124 s ((onN Kn124 (blockK 0 (onN (fun s => spec_MakePuzzle.C.tidy 62 s (fun s' => runC spec_MakePuzzle.C (spec_MakePuzzle.O N) N spec_MakePuzzle.c63 63 s' spec_MakePuzzle.K0)) spec_MakePuzzle.K0))) .normal)) (onN Kn124 (blockK 0 (onN (fun s => spec_MakePuzzle.C.tidy 62 s (fun s' => runC spec_MakePuzzle.C (spec_MakePuzzle.O N) N spec_MakePuzzle.c63 63 s' spec_MakePuzzle.K0)) spec_MakePuzzle.K0)))) = spec_MakePuzzle.o4 N v0 v1 v2 v3 v4 v5 v6 ((fun w0 w1 w2 w3 w4 w5 w6 w7 w8 => runC spec_MakePuzzle.C (spec_MakePuzzle.O N) N H15911 15911 (mkSt [(0, .one (.int .i64 w0)), (1, .one (.int .i64 w1)), (2, .one (.int .i64 w2)), (8, .one (.ptr 8 0)), (10, .one (.ptr 10 0)), (11, .one (.int .i64 w3)), (12, .one (.int .i64 w4)), (13, .one (.int .i64 w5))] [(8, some (24, [.int .i64 w6, .nl])), (10, some (24, [.int .i64 w7, .sl true 38 w8]))] : St D0) (blockK 1 (onN (fun s => spec_MakePuzzle.C.tidy 994 s (fun s' => runC spec_MakePuzzle.C (spec_MakePuzzle.O N) N spec_MakePuzzle.c995 995 s' (onN (fun s => spec_MakePuzzle.C.tidy 124 s ((onN Kn124 (blockK 0 (onN (fun s => spec_MakePuzzle.C.tidy 62 s (fun s' => runC spec_MakePuzzle.C (spec_MakePuzzle.O N) N spec_MakePuzzle.c63 63 s' spec_MakePuzzle.K0)) spec_MakePuzzle.K0))) .normal)) (onN Kn124 (blockK 0 (onN (fun s => spec_MakePuzzle.C.tidy 62 s (fun s' => runC spec_MakePuzzle.C (spec_MakePuzzle.O N) N spec_MakePuzzle.c63 63 s' spec_MakePuzzle.K0)) spec_MakePuzzle.K0)))))) (onN (fun s => spec_MakePuzzle.C.tidy 124 s ((onN Kn124 (blockK 0 (onN (fun s => spec_MakePuzzle.C.tidy 62 s (fun s' => runC spec_MakePuzzle.C (spec_MakePuzzle.O N) N spec_MakePuzzle.c63 63 s' spec_MakePuzzle.K0)) spec_MakePuzzle.K0))) .normal)) (onN Kn124 (blockK 0 (onN (fun s => spec_MakePuzzle.C.tidy 62 s (fun s' => runC spec_MakePuzzle.C (spec_MakePuzzle.O N) N spec_MakePuzzle.c63 63 s' spec_MakePuzzle.K0)) spec_MakePuzzle.K0)))))))) := by kernel_rfl
noncomputable def spec_MakePuzzle.d4 (N : Nat) (v0 : Int) (v1 : Int) (v2 : Int) (v3 : Int) (v4 : Int) (v5 : Int) (v6 : List S38) (c4 : Int → Int → Int → Int → Int → Int → (List S38) → Option spec_MakePuzzle.R) : Option spec_MakePuzzle.R := spec_MakePuzzle.o4 N v0 v1 v2 v3 v4 v5 v6 ((fun w0 w1 w2 w3 w4 w5 w6 w7 w8 => spec_MakePuzzle.d5 N w0 w1 w2 w3 w4 w5 w6 w7 w8 c4))
theorem spec_MakePuzzle.c248_4 : spec_MakePuzzle.c248 = (.seq spec_MakePuzzle.c496 (.seq (.block 1 (.seq spec_MakePuzzle.c3976 (.seq spec_MakePuzzle.c7954 (.seq spec_MakePuzzle.c15910 spec_MakePuzzle.c15911)))) spec_MakePuzzle.c995)) := by kernel_rfl
theorem spec_MakePuzzle.d4.run (N : Nat) (Kn124 : St D0 → Option spec_MakePuzzle.R) (v0 : Int) (v1 : Int) (v2 : Int) (v3 : Int) (v4 : Int) (v5 : Int) (v6 : List S38) : runC spec_MakePuzzle.C (spec_MakePuzzle.O N) N spec_MakePuzzle.c248 248 (mkSt [(0, .one (.int .i64 v0)), (1, .one (.int .i64 v1)), (2, .one (.int .i64 v2)), (8, .one (.ptr 8 0)), (10, .one (.ptr 10 0)), (11, .one (.int .i64 v3))] [(8, some (24, [.int .i64 v4, .nl])), (10, some (24, [.int .i64 v5, .sl true 38 v6]))] : St D0) (spec_MakePuzzle.K248 N Kn124) = spec_MakePuzzle.d4 N v0 v1 v2 v3 v4 v5 v6 ((fun w0 w1 w2 w3 w4 w5 w6 => Kn124 (mkSt [(0, .one (.int .i64 w0)), (1, .one (.int .i64 w1)), (2, .one (.int .i64 w2)), (8, .one (.ptr 8 0)), (10, .one (.ptr 10 0)), (11, .one (.int .i64 w3))] [(8, some (24, [.int .i64 w4, .nl])), (10, some (24, [.int .i64 w5, .sl true 38 w6]))] : St D0))) := by
  rw [spec_MakePuzzle.c248_4]; unfold spec_MakePuzzle.d4; exact (spec_MakePuzzle.o4.run N Kn124 spec_MakePuzzle.c15911 v0 v1 v2 v3 v4 v5 v6).trans (congr rfl (funext fun w0 => funext fun w1 => funext fun w2 => funext fun w3 => funext fun w4 => funext fun w5 => funext fun w6 => funext fun w7 => funext fun w8 => spec_MakePuzzle.d5.run N Kn124 w0 w1 w2 w3 w4 w5 w6 w7 w8))
noncomputable def spec_MakePuzzle.K124 (N : Nat) : Ex → St D0 → Option spec_MakePuzzle.R := (blockK 0 (onN (fun s => spec_MakePuzzle.C.tidy 62 s (fun s' => runC spec_MakePuzzle.C (spec_MakePuzzle.O N) N spec_MakePuzzle.c63 63 s' spec_MakePuzzle.K0)) spec_MakePuzzle.K0))
mutual
noncomputable def spec_MakePuzzle.l2 (N : Nat) : Nat → Int → Int → Int → Int → Int → Int → Option spec_MakePuzzle.R
  | 0, _, _, _, _, _, _ => none
  | n + 1, v0, v1, v2, v3, v4, v5 => spec_MakePuzzle.d2 N v0 v1 v2 v3 v4 v5 ((fun w0 w1 w2 w3 w4 w5 w6 => spec_MakePuzzle.l4 N n w0 w1 w2 w3 w4 w5 w6))
noncomputable def spec_MakePuzzle.l4 (N : Nat) : Nat → Int → Int → Int → Int → Int → Int → (List S38) → Option spec_MakePuzzle.R
  | 0, _, _, _, _, _, _, _ => none
  | n + 1, v0, v1, v2, v3, v4, v5, v6 => spec_MakePuzzle.d4 N v0 v1 v2 v3 v4 v5 v6 ((fun w0 w1 w2 w3 w4 w5 w6 => spec_MakePuzzle.l4 N n w0 w1 w2 w3 w4 w5 w6))
end
theorem spec_MakePuzzle.loop124 (N : Nat) : ∀ n, (∀ (v0 : Int) (v1 : Int) (v2 : Int) (v3 : Int) (v4 : Int) (v5 : Int), iter (loopF spec_MakePuzzle.C (spec_MakePuzzle.O N) N spec_MakePuzzle.c248 124) n (mkSt [(0, .one (.int .i64 v0)), (1, .one (.int .i64 v1)), (2, .one (.int .i64 v2)), (8, .one (.ptr 8 0)), (10, .one (.ptr 10 0)), (11, .one (.int .i64 v3))] [(8, some (24, [.int .i64 v4, .nl])), (10, some (24, [.int .i64 v5, .nl]))] : St D0) (spec_MakePuzzle.K124 N) = spec_MakePuzzle.l2 N n v0 v1 v2 v3 v4 v5) ∧ (∀ (v0 : Int) (v1 : Int) (v2 : Int) (v3 : Int) (v4 : Int) (v5 : Int) (v6 : List S38), iter (loopF spec_MakePuzzle.C (spec_MakePuzzle.O N) N spec_MakePuzzle.c248 124) n (mkSt [(0, .one (.int .i64 v0)), (1, .one (.int .i64 v1)), (2, .one (.int .i64 v2)), (8, .one (.ptr 8 0)), (10, .one (.ptr 10 0)), (11, .one (.int .i64 v3))] [(8, some (24, [.int .i64 v4, .nl])), (10, some (24, [.int .i64 v5, .sl true 38 v6]))] : St D0) (spec_MakePuzzle.K124 N) = spec_MakePuzzle.l4 N n v0 v1 v2 v3 v4 v5 v6)
  | 0 => ⟨(fun v0 v1 v2 v3 v4 v5 => rfl), (fun v0 v1 v2 v3 v4 v5 v6 => rfl)⟩
  | n + 1 => ⟨(fun v0 v1 v2 v3 v4 v5 => (spec_MakePuzzle.d2.run N (fun s => iter (loopF spec_MakePuzzle.C (spec_MakePuzzle.O N) N spec_MakePuzzle.c248 124) n s (spec_MakePuzzle.K124 N)) v0 v1 v2 v3 v4 v5).trans (show _ = spec_MakePuzzle.d2 N v0 v1 v2 v3 v4 v5 ((fun w0 w1 w2 w3 w4 w5 w6 => spec_MakePuzzle.l4 N n w0 w1 w2 w3 w4 w5 w6)) from (congr rfl (funext fun w0 => funext fun w1 => funext fun w2 => funext fun w3 => funext fun w4 => funext fun w5 => funext fun w6 => (spec_MakePuzzle.loop124 N n).2 w0 w1 w2 w3 w4 w5 w6)))), (fun v0 v1 v2 v3 v4 v5 v6 => (spec_MakePuzzle.d4.run N (fun s => iter (loopF spec_MakePuzzle.C (spec_MakePuzzle.O N) N spec_MakePuzzle.c248 124) n s (spec_MakePuzzle.K124 N)) v0 v1 v2 v3 v4 v5 v6).trans (show _ = spec_MakePuzzle.d4 N v0 v1 v2 v3 v4 v5 v6 ((fun w0 w1 w2 w3 w4 w5 w6 => spec_MakePuzzle.l4 N n w0 w1 w2 w3 w4 w5 w6)) from (congr rfl (funext fun w0 => funext fun w1 => funext fun w2 => funext fun w3 => funext fun w4 => funext fun w5 => funext fun w6 => (spec_MakePuzzle.loop124 N n).2 w0 w1 w2 w3 w4 w5 w6))))⟩
noncomputable def spec_MakePuzzle.K13 (N : Nat) : Ex → St D0 → Option spec_MakePuzzle.R := (onN (fun s => spec_MakePuzzle.C.tidy 6 s (fun s' => runC spec_MakePuzzle.C (spec_MakePuzzle.O N) N spec_MakePuzzle.c7 7 s' spec_MakePuzzle.K0)) spec_MakePuzzle.K0)
noncomputable def spec_MakePuzzle.o1 (N : Nat) (v0 : Int) (v1 : Int) (v2 : Int) (v3 : Int) (v4 : Bool) (v5 : Int) (c2 : Int → Int → Int → Int → Int → Int → Option spec_MakePuzzle.R) : Option spec_MakePuzzle.R :=
 bif v4 then
  some (0, ([] : List S38), false)
 else
 c2 v0 v1 v2 v3 v5 v0
theorem spec_MakePuzzle.o1.run (N : Nat) (H248 : Code) (v0 : Int) (v1 : Int) (v2 : Int) (v3 : Int) (v4 : Bool) (v5 : Int) : runC spec_MakePuzzle.C (spec_MakePuzzle.O N) N spec_MakePuzzle.c13 13 (mkSt [(0, .one (.int .i64 v0)), (1, .one (.int .i64 v1)), (2, .one (.int .i64 v2)), (3, .one (.int .i64 v3)), (8, .one (.ptr 8 0)), (34, .one (.bool v4))] [(8, some (24, [.int .i64 v5, .nl]))] : St D0) (onN (fun s => spec_MakePuzzle.C.tidy 6 s (fun s' => runC spec_MakePuzzle.C (spec_MakePuzzle.O N) N (.seq spec_MakePuzzle.c14 (.seq spec_MakePuzzle.c30 (.seq (.block 0 (.loop H248)) spec_MakePuzzle.c63))) 7 s' spec_MakePuzzle.K0)) spec_MakePuzzle.K0) = spec_MakePuzzle.o1 N v0 v1 v2 v3 v4 v5 ((fun w0 w1 w2 w3 w4 w5 => iter (loopF spec_MakePuzzle.C (spec_MakePuzzle.O N) N H248 124) N (mkSt [(0, .one (.int .i64 w0)), (1, .one (.int .i64 w1)), (2, .one (.int .i64 w2)), (8, .one (.ptr 8 0)), (10, .one (.ptr 10 0)), (11, .one (.int .i64 w3))] [(8, some (24, [.int .i64 w4, .nl])), (10, some (24, [.int .i64 w5, .nl]))] : St D0) (blockK 0 (onN (fun s => spec_MakePuzzle.C.tidy 62 s (fun s' => runC spec_MakePuzzle.C (spec_MakePuzzle.O N) N spec_MakePuzzle.c63 63 s' spec_MakePuzzle.K0)) spec_MakePuzzle.K0)))) := by kernel_rfl
noncomputable def spec_MakePuzzle.d1 (N : Nat) (v0 : Int) (v1 : Int) (v2 : Int) (v3 : Int) (v4 : Bool) (v5 : Int) : Option spec_MakePuzzle.R := spec_MakePuzzle.o1 N v0 v1 v2 v3 v4 v5 ((fun w0 w1 w2 w3 w4 w5 => spec_MakePuzzle.l2 N N w0 w1 w2 w3 w4 w5))
theorem spec_MakePuzzle.d1.run (N : Nat) (v0 : Int) (v1 : Int) (v2 : Int) (v3 : Int) (v4 : Bool) (v5 : Int) : runC spec_MakePuzzle.C (spec_MakePuzzle.O N) N spec_MakePuzzle.c13 13 (mkSt [(0, .one (.int .i64 v0)), (1, .one (.int .i64 v1)), (2, .one (.int .i64 v2)), (3, .one (.int .i64 v3)), (8, .one (.ptr 8 0)), (34, .one (.bool v4))] [(8, some (24, [.int .i64 v5, .nl]))] : St D0) (spec_MakePuzzle.K13 N) = spec_MakePuzzle.d1 N v0 v1 v2 v3 v4 v5 := by
  unfold spec_MakePuzzle.d1; exact (spec_MakePuzzle.o1.run N spec_MakePuzzle.c248 v0 v1 v2 v3 v4 v5).trans (congr rfl (funext fun w0 => funext fun w1 => funext fun w2 => funext fun w3 => funext fun w4 => funext fun w5 => (spec_MakePuzzle.loop124 N N).1 w0 w1 w2 w3 w4 w5))
noncomputable def spec_MakePuzzle.o0 (N : Nat) (a0 : Int) (a1 : Int) (a2 : Int) (a3 : Int) (c1 : Int → Int → Int → Int → Bool → Int → Option spec_MakePuzzle.R) : Option spec_MakePuzzle.R :=
 (spec_diHours.g N a0).bind fun r1 =>
 bif (!r1) then
  c1 a0 a1 a2 a3 true 0
 else
 (spec_l1In.g N a1 0 (w64 ((w64 (60 * a0)) - 1))).bind fun r2 =>
 bif (!r2) then
  c1 a0 a1 a2 a3 true 0
 else
 (spec_l1In.g N a2 0 6).bind fun r3 =>
 bif (!r3) then
  c1 a0 a1 a2 a3 true 0
 else
 (spec_l1In.g N a3 0 9999).bind fun r4 =>
 c1 a0 a1 a2 a3 (!r4) 0
theorem spec_MakePuzzle.o0.run (N : Nat) (H13 : Code) (a0 : Int) (a1 : Int) (a2 : Int) (a3 : Int) : runC spec_MakePuzzle.C (spec_MakePuzzle.O N) N (.seq spec_MakePuzzle.c2 (.seq (.seq spec_MakePuzzle.c12 H13) spec_MakePuzzle.c7)) 1 (st0 [.one (.int .i64 a0), .one (.int .i64 a1), .one (.int .i64 a2), .one (.int .i64 a3)] [] : St D0) spec_MakePuzzle.K0 = spec_MakePuzzle.o0 N a0 a1 a2 a3 ((fun w0 w1 w2 w3 w4 w5 => runC spec_MakePuzzle.C (spec_MakePuzzle.O N) N H13 13 (mkSt [(0, .one (.int .i64 w0)), (1, .one (.int .i64 w1)), (2, .one (.int .i64 w2)), (3, .one (.int .i64 w3)), (8, .one (.ptr 8 0)), (34, .one (.bool w4))] [(8, some (24, [.int .i64 w5, .nl]))] : St D0) (onN (fun s => spec_MakePuzzle.C.tidy 6 s (fun s' => runC spec_MakePuzzle.C (spec_MakePuzzle.O N) N spec_MakePuzzle.c7 7 s' spec_MakePuzzle.K0)) spec_MakePuzzle.K0))) := by kernel_rfl
noncomputable def spec_MakePuzzle.B6 (N : Nat) : St D0 → Option spec_MakePuzzle.R := fun s' => runC spec_MakePuzzle.C (spec_MakePuzzle.O N) N spec_MakePuzzle.c13 13 s' (spec_MakePuzzle.K13 N)
noncomputable def spec_MakePuzzle.g (N : Nat) (a0 : Int) (a1 : Int) (a2 : Int) (a3 : Int) : Option spec_MakePuzzle.R := spec_MakePuzzle.o0 N a0 a1 a2 a3 ((fun w0 w1 w2 w3 w4 w5 => spec_MakePuzzle.d1 N w0 w1 w2 w3 w4 w5))
theorem spec_MakePuzzle.c1_0 : spec_MakePuzzle.c1 = (.seq spec_MakePuzzle.c2 (.seq (.seq spec_MakePuzzle.c12 spec_MakePuzzle.c13) spec_MakePuzzle.c7)) := by kernel_rfl
theorem spec_MakePuzzle.g.run (N : Nat) (a0 : Int) (a1 : Int) (a2 : Int) (a3 : Int) : runC spec_MakePuzzle.C (spec_MakePuzzle.O N) N spec_MakePuzzle.c1 1 (st0 [.one (.int .i64 a0), .one (.int .i64 a1), .one (.int .i64 a2), .one (.int .i64 a3)] [] : St D0) spec_MakePuzzle.K0 = spec_MakePuzzle.g N a0 a1 a2 a3 := by
  rw [spec_MakePuzzle.c1_0]; unfold spec_MakePuzzle.g; exact (spec_MakePuzzle.o0.run N spec_MakePuzzle.c13 a0 a1 a2 a3).trans (congr rfl (funext fun w0 => funext fun w1 => funext fun w2 => funext fun w3 => funext fun w4 => funext fun w5 => spec_MakePuzzle.d1.run N w0 w1 w2 w3 w4 w5))
theorem spec_MakePuzzle.good (N : Nat) (a0 : Int) (a1 : Int) (a2 : Int) (a3 : Int) (r : spec_MakePuzzle.R) (h : spec_MakePuzzle.g N a0 a1 a2 a3 = some r) : Go.PM.Good Go.Proofs.Try.prog T0 7 [.one (.int .i64 a0), .one (.int .i64 a1), .one (.int .i64 a2), .one (.int .i64 a3)] [] (spec_MakePuzzle.sig.ret r) (spec_MakePuzzle.sig.bs r) :=
  good_fn tabOk0 mixed0 spec_MakePuzzle.sig (spec_MakePuzzle.E N) Go.Proofs.Try.func7 (by kernel_rfl) (by kernel_rfl) 1127016598355727 295724365931656249344 0 [(12, [0, 1, 2, 3, 8, 34], [8]), (124, [0, 1, 2, 8, 10, 11], [8, 10]), (15910, [0, 1, 2, 8, 10, 11, 12, 13], [8, 10])] [(true, [.any, .own 38]), (false, [.any])] (by kernel_rfl) rfl ((spec_MakePuzzle.g.run N a0 a1 a2 a3).trans h)
noncomputable def spec_MakePuzzle.ent (N : Nat) : Ent Go.Proofs.Try.prog T0 := mkEnt 7 [(false, [.any]), (false, [.any]), (false, [.any]), (false, [.any])] spec_MakePuzzle.sig (fun t => spec_MakePuzzle.g N t.1 t.2.1 t.2.2.1 t.2.2.2) (fun t r h => spec_MakePuzzle.good N t.1 t.2.1 t.2.2.1 t.2.2.2 r h)
end Go.Proofs.Ytpeleommbipeaaa.M

namespace Go.Proofs.Ytpeleommbipeaaa.M
open Go Go.PM Go.Proofs.Ytpeleommbipeaaa.P
set_option linter.unusedVariables false
set_option maxRecDepth 100000
/-! ### impl_MakePuzzle_1 -/
abbrev impl_MakePuzzle_1.R : Type := Int × Int
abbrev impl_MakePuzzle_1.sig : Sig := ⟨[(false, 1), (false, 1)], [(3, 1)], [.int .i64, .ptr 0 0, .int .i64], [(false, 1)], [(3, 1)], [.int .i64, .int .i64]⟩
noncomputable def impl_MakePuzzle_1.C : Cfg D0 := ⟨Go.Proofs.Try.prog, T0, 11, 0, 11, 1, []⟩
noncomputable def impl_MakePuzzle_1.E (N : Nat) : List (Ent Go.Proofs.Try.prog T0) := []
noncomputable def impl_MakePuzzle_1.O (N : Nat) : Orc D0 impl_MakePuzzle_1.R := orcOf (impl_MakePuzzle_1.E N)
noncomputable def impl_MakePuzzle_1.K0 : Ex → St D0 → Option impl_MakePuzzle_1.R := exitK impl_MakePuzzle_1.C Go.Proofs.Try.f43.results.toList [(false, [.any])] (decOut impl_MakePuzzle_1.sig)
noncomputable def impl_MakePuzzle_1.c1 : Code := codeAt (Go.Proofs.Try.f43.body.getD .skip) []
noncomputable def impl_MakePuzzle_1.o0 (N : Nat) (a0 : Int) (b0_0 : Int) : Option impl_MakePuzzle_1.R :=
 bif (a0 == 0) then
  none
 else
 some ((Int.tmod (Int.tmod (w64 ((w64 (b0_0 * 163)) + 2917)) 10009) a0), (Int.tmod (w64 ((w64 (b0_0 * 163)) + 2917)) 10009))
theorem impl_MakePuzzle_1.o0.run (N : Nat) (a0 : Int) (b0_0 : Int) : runC impl_MakePuzzle_1.C (impl_MakePuzzle_1.O N) N impl_MakePuzzle_1.c1 1 (st0 [.one (.int .i64 a0), .one (.ptr 0 0)] [(3, [.int .i64 b0_0])] : St D0) impl_MakePuzzle_1.K0 = impl_MakePuzzle_1.o0 N a0 b0_0 := by kernel_rfl
noncomputable def impl_MakePuzzle_1.g (N : Nat) (a0 : Int) (b0_0 : Int) : Option impl_MakePuzzle_1.R := impl_MakePuzzle_1.o0 N a0 b0_0
theorem impl_MakePuzzle_1.g.run (N : Nat) (a0 : Int) (b0_0 : Int) : runC impl_MakePuzzle_1.C (impl_MakePuzzle_1.O N) N impl_MakePuzzle_1.c1 1 (st0 [.one (.int .i64 a0), .one (.ptr 0 0)] [(3, [.int .i64 b0_0])] : St D0) impl_MakePuzzle_1.K0 = impl_MakePuzzle_1.g N a0 b0_0 := by
  exact (impl_MakePuzzle_1.o0.run N a0 b0_0).trans rfl
theorem impl_MakePuzzle_1.good (N : Nat) (a0 : Int) (b0_0 : Int) (r : impl_MakePuzzle_1.R) (h : impl_MakePuzzle_1.g N a0 b0_0 = some r) : Go.PM.Good Go.Proofs.Try.prog T0 43 [.one (.int .i64 a0), .one (.ptr 0 0)] [(3, [.int .i64 b0_0])] (impl_MakePuzzle_1.sig.ret r) (impl_MakePuzzle_1.sig.bs r) :=
  good_fn tabOk0 mixed0 impl_MakePuzzle_1.sig (impl_MakePuzzle_1.E N) Go.Proofs.Try.func43 (by kernel_rfl) (by kernel_rfl) 11 0 1 [] [(false, [.any])] (by kernel_rfl) rfl ((impl_MakePuzzle_1.g.run N a0 b0_0).trans h)
noncomputable def impl_MakePuzzle_1.ent (N : Nat) : Ent Go.Proofs.Try.prog T0 := mkEnt 43 [(false, [.any]), (false, [.any])] impl_MakePuzzle_1.sig (fun t => impl_MakePuzzle_1.g N t.1 t.2.2) (fun t r h => impl_MakePuzzle_1.good N t.1 t.2.2 r h)
end Go.Proofs.Ytpeleommbipeaaa.M

namespace Go.Proofs.Ytpeleommbipeaaa.M
open Go Go.PM Go.Proofs.Ytpeleommbipeaaa.P
set_option linter.unusedVariables false
set_option maxRecDepth 100000
/-! ### impl_MakePuzzle -/
abbrev impl_MakePuzzle.R : Type := Int × List S38 × Bool
abbrev impl_MakePuzzle.sig : Sig := ⟨[(false, 1), (false, 1), (false, 1), (false, 1)], [], [.int .i64, .int .i64, .int .i64, .int .i64], [(true, 2), (false, 1)], [], [.int .i64, .sl true 38, .bool]⟩
noncomputable def impl_MakePuzzle.C : Cfg D0 := ⟨Go.Proofs.Try.prog, T0, 305076912015, 9015995347763200, 54, 0, [(12, [0, 1, 2, 7, 8, 27], [7, 8]), (250, [0, 1, 8, 10, 11, 32, 33], [7, 8, 11]), (32050, [0, 1, 8, 10, 11, 12, 13, 32, 33], [7, 8, 11])]⟩
noncomputable def impl_MakePuzzle.E (N : Nat) : List (Ent Go.Proofs.Try.prog T0) := [impl_isMinute.ent N, impl_within.ent N, impl_MakePuzzle_1.ent N, impl_told.ent N]
noncomputable def impl_MakePuzzle.O (N : Nat) : Orc D0 impl_MakePuzzle.R := orcOf (impl_MakePuzzle.E N)
noncomputable def impl_MakePuzzle.K0 : Ex → St D0 → Option impl_MakePuzzle.R := exitK impl_MakePuzzle.C Go.Proofs.Try.f8.results.toList [(true, [.any, .own 38]), (false, [.any])] (decOut impl_MakePuzzle.sig)
noncomputable def impl_MakePuzzle.c1 : Code := codeAt (Go.Proofs.Try.f8.body.getD .skip) []
noncomputable def impl_MakePuzzle.c2 : Code := codeAt (Go.Proofs.Try.f8.body.getD .skip) [false]
noncomputable def impl_MakePuzzle.c7 : Code := codeAt (Go.Proofs.Try.f8.body.getD .skip) [true, true]
noncomputable def impl_MakePuzzle.c12 : Code := codeAt (Go.Proofs.Try.f8.body.getD .skip) [true, false, false]
noncomputable def impl_MakePuzzle.c13 : Code := codeAt (Go.Proofs.Try.f8.body.getD .skip) [true, false, true]
noncomputable def impl_MakePuzzle.c14 : Code := codeAt (Go.Proofs.Try.f8.body.getD .skip) [true, true, false]
noncomputable def impl_MakePuzzle.c30 : Code := codeAt (Go.Proofs.Try.f8.body.getD .skip) [true, true, true, false]
noncomputable def impl_MakePuzzle.c63 : Code := codeAt (Go.Proofs.Try.f8.body.getD .skip) [true, true, true, true, true]
noncomputable def impl_MakePuzzle.c124 : Code := codeAt (Go.Proofs.Try.f8.body.getD .skip) [true, true, true, true, false, false]
noncomputable def impl_MakePuzzle.c500 : Code := codeAt (Go.Proofs.Try.f8.body.getD .skip) [true, true, true, true, false, true, false, false]
noncomputable def impl_MakePuzzle.c1000 : Code := codeAt (Go.Proofs.Try.f8.body.getD .skip) [true, true, true, true, false, true, false, false, false]
noncomputable def impl_MakePuzzle.c2002 : Code := codeAt (Go.Proofs.Try.f8.body.getD .skip) [true, true, true, true, false, true, false, false, true, false]
noncomputable def impl_MakePuzzle.c4007 : Code := codeAt (Go.Proofs.Try.f8.body.getD .skip) [true, true, true, true, false, true, false, false, true, true, true]
noncomputable def impl_MakePuzzle.c16024 : Code := codeAt (Go.Proofs.Try.f8.body.getD .skip) [true, true, true, true, false, true, false, false, true, true, false, false, false]
noncomputable def impl_MakePuzzle.c32050 : Code := codeAt (Go.Proofs.Try.f8.body.getD .skip) [true, true, true, true, false, true, false, false, true, true, false, false, true, false]
noncomputable def impl_MakePuzzle.c32051 : Code := codeAt (Go.Proofs.Try.f8.body.getD .skip) [true, true, true, true, false, true, false, false, true, true, false, false, true, true]
noncomputable def impl_MakePuzzle.K32051 (N : Nat) (Kn250 : St D0 → Option impl_MakePuzzle.R) : Ex → St D0 → Option impl_MakePuzzle.R := (blockK 1 (onN (fun s => impl_MakePuzzle.C.tidy 4006 s (fun s' => runC impl_MakePuzzle.C (impl_MakePuzzle.O N) N impl_MakePuzzle.c4007 4007 s' (onN (fun s => impl_MakePuzzle.C.tidy 250 s ((onN Kn250 (blockK 0 (onN (fun s => impl_MakePuzzle.C.tidy 62 s (fun s' => runC impl_MakePuzzle.C (impl_MakePuzzle.O N) N impl_MakePuzzle.c63 63 s' impl_MakePuzzle.K0)) impl_MakePuzzle.K0))) .normal)) (onN Kn250 (blockK 0 (onN (fun s => impl_MakePuzzle.C.tidy 62 s (fun s' => runC impl_MakePuzzle.C (impl_MakePuzzle.O N) N impl_MakePuzzle.c63 63 s' impl_MakePuzzle.K0)) impl_MakePuzzle.K0)))))) (onN (fun s => impl_MakePuzzle.C.tidy 250 s ((onN Kn250 (blockK 0 (onN (fun s => impl_MakePuzzle.C.tidy 62 s (fun s' => runC impl_MakePuzzle.C (impl_MakePuzzle.O N) N impl_MakePuzzle.c63 63 s' impl_MakePuzzle.K0)) impl_MakePuzzle.K0))) .normal)) (onN Kn250 (blockK 0 (onN (fun s => impl_MakePuzzle.C.tidy 62 s (fun s' => runC impl_MakePuzzle.C (impl_MakePuzzle.O N) N impl_MakePuzzle.c63 63 s' impl_MakePuzzle.K0)) impl_MakePuzzle.K0))))))
noncomputable def impl_MakePuzzle.o3 (N : Nat) (v0 : Int) (v1 : Int) (v2 : Int) (v3 : Int) (v4 : Int) (v5 : Int) (v6 : Int) (v7 : Int) (v8 : Int) (c4 : Int → Int → Int → Int → Int → Int → Int → (List S38) → Option impl_MakePuzzle.R) : Option impl_MakePuzzle.R :=
 (impl_told.g N v0 v1 v2 v3).bind fun r1 =>
 bif (Nat.blt (([] : List S38).length + ([(⟨r1.1, r1.2.1, r1.2.2⟩ : S38)] : List S38).length) 5864062014805) then
  c4 v0 v1 v4 (w64 (v5 + 1)) v6 v7 v8 (([] : List S38) ++ ([(⟨r1.1, r1.2.1, r1.2.2⟩ : S38)] : List S38))
 else
 none
theorem impl_MakePuzzle.o3.run (N : Nat) (Kn250 : St D0 → Option impl_MakePuzzle.R) (v0 : Int) (v1 : Int) (v2 : Int) (v3 : Int) (v4 : Int) (v5 : Int) (v6 : Int) (v7 : Int) (v8 : Int) : runC impl_MakePuzzle.C (impl_MakePuzzle.O N) N impl_MakePuzzle.c32051 32051 (mkSt [(0, .one (.int .i64 v0)), (1, .one (.int .i64 v1)), (8, .one (.ptr 8 0)), (10, .one (.fn 43 [7])), (11, .one (.ptr 11 0)), (12, .one (.int .i64 v2)), (13, .one (.int .i64 v3)), (32, .one (.int .i64 v4)), (33, .one (.int .i64 v5))] [(7, some (3, [.int .i64 v6])), (8, some (24, [.int .i64 v7, .nl])), (11, some (24, [.int .i64 v8, .nl]))] : St D0) (blockK 1 (onN (fun s => impl_MakePuzzle.C.tidy 4006 s (fun s' => runC impl_MakePuzzle.C (impl_MakePuzzle.O N) N impl_MakePuzzle.c4007 4007 s' (onN (fun s => impl_MakePuzzle.C.tidy 250 s ((onN Kn250 (blockK 0 (onN (fun s => impl_MakePuzzle.C.tidy 62 s (fun s' => runC impl_MakePuzzle.C (impl_MakePuzzle.O N) N impl_MakePuzzle.c63 63 s' impl_MakePuzzle.K0)) impl_MakePuzzle.K0))) .normal)) (onN Kn250 (blockK 0 (onN (fun s => impl_MakePuzzle.C.tidy 62 s (fun s' => runC impl_MakePuzzle.C (impl_MakePuzzle.O N) N impl_MakePuzzle.c63 63 s' impl_MakePuzzle.K0)) impl_MakePuzzle.K0)))))) (onN (fun s => impl_MakePuzzle.C.tidy 250 s ((onN Kn250 (blockK 0 (onN (fun s => impl_MakePuzzle.C.tidy 62 s (fun s' => runC impl_MakePuzzle.C (impl_MakePuzzle.O N) N impl_MakePuzzle.c63 63 s' impl_MakePuzzle.K0)) impl_MakePuzzle.K0))) .normal)) (onN Kn250 (blockK 0 (onN (fun s => impl_MakePuzzle.C.tidy 62 s (fun s' => runC impl_MakePuzzle.C (impl_MakePuzzle.O N) N impl_MakePuzzle.c63 63 s' impl_MakePuzzle.K0)) impl_MakePuzzle.K0)))))) = impl_MakePuzzle.o3 N v0 v1 v2 v3 v4 v5 v6 v7 v8 ((fun w0 w1 w2 w3 w4 w5 w6 w7 => Kn250 (mkSt [(0, .one (.int .i64 w0)), (1, .one (.int .i64 w1)), (8, .one (.ptr 8 0)), (10, .one (.fn 43 [7])), (11, .one (.ptr 11 0)), (32, .one (.int .i64 w2)), (33, .one (.int .i64 w3))] [(7, some (3, [.int .i64 w4])), (8, some (24, [.int .i64 w5, .nl])), (11, some (24, [.int .i64 w6, .sl true 38 w7]))] : St D0))) := by kernel_rfl
noncomputable def impl_MakePuzzle.d3 (N : Nat) (v0 : Int) (v1 : Int) (v2 : Int) (v3 : Int) (v4 : Int) (v5 : Int) (v6 : Int) (v7 : Int) (v8 : Int) (c4 : Int → Int → Int → Int → Int → Int → Int → (List S38) → Option impl_MakePuzzle.R) : Option impl_MakePuzzle.R := impl_MakePuzzle.o3 N v0 v1 v2 v3 v4 v5 v6 v7 v8 c4
theorem impl_MakePuzzle.d3.run (N : Nat) (Kn250 : St D0 → Option impl_MakePuzzle.R) (v0 : Int) (v1 : Int) (v2 : Int) (v3 : Int) (v4 : Int) (v5 : Int) (v6 : Int) (v7 : Int) (v8 : Int) : runC impl_MakePuzzle.C (impl_MakePuzzle.O N) N impl_MakePuzzle.c32051 32051 (mkSt [(0, .one (.int .i64 v0)), (1, .one (.int .i64 v1)), (8, .one (.ptr 8 0)), (10, .one (.fn 43 [7])), (11, .one (.ptr 11 0)), (12, .one (.int .i64 v2)), (13, .one (.int .i64 v3)), (32, .one (.int .i64 v4)), (33, .one (.int .i64 v5))] [(7, some (3, [.int .i64 v6])), (8, some (24, [.int .i64 v7, .nl])), (11, some (24, [.int .i64 v8, .nl]))] : St D0) (impl_MakePuzzle.K32051 N Kn250) = impl_MakePuzzle.d3 N v0 v1 v2 v3 v4 v5 v6 v7 v8 ((fun w0 w1 w2 w3 w4 w5 w6 w7 => Kn250 (mkSt [(0, .one (.int .i64 w0)), (1, .one (.int .i64 w1)), (8, .one (.ptr 8 0)), (10, .one (.fn 43 [7])), (11, .one (.ptr 11 0)), (32, .one (.int .i64 w2)), (33, .one (.int .i64 w3))] [(7, some (3, [.int .i64 w4])), (8, some (24, [.int .i64 w5, .nl])), (11, some (24, [.int .i64 w6, .sl true 38 w7]))] : St D0))) := by
  exact (impl_MakePuzzle.o3.run N Kn250 v0 v1 v2 v3 v4 v5 v6 v7 v8).trans rfl
noncomputable def impl_MakePuzzle.K500 (N : Nat) (Kn250 : St D0 → Option impl_MakePuzzle.R) : Ex → St D0 → Option impl_MakePuzzle.R := (onN (fun s => impl_MakePuzzle.C.tidy 250 s ((onN Kn250 (blockK 0 (onN (fun s => impl_MakePuzzle.C.tidy 62 s (fun s' => runC impl_MakePuzzle.C (impl_MakePuzzle.O N) N impl_MakePuzzle.c63 63 s' impl_MakePuzzle.K0)) impl_MakePuzzle.K0))) .normal)) (onN Kn250 (blockK 0 (onN (fun s => impl_MakePuzzle.C.tidy 62 s (fun s' => runC impl_MakePuzzle.C (impl_MakePuzzle.O N) N impl_MakePuzzle.c63 63 s' impl_MakePuzzle.K0)) impl_MakePuzzle.K0))))
noncomputable def impl_MakePuzzle.o2 (N : Nat) (v0 : Int) (v1 : Int) (v2 : Int) (v3 : Int) (v4 : Int) (v5 : Int) (v6 : Int) (c3 : Int → Int → Int → Int → Int → Int → Int → Int → Int → Option impl_MakePuzzle.R) : Option impl_MakePuzzle.R :=
 bif (decide (v3 < v2)) then
  (impl_MakePuzzle_1.g N 6 v4).bind fun r1 =>
  bif (r1.1 == 1) then
   (impl_MakePuzzle_1.g N 59 r1.2).bind fun r2 =>
   c3 v0 v1 r1.1 (w64 (r2.1 + 2)) v2 v3 r2.2 v5 v6
  else
  c3 v0 v1 r1.1 0 v2 v3 r1.2 v5 v6
 else
 some (v6, ([] : List S38), true)
theorem impl_MakePuzzle.o2.run (N : Nat) (Kn250 : St D0 → Option impl_MakePuzzle.R) (H32051 : Code) (v0 : Int) (v1 : Int) (v2 : Int) (v3 : Int) (v4 : Int) (v5 : Int) (v6 : Int) : runC impl_MakePuzzle.C (impl_MakePuzzle.O N) N (.seq impl_MakePuzzle.c1000 (.seq impl_MakePuzzle.c2002 (.seq (.block 1 (.seq impl_MakePuzzle.c16024 (.seq impl_MakePuzzle.c32050 H32051))) impl_MakePuzzle.c4007))) 500 (mkSt [(0, .one (.int .i64 v0)), (1, .one (.int .i64 v1)), (8, .one (.ptr 8 0)), (10, .one (.fn 43 [7])), (11, .one (.ptr 11 0)), (32, .one (.int .i64 v2)), (33, .one (.int .i64 v3))] [(7, some (3, [.int .i64 v4])), (8, some (24, [.int .i64 v5, .nl])), (11, some (24, [.int .i64 v6, .nl]))] : St D0) (onN (fun s => impl_MakePuzzle.C.tidy 250 s ((onN Kn250 (blockK 0 (onN (fun s => impl_MakePuzzle.C.tidy 62 s (fun s' => runC impl_MakePuzzle.C (impl_MakePuzzle.O N) N impl_MakePuzzle.c63 63 s' impl_MakePuzzle.K0)) impl_MakePuzzle.K0))) .normal)) (onN Kn250 (blockK 0 (onN (fun s => impl_MakePuzzle.C.tidy 62 s (fun s' => runC impl_MakePuzzle.C (impl_MakePuzzle.O N) N impl_MakePuzzle.c63 63 s' impl_MakePuzzle.K0)) impl_MakePuzzle.K0)))) = impl_MakePuzzle.o2 N v0 v1 v2 v3 v4 v5 v6 ((fun w0 w1 w2 w3 w4 w5 w6 w7 w8 => runC impl_MakePuzzle.C (impl_MakePuzzle.O N) N H32051 32051 (mkSt [(0, .one (.int .i64 w0)), (1, .one (.int .i64 w1)), (8, .one (.ptr 8 0)), (10, .one (.fn 43 [7])), (11, .one (.ptr 11 0)), (12, .one (.int .i64 w2)), (13, .one (.int .i64 w3)), (32, .one (.int .i64 w4)), (33, .one (.int .i64 w5))] [(7, some (3, [.int .i64 w6])), (8, some (24, [.int .i64 w7, .nl])), (11, some (24, [.int .i64 w8, .nl]))] : St D0) (blockK 1 (onN (fun s => impl_MakePuzzle.C.tidy 4006 s (fun s' => runC impl_MakePuzzle.C (impl_MakePuzzle.O N) N impl_MakePuzzle.c4007 4007 s' (onN (fun s => impl_MakePuzzle.C.tidy 250 s ((onN Kn250 (blockK 0 (onN (fun s => impl_MakePuzzle.C.tidy 62 s (fun s' => runC impl_MakePuzzle.C (impl_MakePuzzle.O N) N impl_MakePuzzle.c63 63 s' impl_MakePuzzle.K0)) impl_MakePuzzle.K0))) .normal)) (onN Kn250 (blockK 0 (onN (fun s => impl_MakePuzzle.C.tidy 62 s (fun s' => runC impl_MakePuzzle.C (impl_MakePuzzle.O N) N impl_MakePuzzle.c63 63 s' impl_MakePuzzle.K0)) impl_MakePuzzle.K0)))))) (onN (fun s => impl_MakePuzzle.C.tidy 250 s ((onN Kn250 (blockK 0 (onN (fun s => impl_MakePuzzle.C.tidy 62 s (fun s' => runC impl_MakePuzzle.C (impl_MakePuzzle.O N) N impl_MakePuzzle.c63 63 s' impl_MakePuzzle.K0)) impl_MakePuzzle.K0))) .normal)) (onN Kn250 (blockK 0 (onN (fun s => impl_MakePuzzle.C.tidy 62 s (fun s' => runC impl_MakePuzzle.C (impl_MakePuzzle.O N) N impl_MakePuzzle.c63 63 s' impl_MakePuzzle.K0)) impl_MakePuzzle.K0)))))))) := by kernel_rfl
noncomputable def impl_MakePuzzle.B16025 (N : Nat) (Kn250 : St D0 → Option impl_MakePuzzle.R) : St D0 → Option impl_MakePuzzle.R := fun s' => runC impl_MakePuzzle.C (impl_MakePuzzle.O N) N impl_MakePuzzle.c32051 32051 s' (impl_MakePuzzle.K32051 N Kn250)
noncomputable def impl_MakePuzzle.d2 (N : Nat) (v0 : Int) (v1 : Int) (v2 : Int) (v3 : Int) (v4 : Int) (v5 : Int) (v6 : Int) (c4 : Int → Int → Int → Int → Int → Int → Int → (List S38) → Option impl_MakePuzzle.R) : Option impl_MakePuzzle.R := impl_MakePuzzle.o2 N v0 v1 v2 v3 v4 v5 v6 ((fun w0 w1 w2 w3 w4 w5 w6 w7 w8 => impl_MakePuzzle.d3 N w0 w1 w2 w3 w4 w5 w6 w7 w8 c4))
theorem impl_MakePuzzle.c500_2 : impl_MakePuzzle.c500 = (.seq impl_MakePuzzle.c1000 (.seq impl_MakePuzzle.c2002 (.seq (.block 1 (.seq impl_MakePuzzle.c16024 (.seq impl_MakePuzzle.c32050 impl_MakePuzzle.c32051))) impl_MakePuzzle.c4007))) := by kernel_rfl
theorem impl_MakePuzzle.d2.run (N : Nat) (Kn250 : St D0 → Option impl_MakePuzzle.R) (v0 : Int) (v1 : Int) (v2 : Int) (v3 : Int) (v4 : Int) (v5 : Int) (v6 : Int) : runC impl_MakePuzzle.C (impl_MakePuzzle.O N) N impl_MakePuzzle.c500 500 (mkSt [(0, .one (.int .i64 v0)), (1, .one (.int .i64 v1)), (8, .one (.ptr 8 0)), (10, .one (.fn 43 [7])), (11, .one (.ptr 11 0)), (32, .one (.int .i64 v2)), (33, .one (.int .i64 v3))] [(7, some (3, [.int .i64 v4])), (8, some (24, [.int .i64 v5, .nl])), (11, some (24, [.int .i64 v6, .nl]))] : St D0) (impl_MakePuzzle.K500 N Kn250) = impl_MakePuzzle.d2 N v0 v1 v2 v3 v4 v5 v6 ((fun w0 w1 w2 w3 w4 w5 w6 w7 => Kn250 (mkSt [(0, .one (.int .i64 w0)), (1, .one (.int .i64 w1)), (8, .one (.ptr 8 0)), (10, .one (.fn 43 [7])), (11, .one (.ptr 11 0)), (32, .one (.int .i64 w2)), (33, .one (.int .i64 w3))] [(7, some (3, [.int .i64 w4])), (8, some (24, [.int .i64 w5, .nl])), (11, some (24, [.int .i64 w6, .sl true 38 w7]))] : St D0))) := by
  rw [impl_MakePuzzle.c500_2]; unfold impl_MakePuzzle.d2; exact (impl_MakePuzzle.o2.run N Kn250 impl_MakePuzzle.c32051 v0 v1 v2 v3 v4 v5 v6).trans (congr rfl (funext fun w0 => funext fun w1 => funext fun w2 => funext fun w3 => funext fun w4 => funext fun w5 => funext fun w6 => funext fun w7 => funext fun w8 => impl_MakePuzzle.d3.run N Kn250 w0 w1 w2 w3 w4 w5 w6 w7 w8))
noncomputable def impl_MakePuzzle.o5 (N : Nat) (v0 : Int) (v1 : Int) (v2 : Int) (v3 : Int) (v4 : Int) (v5 : Int) (v6 : Int) (v7 : Int) (v8 : Int) (v9 : List S38) (c4 : Int → Int → Int → Int → Int → Int → Int → (List S38) → Option impl_MakePuzzle.R) : Option impl_MakePuzzle.R :=
 (impl_told.g N v0 v1 v2 v3).bind fun r1 =>
 bif (Nat.blt (v9.length + ([(⟨r1.1, r1.2.1, r1.2.2⟩ : S38)] : List S38).length) 5864062014805) then
  c4 v0 v1 v4 (w64 (v5 + 1)) v6 v7 v8 (v9 ++ ([(⟨r1.1, r1.2.1, r1.2.2⟩ : S38)] : List S38))
 else
 none
theorem impl_MakePuzzle.o5.run (N : Nat) (Kn250 : St D0 → Option impl_MakePuzzle.R) (v0 : Int) (v1 : Int) (v2 : Int) (v3 : Int) (v4 : Int) (v5 : Int) (v6 : Int) (v7 : Int) (v8 : Int) (v9 : List S38) : runC impl_MakePuzzle.C (impl_MakePuzzle.O N) N impl_MakePuzzle.c32051 32051 (mkSt [(0, .one (.int .i64 v0)), (1, .one (.int .i64 v1)), (8, .one (.ptr 8 0)), (10, .one (.fn 43 [7])), (11, .one (.ptr 11 0)), (12, .one (.int .i64 v2)), (13, .one (.int .i64 v3)), (32, .one (.int .i64 v4)), (33, .one (.int .i64 v5))] [(7, some (3, [.int .i64 v6])), (8, some (24, [.int .i64 v7, .nl])), (11, some (24, [.int .i64 v8, .sl true 38 v9]))] : St D0) (blockK 1 (onN (fun s => impl_MakePuzzle.C.tidy 4006 s (fun s' => runC impl_MakePuzzle.C (impl_MakePuzzle.O N) N impl_MakePuzzle.c4007 4007 s' (onN (fun s => impl_MakePuzzle.C.tidy 250 s ((onN Kn250 (blockK 0 (onN (fun s => impl_MakePuzzle.C.tidy 62 s (fun s' => runC impl_MakePuzzle.C (impl_MakePuzzle.O N) N impl_MakePuzzle.c63 63 s' impl_MakePuzzle.K0)) impl_MakePuzzle.K0))) .normal)) (onN Kn250 (blockK 0 (onN (fun s => impl_MakePuzzle.C.tidy 62 s (fun s' => runC impl_MakePuzzle.C (impl_MakePuzzle.O N) N impl_MakePuzzle.c63 63 s' impl_MakePuzzle.K0)) impl_MakePuzzle.K0)))))) (onN (fun s => impl_MakePuzzle.C.tidy 250 s ((onN Kn250 (blockK 0 (onN (fun s => impl_MakePuzzle.C.tidy 62 s (fun s' => runC impl_MakePuzzle.C (impl_MakePuzzle.O N) N impl_MakePuzzle.c63 63 s' impl_MakePuzzle.K0)) impl_MakePuzzle.K0))) .normal)) (onN Kn250 (blockK 0 (onN (fun s => impl_MakePuzzle.C.tidy 62 s (fun s' => runC impl_MakePuzzle.C (impl_MakePuzzle.O N) N impl_MakePuzzle.c63 63 s' impl_MakePuzzle.K0)) impl_MakePuzzle.K0)))))) = impl_MakePuzzle.o5 N v0 v1 v2 v3 v4 v5 v6 v7 v8 v9 ((fun w0 w1 w2 w3 w4 w5 w6 w7 => Kn250 (mkSt [(0, .one (.int .i64 w0)), (1, .one (.int .i64 w1)), (8, .one (.ptr 8 0)), (10, .one (.fn 43 [7])), (11, .one (.ptr 11 0)), (32, .one (.int .i64 w2)), (33, .one (.int .i64 w3))] [(7, some (3, [.int .i64 w4])), (8, some (24, [.int .i64 w5, .nl])), (11, some (24, [.int .i64 w6, .sl true 38 w7]))] : St D0))) := by kernel_rfl
noncomputable def impl_MakePuzzle.d5 (N : Nat) (v0 : Int) (v1 : Int) (v2 : Int) (v3 : Int) (v4 : Int) (v5 : Int) (v6 : Int) (v7 : Int) (v8 : Int) (v9 : List S38) (c4 : Int → Int → Int → Int → Int → Int → Int → (List S38) → Option impl_MakePuzzle.R) : Option impl_MakePuzzle.R := impl_MakePuzzle.o5 N v0 v1 v2 v3 v4 v5 v6 v7 v8 v9 c4
theorem impl_MakePuzzle.d5.run (N : Nat) (Kn250 : St D0 → Option impl_MakePuzzle.R) (v0 : Int) (v1 : Int) (v2 : Int) (v3 : Int) (v4 : Int) (v5 : Int) (v6 : Int) (v7 : Int) (v8 : Int) (v9 : List S38) : runC impl_MakePuzzle.C (impl_MakePuzzle.O N) N impl_MakePuzzle.c32051 32051 (mkSt [(0, .one (.int .i64 v0)), (1, .one (.int .i64 v1)), (8, .one (.ptr 8 0)), (10, .one (.fn 43 [7])), (11, .one (.ptr 11 0)), (12, .one (.int .i64 v2)), (13, .one (.int .i64 v3)), (32, .one (.int .i64 v4)), (33, .one (.int .i64 v5))] [(7, some (3, [.int .i64 v6])), (8, some (24, [.int .i64 v7, .nl])), (11, some (24, [.int .i64 v8, .sl true 38 v9]))] : St D0) (impl_MakePuzzle.K32051 N Kn250) = impl_MakePuzzle.d5 N v0 v1 v2 v3 v4 v5 v6 v7 v8 v9 ((fun w0 w1 w2 w3 w4 w5 w6 w7 => Kn250 (mkSt [(0, .one (.int .i64 w0)), (1, .one (.int .i64 w1)), (8, .one (.ptr 8 0)), (10, .one (.fn 43 [7])), (11, .one (.ptr 11 0)), (32, .one (.int .i64 w2)), (33, .one (.int .i64 w3))] [(7, some (3, [.int .i64 w4])), (8, some (24, [.int .i64 w5, .nl])), (11, some (24, [.int .i64 w6, .sl true 38 w7]))] : St D0))) := by
  exact (impl_MakePuzzle.o5.run N Kn250 v0 v1 v2 v3 v4 v5 v6 v7 v8 v9).trans rfl
noncomputable def impl_MakePuzzle.o4 (N : Nat) (v0 : Int) (v1 : Int) (v2 : Int) (v3 : Int) (v4 : Int) (v5 : Int) (v6 : Int) (v7 : List S38) (c5 : Int → Int → Int → Int → Int → Int → Int → Int → Int → (List S38) → Option impl_MakePuzzle.R) : Option impl_MakePuzzle.R :=
 bif (decide (v3 < v2)) then
  (impl_MakePuzzle_1.g N 6 v4).bind fun r1 =>
  bif (r1.1 == 1) then
   (impl_MakePuzzle_1.g N 59 r1.2).bind fun r2 =>
   c5 v0 v1 r1.1 (w64 (r2.1 + 2)) v2 v3 r2.2 v5 v6 v7
  else
  c5 v0 v1 r1.1 0 v2 v3 r1.2 v5 v6 v7
 else
 some (v6, v7, true)
theorem impl_MakePuzzle.o4.run (N : Nat) (Kn250 : St D0 → Option impl_MakePuzzle.R) (H32051 : Code) (v0 : Int) (v1 : Int) (v2 : Int) (v3 : Int) (v4 : Int) (v5 : Int) (v6 : Int) (v7 : List S38) : runC impl_MakePuzzle.C (impl_MakePuzzle.O N) N (.seq impl_MakePuzzle.c1000 (.seq impl_MakePuzzle.c2002 (.seq (.block 1 (.seq impl_MakePuzzle.c16024 (.seq impl_MakePuzzle.c32050 H32051))) impl_MakePuzzle.c4007))) 500 (mkSt [(0, .one (.int .i64 v0)), (1, .one (.int .i64 v1)), (8, .one (.ptr 8 0)), (10, .one (.fn 43 [7])), (11, .one (.ptr 11 0)), (32, .one (.int .i64 v2)), (33, .one (.int .i64 v3))] [(7, some (3, [.int .i64 v4])), (8, some (24, [.int .i64 v5, .nl])), (11, some (24, [.int .i64 v6, .sl true 38 v7]))] : St D0) (onN (fun s => impl_MakePuzzle.C.tidy 250 s ((onN Kn250 (blockK 0 (onN (fun s => impl_MakePuzzle.C.tidy 62 s (fun s' => runC impl_MakePuzzle.C (impl_MakePuzzle.O N) N impl_MakePuzzle.c63 63 s' impl_MakePuzzle.K0)) impl_MakePuzzle.K0))) .normal)) (onN Kn250 (blockK 0 (onN (fun s => impl_MakePuzzle.C.tidy 62 s (fun s' => runC impl_MakePuzzle.C (impl_MakePuzzle.O N) N impl_MakePuzzle.c63 63 s' impl_MakePuzzle.K0)) impl_MakePuzzle.K0)))) = impl_MakePuzzle.o4 N v0 v1 v2 v3 v4 v5 v6 v7 ((fun w0 w1 w2 w3 w4 w5 w6 w7 w8 w9 => runC impl_MakePuzzle.C (impl_MakePuzzle.O N) N H32051 32051 (mkSt [(0, .one (.int .i64 w0)), (1, .one (.int .i64 w1)), (8, .one (.ptr 8 0)), (10, .one (.fn 43 [7])), (11, .one (.ptr 11 0)), (12, .one (.int .i64 w2)), (13, .one (.int .i64 w3)), (32, .one (.int .i64 w4)), (33, .one (.int .i64 w5))] [(7, some (3, [.int .i64 w6])), (8, some (24, [.int .i64 w7, .nl])), (11, some (24, [.int .i64 w8, .sl true 38 w9]))] : St D0) (blockK 1 (onN (fun s => impl_MakePuzzle.C.tidy 4006 s (fun s' => runC impl_MakePuzzle.C (impl_MakePuzzle.O N) N impl_MakePuzzle.c4007 4007 s' (onN (fun s => impl_MakePuzzle.C.tidy 250 s ((onN Kn250 (blockK 0 (onN (fun s => impl_MakePuzzle.C.tidy 62 s (fun s' => runC impl_MakePuzzle.C (impl_MakePuzzle.O N) N impl_MakePuzzle.c63 63 s' impl_MakePuzzle.K0)) impl_MakePuzzle.K0))) .normal)) (onN Kn250 (blockK 0 (onN (fun s => impl_MakePuzzle.C.tidy 62 s (fun s' => runC impl_MakePuzzle.C (impl_MakePuzzle.O N) N impl_MakePuzzle.c63 63 s' impl_MakePuzzle.K0)) impl_MakePuzzle.K0)))))) (onN (fun s => impl_MakePuzzle.C.tidy 250 s ((onN Kn250 (blockK 0 (onN (fun s => impl_MakePuzzle.C.tidy 62 s (fun s' => runC impl_MakePuzzle.C (impl_MakePuzzle.O N) N impl_MakePuzzle.c63 63 s' impl_MakePuzzle.K0)) impl_MakePuzzle.K0))) .normal)) (onN Kn250 (blockK 0 (onN (fun s => impl_MakePuzzle.C.tidy 62 s (fun s' => runC impl_MakePuzzle.C (impl_MakePuzzle.O N) N impl_MakePuzzle.c63 63 s' impl_MakePuzzle.K0)) impl_MakePuzzle.K0)))))))) := by kernel_rfl
noncomputable def impl_MakePuzzle.d4 (N : Nat) (v0 : Int) (v1 : Int) (v2 : Int) (v3 : Int) (v4 : Int) (v5 : Int) (v6 : Int) (v7 : List S38) (c4 : Int → Int → Int → Int → Int → Int → Int → (List S38) → Option impl_MakePuzzle.R) : Option impl_MakePuzzle.R := impl_MakePuzzle.o4 N v0 v1 v2 v3 v4 v5 v6 v7 ((fun w0 w1 w2 w3 w4 w5 w6 w7 w8 w9 => impl_MakePuzzle.d5 N w0 w1 w2 w3 w4 w5 w6 w7 w8 w9 c4))
theorem impl_MakePuzzle.c500_4 : impl_MakePuzzle.c500 = (.seq impl_MakePuzzle.c1000 (.seq impl_MakePuzzle.c2002 (.seq (.block 1 (.seq impl_MakePuzzle.c16024 (.seq impl_MakePuzzle.c32050 impl_MakePuzzle.c32051))) impl_MakePuzzle.c4007))) := by kernel_rfl
theorem impl_MakePuzzle.d4.run (N : Nat) (Kn250 : St D0 → Option impl_MakePuzzle.R) (v0 : Int) (v1 : Int) (v2 : Int) (v3 : Int) (v4 : Int) (v5 : Int) (v6 : Int) (v7 : List S38) : runC impl_MakePuzzle.C (impl_MakePuzzle.O N) N impl_MakePuzzle.c500 500 (mkSt [(0, .one (.int .i64 v0)), (1, .one (.int .i64 v1)), (8, .one (.ptr 8 0)), (10, .one (.fn 43 [7])), (11, .one (.ptr 11 0)), (32, .one (.int .i64 v2)), (33, .one (.int .i64 v3))] [(7, some (3, [.int .i64 v4])), (8, some (24, [.int .i64 v5, .nl])), (11, some (24, [.int .i64 v6, .sl true 38 v7]))] : St D0) (impl_MakePuzzle.K500 N Kn250) = impl_MakePuzzle.d4 N v0 v1 v2 v3 v4 v5 v6 v7 ((fun w0 w1 w2 w3 w4 w5 w6 w7 => Kn250 (mkSt [(0, .one (.int .i64 w0)), (1, .one (.int .i64 w1)), (8, .one (.ptr 8 0)), (10, .one (.fn 43 [7])), (11, .one (.ptr 11 0)), (32, .one (.int .i64 w2)), (33, .one (.int .i64 w3))] [(7, some (3, [.int .i64 w4])), (8, some (24, [.int .i64 w5, .nl])), (11, some (24, [.int .i64 w6, .sl true 38 w7]))] : St D0))) := by
  rw [impl_MakePuzzle.c500_4]; unfold impl_MakePuzzle.d4; exact (impl_MakePuzzle.o4.run N Kn250 impl_MakePuzzle.c32051 v0 v1 v2 v3 v4 v5 v6 v7).trans (congr rfl (funext fun w0 => funext fun w1 => funext fun w2 => funext fun w3 => funext fun w4 => funext fun w5 => funext fun w6 => funext fun w7 => funext fun w8 => funext fun w9 => impl_MakePuzzle.d5.run N Kn250 w0 w1 w2 w3 w4 w5 w6 w7 w8 w9))
noncomputable def impl_MakePuzzle.K250 (N : Nat) : Ex → St D0 → Option impl_MakePuzzle.R := (blockK 0 (onN (fun s => impl_MakePuzzle.C.tidy 62 s (fun s' => runC impl_MakePuzzle.C (impl_MakePuzzle.O N) N impl_MakePuzzle.c63 63 s' impl_MakePuzzle.K0)) impl_MakePuzzle.K0))
mutual
noncomputable def impl_MakePuzzle.l2 (N : Nat) : Nat → Int → Int → Int → Int → Int → Int → Int → Option impl_MakePuzzle.R
  | 0, _, _, _, _, _, _, _ => none
  | n + 1, v0, v1, v2, v3, v4, v5, v6 => impl_MakePuzzle.d2 N v0 v1 v2 v3 v4 v5 v6 ((fun w0 w1 w2 w3 w4 w5 w6 w7 => impl_MakePuzzle.l4 N n w0 w1 w2 w3 w4 w5 w6 w7))
noncomputable def impl_MakePuzzle.l4 (N : Nat) : Nat → Int → Int → Int → Int → Int → Int → Int → (List S38) → Option impl_MakePuzzle.R
  | 0, _, _, _, _, _, _, _, _ => none
  | n + 1, v0, v1, v2, v3, v4, v5, v6, v7 => impl_MakePuzzle.d4 N v0 v1 v2 v3 v4 v5 v6 v7 ((fun w0 w1 w2 w3 w4 w5 w6 w7 => impl_MakePuzzle.l4 N n w0 w1 w2 w3 w4 w5 w6 w7))
end
theorem impl_MakePuzzle.loop250 (N : Nat) : ∀ n, (∀ (v0 : Int) (v1 : Int) (v2 : Int) (v3 : Int) (v4 : Int) (v5 : Int) (v6 : Int), iter (loopF impl_MakePuzzle.C (impl_MakePuzzle.O N) N impl_MakePuzzle.c500 250) n (mkSt [(0, .one (.int .i64 v0)), (1, .one (.int .i64 v1)), (8, .one (.ptr 8 0)), (10, .one (.fn 43 [7])), (11, .one (.ptr 11 0)), (32, .one (.int .i64 v2)), (33, .one (.int .i64 v3))] [(7, some (3, [.int .i64 v4])), (8, some (24, [.int .i64 v5, .nl])), (11, some (24, [.int .i64 v6, .nl]))] : St D0) (impl_MakePuzzle.K250 N) = impl_MakePuzzle.l2 N n v0 v1 v2 v3 v4 v5 v6) ∧ (∀ (v0 : Int) (v1 : Int) (v2 : Int) (v3 : Int) (v4 : Int) (v5 : Int) (v6 : Int) (v7 : List S38), iter (loopF impl_MakePuzzle.C (impl_MakePuzzle.O N) N impl_MakePuzzle.c500 250) n (mkSt [(0, .one (.int .i64 v0)), (1, .one (.int .i64 v1)), (8, .one (.ptr 8 0)), (10, .one (.fn 43 [7])), (11, .one (.ptr 11 0)), (32, .one (.int .i64 v2)), (33, .one (.int .i64 v3))] [(7, some (3, [.int .i64 v4])), (8, some (24, [.int .i64 v5, .nl])), (11, some (24, [.int .i64 v6, .sl true 38 v7]))] : St D0) (impl_MakePuzzle.K250 N) = impl_MakePuzzle.l4 N n v0 v1 v2 v3 v4 v5 v6 v7)
  | 0 => ⟨(fun v0 v1 v2 v3 v4 v5 v6 => rfl), (fun v0 v1 v2 v3 v4 v5 v6 v7 => rfl)⟩
  | n + 1 => ⟨(fun v0 v1 v2 v3 v4 v5 v6 => (impl_MakePuzzle.d2.run N (fun s => iter (loopF impl_MakePuzzle.C (impl_MakePuzzle.O N) N impl_MakePuzzle.c500 250) n s (impl_MakePuzzle.K250 N)) v0 v1 v2 v3 v4 v5 v6).trans (show _ = impl_MakePuzzle.d2 N v0 v1 v2 v3 v4 v5 v6 ((fun w0 w1 w2 w3 w4 w5 w6 w7 => impl_MakePuzzle.l4 N n w0 w1 w2 w3 w4 w5 w6 w7)) from (congr rfl (funext fun w0 => funext fun w1 => funext fun w2 => funext fun w3 => funext fun w4 => funext fun w5 => funext fun w6 => funext fun w7 => (impl_MakePuzzle.loop250 N n).2 w0 w1 w2 w3 w4 w5 w6 w7)))), (fun v0 v1 v2 v3 v4 v5 v6 v7 => (impl_MakePuzzle.d4.run N (fun s => iter (loopF impl_MakePuzzle.C (impl_MakePuzzle.O N) N impl_MakePuzzle.c500 250) n s (impl_MakePuzzle.K250 N)) v0 v1 v2 v3 v4 v5 v6 v7).trans (show _ = impl_MakePuzzle.d4 N v0 v1 v2 v3 v4 v5 v6 v7 ((fun w0 w1 w2 w3 w4 w5 w6 w7 => impl_MakePuzzle.l4 N n w0 w1 w2 w3 w4 w5 w6 w7)) from (congr rfl (funext fun w0 => funext fun w1 => funext fun w2 => funext fun w3 => funext fun w4 => funext fun w5 => funext fun w6 => funext fun w7 => (impl_MakePuzzle.loop250 N n).2 w0 w1 w2 w3 w4 w5 w6 w7))))⟩
noncomputable def impl_MakePuzzle.K13 (N : Nat) : Ex → St D0 → Option impl_MakePuzzle.R := (onN (fun s => impl_MakePuzzle.C.tidy 6 s (fun s' => runC impl_MakePuzzle.C (impl_MakePuzzle.O N) N impl_MakePuzzle.c7 7 s' impl_MakePuzzle.K0)) impl_MakePuzzle.K0)
noncomputable def impl_MakePuzzle.o1 (N : Nat) (v0 : Int) (v1 : Int) (v2 : Int) (v3 : Bool) (v4 : Int) (v5 : Int) (c2 : Int → Int → Int → Int → Int → Int → Int → Option impl_MakePuzzle.R) : Option impl_MakePuzzle.R :=
 bif v3 then
  some (0, ([] : List S38), false)
 else
 c2 v0 v1 v2 0 v4 v5 v0
theorem impl_MakePuzzle.o1.run (N : Nat) (H500 : Code) (v0 : Int) (v1 : Int) (v2 : Int) (v3 : Bool) (v4 : Int) (v5 : Int) : runC impl_MakePuzzle.C (impl_MakePuzzle.O N) N impl_MakePuzzle.c13 13 (mkSt [(0, .one (.int .i64 v0)), (1, .one (.int .i64 v1)), (2, .one (.int .i64 v2)), (7, .one (.ptr 7 0)), (8, .one (.ptr 8 0)), (27, .one (.bool v3))] [(7, some (3, [.int .i64 v4])), (8, some (24, [.int .i64 v5, .nl]))] : St D0) (onN (fun s => impl_MakePuzzle.C.tidy 6 s (fun s' => runC impl_MakePuzzle.C (impl_MakePuzzle.O N) N (.seq impl_MakePuzzle.c14 (.seq impl_MakePuzzle.c30 (.seq (.seq impl_MakePuzzle.c124 (.block 0 (.loop H500))) impl_MakePuzzle.c63))) 7 s' impl_MakePuzzle.K0)) impl_MakePuzzle.K0) = impl_MakePuzzle.o1 N v0 v1 v2 v3 v4 v5 ((fun w0 w1 w2 w3 w4 w5 w6 => iter (loopF impl_MakePuzzle.C (impl_MakePuzzle.O N) N H500 250) N (mkSt [(0, .one (.int .i64 w0)), (1, .one (.int .i64 w1)), (8, .one (.ptr 8 0)), (10, .one (.fn 43 [7])), (11, .one (.ptr 11 0)), (32, .one (.int .i64 w2)), (33, .one (.int .i64 w3))] [(7, some (3, [.int .i64 w4])), (8, some (24, [.int .i64 w5, .nl])), (11, some (24, [.int .i64 w6, .nl]))] : St D0) (blockK 0 (onN (fun s => impl_MakePuzzle.C.tidy 62 s (fun s' => runC impl_MakePuzzle.C (impl_MakePuzzle.O N) N impl_MakePuzzle.c63 63 s' impl_MakePuzzle.K0)) impl_MakePuzzle.K0)))) := by kernel_rfl
noncomputable def impl_MakePuzzle.d1 (N : Nat) (v0 : Int) (v1 : Int) (v2 : Int) (v3 : Bool) (v4 : Int) (v5 : Int) : Option impl_MakePuzzle.R := impl_MakePuzzle.o1 N v0 v1 v2 v3 v4 v5 ((fun w0 w1 w2 w3 w4 w5 w6 => impl_MakePuzzle.l2 N N w0 w1 w2 w3 w4 w5 w6))
theorem impl_MakePuzzle.d1.run (N : Nat) (v0 : Int) (v1 : Int) (v2 : Int) (v3 : Bool) (v4 : Int) (v5 : Int) : runC impl_MakePuzzle.C (impl_MakePuzzle.O N) N impl_MakePuzzle.c13 13 (mkSt [(0, .one (.int .i64 v0)), (1, .one (.int .i64 v1)), (2, .one (.int .i64 v2)), (7, .one (.ptr 7 0)), (8, .one (.ptr 8 0)), (27, .one (.bool v3))] [(7, some (3, [.int .i64 v4])), (8, some (24, [.int .i64 v5, .nl]))] : St D0) (impl_MakePuzzle.K13 N) = impl_MakePuzzle.d1 N v0 v1 v2 v3 v4 v5 := by
  unfold impl_MakePuzzle.d1; exact (impl_MakePuzzle.o1.run N impl_MakePuzzle.c500 v0 v1 v2 v3 v4 v5).trans (congr rfl (funext fun w0 => funext fun w1 => funext fun w2 => funext fun w3 => funext fun w4 => funext fun w5 => funext fun w6 => (impl_MakePuzzle.loop250 N N).1 w0 w1 w2 w3 w4 w5 w6))
noncomputable def impl_MakePuzzle.o0 (N : Nat) (a0 : Int) (a1 : Int) (a2 : Int) (a3 : Int) (c1 : Int → Int → Int → Bool → Int → Int → Option impl_MakePuzzle.R) : Option impl_MakePuzzle.R :=
 (impl_isMinute.g N a0 a1).bind fun r1 =>
 bif (!r1) then
  c1 a0 a1 a2 true a3 0
 else
 (impl_within.g N a2 0 6).bind fun r2 =>
 bif (!r2) then
  c1 a0 a1 a2 true a3 0
 else
 (impl_within.g N a3 0 9999).bind fun r3 =>
 c1 a0 a1 a2 (!r3) a3 0
theorem impl_MakePuzzle.o0.run (N : Nat) (H13 : Code) (a0 : Int) (a1 : Int) (a2 : Int) (a3 : Int) : runC impl_MakePuzzle.C (impl_MakePuzzle.O N) N (.seq impl_MakePuzzle.c2 (.seq (.seq impl_MakePuzzle.c12 H13) impl_MakePuzzle.c7)) 1 (st0 [.one (.int .i64 a0), .one (.int .i64 a1), .one (.int .i64 a2), .one (.int .i64 a3)] [] : St D0) impl_MakePuzzle.K0 = impl_MakePuzzle.o0 N a0 a1 a2 a3 ((fun w0 w1 w2 w3 w4 w5 => runC impl_MakePuzzle.C (impl_MakePuzzle.O N) N H13 13 (mkSt [(0, .one (.int .i64 w0)), (1, .one (.int .i64 w1)), (2, .one (.int .i64 w2)), (7, .one (.ptr 7 0)), (8, .one (.ptr 8 0)), (27, .one (.bool w3))] [(7, some (3, [.int .i64 w4])), (8, some (24, [.int .i64 w5, .nl]))] : St D0) (onN (fun s => impl_MakePuzzle.C.tidy 6 s (fun s' => runC impl_MakePuzzle.C (impl_MakePuzzle.O N) N impl_MakePuzzle.c7 7 s' impl_MakePuzzle.K0)) impl_MakePuzzle.K0))) := by kernel_rfl
noncomputable def impl_MakePuzzle.B6 (N : Nat) : St D0 → Option impl_MakePuzzle.R := fun s' => runC impl_MakePuzzle.C (impl_MakePuzzle.O N) N impl_MakePuzzle.c13 13 s' (impl_MakePuzzle.K13 N)
noncomputable def impl_MakePuzzle.g (N : Nat) (a0 : Int) (a1 : Int) (a2 : Int) (a3 : Int) : Option impl_MakePuzzle.R := impl_MakePuzzle.o0 N a0 a1 a2 a3 ((fun w0 w1 w2 w3 w4 w5 => impl_MakePuzzle.d1 N w0 w1 w2 w3 w4 w5))
theorem impl_MakePuzzle.c1_0 : impl_MakePuzzle.c1 = (.seq impl_MakePuzzle.c2 (.seq (.seq impl_MakePuzzle.c12 impl_MakePuzzle.c13) impl_MakePuzzle.c7)) := by kernel_rfl
theorem impl_MakePuzzle.g.run (N : Nat) (a0 : Int) (a1 : Int) (a2 : Int) (a3 : Int) : runC impl_MakePuzzle.C (impl_MakePuzzle.O N) N impl_MakePuzzle.c1 1 (st0 [.one (.int .i64 a0), .one (.int .i64 a1), .one (.int .i64 a2), .one (.int .i64 a3)] [] : St D0) impl_MakePuzzle.K0 = impl_MakePuzzle.g N a0 a1 a2 a3 := by
  rw [impl_MakePuzzle.c1_0]; unfold impl_MakePuzzle.g; exact (impl_MakePuzzle.o0.run N impl_MakePuzzle.c13 a0 a1 a2 a3).trans (congr rfl (funext fun w0 => funext fun w1 => funext fun w2 => funext fun w3 => funext fun w4 => funext fun w5 => impl_MakePuzzle.d1.run N w0 w1 w2 w3 w4 w5))
theorem impl_MakePuzzle.good (N : Nat) (a0 : Int) (a1 : Int) (a2 : Int) (a3 : Int) (r : impl_MakePuzzle.R) (h : impl_MakePuzzle.g N a0 a1 a2 a3 = some r) : Go.PM.Good Go.Proofs.Try.prog T0 8 [.one (.int .i64 a0), .one (.int .i64 a1), .one (.int .i64 a2), .one (.int .i64 a3)] [] (impl_MakePuzzle.sig.ret r) (impl_MakePuzzle.sig.bs r) :=
  good_fn tabOk0 mixed0 impl_MakePuzzle.sig (impl_MakePuzzle.E N) Go.Proofs.Try.func8 (by kernel_rfl) (by kernel_rfl) 305076912015 9015995347763200 0 [(12, [0, 1, 2, 7, 8, 27], [7, 8]), (250, [0, 1, 8, 10, 11, 32, 33], [7, 8, 11]), (32050, [0, 1, 8, 10, 11, 12, 13, 32, 33], [7, 8, 11])] [(true, [.any, .own 38]), (false, [.any])] (by kernel_rfl) rfl ((impl_MakePuzzle.g.run N a0 a1 a2 a3).trans h)
noncomputable def impl_MakePuzzle.ent (N : Nat) : Ent Go.Proofs.Try.prog T0 := mkEnt 8 [(false, [.any]), (false, [.any]), (false, [.any]), (false, [.any])] impl_MakePuzzle.sig (fun t => impl_MakePuzzle.g N t.1 t.2.1 t.2.2.1 t.2.2.2) (fun t r h => impl_MakePuzzle.good N t.1 t.2.1 t.2.2.1 t.2.2.2 r h)
end Go.Proofs.Ytpeleommbipeaaa.M

namespace Go.Proofs.Ytpeleommbipeaaa.M
open Go Go.PM Go.Proofs.Ytpeleommbipeaaa.P
set_option linter.unusedVariables false
set_option maxRecDepth 100000
/-! ### spec_l1Cur_next -/
abbrev spec_l1Cur_next.R : Type := Int × List Int × Int × Int
abbrev spec_l1Cur_next.sig : Sig := ⟨[(false, 1)], [(87, 3)], [.ptr 0 0, .sl false 5, .int .i64, .int .u64], [(false, 1)], [(87, 3)], [.int .i64, .sl false 5, .int .i64, .int .u64]⟩
noncomputable def spec_l1Cur_next.C : Cfg D0 := ⟨Go.Proofs.Try.prog, T0, 9007199254749197, 0, 62, 1, [(14, [0, 3], [0])]⟩
noncomputable def spec_l1Cur_next.E (N : Nat) : List (Ent Go.Proofs.Try.prog T0) := []
noncomputable def spec_l1Cur_next.O (N : Nat) : Orc D0 spec_l1Cur_next.R := orcOf (spec_l1Cur_next.E N)
noncomputable def spec_l1Cur_next.K0 : Ex → St D0 → Option spec_l1Cur_next.R := exitK spec_l1Cur_next.C Go.Proofs.Try.f80.results.toList [(false, [.any])] (decOut spec_l1Cur_next.sig)
noncomputable def spec_l1Cur_next.c1 : Code := codeAt (Go.Proofs.Try.f80.body.getD .skip) []
noncomputable def spec_l1Cur_next.c2 : Code := codeAt (Go.Proofs.Try.f80.body.getD .skip) [false]
noncomputable def spec_l1Cur_next.c6 : Code := codeAt (Go.Proofs.Try.f80.body.getD .skip) [true, false]
noncomputable def spec_l1Cur_next.c14 : Code := codeAt (Go.Proofs.Try.f80.body.getD .skip) [true, true, false]
noncomputable def spec_l1Cur_next.c15 : Code := codeAt (Go.Proofs.Try.f80.body.getD .skip) [true, true, true]
noncomputable def spec_l1Cur_next.K15 (N : Nat) : Ex → St D0 → Option spec_l1Cur_next.R := spec_l1Cur_next.K0
noncomputable def spec_l1Cur_next.o1 (N : Nat) (v0 : Int) (v1 : List Int) (v2 : Int) (v3 : Int) : Option spec_l1Cur_next.R :=
 bif (decide ((w64 (v2 + 1)) ≤ (v1.length : Int))) then
  some (v0, v1, (w64 (v2 + 1)), ((IntKind.wrap .u64) (((IntKind.wrap .u64) (((IntKind.wrap .u64) (v3 * 6364136223846793005)) + ((IntKind.wrap .u64) v0))) + 1442695040888963407)))
 else
 some ((w64 (andK .u64 (shrK .u64 ((IntKind.wrap .u64) (((IntKind.wrap .u64) (((IntKind.wrap .u64) (v3 * 6364136223846793005)) + ((IntKind.wrap .u64) v0))) + 1442695040888963407)) 40) 255)), v1, (w64 (v2 + 1)), ((IntKind.wrap .u64) (((IntKind.wrap .u64) (((IntKind.wrap .u64) (v3 * 6364136223846793005)) + ((IntKind.wrap .u64) v0))) + 1442695040888963407)))
theorem spec_l1Cur_next.o1.run (N : Nat) (v0 : Int) (v1 : List Int) (v2 : Int) (v3 : Int) : runC spec_l1Cur_next.C (spec_l1Cur_next.O N) N spec_l1Cur_next.c15 15 (mkSt [(0, .one (.ptr 0 0)), (3, .one (.int .i64 v0))] [(0, some (87, [.sl false 5 v1, .int .i64 v2, .int .u64 v3]))] : St D0) spec_l1Cur_next.K0 = spec_l1Cur_next.o1 N v0 v1 v2 v3 := by kernel_rfl
noncomputable def spec_l1Cur_next.d1 (N : Nat) (v0 : Int) (v1 : List Int) (v2 : Int) (v3 : Int) : Option spec_l1Cur_next.R := spec_l1Cur_next.o1 N v0 v1 v2 v3
theorem spec_l1Cur_next.d1.run (N : Nat) (v0 : Int) (v1 : List Int) (v2 : Int) (v3 : Int) : runC spec_l1Cur_next.C (spec_l1Cur_next.O N) N spec_l1Cur_next.c15 15 (mkSt [(0, .one (.ptr 0 0)), (3, .one (.int .i64 v0))] [(0, some (87, [.sl false 5 v1, .int .i64 v2, .int .u64 v3]))] : St D0) (spec_l1Cur_next.K15 N) = spec_l1Cur_next.d1 N v0 v1 v2 v3 := by
  exact (spec_l1Cur_next.o1.run N v0 v1 v2 v3).trans rfl
noncomputable def spec_l1Cur_next.o0 (N : Nat) (b0_0 : List Int) (b0_1 : Int) (b0_2 : Int) (c1 : Int → (List Int) → Int → Int → Option spec_l1Cur_next.R) : Option spec_l1Cur_next.R :=
 bif (decide (b0_1 < (b0_0.length : Int))) then
  bif (decide (0 ≤ b0_1)) then
   bif (decide (b0_1 < (b0_0.length : Int))) then
    (b0_0[(b0_1 : Int).toNat]?).bind fun x1 =>
    c1 (w64 x1) b0_0 b0_1 b0_2
   else
   none
  else
  none
 else
 c1 0 b0_0 b0_1 b0_2
theorem spec_l1Cur_next.o0.run (N : Nat) (H15 : Code) (b0_0 : List Int) (b0_1 : Int) (b0_2 : Int) : runC spec_l1Cur_next.C (spec_l1Cur_next.O N) N (.seq spec_l1Cur_next.c2 (.seq spec_l1Cur_next.c6 (.seq spec_l1Cur_next.c14 H15))) 1 (st0 [.one (.ptr 0 0)] [(87, [.sl false 5 b0_0, .int .i64 b0_1, .int .u64 b0_2])] : St D0) spec_l1Cur_next.K0 = spec_l1Cur_next.o0 N b0_0 b0_1 b0_2 ((fun w0 w1 w2 w3 => runC spec_l1Cur_next.C (spec_l1Cur_next.O N) N H15 15 (mkSt [(0, .one (.ptr 0 0)), (3, .one (.int .i64 w0))] [(0, some (87, [.sl false 5 w1, .int .i64 w2, .int .u64 w3]))] : St D0) spec_l1Cur_next.K0)) := by kernel_rfl
noncomputable def spec_l1Cur_next.B7 (N : Nat) : St D0 → Option spec_l1Cur_next.R := fun s' => runC spec_l1Cur_next.C (spec_l1Cur_next.O N) N spec_l1Cur_next.c15 15 s' (spec_l1Cur_next.K15 N)
noncomputable def spec_l1Cur_next.g (N : Nat) (b0_0 : List Int) (b0_1 : Int) (b0_2 : Int) : Option spec_l1Cur_next.R := spec_l1Cur_next.o0 N b0_0 b0_1 b0_2 ((fun w0 w1 w2 w3 => spec_l1Cur_next.d1 N w0 w1 w2 w3))
theorem spec_l1Cur_next.c1_0 : spec_l1Cur_next.c1 = (.seq spec_l1Cur_next.c2 (.seq spec_l1Cur_next.c6 (.seq spec_l1Cur_next.c14 spec_l1Cur_next.c15))) := by kernel_rfl
theorem spec_l1Cur_next.g.run (N : Nat) (b0_0 : List Int) (b0_1 : Int) (b0_2 : Int) : runC spec_l1Cur_next.C (spec_l1Cur_next.O N) N spec_l1Cur_next.c1 1 (st0 [.one (.ptr 0 0)] [(87, [.sl false 5 b0_0, .int .i64 b0_1, .int .u64 b0_2])] : St D0) spec_l1Cur_next.K0 = spec_l1Cur_next.g N b0_0 b0_1 b0_2 := by
  rw [spec_l1Cur_next.c1_0]; unfold spec_l1Cur_next.g; exact (spec_l1Cur_next.o0.run N spec_l1Cur_next.c15 b0_0 b0_1 b0_2).trans (congr rfl (funext fun w0 => funext fun w1 => funext fun w2 => funext fun w3 => spec_l1Cur_next.d1.run N w0 w1 w2 w3))
theorem spec_l1Cur_next.good (N : Nat) (b0_0 : List Int) (b0_1 : Int) (b0_2 : Int) (r : spec_l1Cur_next.R) (h : spec_l1Cur_next.g N b0_0 b0_1 b0_2 = some r) : Go.PM.Good Go.Proofs.Try.prog T0 80 [.one (.ptr 0 0)] [(87, [.sl false 5 b0_0, .int .i64 b0_1, .int .u64 b0_2])] (spec_l1Cur_next.sig.ret r) (spec_l1Cur_next.sig.bs r) :=
  good_fn tabOk0 mixed0 spec_l1Cur_next.sig (spec_l1Cur_next.E N) Go.Proofs.Try.func80 (by kernel_rfl) (by kernel_rfl) 9007199254749197 0 1 [(14, [0, 3], [0])] [(false, [.any])] (by kernel_rfl) rfl ((spec_l1Cur_next.g.run N b0_0 b0_1 b0_2).trans h)
noncomputable def spec_l1Cur_next.ent (N : Nat) : Ent Go.Proofs.Try.prog T0 := mkEnt 80 [(false, [.any])] spec_l1Cur_next.sig (fun t => spec_l1Cur_next.g N t.2.1 t.2.2.1 t.2.2.2) (fun t r h => spec_l1Cur_next.good N t.2.1 t.2.2.1 t.2.2.2 r h)
end Go.Proofs.Ytpeleommbipeaaa.M

namespace Go.Proofs.Ytpeleommbipeaaa.M
open Go Go.PM Go.Proofs.Ytpeleommbipeaaa.P
set_option linter.unusedVariables false
set_option maxRecDepth 100000
/-! ### spec_l1Cur_pick -/
abbrev spec_l1Cur_pick.R : Type := Int × List Int × Int × Int
abbrev spec_l1Cur_pick.sig : Sig := ⟨[(false, 1), (false, 1)], [(87, 3)], [.ptr 0 0, .int .i64, .sl false 5, .int .i64, .int .u64], [(false, 1)], [(87, 3)], [.int .i64, .sl false 5, .int .i64, .int .u64]⟩
noncomputable def spec_l1Cur_pick.C : Cfg D0 := ⟨Go.Proofs.Try.prog, T0, 2227, 0, 20, 1, [(30, [1, 5], [0])]⟩
noncomputable def spec_l1Cur_pick.E (N : Nat) : List (Ent Go.Proofs.Try.prog T0) := [spec_l1Cur_next.ent N]
noncomputable def spec_l1Cur_pick.O (N : Nat) : Orc D0 spec_l1Cur_pick.R := orcOf (spec_l1Cur_pick.E N)
noncomputable def spec_l1Cur_pick.K0 : Ex → St D0 → Option spec_l1Cur_pick.R := exitK spec_l1Cur_pick.C Go.Proofs.Try.f66.results.toList [(false, [.any])] (decOut spec_l1Cur_pick.sig)
noncomputable def spec_l1Cur_pick.c1 : Code := codeAt (Go.Proofs.Try.f66.body.getD .skip) []
noncomputable def spec_l1Cur_pick.c2 : Code := codeAt (Go.Proofs.Try.f66.body.getD .skip) [false]
noncomputable def spec_l1Cur_pick.c6 : Code := codeAt (Go.Proofs.Try.f66.body.getD .skip) [true, false]
noncomputable def spec_l1Cur_pick.c14 : Code := codeAt (Go.Proofs.Try.f66.body.getD .skip) [true, true, false]
noncomputable def spec_l1Cur_pick.c30 : Code := codeAt (Go.Proofs.Try.f66.body.getD .skip) [true, true, true, false]
noncomputable def spec_l1Cur_pick.c31 : Code := codeAt (Go.Proofs.Try.f66.body.getD .skip) [true, true, true, true]
noncomputable def spec_l1Cur_pick.K31 (N : Nat) : Ex → St D0 → Option spec_l1Cur_pick.R := spec_l1Cur_pick.K0
noncomputable def spec_l1Cur_pick.o1 (N : Nat) (v0 : Int) (v1 : Int) (v2 : List Int) (v3 : Int) (v4 : Int) : Option spec_l1Cur_pick.R :=
 bif (v0 == 0) then
  none
 else
 some ((Int.tmod v1 v0), v2, v3, v4)
theorem spec_l1Cur_pick.o1.run (N : Nat) (v0 : Int) (v1 : Int) (v2 : List Int) (v3 : Int) (v4 : Int) : runC spec_l1Cur_pick.C (spec_l1Cur_pick.O N) N spec_l1Cur_pick.c31 31 (mkSt [(1, .one (.int .i64 v0)), (5, .one (.int .i64 v1))] [(0, some (87, [.sl false 5 v2, .int .i64 v3, .int .u64 v4]))] : St D0) spec_l1Cur_pick.K0 = spec_l1Cur_pick.o1 N v0 v1 v2 v3 v4 := by kernel_rfl
noncomputable def spec_l1Cur_pick.d1 (N : Nat) (v0 : Int) (v1 : Int) (v2 : List Int) (v3 : Int) (v4 : Int) : Option spec_l1Cur_pick.R := spec_l1Cur_pick.o1 N v0 v1 v2 v3 v4
theorem spec_l1Cur_pick.d1.run (N : Nat) (v0 : Int) (v1 : Int) (v2 : List Int) (v3 : Int) (v4 : Int) : runC spec_l1Cur_pick.C (spec_l1Cur_pick.O N) N spec_l1Cur_pick.c31 31 (mkSt [(1, .one (.int .i64 v0)), (5, .one (.int .i64 v1))] [(0, some (87, [.sl false 5 v2, .int .i64 v3, .int .u64 v4]))] : St D0) (spec_l1Cur_pick.K31 N) = spec_l1Cur_pick.d1 N v0 v1 v2 v3 v4 := by
  exact (spec_l1Cur_pick.o1.run N v0 v1 v2 v3 v4).trans rfl
noncomputable def spec_l1Cur_pick.o0 (N : Nat) (a1 : Int) (b0_0 : List Int) (b0_1 : Int) (b0_2 : Int) (c1 : Int → Int → (List Int) → Int → Int → Option spec_l1Cur_pick.R) : Option spec_l1Cur_pick.R :=
 bif (decide (a1 ≤ 1)) then
  some (0, b0_0, b0_1, b0_2)
 else
 (spec_l1Cur_next.g N b0_0 b0_1 b0_2).bind fun r1 =>
 bif (decide (a1 > 200)) then
  (spec_l1Cur_next.g N r1.2.1 r1.2.2.1 r1.2.2.2).bind fun r2 =>
  c1 a1 (w64 ((w64 (r1.1 * 256)) + r2.1)) r2.2.1 r2.2.2.1 r2.2.2.2
 else
 c1 a1 r1.1 r1.2.1 r1.2.2.1 r1.2.2.2
theorem spec_l1Cur_pick.o0.run (N : Nat) (H31 : Code) (a1 : Int) (b0_0 : List Int) (b0_1 : Int) (b0_2 : Int) : runC spec_l1Cur_pick.C (spec_l1Cur_pick.O N) N (.seq spec_l1Cur_pick.c2 (.seq spec_l1Cur_pick.c6 (.seq spec_l1Cur_pick.c14 (.seq spec_l1Cur_pick.c30 H31)))) 1 (st0 [.one (.ptr 0 0), .one (.int .i64 a1)] [(87, [.sl false 5 b0_0, .int .i64 b0_1, .int .u64 b0_2])] : St D0) spec_l1Cur_pick.K0 = spec_l1Cur_pick.o0 N a1 b0_0 b0_1 b0_2 ((fun w0 w1 w2 w3 w4 => runC spec_l1Cur_pick.C (spec_l1Cur_pick.O N) N H31 31 (mkSt [(1, .one (.int .i64 w0)), (5, .one (.int .i64 w1))] [(0, some (87, [.sl false 5 w2, .int .i64 w3, .int .u64 w4]))] : St D0) spec_l1Cur_pick.K0)) := by kernel_rfl
noncomputable def spec_l1Cur_pick.B15 (N : Nat) : St D0 → Option spec_l1Cur_pick.R := fun s' => runC spec_l1Cur_pick.C (spec_l1Cur_pick.O N) N spec_l1Cur_pick.c31 31 s' (spec_l1Cur_pick.K31 N)
noncomputable def spec_l1Cur_pick.g (N : Nat) (a1 : Int) (b0_0 : List Int) (b0_1 : Int) (b0_2 : Int) : Option spec_l1Cur_pick.R := spec_l1Cur_pick.o0 N a1 b0_0 b0_1 b0_2 ((fun w0 w1 w2 w3 w4 => spec_l1Cur_pick.d1 N w0 w1 w2 w3 w4))
theorem spec_l1Cur_pick.c1_0 : spec_l1Cur_pick.c1 = (.seq spec_l1Cur_pick.c2 (.seq spec_l1Cur_pick.c6 (.seq spec_l1Cur_pick.c14 (.seq spec_l1Cur_pick.c30 spec_l1Cur_pick.c31)))) := by kernel_rfl
theorem spec_l1Cur_pick.g.run (N : Nat) (a1 : Int) (b0_0 : List Int) (b0_1 : Int) (b0_2 : Int) : runC spec_l1Cur_pick.C (spec_l1Cur_pick.O N) N spec_l1Cur_pick.c1 1 (st0 [.one (.ptr 0 0), .one (.int .i64 a1)] [(87, [.sl false 5 b0_0, .int .i64 b0_1, .int .u64 b0_2])] : St D0) spec_l1Cur_pick.K0 = spec_l1Cur_pick.g N a1 b0_0 b0_1 b0_2 := by
  rw [spec_l1Cur_pick.c1_0]; unfold spec_l1Cur_pick.g; exact (spec_l1Cur_pick.o0.run N spec_l1Cur_pick.c31 a1 b0_0 b0_1 b0_2).trans (congr rfl (funext fun w0 => funext fun w1 => funext fun w2 => funext fun w3 => funext fun w4 => spec_l1Cur_pick.d1.run N w0 w1 w2 w3 w4))
theorem spec_l1Cur_pick.good (N : Nat) (a1 : Int) (b0_0 : List Int) (b0_1 : Int) (b0_2 : Int) (r : spec_l1Cur_pick.R) (h : spec_l1Cur_pick.g N a1 b0_0 b0_1 b0_2 = some r) : Go.PM.Good Go.Proofs.Try.prog T0 66 [.one (.ptr 0 0), .one (.int .i64 a1)] [(87, [.sl false 5 b0_0, .int .i64 b0_1, .int .u64 b0_2])] (spec_l1Cur_pick.sig.ret r) (spec_l1Cur_pick.sig.bs r) :=
  good_fn tabOk0 mixed0 spec_l1Cur_pick.sig (spec_l1Cur_pick.E N) Go.Proofs.Try.func66 (by kernel_rfl) (by kernel_rfl) 2227 0 1 [(30, [1, 5], [0])] [(false, [.any])] (by kernel_rfl) rfl ((spec_l1Cur_pick.g.run N a1 b0_0 b0_1 b0_2).trans h)
noncomputable def spec_l1Cur_pick.ent (N : Nat) : Ent Go.Proofs.Try.prog T0 := mkEnt 66 [(false, [.any]), (false, [.any])] spec_l1Cur_pick.sig (fun t => spec_l1Cur_pick.g N t.2.1 t.2.2.1 t.2.2.2.1 t.2.2.2.2) (fun t r h => spec_l1Cur_pick.good N t.2.1 t.2.2.1 t.2.2.2.1 t.2.2.2.2 r h)
end Go.Proofs.Ytpeleommbipeaaa.M

namespace Go.Proofs.Ytpeleommbipeaaa.M
open Go Go.PM Go.Proofs.Ytpeleommbipeaaa.P
set_option linter.unusedVariables false
set_option maxRecDepth 100000
/-! ### spec_l1Cur_among -/
abbrev spec_l1Cur_among.R : Type := Int × List Int × Int × Int
abbrev spec_l1Cur_among.sig : Sig := ⟨[(false, 1), (false, 1)], [(87, 3)], [.ptr 0 0, .sl false 3, .sl false 5, .int .i64, .int .u64], [(false, 1)], [(87, 3)], [.int .i64, .sl false 5, .int .i64, .int .u64]⟩
noncomputable def spec_l1Cur_among.C : Cfg D0 := ⟨Go.Proofs.Try.prog, T0, 19, 0, 12, 1, []⟩
noncomputable def spec_l1Cur_among.E (N : Nat) : List (Ent Go.Proofs.Try.prog T0) := [spec_l1Cur_pick.ent N]
noncomputable def spec_l1Cur_among.O (N : Nat) : Orc D0 spec_l1Cur_among.R := orcOf (spec_l1Cur_among.E N)
noncomputable def spec_l1Cur_among.K0 : Ex → St D0 → Option spec_l1Cur_among.R := exitK spec_l1Cur_among.C Go.Proofs.Try.f65.results.toList [(false, [.any])] (decOut spec_l1Cur_among.sig)
noncomputable def spec_l1Cur_among.c1 : Code := codeAt (Go.Proofs.Try.f65.body.getD .skip) []
noncomputable def spec_l1Cur_among.o0 (N : Nat) (a1 : List Int) (b0_0 : List Int) (b0_1 : Int) (b0_2 : Int) : Option spec_l1Cur_among.R :=
 (spec_l1Cur_pick.g N (a1.length : Int) b0_0 b0_1 b0_2).bind fun r1 =>
 bif (decide (0 ≤ r1.1)) then
  bif (decide (r1.1 < (a1.length : Int))) then
   (a1[(r1.1 : Int).toNat]?).bind fun x2 =>
   some (x2, r1.2.1, r1.2.2.1, r1.2.2.2)
  else
  none
 else
 none
theorem spec_l1Cur_among.o0.run (N : Nat) (a1 : List Int) (b0_0 : List Int) (b0_1 : Int) (b0_2 : Int) : runC spec_l1Cur_among.C (spec_l1Cur_among.O N) N spec_l1Cur_among.c1 1 (st0 [.one (.ptr 0 0), .one (.sl false 3 a1)] [(87, [.sl false 5 b0_0, .int .i64 b0_1, .int .u64 b0_2])] : St D0) spec_l1Cur_among.K0 = spec_l1Cur_among.o0 N a1 b0_0 b0_1 b0_2 := by kernel_rfl
noncomputable def spec_l1Cur_among.g (N : Nat) (a1 : List Int) (b0_0 : List Int) (b0_1 : Int) (b0_2 : Int) : Option spec_l1Cur_among.R := spec_l1Cur_among.o0 N a1 b0_0 b0_1 b0_2
theorem spec_l1Cur_among.g.run (N : Nat) (a1 : List Int) (b0_0 : List Int) (b0_1 : Int) (b0_2 : Int) : runC spec_l1Cur_among.C (spec_l1Cur_among.O N) N spec_l1Cur_among.c1 1 (st0 [.one (.ptr 0 0), .one (.sl false 3 a1)] [(87, [.sl false 5 b0_0, .int .i64 b0_1, .int .u64 b0_2])] : St D0) spec_l1Cur_among.K0 = spec_l1Cur_among.g N a1 b0_0 b0_1 b0_2 := by
  exact (spec_l1Cur_among.o0.run N a1 b0_0 b0_1 b0_2).trans rfl
theorem spec_l1Cur_among.good (N : Nat) (a1 : List Int) (b0_0 : List Int) (b0_1 : Int) (b0_2 : Int) (r : spec_l1Cur_among.R) (h : spec_l1Cur_among.g N a1 b0_0 b0_1 b0_2 = some r) : Go.PM.Good Go.Proofs.Try.prog T0 65 [.one (.ptr 0 0), .one (.sl false 3 a1)] [(87, [.sl false 5 b0_0, .int .i64 b0_1, .int .u64 b0_2])] (spec_l1Cur_among.sig.ret r) (spec_l1Cur_among.sig.bs r) :=
  good_fn tabOk0 mixed0 spec_l1Cur_among.sig (spec_l1Cur_among.E N) Go.Proofs.Try.func65 (by kernel_rfl) (by kernel_rfl) 19 0 1 [] [(false, [.any])] (by kernel_rfl) rfl ((spec_l1Cur_among.g.run N a1 b0_0 b0_1 b0_2).trans h)
noncomputable def spec_l1Cur_among.ent (N : Nat) : Ent Go.Proofs.Try.prog T0 := mkEnt 65 [(false, [.any]), (false, [.ro 3])] spec_l1Cur_among.sig (fun t => spec_l1Cur_among.g N t.2.1 t.2.2.1 t.2.2.2.1 t.2.2.2.2) (fun t r h => spec_l1Cur_among.good N t.2.1 t.2.2.1 t.2.2.2.1 t.2.2.2.2 r h)
end Go.Proofs.Ytpeleommbipeaaa.M

namespace Go.Proofs.Ytpeleommbipeaaa.M
open Go Go.PM Go.Proofs.Ytpeleommbipeaaa.P
set_option linter.unusedVariables false
set_option maxRecDepth 100000
/-! ### spec_l1Cur_one -/
abbrev spec_l1Cur_one.R : Type := Bool × List Int × Int × Int
abbrev spec_l1Cur_one.sig : Sig := ⟨[(false, 1), (false, 1)], [(87, 3)], [.ptr 0 0, .int .i64, .sl false 5, .int .i64, .int .u64], [(false, 1)], [(87, 3)], [.bool, .sl false 5, .int .i64, .int .u64]⟩
noncomputable def spec_l1Cur_one.C : Cfg D0 := ⟨Go.Proofs.Try.prog, T0, 19, 0, 9, 1, []⟩
noncomputable def spec_l1Cur_one.E (N : Nat) : List (Ent Go.Proofs.Try.prog T0) := [spec_l1Cur_pick.ent N]
noncomputable def spec_l1Cur_one.O (N : Nat) : Orc D0 spec_l1Cur_one.R := orcOf (spec_l1Cur_one.E N)
noncomputable def spec_l1Cur_one.K0 : Ex → St D0 → Option spec_l1Cur_one.R := exitK spec_l1Cur_one.C Go.Proofs.Try.f63.results.toList [(false, [.any])] (decOut spec_l1Cur_one.sig)
noncomputable def spec_l1Cur_one.c1 : Code := codeAt (Go.Proofs.Try.f63.body.getD .skip) []
noncomputable def spec_l1Cur_one.o0 (N : Nat) (a1 : Int) (b0_0 : List Int) (b0_1 : Int) (b0_2 : Int) : Option spec_l1Cur_one.R :=
 (spec_l1Cur_pick.g N a1 b0_0 b0_1 b0_2).bind fun r1 =>
 some ((r1.1 == 0), r1.2.1, r1.2.2.1, r1.2.2.2)
theorem spec_l1Cur_one.o0.run (N : Nat) (a1 : Int) (b0_0 : List Int) (b0_1 : Int) (b0_2 : Int) : runC spec_l1Cur_one.C (spec_l1Cur_one.O N) N spec_l1Cur_one.c1 1 (st0 [.one (.ptr 0 0), .one (.int .i64 a1)] [(87, [.sl false 5 b0_0, .int .i64 b0_1, .int .u64 b0_2])] : St D0) spec_l1Cur_one.K0 = spec_l1Cur_one.o0 N a1 b0_0 b0_1 b0_2 := by kernel_rfl
noncomputable def spec_l1Cur_one.g (N : Nat) (a1 : Int) (b0_0 : List Int) (b0_1 : Int) (b0_2 : Int) : Option spec_l1Cur_one.R := spec_l1Cur_one.o0 N a1 b0_0 b0_1 b0_2
theorem spec_l1Cur_one.g.run (N : Nat) (a1 : Int) (b0_0 : List Int) (b0_1 : Int) (b0_2 : Int) : runC spec_l1Cur_one.C (spec_l1Cur_one.O N) N spec_l1Cur_one.c1 1 (st0 [.one (.ptr 0 0), .one (.int .i64 a1)] [(87, [.sl false 5 b0_0, .int .i64 b0_1, .int .u64 b0_2])] : St D0) spec_l1Cur_one.K0 = spec_l1Cur_one.g N a1 b0_0 b0_1 b0_2 := by
  exact (spec_l1Cur_one.o0.run N a1 b0_0 b0_1 b0_2).trans rfl
theorem spec_l1Cur_one.good (N : Nat) (a1 : Int) (b0_0 : List Int) (b0_1 : Int) (b0_2 : Int) (r : spec_l1Cur_one.R) (h : spec_l1Cur_one.g N a1 b0_0 b0_1 b0_2 = some r) : Go.PM.Good Go.Proofs.Try.prog T0 63 [.one (.ptr 0 0), .one (.int .i64 a1)] [(87, [.sl false 5 b0_0, .int .i64 b0_1, .int .u64 b0_2])] (spec_l1Cur_one.sig.ret r) (spec_l1Cur_one.sig.bs r) :=
  good_fn tabOk0 mixed0 spec_l1Cur_one.sig (spec_l1Cur_one.E N) Go.Proofs.Try.func63 (by kernel_rfl) (by kernel_rfl) 19 0 1 [] [(false, [.any])] (by kernel_rfl) rfl ((spec_l1Cur_one.g.run N a1 b0_0 b0_1 b0_2).trans h)
noncomputable def spec_l1Cur_one.ent (N : Nat) : Ent Go.Proofs.Try.prog T0 := mkEnt 63 [(false, [.any]), (false, [.any])] spec_l1Cur_one.sig (fun t => spec_l1Cur_one.g N t.2.1 t.2.2.1 t.2.2.2.1 t.2.2.2.2) (fun t r h => spec_l1Cur_one.good N t.2.1 t.2.2.1 t.2.2.2.1 t.2.2.2.2 r h)
end Go.Proofs.Ytpeleommbipeaaa.M

namespace Go.Proofs.Ytpeleommbipeaaa.M
open Go Go.PM Go.Proofs.Ytpeleommbipeaaa.P
set_option linter.unusedVariables false
set_option maxRecDepth 100000
/-! ### spec_l1Cur_hours -/
abbrev spec_l1Cur_hours.R : Type := Int × List Int × Int × Int
abbrev spec_l1Cur_hours.sig : Sig := ⟨[(false, 1)], [(87, 3)], [.ptr 0 0, .sl false 5, .int .i64, .int .u64], [(false, 1)], [(87, 3)], [.int .i64, .sl false 5, .int .i64, .int .u64]⟩
noncomputable def spec_l1Cur_hours.C : Cfg D0 := ⟨Go.Proofs.Try.prog, T0, 5, 0, 6, 1, []⟩
noncomputable def spec_l1Cur_hours.E (N : Nat) : List (Ent Go.Proofs.Try.prog T0) := [spec_l1Cur_among.ent N]
noncomputable def spec_l1Cur_hours.O (N : Nat) : Orc D0 spec_l1Cur_hours.R := orcOf (spec_l1Cur_hours.E N)
noncomputable def spec_l1Cur_hours.K0 : Ex → St D0 → Option spec_l1Cur_hours.R := exitK spec_l1Cur_hours.C Go.Proofs.Try.f64.results.toList [(false, [.any])] (decOut spec_l1Cur_hours.sig)
noncomputable def spec_l1Cur_hours.c1 : Code := codeAt (Go.Proofs.Try.f64.body.getD .skip) []
noncomputable def spec_l1Cur_hours.o0 (N : Nat) (b0_0 : List Int) (b0_1 : Int) (b0_2 : Int) : Option spec_l1Cur_hours.R :=
 (spec_l1Cur_among.g N ([12, 24, 10, 12, 24, 6, 2, 3, 5, 12, 1, 25, 0] : List Int) b0_0 b0_1 b0_2).bind fun r1 =>
 some (r1.1, r1.2.1, r1.2.2.1, r1.2.2.2)
theorem spec_l1Cur_hours.o0.run (N : Nat) (b0_0 : List Int) (b0_1 : Int) (b0_2 : Int) : runC spec_l1Cur_hours.C (spec_l1Cur_hours.O N) N spec_l1Cur_hours.c1 1 (st0 [.one (.ptr 0 0)] [(87, [.sl false 5 b0_0, .int .i64 b0_1, .int .u64 b0_2])] : St D0) spec_l1Cur_hours.K0 = spec_l1Cur_hours.o0 N b0_0 b0_1 b0_2 := by kernel_rfl
noncomputable def spec_l1Cur_hours.g (N : Nat) (b0_0 : List Int) (b0_1 : Int) (b0_2 : Int) : Option spec_l1Cur_hours.R := spec_l1Cur_hours.o0 N b0_0 b0_1 b0_2
theorem spec_l1Cur_hours.g.run (N : Nat) (b0_0 : List Int) (b0_1 : Int) (b0_2 : Int) : runC spec_l1Cur_hours.C (spec_l1Cur_hours.O N) N spec_l1Cur_hours.c1 1 (st0 [.one (.ptr 0 0)] [(87, [.sl false 5 b0_0, .int .i64 b0_1, .int .u64 b0_2])] : St D0) spec_l1Cur_hours.K0 = spec_l1Cur_hours.g N b0_0 b0_1 b0_2 := by
  exact (spec_l1Cur_hours.o0.run N b0_0 b0_1 b0_2).trans rfl
theorem spec_l1Cur_hours.good (N : Nat) (b0_0 : List Int) (b0_1 : Int) (b0_2 : Int) (r : spec_l1Cur_hours.R) (h : spec_l1Cur_hours.g N b0_0 b0_1 b0_2 = some r) : Go.PM.Good Go.Proofs.Try.prog T0 64 [.one (.ptr 0 0)] [(87, [.sl false 5 b0_0, .int .i64 b0_1, .int .u64 b0_2])] (spec_l1Cur_hours.sig.ret r) (spec_l1Cur_hours.sig.bs r) :=
  good_fn tabOk0 mixed0 spec_l1Cur_hours.sig (spec_l1Cur_hours.E N) Go.Proofs.Try.func64 (by kernel_rfl) (by kernel_rfl) 5 0 1 [] [(false, [.any])] (by kernel_rfl) rfl ((spec_l1Cur_hours.g.run N b0_0 b0_1 b0_2).trans h)
noncomputable def spec_l1Cur_hours.ent (N : Nat) : Ent Go.Proofs.Try.prog T0 := mkEnt 64 [(false, [.any])] spec_l1Cur_hours.sig (fun t => spec_l1Cur_hours.g N t.2.1 t.2.2.1 t.2.2.2) (fun t r h => spec_l1Cur_hours.good N t.2.1 t.2.2.1 t.2.2.2 r h)
end Go.Proofs.Ytpeleommbipeaaa.M

namespace Go.Proofs.Ytpeleommbipeaaa.M
open Go Go.PM Go.Proofs.Ytpeleommbipeaaa.P
set_option linter.unusedVariables false
set_option maxRecDepth 100000
/-! ### spec_l1Least -/
abbrev spec_l1Least.R : Type := Int
abbrev spec_l1Least.sig : Sig := ⟨[(false, 1), (false, 1)], [], [.int .i64, .int .i64], [(false, 1)], [], [.int .i64]⟩
noncomputable def spec_l1Least.C : Cfg D0 := ⟨Go.Proofs.Try.prog, T0, 147, 0, 10, 0, []⟩
noncomputable def spec_l1Least.E (N : Nat) : List (Ent Go.Proofs.Try.prog T0) := []
noncomputable def spec_l1Least.O (N : Nat) : Orc D0 spec_l1Least.R := orcOf (spec_l1Least.E N)
noncomputable def spec_l1Least.K0 : Ex → St D0 → Option spec_l1Least.R := exitK spec_l1Least.C Go.Proofs.Try.f71.results.toList [(false, [.any])] (decOut spec_l1Least.sig)
noncomputable def spec_l1Least.c1 : Code := codeAt (Go.Proofs.Try.f71.body.getD .skip) []
noncomputable def spec_l1Least.o0 (N : Nat) (a0 : Int) (a1 : Int) : Option spec_l1Least.R :=
 bif (decide (a0 < a1)) then
  some (a0)
 else
 some (a1)
theorem spec_l1Least.o0.run (N : Nat) (a0 : Int) (a1 : Int) : runC spec_l1Least.C (spec_l1Least.O N) N spec_l1Least.c1 1 (st0 [.one (.int .i64 a0), .one (.int .i64 a1)] [] : St D0) spec_l1Least.K0 = spec_l1Least.o0 N a0 a1 := by kernel_rfl
noncomputable def spec_l1Least.g (N : Nat) (a0 : Int) (a1 : Int) : Option spec_l1Least.R := spec_l1Least.o0 N a0 a1
theorem spec_l1Least.g.run (N : Nat) (a0 : Int) (a1 : Int) : runC spec_l1Least.C (spec_l1Least.O N) N spec_l1Least.c1 1 (st0 [.one (.int .i64 a0), .one (.int .i64 a1)] [] : St D0) spec_l1Least.K0 = spec_l1Least.g N a0 a1 := by
  exact (spec_l1Least.o0.run N a0 a1).trans rfl
theorem spec_l1Least.good (N : Nat) (a0 : Int) (a1 : Int) (r : spec_l1Least.R) (h : spec_l1Least.g N a0 a1 = some r) : Go.PM.Good Go.Proofs.Try.prog T0 71 [.one (.int .i64 a0), .one (.int .i64 a1)] [] (spec_l1Least.sig.ret r) (spec_l1Least.sig.bs r) :=
  good_fn tabOk0 mixed0 spec_l1Least.sig (spec_l1Least.E N) Go.Proofs.Try.func71 (by kernel_rfl) (by kernel_rfl) 147 0 0 [] [(false, [.any])] (by kernel_rfl) rfl ((spec_l1Least.g.run N a0 a1).trans h)
noncomputable def spec_l1Least.ent (N : Nat) : Ent Go.Proofs.Try.prog T0 := mkEnt 71 [(false, [.any]), (false, [.any])] spec_l1Least.sig (fun t => spec_l1Least.g N t.1 t.2) (fun t r h => spec_l1Least.good N t.1 t.2 r h)
end Go.Proofs.Ytpeleommbipeaaa.M

namespace Go.Proofs.Ytpeleommbipeaaa.M
open Go Go.PM Go.Proofs.Ytpeleommbipeaaa.P
set_option linter.unusedVariables false
set_option maxRecDepth 100000
/-! ### spec_DrawMakePuzzle -/
abbrev spec_DrawMakePuzzle.R : Type := Int × Int × Int × Int
abbrev spec_DrawMakePuzzle.sig : Sig := ⟨[(false, 1)], [], [.sl false 5], [(false, 1), (false, 1), (false, 1), (false, 1)], [], [.int .i64, .int .i64, .int .i64, .int .i64]⟩
noncomputable def spec_DrawMakePuzzle.C : Cfg D0 := ⟨Go.Proofs.Try.prog, T0, 4349, 0, 36, 0, []⟩
noncomputable def spec_DrawMakePuzzle.E (N : Nat) : List (Ent Go.Proofs.Try.prog T0) := [spec_l1Cur_one.ent N, spec_l1Cur_hours.ent N, spec_l1Cur_among.ent N, spec_l1Cur_pick.ent N]
noncomputable def spec_DrawMakePuzzle.O (N : Nat) : Orc D0 spec_DrawMakePuzzle.R := orcOf (spec_DrawMakePuzzle.E N)
noncomputable def spec_DrawMakePuzzle.K0 : Ex → St D0 → Option spec_DrawMakePuzzle.R := exitK spec_DrawMakePuzzle.C Go.Proofs.Try.f33.results.toList [(false, [.any]), (false, [.any]), (false, [.any]), (false, [.any])] (decOut spec_DrawMakePuzzle.sig)
noncomputable def spec_DrawMakePuzzle.c1 : Code := codeAt (Go.Proofs.Try.f33.body.getD .skip) []
noncomputable def spec_DrawMakePuzzle.o0 (N : Nat) (a0 : List Int) : Option spec_DrawMakePuzzle.R :=
 (spec_l1Cur_one.g N 12 a0 0 0).bind fun r1 =>
 bif r1.1 then
  (spec_l1Cur_hours.g N r1.2.1 r1.2.2.1 r1.2.2.2).bind fun r2 =>
  (spec_l1Cur_among.g N ([(-1), 0, 119, 120] : List Int) r2.2.1 r2.2.2.1 r2.2.2.2).bind fun r3 =>
  (spec_l1Cur_among.g N ([(-1), 6, 7] : List Int) r3.2.1 r3.2.2.1 r3.2.2.2).bind fun r4 =>
  (spec_l1Cur_among.g N ([(-1), 9999, 10000] : List Int) r4.2.1 r4.2.2.1 r4.2.2.2).bind fun r5 =>
  some (r2.1, r3.1, r4.1, r5.1)
 else
 (spec_l1Cur_pick.g N 23 r1.2.1 r1.2.2.1 r1.2.2.2).bind fun r6 =>
 (spec_l1Cur_pick.g N (w64 (60 * (w64 (2 + r6.1)))) r6.2.1 r6.2.2.1 r6.2.2.2).bind fun r7 =>
 (spec_l1Cur_pick.g N 7 r7.2.1 r7.2.2.1 r7.2.2.2).bind fun r8 =>
 (spec_l1Cur_pick.g N 10000 r8.2.1 r8.2.2.1 r8.2.2.2).bind fun r9 =>
 some ((w64 (2 + r6.1)), r7.1, r8.1, r9.1)
theorem spec_DrawMakePuzzle.o0.run (N : Nat) (a0 : List Int) : runC spec_DrawMakePuzzle.C (spec_DrawMakePuzzle.O N) N spec_DrawMakePuzzle.c1 1 (st0 [.one (.sl false 5 a0)] [] : St D0) spec_DrawMakePuzzle.K0 = spec_DrawMakePuzzle.o0 N a0 := by kernel_rfl
noncomputable def spec_DrawMakePuzzle.g (N : Nat) (a0 : List Int) : Option spec_DrawMakePuzzle.R := spec_DrawMakePuzzle.o0 N a0
theorem spec_DrawMakePuzzle.g.run (N : Nat) (a0 : List Int) : runC spec_DrawMakePuzzle.C (spec_DrawMakePuzzle.O N) N spec_DrawMakePuzzle.c1 1 (st0 [.one (.sl false 5 a0)] [] : St D0) spec_DrawMakePuzzle.K0 = spec_DrawMakePuzzle.g N a0 := by
  exact (spec_DrawMakePuzzle.o0.run N a0).trans rfl
theorem spec_DrawMakePuzzle.good (N : Nat) (a0 : List Int) (r : spec_DrawMakePuzzle.R) (h : spec_DrawMakePuzzle.g N a0 = some r) : Go.PM.Good Go.Proofs.Try.prog T0 33 [.one (.sl false 5 a0)] [] (spec_DrawMakePuzzle.sig.ret r) (spec_DrawMakePuzzle.sig.bs r) :=
  good_fn tabOk0 mixed0 spec_DrawMakePuzzle.sig (spec_DrawMakePuzzle.E N) Go.Proofs.Try.func33 (by kernel_rfl) (by kernel_rfl) 4349 0 0 [] [(false, [.any]), (false, [.any]), (false, [.any]), (false, [.any])] (by kernel_rfl) rfl ((spec_DrawMakePuzzle.g.run N a0).trans h)
noncomputable def spec_DrawMakePuzzle.ent (N : Nat) : Ent Go.Proofs.Try.prog T0 := mkEnt 33 [(false, [.ro 5])] spec_DrawMakePuzzle.sig (fun t => spec_DrawMakePuzzle.g N t) (fun t r h => spec_DrawMakePuzzle.good N t r h)
end Go.Proofs.Ytpeleommbipeaaa.M

namespace Go.Proofs.Ytpeleommbipeaaa.M
open Go Go.PM Go.Proofs.Ytpeleommbipeaaa.P
set_option linter.unusedVariables false
set_option maxRecDepth 100000
/-! ### spec_l1Cur_surePuzzle -/
abbrev spec_l1Cur_surePuzzle.R : Type := Int × List S38 × List Int × Int × Int
abbrev spec_l1Cur_surePuzzle.sig : Sig := ⟨[(false, 1), (false, 1)], [(87, 3)], [.ptr 0 0, .int .i64, .sl false 5, .int .i64, .int .u64], [(true, 2)], [(87, 3)], [.int .i64, .sl true 38, .sl false 5, .int .i64, .int .u64]⟩
noncomputable def spec_l1Cur_surePuzzle.C : Cfg D0 := ⟨Go.Proofs.Try.prog, T0, 8389107, 549890031616, 40, 1, [(250, [0, 4, 5, 6, 7, 8], [0, 4, 7])]⟩
noncomputable def spec_l1Cur_surePuzzle.E (N : Nat) : List (Ent Go.Proofs.Try.prog T0) := [spec_l1Cur_pick.ent N, spec_pzOf.ent N]
noncomputable def spec_l1Cur_surePuzzle.O (N : Nat) : Orc D0 spec_l1Cur_surePuzzle.R := orcOf (spec_l1Cur_surePuzzle.E N)
noncomputable def spec_l1Cur_surePuzzle.K0 : Ex → St D0 → Option spec_l1Cur_surePuzzle.R := exitK spec_l1Cur_surePuzzle.C Go.Proofs.Try.f67.results.toList [(true, [.any, .own 38])] (decOut spec_l1Cur_surePuzzle.sig)
noncomputable def spec_l1Cur_surePuzzle.c1 : Code := codeAt (Go.Proofs.Try.f67.body.getD .skip) []
noncomputable def spec_l1Cur_surePuzzle.c2 : Code := codeAt (Go.Proofs.Try.f67.body.getD .skip) [false]
noncomputable def spec_l1Cur_surePuzzle.c6 : Code := codeAt (Go.Proofs.Try.f67.body.getD .skip) [true, false]
noncomputable def spec_l1Cur_surePuzzle.c14 : Code := codeAt (Go.Proofs.Try.f67.body.getD .skip) [true, true, false]
noncomputable def spec_l1Cur_surePuzzle.c30 : Code := codeAt (Go.Proofs.Try.f67.body.getD .skip) [true, true, true, false]
noncomputable def spec_l1Cur_surePuzzle.c63 : Code := codeAt (Go.Proofs.Try.f67.body.getD .skip) [true, true, true, true, true]
noncomputable def spec_l1Cur_surePuzzle.c124 : Code := codeAt (Go.Proofs.Try.f67.body.getD .skip) [true, true, true, true, false, false]
noncomputable def spec_l1Cur_surePuzzle.c500 : Code := codeAt (Go.Proofs.Try.f67.body.getD .skip) [true, true, true, true, false, true, false, false]
noncomputable def spec_l1Cur_surePuzzle.K500 (N : Nat) (Kn250 : St D0 → Option spec_l1Cur_surePuzzle.R) : Ex → St D0 → Option spec_l1Cur_surePuzzle.R := (onN (fun s => spec_l1Cur_surePuzzle.C.tidy 250 s ((onN Kn250 (blockK 0 (onN (fun s => spec_l1Cur_surePuzzle.C.tidy 62 s (fun s' => runC spec_l1Cur_surePuzzle.C (spec_l1Cur_surePuzzle.O N) N spec_l1Cur_surePuzzle.c63 63 s' spec_l1Cur_surePuzzle.K0)) spec_l1Cur_surePuzzle.K0))) .normal)) (onN Kn250 (blockK 0 (onN (fun s => spec_l1Cur_surePuzzle.C.tidy 62 s (fun s' => runC spec_l1Cur_surePuzzle.C (spec_l1Cur_surePuzzle.O N) N spec_l1Cur_surePuzzle.c63 63 s' spec_l1Cur_surePuzzle.K0)) spec_l1Cur_surePuzzle.K0))))
noncomputable def spec_l1Cur_surePuzzle.o1 (N : Nat) (v0 : Int) (v1 : Int) (v2 : Int) (v3 : List Int) (v4 : Int) (v5 : Int) (v6 : Int) (v7 : Int) (c2 : Int → Int → Int → (List Int) → Int → Int → Int → Int → (List S38) → Option spec_l1Cur_surePuzzle.R) : Option spec_l1Cur_surePuzzle.R :=
 bif (decide (v2 > 0)) then
  (spec_l1Cur_pick.g N 6 v3 v4 v5).bind fun r1 =>
  (spec_l1Cur_pick.g N 59 r1.2.1 r1.2.2.1 r1.2.2.2).bind fun r2 =>
  (spec_pzOf.g N v0 r1.1 (w64 (2 + r2.1)) v1).bind fun r3 =>
  bif (Nat.blt (([] : List S38).length + ([(⟨r3.1, r3.2.1, r3.2.2⟩ : S38)] : List S38).length) 5864062014805) then
   c2 v0 v1 (w64 (v2 - 1)) r2.2.1 r2.2.2.1 r2.2.2.2 v6 v7 (([] : List S38) ++ ([(⟨r3.1, r3.2.1, r3.2.2⟩ : S38)] : List S38))
  else
  none
 else
 some (v7, ([] : List S38), v3, v4, v5)
theorem spec_l1Cur_surePuzzle.o1.run (N : Nat) (Kn250 : St D0 → Option spec_l1Cur_surePuzzle.R) (v0 : Int) (v1 : Int) (v2 : Int) (v3 : List Int) (v4 : Int) (v5 : Int) (v6 : Int) (v7 : Int) : runC spec_l1Cur_surePuzzle.C (spec_l1Cur_surePuzzle.O N) N spec_l1Cur_surePuzzle.c500 500 (mkSt [(0, .one (.ptr 0 0)), (4, .one (.ptr 4 0)), (5, .one (.int .i64 v0)), (6, .one (.int .i64 v1)), (7, .one (.ptr 7 0)), (8, .one (.int .i64 v2))] [(0, some (87, [.sl false 5 v3, .int .i64 v4, .int .u64 v5])), (4, some (24, [.int .i64 v6, .nl])), (7, some (24, [.int .i64 v7, .nl]))] : St D0) (onN (fun s => spec_l1Cur_surePuzzle.C.tidy 250 s ((onN Kn250 (blockK 0 (onN (fun s => spec_l1Cur_surePuzzle.C.tidy 62 s (fun s' => runC spec_l1Cur_surePuzzle.C (spec_l1Cur_surePuzzle.O N) N spec_l1Cur_surePuzzle.c63 63 s' spec_l1Cur_surePuzzle.K0)) spec_l1Cur_surePuzzle.K0))) .normal)) (onN Kn250 (blockK 0 (onN (fun s => spec_l1Cur_surePuzzle.C.tidy 62 s (fun s' => runC spec_l1Cur_surePuzzle.C (spec_l1Cur_surePuzzle.O N) N spec_l1Cur_surePuzzle.c63 63 s' spec_l1Cur_surePuzzle.K0)) spec_l1Cur_surePuzzle.K0)))) = spec_l1Cur_surePuzzle.o1 N v0 v1 v2 v3 v4 v5 v6 v7 ((fun w0 w1 w2 w3 w4 w5 w6 w7 w8 => Kn250 (mkSt [(0, .one (.ptr 0 0)), (4, .one (.ptr 4 0)), (5, .one (.int .i64 w0)), (6, .one (.int .i64 w1)), (7, .one (.ptr 7 0)), (8, .one (.int .i64 w2))] [(0, some (87, [.sl false 5 w3, .int .i64 w4, .int .u64 w5])), (4, some (24, [.int .i64 w6, .nl])), (7, some (24, [.int .i64 w7, .sl true 38 w8]))] : St D0))) := by kernel_rfl
noncomputable def spec_l1Cur_surePuzzle.d1 (N : Nat) (v0 : Int) (v1 : Int) (v2 : Int) (v3 : List Int) (v4 : Int) (v5 : Int) (v6 : Int) (v7 : Int) (c2 : Int → Int → Int → (List Int) → Int → Int → Int → Int → (List S38) → Option spec_l1Cur_surePuzzle.R) : Option spec_l1Cur_surePuzzle.R := spec_l1Cur_surePuzzle.o1 N v0 v1 v2 v3 v4 v5 v6 v7 c2
theorem spec_l1Cur_surePuzzle.d1.run (N : Nat) (Kn250 : St D0 → Option spec_l1Cur_surePuzzle.R) (v0 : Int) (v1 : Int) (v2 : Int) (v3 : List Int) (v4 : Int) (v5 : Int) (v6 : Int) (v7 : Int) : runC spec_l1Cur_surePuzzle.C (spec_l1Cur_surePuzzle.O N) N spec_l1Cur_surePuzzle.c500 500 (mkSt [(0, .one (.ptr 0 0)), (4, .one (.ptr 4 0)), (5, .one (.int .i64 v0)), (6, .one (.int .i64 v1)), (7, .one (.ptr 7 0)), (8, .one (.int .i64 v2))] [(0, some (87, [.sl false 5 v3, .int .i64 v4, .int .u64 v5])), (4, some (24, [.int .i64 v6, .nl])), (7, some (24, [.int .i64 v7, .nl]))] : St D0) (spec_l1Cur_surePuzzle.K500 N Kn250) = spec_l1Cur_surePuzzle.d1 N v0 v1 v2 v3 v4 v5 v6 v7 ((fun w0 w1 w2 w3 w4 w5 w6 w7 w8 => Kn250 (mkSt [(0, .one (.ptr 0 0)), (4, .one (.ptr 4 0)), (5, .one (.int .i64 w0)), (6, .one (.int .i64 w1)), (7, .one (.ptr 7 0)), (8, .one (.int .i64 w2))] [(0, some (87, [.sl false 5 w3, .int .i64 w4, .int .u64 w5])), (4, some (24, [.int .i64 w6, .nl])), (7, some (24, [.int .i64 w7, .sl true 38 w8]))] : St D0))) := by
  exact (spec_l1Cur_surePuzzle.o1.run N Kn250 v0 v1 v2 v3 v4 v5 v6 v7).trans rfl
noncomputable def spec_l1Cur_surePuzzle.o2 (N : Nat) (v0 : Int) (v1 : Int) (v2 : Int) (v3 : List Int) (v4 : Int) (v5 : Int) (v6 : Int) (v7 : Int) (v8 : List S38) (c2 : Int → Int → Int → (List Int) → Int → Int → Int → Int → (List S38) → Option spec_l1Cur_surePuzzle.R) : Option spec_l1Cur_surePuzzle.R :=
 bif (decide (v2 > 0)) then
  (spec_l1Cur_pick.g N 6 v3 v4 v5).bind fun r1 =>
  (spec_l1Cur_pick.g N 59 r1.2.1 r1.2.2.1 r1.2.2.2).bind fun r2 =>
  (spec_pzOf.g N v0 r1.1 (w64 (2 + r2.1)) v1).bind fun r3 =>
  bif (Nat.blt (v8.length + ([(⟨r3.1, r3.2.1, r3.2.2⟩ : S38)] : List S38).length) 5864062014805) then
   c2 v0 v1 (w64 (v2 - 1)) r2.2.1 r2.2.2.1 r2.2.2.2 v6 v7 (v8 ++ ([(⟨r3.1, r3.2.1, r3.2.2⟩ : S38)] : List S38))
  else
  none
 else
 some (v7, v8, v3, v4, v5)
theorem spec_l1Cur_surePuzzle.o2.run (N : Nat) (Kn250 : St D0 → Option spec_l1Cur_surePuzzle.R) (v0 : Int) (v1 : Int) (v2 : Int) (v3 : List Int) (v4 : Int) (v5 : Int) (v6 : Int) (v7 : Int) (v8 : List S38) : runC spec_l1Cur_surePuzzle.C (spec_l1Cur_surePuzzle.O N) N spec_l1Cur_surePuzzle.c500 500 (mkSt [(0, .one (.ptr 0 0)), (4, .one (.ptr 4 0)), (5, .one (.int .i64 v0)), (6, .one (.int .i64 v1)), (7, .one (.ptr 7 0)), (8, .one (.int .i64 v2))] [(0, some (87, [.sl false 5 v3, .int .i64 v4, .int .u64 v5])), (4, some (24, [.int .i64 v6, .nl])), (7, some (24, [.int .i64 v7, .sl true 38 v8]))] : St D0) (onN (fun s => spec_l1Cur_surePuzzle.C.tidy 250 s ((onN Kn250 (blockK 0 (onN (fun s => spec_l1Cur_surePuzzle.C.tidy 62 s (fun s' => runC spec_l1Cur_surePuzzle.C (spec_l1Cur_surePuzzle.O N) N spec_l1Cur_surePuzzle.c63 63 s' spec_l1Cur_surePuzzle.K0)) spec_l1Cur_surePuzzle.K0))) .normal)) (onN Kn250 (blockK 0 (onN (fun s => spec_l1Cur_surePuzzle.C.tidy 62 s (fun s' => runC spec_l1Cur_surePuzzle.C (spec_l1Cur_surePuzzle.O N) N spec_l1Cur_surePuzzle.c63 63 s' spec_l1Cur_surePuzzle.K0)) spec_l1Cur_surePuzzle.K0)))) = spec_l1Cur_surePuzzle.o2 N v0 v1 v2 v3 v4 v5 v6 v7 v8 ((fun w0 w1 w2 w3 w4 w5 w6 w7 w8 => Kn250 (mkSt [(0, .one (.ptr 0 0)), (4, .one (.ptr 4 0)), (5, .one (.int .i64 w0)), (6, .one (.int .i64 w1)), (7, .one (.ptr 7 0)), (8, .one (.int .i64 w2))] [(0, some (87, [.sl false 5 w3, .int .i64 w4, .int .u64 w5])), (4, some (24, [.int .i64 w6, .nl])), (7, some (24, [.int .i64 w7, .sl true 38 w8]))] : St D0))) := by kernel_rfl
noncomputable def spec_l1Cur_surePuzzle.d2 (N : Nat) (v0 : Int) (v1 : Int) (v2 : Int) (v3 : List Int) (v4 : Int) (v5 : Int) (v6 : Int) (v7 : Int) (v8 : List S38) (c2 : Int → Int → Int → (List Int) → Int → Int → Int → Int → (List S38) → Option spec_l1Cur_surePuzzle.R) : Option spec_l1Cur_surePuzzle.R := spec_l1Cur_surePuzzle.o2 N v0 v1 v2 v3 v4 v5 v6 v7 v8 c2
theorem spec_l1Cur_surePuzzle.d2.run (N : Nat) (Kn250 : St D0 → Option spec_l1Cur_surePuzzle.R) (v0 : Int) (v1 : Int) (v2 : Int) (v3 : List Int) (v4 : Int) (v5 : Int) (v6 : Int) (v7 : Int) (v8 : List S38) : runC spec_l1Cur_surePuzzle.C (spec_l1Cur_surePuzzle.O N) N spec_l1Cur_surePuzzle.c500 500 (mkSt [(0, .one (.ptr 0 0)), (4, .one (.ptr 4 0)), (5, .one (.int .i64 v0)), (6, .one (.int .i64 v1)), (7, .one (.ptr 7 0)), (8, .one (.int .i64 v2))] [(0, some (87, [.sl false 5 v3, .int .i64 v4, .int .u64 v5])), (4, some (24, [.int .i64 v6, .nl])), (7, some (24, [.int .i64 v7, .sl true 38 v8]))] : St D0) (spec_l1Cur_surePuzzle.K500 N Kn250) = spec_l1Cur_surePuzzle.d2 N v0 v1 v2 v3 v4 v5 v6 v7 v8 ((fun w0 w1 w2 w3 w4 w5 w6 w7 w8 => Kn250 (mkSt [(0, .one (.ptr 0 0)), (4, .one (.ptr 4 0)), (5, .one (.int .i64 w0)), (6, .one (.int .i64 w1)), (7, .one (.ptr 7 0)), (8, .one (.int .i64 w2))] [(0, some (87, [.sl false 5 w3, .int .i64 w4, .int .u64 w5])), (4, some (24, [.int .i64 w6, .nl])), (7, some (24, [.int .i64 w7, .sl true 38 w8]))] : St D0))) := by
  exact (spec_l1Cur_surePuzzle.o2.run N Kn250 v0 v1 v2 v3 v4 v5 v6 v7 v8).trans rfl
noncomputable def spec_l1Cur_surePuzzle.K250 (N : Nat) : Ex → St D0 → Option spec_l1Cur_surePuzzle.R := (blockK 0 (onN (fun s => spec_l1Cur_surePuzzle.C.tidy 62 s (fun s' => runC spec_l1Cur_surePuzzle.C (spec_l1Cur_surePuzzle.O N) N spec_l1Cur_surePuzzle.c63 63 s' spec_l1Cur_surePuzzle.K0)) spec_l1Cur_surePuzzle.K0))
mutual
noncomputable def spec_l1Cur_surePuzzle.l1 (N : Nat) : Nat → Int → Int → Int → (List Int) → Int → Int → Int → Int → Option spec_l1Cur_surePuzzle.R
  | 0, _, _, _, _, _, _, _, _ => none
  | n + 1, v0, v1, v2, v3, v4, v5, v6, v7 => spec_l1Cur_surePuzzle.d1 N v0 v1 v2 v3 v4 v5 v6 v7 ((fun w0 w1 w2 w3 w4 w5 w6 w7 w8 => spec_l1Cur_surePuzzle.l2 N n w0 w1 w2 w3 w4 w5 w6 w7 w8))
noncomputable def spec_l1Cur_surePuzzle.l2 (N : Nat) : Nat → Int → Int → Int → (List Int) → Int → Int → Int → Int → (List S38) → Option spec_l1Cur_surePuzzle.R
  | 0, _, _, _, _, _, _, _, _, _ => none
  | n + 1, v0, v1, v2, v3, v4, v5, v6, v7, v8 => spec_l1Cur_surePuzzle.d2 N v0 v1 v2 v3 v4 v5 v6 v7 v8 ((fun w0 w1 w2 w3 w4 w5 w6 w7 w8 => spec_l1Cur_surePuzzle.l2 N n w0 w1 w2 w3 w4 w5 w6 w7 w8))
end
theorem spec_l1Cur_surePuzzle.loop250 (N : Nat) : ∀ n, (∀ (v0 : Int) (v1 : Int) (v2 : Int) (v3 : List Int) (v4 : Int) (v5 : Int) (v6 : Int) (v7 : Int), iter (loopF spec_l1Cur_surePuzzle.C (spec_l1Cur_surePuzzle.O N) N spec_l1Cur_surePuzzle.c500 250) n (mkSt [(0, .one (.ptr 0 0)), (4, .one (.ptr 4 0)), (5, .one (.int .i64 v0)), (6, .one (.int .i64 v1)), (7, .one (.ptr 7 0)), (8, .one (.int .i64 v2))] [(0, some (87, [.sl false 5 v3, .int .i64 v4, .int .u64 v5])), (4, some (24, [.int .i64 v6, .nl])), (7, some (24, [.int .i64 v7, .nl]))] : St D0) (spec_l1Cur_surePuzzle.K250 N) = spec_l1Cur_surePuzzle.l1 N n v0 v1 v2 v3 v4 v5 v6 v7) ∧ (∀ (v0 : Int) (v1 : Int) (v2 : Int) (v3 : List Int) (v4 : Int) (v5 : Int) (v6 : Int) (v7 : Int) (v8 : List S38), iter (loopF spec_l1Cur_surePuzzle.C (spec_l1Cur_surePuzzle.O N) N spec_l1Cur_surePuzzle.c500 250) n (mkSt [(0, .one (.ptr 0 0)), (4, .one (.ptr 4 0)), (5, .one (.int .i64 v0)), (6, .one (.int .i64 v1)), (7, .one (.ptr 7 0)), (8, .one (.int .i64 v2))] [(0, some (87, [.sl false 5 v3, .int .i64 v4, .int .u64 v5])), (4, some (24, [.int .i64 v6, .nl])), (7, some (24, [.int .i64 v7, .sl true 38 v8]))] : St D0) (spec_l1Cur_surePuzzle.K250 N) = spec_l1Cur_surePuzzle.l2 N n v0 v1 v2 v3 v4 v5 v6 v7 v8)
  | 0 => ⟨(fun v0 v1 v2 v3 v4 v5 v6 v7 => rfl), (fun v0 v1 v2 v3 v4 v5 v6 v7 v8 => rfl)⟩
  | n + 1 => ⟨(fun v0 v1 v2 v3 v4 v5 v6 v7 => (spec_l1Cur_surePuzzle.d1.run N (fun s => iter (loopF spec_l1Cur_surePuzzle.C (spec_l1Cur_surePuzzle.O N) N spec_l1Cur_surePuzzle.c500 250) n s (spec_l1Cur_surePuzzle.K250 N)) v0 v1 v2 v3 v4 v5 v6 v7).trans (show _ = spec_l1Cur_surePuzzle.d1 N v0 v1 v2 v3 v4 v5 v6 v7 ((fun w0 w1 w2 w3 w4 w5 w6 w7 w8 => spec_l1Cur_surePuzzle.l2 N n w0 w1 w2 w3 w4 w5 w6 w7 w8)) from (congr rfl (funext fun w0 => funext fun w1 => funext fun w2 => funext fun w3 => funext fun w4 => funext fun w5 => funext fun w6 => funext fun w7 => funext fun w8 => (spec_l1Cur_surePuzzle.loop250 N n).2 w0 w1 w2 w3 w4 w5 w6 w7 w8)))), (fun v0 v1 v2 v3 v4 v5 v6 v7 v8 => (spec_l1Cur_surePuzzle.d2.run N (fun s => iter (loopF spec_l1Cur_surePuzzle.C (spec_l1Cur_surePuzzle.O N) N spec_l1Cur_surePuzzle.c500 250) n s (spec_l1Cur_surePuzzle.K250 N)) v0 v1 v2 v3 v4 v5 v6 v7 v8).trans (show _ = spec_l1Cur_surePuzzle.d2 N v0 v1 v2 v3 v4 v5 v6 v7 v8 ((fun w0 w1 w2 w3 w4 w5 w6 w7 w8 => spec_l1Cur_surePuzzle.l2 N n w0 w1 w2 w3 w4 w5 w6 w7 w8)) from (congr rfl (funext fun w0 => funext fun w1 => funext fun w2 => funext fun w3 => funext fun w4 => funext fun w5 => funext fun w6 => funext fun w7 => funext fun w8 => (spec_l1Cur_surePuzzle.loop250 N n).2 w0 w1 w2 w3 w4 w5 w6 w7 w8))))⟩
noncomputable def spec_l1Cur_surePuzzle.o0 (N : Nat) (a1 : Int) (b0_0 : List Int) (b0_1 : Int) (b0_2 : Int) (c1 : Int → Int → Int → (List Int) → Int → Int → Int → Int → Option spec_l1Cur_surePuzzle.R) : Option spec_l1Cur_surePuzzle.R :=
 (spec_l1Cur_pick.g N 11 b0_0 b0_1 b0_2).bind fun r1 =>
 (spec_l1Cur_pick.g N (w64 (60 * (w64 (2 + r1.1)))) r1.2.1 r1.2.2.1 r1.2.2.2).bind fun r2 =>
 (spec_l1Cur_pick.g N (w64 (a1 + 1)) r2.2.1 r2.2.2.1 r2.2.2.2).bind fun r3 =>
 c1 (w64 (2 + r1.1)) r2.1 r3.1 r3.2.1 r3.2.2.1 r3.2.2.2 0 (w64 (2 + r1.1))
theorem spec_l1Cur_surePuzzle.o0.run (N : Nat) (H500 : Code) (a1 : Int) (b0_0 : List Int) (b0_1 : Int) (b0_2 : Int) : runC spec_l1Cur_surePuzzle.C (spec_l1Cur_surePuzzle.O N) N (.seq spec_l1Cur_surePuzzle.c2 (.seq spec_l1Cur_surePuzzle.c6 (.seq spec_l1Cur_surePuzzle.c14 (.seq spec_l1Cur_surePuzzle.c30 (.seq (.seq spec_l1Cur_surePuzzle.c124 (.block 0 (.loop H500))) spec_l1Cur_surePuzzle.c63))))) 1 (st0 [.one (.ptr 0 0), .one (.int .i64 a1)] [(87, [.sl false 5 b0_0, .int .i64 b0_1, .int .u64 b0_2])] : St D0) spec_l1Cur_surePuzzle.K0 = spec_l1Cur_surePuzzle.o0 N a1 b0_0 b0_1 b0_2 ((fun w0 w1 w2 w3 w4 w5 w6 w7 => iter (loopF spec_l1Cur_surePuzzle.C (spec_l1Cur_surePuzzle.O N) N H500 250) N (mkSt [(0, .one (.ptr 0 0)), (4, .one (.ptr 4 0)), (5, .one (.int .i64 w0)), (6, .one (.int .i64 w1)), (7, .one (.ptr 7 0)), (8, .one (.int .i64 w2))] [(0, some (87, [.sl false 5 w3, .int .i64 w4, .int .u64 w5])), (4, some (24, [.int .i64 w6, .nl])), (7, some (24, [.int .i64 w7, .nl]))] : St D0) (blockK 0 (onN (fun s => spec_l1Cur_surePuzzle.C.tidy 62 s (fun s' => runC spec_l1Cur_surePuzzle.C (spec_l1Cur_surePuzzle.O N) N spec_l1Cur_surePuzzle.c63 63 s' spec_l1Cur_surePuzzle.K0)) spec_l1Cur_surePuzzle.K0)))) := by kernel_rfl
noncomputable def spec_l1Cur_surePuzzle.g (N : Nat) (a1 : Int) (b0_0 : List Int) (b0_1 : Int) (b0_2 : Int) : Option spec_l1Cur_surePuzzle.R := spec_l1Cur_surePuzzle.o0 N a1 b0_0 b0_1 b0_2 ((fun w0 w1 w2 w3 w4 w5 w6 w7 => spec_l1Cur_surePuzzle.l1 N N w0 w1 w2 w3 w4 w5 w6 w7))
theorem spec_l1Cur_surePuzzle.c1_0 : spec_l1Cur_surePuzzle.c1 = (.seq spec_l1Cur_surePuzzle.c2 (.seq spec_l1Cur_surePuzzle.c6 (.seq spec_l1Cur_surePuzzle.c14 (.seq spec_l1Cur_surePuzzle.c30 (.seq (.seq spec_l1Cur_surePuzzle.c124 (.block 0 (.loop spec_l1Cur_surePuzzle.c500))) spec_l1Cur_surePuzzle.c63))))) := by kernel_rfl
theorem spec_l1Cur_surePuzzle.g.run (N : Nat) (a1 : Int) (b0_0 : List Int) (b0_1 : Int) (b0_2 : Int) : runC spec_l1Cur_surePuzzle.C (spec_l1Cur_surePuzzle.O N) N spec_l1Cur_surePuzzle.c1 1 (st0 [.one (.ptr 0 0), .one (.int .i64 a1)] [(87, [.sl false 5 b0_0, .int .i64 b0_1, .int .u64 b0_2])] : St D0) spec_l1Cur_surePuzzle.K0 = spec_l1Cur_surePuzzle.g N a1 b0_0 b0_1 b0_2 := by
  rw [spec_l1Cur_surePuzzle.c1_0]; unfold spec_l1Cur_surePuzzle.g; exact (spec_l1Cur_surePuzzle.o0.run N spec_l1Cur_surePuzzle.c500 a1 b0_0 b0_1 b0_2).trans (congr rfl (funext fun w0 => funext fun w1 => funext fun w2 => funext fun w3 => funext fun w4 => funext fun w5 => funext fun w6 => funext fun w7 => (spec_l1Cur_surePuzzle.loop250 N N).1 w0 w1 w2 w3 w4 w5 w6 w7))
theorem spec_l1Cur_surePuzzle.good (N : Nat) (a1 : Int) (b0_0 : List Int) (b0_1 : Int) (b0_2 : Int) (r : spec_l1Cur_surePuzzle.R) (h : spec_l1Cur_surePuzzle.g N a1 b0_0 b0_1 b0_2 = some r) : Go.PM.Good Go.Proofs.Try.prog T0 67 [.one (.ptr 0 0), .one (.int .i64 a1)] [(87, [.sl false 5 b0_0, .int .i64 b0_1, .int .u64 b0_2])] (spec_l1Cur_surePuzzle.sig.ret r) (spec_l1Cur_surePuzzle.sig.bs r) :=
  good_fn tabOk0 mixed0 spec_l1Cur_surePuzzle.sig (spec_l1Cur_surePuzzle.E N) Go.Proofs.Try.func67 (by kernel_rfl) (by kernel_rfl) 8389107 549890031616 1 [(250, [0, 4, 5, 6, 7, 8], [0, 4, 7])] [(true, [.any, .own 38])] (by kernel_rfl) rfl ((spec_l1Cur_surePuzzle.g.run N a1 b0_0 b0_1 b0_2).trans h)
noncomputable def spec_l1Cur_surePuzzle.ent (N : Nat) : Ent Go.Proofs.Try.prog T0 := mkEnt 67 [(false, [.any]), (false, [.any])] spec_l1Cur_surePuzzle.sig (fun t => spec_l1Cur_surePuzzle.g N t.2.1 t.2.2.1 t.2.2.2.1 t.2.2.2.2) (fun t r h => spec_l1Cur_surePuzzle.good N t.2.1 t.2.2.1 t.2.2.2.1 t.2.2.2.2 r h)
end Go.Proofs.Ytpeleommbipeaaa.M

namespace Go.Proofs.Ytpeleommbipeaaa.M
open Go Go.PM Go.Proofs.Ytpeleommbipeaaa.P
set_option linter.unusedVariables false
set_option maxRecDepth 100000
/-! ### spec_l1Cur_clue -/
abbrev spec_l1Cur_clue.R : Type := Int × Int × Int × List Int × Int × Int
abbrev spec_l1Cur_clue.sig : Sig := ⟨[(false, 1), (false, 1)], [(87, 3)], [.ptr 0 0, .int .i64, .sl false 5, .int .i64, .int .u64], [(true, 3)], [(87, 3)], [.int .i64, .int .i64, .int .i64, .sl false 5, .int .i64, .int .u64]⟩
noncomputable def spec_l1Cur_clue.C : Cfg D0 := ⟨Go.Proofs.Try.prog, T0, 524371, 0, 32, 1, []⟩
noncomputable def spec_l1Cur_clue.E (N : Nat) : List (Ent Go.Proofs.Try.prog T0) := [spec_l1Cur_one.ent N, spec_l1Cur_pick.ent N, spec_l1Cur_among.ent N, spec_diHours.ent N, spec_pzOf.ent N]
noncomputable def spec_l1Cur_clue.O (N : Nat) : Orc D0 spec_l1Cur_clue.R := orcOf (spec_l1Cur_clue.E N)
noncomputable def spec_l1Cur_clue.K0 : Ex → St D0 → Option spec_l1Cur_clue.R := exitK spec_l1Cur_clue.C Go.Proofs.Try.f70.results.toList [(true, [.any, .any, .any])] (decOut spec_l1Cur_clue.sig)
noncomputable def spec_l1Cur_clue.c1 : Code := codeAt (Go.Proofs.Try.f70.body.getD .skip) []
noncomputable def spec_l1Cur_clue.o0 (N : Nat) (a1 : Int) (b0_0 : List Int) (b0_1 : Int) (b0_2 : Int) : Option spec_l1Cur_clue.R :=
 (spec_l1Cur_one.g N 5 b0_0 b0_1 b0_2).bind fun r1 =>
 bif r1.1 then
  (spec_l1Cur_pick.g N 8 r1.2.1 r1.2.2.1 r1.2.2.2).bind fun r2 =>
  (spec_l1Cur_among.g N ([(-1), 0, 1, 2, 30, 31, 59, 60, 61] : List Int) r2.2.1 r2.2.2.1 r2.2.2.2).bind fun r3 =>
  (spec_l1Cur_among.g N ([(-1), 0, 0, 1] : List Int) r3.2.1 r3.2.2.1 r3.2.2.2).bind fun r4 =>
  some ((w64 (r2.1 - 1)), r3.1, r4.1, r4.2.1, r4.2.2.1, r4.2.2.2)
 else
 (spec_diHours.g N a1).bind fun r5 =>
 bif (!r5) then
  some (0, 0, 0, r1.2.1, r1.2.2.1, r1.2.2.2)
 else
 (spec_l1Cur_pick.g N 6 r1.2.1 r1.2.2.1 r1.2.2.2).bind fun r6 =>
 (spec_l1Cur_pick.g N 59 r6.2.1 r6.2.2.1 r6.2.2.2).bind fun r7 =>
 (spec_l1Cur_pick.g N (w64 (60 * a1)) r7.2.1 r7.2.2.1 r7.2.2.2).bind fun r8 =>
 (spec_pzOf.g N a1 r6.1 (w64 (2 + r7.1)) r8.1).bind fun r9 =>
 some (r9.1, r9.2.1, r9.2.2, r8.2.1, r8.2.2.1, r8.2.2.2)
theorem spec_l1Cur_clue.o0.run (N : Nat) (a1 : Int) (b0_0 : List Int) (b0_1 : Int) (b0_2 : Int) : runC spec_l1Cur_clue.C (spec_l1Cur_clue.O N) N spec_l1Cur_clue.c1 1 (st0 [.one (.ptr 0 0), .one (.int .i64 a1)] [(87, [.sl false 5 b0_0, .int .i64 b0_1, .int .u64 b0_2])] : St D0) spec_l1Cur_clue.K0 = spec_l1Cur_clue.o0 N a1 b0_0 b0_1 b0_2 := by kernel_rfl
noncomputable def spec_l1Cur_clue.g (N : Nat) (a1 : Int) (b0_0 : List Int) (b0_1 : Int) (b0_2 : Int) : Option spec_l1Cur_clue.R := spec_l1Cur_clue.o0 N a1 b0_0 b0_1 b0_2
theorem spec_l1Cur_clue.g.run (N : Nat) (a1 : Int) (b0_0 : List Int) (b0_1 : Int) (b0_2 : Int) : runC spec_l1Cur_clue.C (spec_l1Cur_clue.O N) N spec_l1Cur_clue.c1 1 (st0 [.one (.ptr 0 0), .one (.int .i64 a1)] [(87, [.sl false 5 b0_0, .int .i64 b0_1, .int .u64 b0_2])] : St D0) spec_l1Cur_clue.K0 = spec_l1Cur_clue.g N a1 b0_0 b0_1 b0_2 := by
  exact (spec_l1Cur_clue.o0.run N a1 b0_0 b0_1 b0_2).trans rfl
theorem spec_l1Cur_clue.good (N : Nat) (a1 : Int) (b0_0 : List Int) (b0_1 : Int) (b0_2 : Int) (r : spec_l1Cur_clue.R) (h : spec_l1Cur_clue.g N a1 b0_0 b0_1 b0_2 = some r) : Go.PM.Good Go.Proofs.Try.prog T0 70 [.one (.ptr 0 0), .one (.int .i64 a1)] [(87, [.sl false 5 b0_0, .int .i64 b0_1, .int .u64 b0_2])] (spec_l1Cur_clue.sig.ret r) (spec_l1Cur_clue.sig.bs r) :=
  good_fn tabOk0 mixed0 spec_l1Cur_clue.sig (spec_l1Cur_clue.E N) Go.Proofs.Try.func70 (by kernel_rfl) (by kernel_rfl) 524371 0 1 [] [(true, [.any, .any, .any])] (by kernel_rfl) rfl ((spec_l1Cur_clue.g.run N a1 b0_0 b0_1 b0_2).trans h)
noncomputable def spec_l1Cur_clue.ent (N : Nat) : Ent Go.Proofs.Try.prog T0 := mkEnt 70 [(false, [.any]), (false, [.any])] spec_l1Cur_clue.sig (fun t => spec_l1Cur_clue.g N t.2.1 t.2.2.1 t.2.2.2.1 t.2.2.2.2) (fun t r h => spec_l1Cur_clue.good N t.2.1 t.2.2.1 t.2.2.2.1 t.2.2.2.2 r h)
end Go.Proofs.Ytpeleommbipeaaa.M

namespace Go.Proofs.Ytpeleommbipeaaa.M
open Go Go.PM Go.Proofs.Ytpeleommbipeaaa.P
set_option linter.unusedVariables false
set_option maxRecDepth 100000
/-! ### spec_l1Cur_puzzle -/
abbrev spec_l1Cur_puzzle.R : Type := Int × List S38 × List Int × Int × Int
abbrev spec_l1Cur_puzzle.sig : Sig := ⟨[(false, 1)], [(87, 3)], [.ptr 0 0, .sl false 5, .int .i64, .int .u64], [(true, 2)], [(87, 3)], [.int .i64, .sl true 38, .sl false 5, .int .i64, .int .u64]⟩
noncomputable def spec_l1Cur_puzzle.C : Cfg D0 := ⟨Go.Proofs.Try.prog, T0, 8623505805, 1133871497216, 41, 1, [(14, [2, 3], [0, 2, 3]), (7548, [0, 2, 3], [0, 2, 3])]⟩
noncomputable def spec_l1Cur_puzzle.E (N : Nat) : List (Ent Go.Proofs.Try.prog T0) := [spec_l1Cur_surePuzzle.ent N, spec_l1Cur_pick.ent N, spec_l1Cur_among.ent N, spec_l1Cur_clue.ent N]
noncomputable def spec_l1Cur_puzzle.O (N : Nat) : Orc D0 spec_l1Cur_puzzle.R := orcOf (spec_l1Cur_puzzle.E N)
noncomputable def spec_l1Cur_puzzle.K0 : Ex → St D0 → Option spec_l1Cur_puzzle.R := exitK spec_l1Cur_puzzle.C Go.Proofs.Try.f69.results.toList [(true, [.any, .own 38])] (decOut spec_l1Cur_puzzle.sig)
noncomputable def spec_l1Cur_puzzle.c1 : Code := codeAt (Go.Proofs.Try.f69.body.getD .skip) []
noncomputable def spec_l1Cur_puzzle.c2 : Code := codeAt (Go.Proofs.Try.f69.body.getD .skip) [false]
noncomputable def spec_l1Cur_puzzle.c6 : Code := codeAt (Go.Proofs.Try.f69.body.getD .skip) [true, false]
noncomputable def spec_l1Cur_puzzle.c15 : Code := codeAt (Go.Proofs.Try.f69.body.getD .skip) [true, true, true]
noncomputable def spec_l1Cur_puzzle.c28 : Code := codeAt (Go.Proofs.Try.f69.body.getD .skip) [true, true, false, false]
noncomputable def spec_l1Cur_puzzle.c116 : Code := codeAt (Go.Proofs.Try.f69.body.getD .skip) [true, true, false, true, false, false]
noncomputable def spec_l1Cur_puzzle.c234 : Code := codeAt (Go.Proofs.Try.f69.body.getD .skip) [true, true, false, true, false, true, false]
noncomputable def spec_l1Cur_puzzle.c470 : Code := codeAt (Go.Proofs.Try.f69.body.getD .skip) [true, true, false, true, false, true, true, false]
noncomputable def spec_l1Cur_puzzle.c942 : Code := codeAt (Go.Proofs.Try.f69.body.getD .skip) [true, true, false, true, false, true, true, true, false]
noncomputable def spec_l1Cur_puzzle.c1886 : Code := codeAt (Go.Proofs.Try.f69.body.getD .skip) [true, true, false, true, false, true, true, true, true, false]
noncomputable def spec_l1Cur_puzzle.c3775 : Code := codeAt (Go.Proofs.Try.f69.body.getD .skip) [true, true, false, true, false, true, true, true, true, true, true]
noncomputable def spec_l1Cur_puzzle.c15096 : Code := codeAt (Go.Proofs.Try.f69.body.getD .skip) [true, true, false, true, false, true, true, true, true, true, false, false, false]
noncomputable def spec_l1Cur_puzzle.K15 (N : Nat) : Ex → St D0 → Option spec_l1Cur_puzzle.R := spec_l1Cur_puzzle.K0
noncomputable def spec_l1Cur_puzzle.o1 (N : Nat) (v0 : List Int) (v1 : Int) (v2 : Int) (v3 : Int) (v4 : Int) (v5 : List S38) : Option spec_l1Cur_puzzle.R :=
 some (v4, v5, v0, v1, v2)
theorem spec_l1Cur_puzzle.o1.run (N : Nat) (v0 : List Int) (v1 : Int) (v2 : Int) (v3 : Int) (v4 : Int) (v5 : List S38) : runC spec_l1Cur_puzzle.C (spec_l1Cur_puzzle.O N) N spec_l1Cur_puzzle.c15 15 (mkSt [(2, .one (.ptr 2 0)), (3, .one (.ptr 3 0))] [(0, some (87, [.sl false 5 v0, .int .i64 v1, .int .u64 v2])), (2, some (24, [.int .i64 v3, .nl])), (3, some (24, [.int .i64 v4, .sl true 38 v5]))] : St D0) spec_l1Cur_puzzle.K0 = spec_l1Cur_puzzle.o1 N v0 v1 v2 v3 v4 v5 := by kernel_rfl
noncomputable def spec_l1Cur_puzzle.d1 (N : Nat) (v0 : List Int) (v1 : Int) (v2 : Int) (v3 : Int) (v4 : Int) (v5 : List S38) : Option spec_l1Cur_puzzle.R := spec_l1Cur_puzzle.o1 N v0 v1 v2 v3 v4 v5
theorem spec_l1Cur_puzzle.d1.run (N : Nat) (v0 : List Int) (v1 : Int) (v2 : Int) (v3 : Int) (v4 : Int) (v5 : List S38) : runC spec_l1Cur_puzzle.C (spec_l1Cur_puzzle.O N) N spec_l1Cur_puzzle.c15 15 (mkSt [(2, .one (.ptr 2 0)), (3, .one (.ptr 3 0))] [(0, some (87, [.sl false 5 v0, .int .i64 v1, .int .u64 v2])), (2, some (24, [.int .i64 v3, .nl])), (3, some (24, [.int .i64 v4, .sl true 38 v5]))] : St D0) (spec_l1Cur_puzzle.K15 N) = spec_l1Cur_puzzle.d1 N v0 v1 v2 v3 v4 v5 := by
  exact (spec_l1Cur_puzzle.o1.run N v0 v1 v2 v3 v4 v5).trans rfl
noncomputable def spec_l1Cur_puzzle.B7 (N : Nat) : St D0 → Option spec_l1Cur_puzzle.R := fun s' => runC spec_l1Cur_puzzle.C (spec_l1Cur_puzzle.O N) N spec_l1Cur_puzzle.c15 15 s' (spec_l1Cur_puzzle.K15 N)
noncomputable def spec_l1Cur_puzzle.K15096 (N : Nat) (Kn7548 : St D0 → Option spec_l1Cur_puzzle.R) : Ex → St D0 → Option spec_l1Cur_puzzle.R := (onN (fun s => spec_l1Cur_puzzle.C.tidy 7548 s ((onN Kn7548 (blockK 1 (blockK 0 (onN (fun s => spec_l1Cur_puzzle.C.tidy 14 s (spec_l1Cur_puzzle.B7 N)) spec_l1Cur_puzzle.K0)))) .normal)) (onN Kn7548 (blockK 1 (blockK 0 (onN (fun s => spec_l1Cur_puzzle.C.tidy 14 s (spec_l1Cur_puzzle.B7 N)) spec_l1Cur_puzzle.K0)))))
noncomputable def spec_l1Cur_puzzle.o2 (N : Nat) (v0 : List Int) (v1 : Int) (v2 : Int) (v3 : Int) (v4 : Int) (v5 : List S38) (c2 : (List Int) → Int → Int → Int → Int → (List S38) → Option spec_l1Cur_puzzle.R) (c1 : (List Int) → Int → Int → Int → Int → (List S38) → Option spec_l1Cur_puzzle.R) : Option spec_l1Cur_puzzle.R :=
 (spec_l1Cur_pick.g N 2 v0 v1 v2).bind fun r1 =>
 bif (decide ((v5.length : Int) < (w64 (6 + r1.1)))) then
  bif (Nat.blt (v5.length + ([(⟨3, 1, 0⟩ : S38)] : List S38).length) 5864062014805) then
   c2 r1.2.1 r1.2.2.1 r1.2.2.2 v3 v4 (v5 ++ ([(⟨3, 1, 0⟩ : S38)] : List S38))
  else
  none
 else
 c1 r1.2.1 r1.2.2.1 r1.2.2.2 v3 v4 v5
theorem spec_l1Cur_puzzle.o2.run (N : Nat) (Kb7 : St D0 → Option spec_l1Cur_puzzle.R) (Kn7548 : St D0 → Option spec_l1Cur_puzzle.R) (v0 : List Int) (v1 : Int) (v2 : Int) (v3 : Int) (v4 : Int) (v5 : List S38) : runC spec_l1Cur_puzzle.C (spec_l1Cur_puzzle.O N) N spec_l1Cur_puzzle.c15096 15096 (mkSt [(0, .one (.ptr 0 0)), (2, .one (.ptr 2 0)), (3, .one (.ptr 3 0))] [(0, some (87, [.sl false 5 v0, .int .i64 v1, .int .u64 v2])), (2, some (24, [.int .i64 v3, .nl])), (3, some (24, [.int .i64 v4, .sl true 38 v5]))] : St D0) (onN (fun s => spec_l1Cur_puzzle.C.tidy 7548 s ((onN Kn7548 (blockK 1 (blockK 0 (onN (fun s => spec_l1Cur_puzzle.C.tidy 14 s Kb7) spec_l1Cur_puzzle.K0)))) .normal)) (onN Kn7548 (blockK 1 (blockK 0 (onN (fun s => spec_l1Cur_puzzle.C.tidy 14 s Kb7) spec_l1Cur_puzzle.K0))))) = spec_l1Cur_puzzle.o2 N v0 v1 v2 v3 v4 v5 ((fun w0 w1 w2 w3 w4 w5 => Kn7548 (mkSt [(0, .one (.ptr 0 0)), (2, .one (.ptr 2 0)), (3, .one (.ptr 3 0))] [(0, some (87, [.sl false 5 w0, .int .i64 w1, .int .u64 w2])), (2, some (24, [.int .i64 w3, .nl])), (3, some (24, [.int .i64 w4, .sl true 38 w5]))] : St D0))) ((fun w0 w1 w2 w3 w4 w5 => Kb7 (mkSt [(2, .one (.ptr 2 0)), (3, .one (.ptr 3 0))] [(0, some (87, [.sl false 5 w0, .int .i64 w1, .int .u64 w2])), (2, some (24, [.int .i64 w3, .nl])), (3, some (24, [.int .i64 w4, .sl true 38 w5]))] : St D0))) := by kernel_rfl
noncomputable def spec_l1Cur_puzzle.d2 (N : Nat) (v0 : List Int) (v1 : Int) (v2 : Int) (v3 : Int) (v4 : Int) (v5 : List S38) (c2 : (List Int) → Int → Int → Int → Int → (List S38) → Option spec_l1Cur_puzzle.R) : Option spec_l1Cur_puzzle.R := spec_l1Cur_puzzle.o2 N v0 v1 v2 v3 v4 v5 c2 ((fun w0 w1 w2 w3 w4 w5 => spec_l1Cur_puzzle.d1 N w0 w1 w2 w3 w4 w5))
theorem spec_l1Cur_puzzle.d2.run (N : Nat) (Kn7548 : St D0 → Option spec_l1Cur_puzzle.R) (v0 : List Int) (v1 : Int) (v2 : Int) (v3 : Int) (v4 : Int) (v5 : List S38) : runC spec_l1Cur_puzzle.C (spec_l1Cur_puzzle.O N) N spec_l1Cur_puzzle.c15096 15096 (mkSt [(0, .one (.ptr 0 0)), (2, .one (.ptr 2 0)), (3, .one (.ptr 3 0))] [(0, some (87, [.sl false 5 v0, .int .i64 v1, .int .u64 v2])), (2, some (24, [.int .i64 v3, .nl])), (3, some (24, [.int .i64 v4, .sl true 38 v5]))] : St D0) (spec_l1Cur_puzzle.K15096 N Kn7548) = spec_l1Cur_puzzle.d2 N v0 v1 v2 v3 v4 v5 ((fun w0 w1 w2 w3 w4 w5 => Kn7548 (mkSt [(0, .one (.ptr 0 0)), (2, .one (.ptr 2 0)), (3, .one (.ptr 3 0))] [(0, some (87, [.sl false 5 w0, .int .i64 w1, .int .u64 w2])), (2, some (24, [.int .i64 w3, .nl])), (3, some (24, [.int .i64 w4, .sl true 38 w5]))] : St D0))) := by
  unfold spec_l1Cur_puzzle.d2; exact (spec_l1Cur_puzzle.o2.run N (spec_l1Cur_puzzle.B7 N) Kn7548 v0 v1 v2 v3 v4 v5).trans (congr (congr rfl rfl) (funext fun w0 => funext fun w1 => funext fun w2 => funext fun w3 => funext fun w4 => funext fun w5 => spec_l1Cur_puzzle.d1.run N w0 w1 w2 w3 w4 w5))
noncomputable def spec_l1Cur_puzzle.K7548 (N : Nat) : Ex → St D0 → Option spec_l1Cur_puzzle.R := (blockK 1 (blockK 0 (onN (fun s => spec_l1Cur_puzzle.C.tidy 14 s (spec_l1Cur_puzzle.B7 N)) spec_l1Cur_puzzle.K0)))
noncomputable def spec_l1Cur_puzzle.l2 (N : Nat) : Nat → (List Int) → Int → Int → Int → Int → (List S38) → Option spec_l1Cur_puzzle.R
  | 0, _, _, _, _, _, _ => none
  | n + 1, v0, v1, v2, v3, v4, v5 => spec_l1Cur_puzzle.d2 N v0 v1 v2 v3 v4 v5 ((fun w0 w1 w2 w3 w4 w5 => spec_l1Cur_puzzle.l2 N n w0 w1 w2 w3 w4 w5))
theorem spec_l1Cur_puzzle.loop7548 (N : Nat) : ∀ n, (∀ (v0 : List Int) (v1 : Int) (v2 : Int) (v3 : Int) (v4 : Int) (v5 : List S38), iter (loopF spec_l1Cur_puzzle.C (spec_l1Cur_puzzle.O N) N spec_l1Cur_puzzle.c15096 7548) n (mkSt [(0, .one (.ptr 0 0)), (2, .one (.ptr 2 0)), (3, .one (.ptr 3 0))] [(0, some (87, [.sl false 5 v0, .int .i64 v1, .int .u64 v2])), (2, some (24, [.int .i64 v3, .nl])), (3, some (24, [.int .i64 v4, .sl true 38 v5]))] : St D0) (spec_l1Cur_puzzle.K7548 N) = spec_l1Cur_puzzle.l2 N n v0 v1 v2 v3 v4 v5)
  | 0 => (fun v0 v1 v2 v3 v4 v5 => rfl)
  | n + 1 => (fun v0 v1 v2 v3 v4 v5 => (spec_l1Cur_puzzle.d2.run N (fun s => iter (loopF spec_l1Cur_puzzle.C (spec_l1Cur_puzzle.O N) N spec_l1Cur_puzzle.c15096 7548) n s (spec_l1Cur_puzzle.K7548 N)) v0 v1 v2 v3 v4 v5).trans (show _ = spec_l1Cur_puzzle.d2 N v0 v1 v2 v3 v4 v5 ((fun w0 w1 w2 w3 w4 w5 => spec_l1Cur_puzzle.l2 N n w0 w1 w2 w3 w4 w5)) from (congr rfl (funext fun w0 => funext fun w1 => funext fun w2 => funext fun w3 => funext fun w4 => funext fun w5 => (spec_l1Cur_puzzle.loop7548 N n) w0 w1 w2 w3 w4 w5))))
noncomputable def spec_l1Cur_puzzle.o0 (N : Nat) (b0_0 : List Int) (b0_1 : Int) (b0_2 : Int) (c1 : (List Int) → Int → Int → Int → Int → (List S38) → Option spec_l1Cur_puzzle.R) (c2 : (List Int) → Int → Int → Int → Int → (List S38) → Option spec_l1Cur_puzzle.R) : Option spec_l1Cur_puzzle.R :=
 (spec_l1Cur_surePuzzle.g N 5 b0_0 b0_1 b0_2).bind fun r1 =>
 (spec_l1Cur_pick.g N 12 r1.2.2.1 r1.2.2.2.1 r1.2.2.2.2).bind fun r2 =>
 bif (r2.1 == 0) then
  (spec_l1Cur_among.g N ([1, 2, 24, 25, (-1)] : List Int) r2.2.1 r2.2.2.1 r2.2.2.2).bind fun r3 =>
  c1 r3.2.1 r3.2.2.1 r3.2.2.2 0 r3.1 r1.2.1
 else
 bif (r2.1 == 1) then
  (spec_l1Cur_clue.g N r1.1 r2.2.1 r2.2.2.1 r2.2.2.2).bind fun r4 =>
  bif (Nat.blt (r1.2.1.length + ([(⟨r4.1, r4.2.1, r4.2.2.1⟩ : S38)] : List S38).length) 5864062014805) then
   c1 r4.2.2.2.1 r4.2.2.2.2.1 r4.2.2.2.2.2 0 r1.1 (r1.2.1 ++ ([(⟨r4.1, r4.2.1, r4.2.2.1⟩ : S38)] : List S38))
  else
  none
 else
 bif (r2.1 == 2) then
  c2 r2.2.1 r2.2.2.1 r2.2.2.2 0 r1.1 r1.2.1
 else
 c1 r2.2.1 r2.2.2.1 r2.2.2.2 0 r1.1 r1.2.1
theorem spec_l1Cur_puzzle.o0.run (N : Nat) (H15 : Code) (H15096 : Code) (b0_0 : List Int) (b0_1 : Int) (b0_2 : Int) : runC spec_l1Cur_puzzle.C (spec_l1Cur_puzzle.O N) N (.seq spec_l1Cur_puzzle.c2 (.seq spec_l1Cur_puzzle.c6 (.seq (.seq spec_l1Cur_puzzle.c28 (.block 0 (.seq spec_l1Cur_puzzle.c116 (.cond (.tmp 8) spec_l1Cur_puzzle.c234 (.seq spec_l1Cur_puzzle.c470 (.cond (.tmp 14) spec_l1Cur_puzzle.c942 (.seq spec_l1Cur_puzzle.c1886 (.cond (.tmp 25) (.block 1 (.loop H15096)) spec_l1Cur_puzzle.c3775)))))))) H15))) 1 (st0 [.one (.ptr 0 0)] [(87, [.sl false 5 b0_0, .int .i64 b0_1, .int .u64 b0_2])] : St D0) spec_l1Cur_puzzle.K0 = spec_l1Cur_puzzle.o0 N b0_0 b0_1 b0_2 ((fun w0 w1 w2 w3 w4 w5 => runC spec_l1Cur_puzzle.C (spec_l1Cur_puzzle.O N) N H15 15 (mkSt [(2, .one (.ptr 2 0)), (3, .one (.ptr 3 0))] [(0, some (87, [.sl false 5 w0, .int .i64 w1, .int .u64 w2])), (2, some (24, [.int .i64 w3, .nl])), (3, some (24, [.int .i64 w4, .sl true 38 w5]))] : St D0) spec_l1Cur_puzzle.K0)) ((fun w0 w1 w2 w3 w4 w5 => iter (loopF spec_l1Cur_puzzle.C (spec_l1Cur_puzzle.O N) N H15096 7548) N (mkSt [(0, .one (.ptr 0 0)), (2, .one (.ptr 2 0)), (3, .one (.ptr 3 0))] [(0, some (87, [.sl false 5 w0, .int .i64 w1, .int .u64 w2])), (2, some (24, [.int .i64 w3, .nl])), (3, some (24, [.int .i64 w4, .sl true 38 w5]))] : St D0) (blockK 1 (blockK 0 (onN (fun s => spec_l1Cur_puzzle.C.tidy 14 s (fun s' => runC spec_l1Cur_puzzle.C (spec_l1Cur_puzzle.O N) N H15 15 s' spec_l1Cur_puzzle.K0)) spec_l1Cur_puzzle.K0))))) := by kernel_rfl
noncomputable def spec_l1Cur_puzzle.g (N : Nat) (b0_0 : List Int) (b0_1 : Int) (b0_2 : Int) : Option spec_l1Cur_puzzle.R := spec_l1Cur_puzzle.o0 N b0_0 b0_1 b0_2 ((fun w0 w1 w2 w3 w4 w5 => spec_l1Cur_puzzle.d1 N w0 w1 w2 w3 w4 w5)) ((fun w0 w1 w2 w3 w4 w5 => spec_l1Cur_puzzle.l2 N N w0 w1 w2 w3 w4 w5))
theorem spec_l1Cur_puzzle.c1_0 : spec_l1Cur_puzzle.c1 = (.seq spec_l1Cur_puzzle.c2 (.seq spec_l1Cur_puzzle.c6 (.seq (.seq spec_l1Cur_puzzle.c28 (.block 0 (.seq spec_l1Cur_puzzle.c116 (.cond (.tmp 8) spec_l1Cur_puzzle.c234 (.seq spec_l1Cur_puzzle.c470 (.cond (.tmp 14) spec_l1Cur_puzzle.c942 (.seq spec_l1Cur_puzzle.c1886 (.cond (.tmp 25) (.block 1 (.loop spec_l1Cur_puzzle.c15096)) spec_l1Cur_puzzle.c3775)))))))) spec_l1Cur_puzzle.c15))) := by kernel_rfl
theorem spec_l1Cur_puzzle.g.run (N : Nat) (b0_0 : List Int) (b0_1 : Int) (b0_2 : Int) : runC spec_l1Cur_puzzle.C (spec_l1Cur_puzzle.O N) N spec_l1Cur_puzzle.c1 1 (st0 [.one (.ptr 0 0)] [(87, [.sl false 5 b0_0, .int .i64 b0_1, .int .u64 b0_2])] : St D0) spec_l1Cur_puzzle.K0 = spec_l1Cur_puzzle.g N b0_0 b0_1 b0_2 := by
  rw [spec_l1Cur_puzzle.c1_0]; unfold spec_l1Cur_puzzle.g; exact (spec_l1Cur_puzzle.o0.run N spec_l1Cur_puzzle.c15 spec_l1Cur_puzzle.c15096 b0_0 b0_1 b0_2).trans (congr (congr rfl (funext fun w0 => funext fun w1 => funext fun w2 => funext fun w3 => funext fun w4 => funext fun w5 => spec_l1Cur_puzzle.d1.run N w0 w1 w2 w3 w4 w5)) (funext fun w0 => funext fun w1 => funext fun w2 => funext fun w3 => funext fun w4 => funext fun w5 => (spec_l1Cur_puzzle.loop7548 N N) w0 w1 w2 w3 w4 w5))
theorem spec_l1Cur_puzzle.good (N : Nat) (b0_0 : List Int) (b0_1 : Int) (b0_2 : Int) (r : spec_l1Cur_puzzle.R) (h : spec_l1Cur_puzzle.g N b0_0 b0_1 b0_2 = some r) : Go.PM.Good Go.Proofs.Try.prog T0 69 [.one (.ptr 0 0)] [(87, [.sl false 5 b0_0, .int .i64 b0_1, .int .u64 b0_2])] (spec_l1Cur_puzzle.sig.ret r) (spec_l1Cur_puzzle.sig.bs r) :=
  good_fn tabOk0 mixed0 spec_l1Cur_puzzle.sig (spec_l1Cur_puzzle.E N) Go.Proofs.Try.func69 (by kernel_rfl) (by kernel_rfl) 8623505805 1133871497216 1 [(14, [2, 3], [0, 2, 3]), (7548, [0, 2, 3], [0, 2, 3])] [(true, [.any, .own 38])] (by kernel_rfl) rfl ((spec_l1Cur_puzzle.g.run N b0_0 b0_1 b0_2).trans h)
noncomputable def spec_l1Cur_puzzle.ent (N : Nat) : Ent Go.Proofs.Try.prog T0 := mkEnt 69 [(false, [.any])] spec_l1Cur_puzzle.sig (fun t => spec_l1Cur_puzzle.g N t.2.1 t.2.2.1 t.2.2.2) (fun t r h => spec_l1Cur_puzzle.good N t.2.1 t.2.2.1 t.2.2.2 r h)
end Go.Proofs.Ytpeleommbipeaaa.M

namespace Go.Proofs.Ytpeleommbipeaaa.M
open Go Go.PM Go.Proofs.Ytpeleommbipeaaa.P
set_option linter.unusedVariables false
set_option maxRecDepth 100000
/-! ### spec_DrawHarderPuzzle -/
abbrev spec_DrawHarderPuzzle.R : Type := Int × List S38
abbrev spec_DrawHarderPuzzle.sig : Sig := ⟨[(false, 1)], [], [.sl false 5], [(true, 2)], [], [.int .i64, .sl true 38]⟩
noncomputable def spec_DrawHarderPuzzle.C : Cfg D0 := ⟨Go.Proofs.Try.prog, T0, 4294967357, 34360262656, 36, 0, []⟩
noncomputable def spec_DrawHarderPuzzle.E (N : Nat) : List (Ent Go.Proofs.Try.prog T0) := [spec_l1Cur_surePuzzle.ent N, spec_pzAll.ent N, spec_pzOf.ent N, spec_l1Cur_one.ent N, spec_l1Cur_puzzle.ent N]
noncomputable def spec_DrawHarderPuzzle.O (N : Nat) : Orc D0 spec_DrawHarderPuzzle.R := orcOf (spec_DrawHarderPuzzle.E N)
noncomputable def spec_DrawHarderPuzzle.K0 : Ex → St D0 → Option spec_DrawHarderPuzzle.R := exitK spec_DrawHarderPuzzle.C Go.Proofs.Try.f34.results.toList [(true, [.any, .own 38])] (decOut spec_DrawHarderPuzzle.sig)
noncomputable def spec_DrawHarderPuzzle.c1 : Code := codeAt (Go.Proofs.Try.f34.body.getD .skip) []
noncomputable def spec_DrawHarderPuzzle.o0 (N : Nat) (a0 : List Int) : Option spec_DrawHarderPuzzle.R :=
 (spec_l1Cur_surePuzzle.g N 3 a0 0 0).bind fun r1 =>
 (spec_pzAll.g N r1.1 r1.2.1).bind fun r2 =>
 bif (decide (0 < (r2.length : Int))) then
  (r2[(0 : Int).toNat]?).bind fun x3 =>
  (spec_pzOf.g N r1.1 1 60 x3).bind fun r4 =>
  (spec_pzOf.g N r1.1 0 2 x3).bind fun r5 =>
  bif (Nat.blt (r1.2.1.length + ([(⟨r4.1, r4.2.1, r4.2.2⟩ : S38), (⟨r5.1, r5.2.1, r5.2.2⟩ : S38)] : List S38).length) 5864062014805) then
   (spec_l1Cur_one.g N 5 r1.2.2.1 r1.2.2.2.1 r1.2.2.2.2).bind fun r6 =>
   bif r6.1 then
    (spec_l1Cur_puzzle.g N r6.2.1 r6.2.2.1 r6.2.2.2).bind fun r7 =>
    some (r7.1, r7.2.1)
   else
   some (r1.1, (r1.2.1 ++ ([(⟨r4.1, r4.2.1, r4.2.2⟩ : S38), (⟨r5.1, r5.2.1, r5.2.2⟩ : S38)] : List S38)))
  else
  none
 else
 none
theorem spec_DrawHarderPuzzle.o0.run (N : Nat) (a0 : List Int) : runC spec_DrawHarderPuzzle.C (spec_DrawHarderPuzzle.O N) N spec_DrawHarderPuzzle.c1 1 (st0 [.one (.sl false 5 a0)] [] : St D0) spec_DrawHarderPuzzle.K0 = spec_DrawHarderPuzzle.o0 N a0 := by kernel_rfl
noncomputable def spec_DrawHarderPuzzle.g (N : Nat) (a0 : List Int) : Option spec_DrawHarderPuzzle.R := spec_DrawHarderPuzzle.o0 N a0
theorem spec_DrawHarderPuzzle.g.run (N : Nat) (a0 : List Int) : runC spec_DrawHarderPuzzle.C (spec_DrawHarderPuzzle.O N) N spec_DrawHarderPuzzle.c1 1 (st0 [.one (.sl false 5 a0)] [] : St D0) spec_DrawHarderPuzzle.K0 = spec_DrawHarderPuzzle.g N a0 := by
  exact (spec_DrawHarderPuzzle.o0.run N a0).trans rfl
theorem spec_DrawHarderPuzzle.good (N : Nat) (a0 : List Int) (r : spec_DrawHarderPuzzle.R) (h : spec_DrawHarderPuzzle.g N a0 = some r) : Go.PM.Good Go.Proofs.Try.prog T0 34 [.one (.sl false 5 a0)] [] (spec_DrawHarderPuzzle.sig.ret r) (spec_DrawHarderPuzzle.sig.bs r) :=
  good_fn tabOk0 mixed0 spec_DrawHarderPuzzle.sig (spec_DrawHarderPuzzle.E N) Go.Proofs.Try.func34 (by kernel_rfl) (by kernel_rfl) 4294967357 34360262656 0 [] [(true, [.any, .own 38])] (by kernel_rfl) rfl ((spec_DrawHarderPuzzle.g.run N a0).trans h)
noncomputable def spec_DrawHarderPuzzle.ent (N : Nat) : Ent Go.Proofs.Try.prog T0 := mkEnt 34 [(false, [.ro 5])] spec_DrawHarderPuzzle.sig (fun t => spec_DrawHarderPuzzle.g N t) (fun t r h => spec_DrawHarderPuzzle.good N t r h)
end Go.Proofs.Ytpeleommbipeaaa.M

namespace Go.Proofs.Ytpeleommbipeaaa.M
open Go Go.PM Go.Proofs.Ytpeleommbipeaaa.P
set_option linter.unusedVariables false
set_option maxRecDepth 100000
/-! ### spec_DrawAddClue -/
abbrev spec_DrawAddClue.R : Type := Int × List S38 × Int × Int × Int
abbrev spec_DrawAddClue.sig : Sig := ⟨[(false, 1)], [], [.sl false 5], [(true, 2), (true, 3)], [], [.int .i64, .sl true 38, .int .i64, .int .i64, .int .i64]⟩
noncomputable def spec_DrawAddClue.C : Cfg D0 := ⟨Go.Proofs.Try.prog, T0, 61, 2048, 16, 0, []⟩
noncomputable def spec_DrawAddClue.E (N : Nat) : List (Ent Go.Proofs.Try.prog T0) := [spec_l1Cur_puzzle.ent N, spec_l1Cur_clue.ent N]
noncomputable def spec_DrawAddClue.O (N : Nat) : Orc D0 spec_DrawAddClue.R := orcOf (spec_DrawAddClue.E N)
noncomputable def spec_DrawAddClue.K0 : Ex → St D0 → Option spec_DrawAddClue.R := exitK spec_DrawAddClue.C Go.Proofs.Try.f35.results.toList [(true, [.any, .own 38]), (true, [.any, .any, .any])] (decOut spec_DrawAddClue.sig)
noncomputable def spec_DrawAddClue.c1 : Code := codeAt (Go.Proofs.Try.f35.body.getD .skip) []
noncomputable def spec_DrawAddClue.o0 (N : Nat) (a0 : List Int) : Option spec_DrawAddClue.R :=
 (spec_l1Cur_puzzle.g N a0 0 0).bind fun r1 =>
 (spec_l1Cur_clue.g N r1.1 r1.2.2.1 r1.2.2.2.1 r1.2.2.2.2).bind fun r2 =>
 some (r1.1, r1.2.1, r2.1, r2.2.1, r2.2.2.1)
theorem spec_DrawAddClue.o0.run (N : Nat) (a0 : List Int) : runC spec_DrawAddClue.C (spec_DrawAddClue.O N) N spec_DrawAddClue.c1 1 (st0 [.one (.sl false 5 a0)] [] : St D0) spec_DrawAddClue.K0 = spec_DrawAddClue.o0 N a0 := by kernel_rfl
noncomputable def spec_DrawAddClue.g (N : Nat) (a0 : List Int) : Option spec_DrawAddClue.R := spec_DrawAddClue.o0 N a0
theorem spec_DrawAddClue.g.run (N : Nat) (a0 : List Int) : runC spec_DrawAddClue.C (spec_DrawAddClue.O N) N spec_DrawAddClue.c1 1 (st0 [.one (.sl false 5 a0)] [] : St D0) spec_DrawAddClue.K0 = spec_DrawAddClue.g N a0 := by
  exact (spec_DrawAddClue.o0.run N a0).trans rfl
theorem spec_DrawAddClue.good (N : Nat) (a0 : List Int) (r : spec_DrawAddClue.R) (h : spec_DrawAddClue.g N a0 = some r) : Go.PM.Good Go.Proofs.Try.prog T0 35 [.one (.sl false 5 a0)] [] (spec_DrawAddClue.sig.ret r) (spec_DrawAddClue.sig.bs r) :=
  good_fn tabOk0 mixed0 spec_DrawAddClue.sig (spec_DrawAddClue.E N) Go.Proofs.Try.func35 (by kernel_rfl) (by kernel_rfl) 61 2048 0 [] [(true, [.any, .own 38]), (true, [.any, .any, .any])] (by kernel_rfl) rfl ((spec_DrawAddClue.g.run N a0).trans h)
noncomputable def spec_DrawAddClue.ent (N : Nat) : Ent Go.Proofs.Try.prog T0 := mkEnt 35 [(false, [.ro 5])] spec_DrawAddClue.sig (fun t => spec_DrawAddClue.g N t) (fun t r h => spec_DrawAddClue.good N t r h)
end Go.Proofs.Ytpeleommbipeaaa.M

namespace Go.Proofs.Ytpeleommbipeaaa.M
open Go Go.PM Go.Proofs.Ytpeleommbipeaaa.P
set_option linter.unusedVariables false
set_option maxRecDepth 100000
/-! ### spec_DrawDropClue -/
abbrev spec_DrawDropClue.R : Type := Int × List S38 × Int
abbrev spec_DrawDropClue.sig : Sig := ⟨[(false, 1)], [], [.sl false 5], [(true, 2), (false, 1)], [], [.int .i64, .sl true 38, .int .i64]⟩
noncomputable def spec_DrawDropClue.C : Cfg D0 := ⟨Go.Proofs.Try.prog, T0, 29, 0, 16, 0, []⟩
noncomputable def spec_DrawDropClue.E (N : Nat) : List (Ent Go.Proofs.Try.prog T0) := [spec_l1Cur_puzzle.ent N, spec_l1Cur_pick.ent N]
noncomputable def spec_DrawDropClue.O (N : Nat) : Orc D0 spec_DrawDropClue.R := orcOf (spec_DrawDropClue.E N)
noncomputable def spec_DrawDropClue.K0 : Ex → St D0 → Option spec_DrawDropClue.R := exitK spec_DrawDropClue.C Go.Proofs.Try.f36.results.toList [(true, [.any, .own 38]), (false, [.any])] (decOut spec_DrawDropClue.sig)
noncomputable def spec_DrawDropClue.c1 : Code := codeAt (Go.Proofs.Try.f36.body.getD .skip) []
noncomputable def spec_DrawDropClue.o0 (N : Nat) (a0 : List Int) : Option spec_DrawDropClue.R :=
 (spec_l1Cur_puzzle.g N a0 0 0).bind fun r1 =>
 (spec_l1Cur_pick.g N 6 r1.2.2.1 r1.2.2.2.1 r1.2.2.2.2).bind fun r2 =>
 (spec_l1Cur_pick.g N 9 r2.2.1 r2.2.2.1 r2.2.2.2).bind fun r3 =>
 some (r1.1, r1.2.1, (w64 (r2.1 - (w64 (Int.tdiv r3.1 8)))))
theorem spec_DrawDropClue.o0.run (N : Nat) (a0 : List Int) : runC spec_DrawDropClue.C (spec_DrawDropClue.O N) N spec_DrawDropClue.c1 1 (st0 [.one (.sl false 5 a0)] [] : St D0) spec_DrawDropClue.K0 = spec_DrawDropClue.o0 N a0 := by kernel_rfl
noncomputable def spec_DrawDropClue.g (N : Nat) (a0 : List Int) : Option spec_DrawDropClue.R := spec_DrawDropClue.o0 N a0
theorem spec_DrawDropClue.g.run (N : Nat) (a0 : List Int) : runC spec_DrawDropClue.C (spec_DrawDropClue.O N) N spec_DrawDropClue.c1 1 (st0 [.one (.sl false 5 a0)] [] : St D0) spec_DrawDropClue.K0 = spec_DrawDropClue.g N a0 := by
  exact (spec_DrawDropClue.o0.run N a0).trans rfl
theorem spec_DrawDropClue.good (N : Nat) (a0 : List Int) (r : spec_DrawDropClue.R) (h : spec_DrawDropClue.g N a0 = some r) : Go.PM.Good Go.Proofs.Try.prog T0 36 [.one (.sl false 5 a0)] [] (spec_DrawDropClue.sig.ret r) (spec_DrawDropClue.sig.bs r) :=
  good_fn tabOk0 mixed0 spec_DrawDropClue.sig (spec_DrawDropClue.E N) Go.Proofs.Try.func36 (by kernel_rfl) (by kernel_rfl) 29 0 0 [] [(true, [.any, .own 38]), (false, [.any])] (by kernel_rfl) rfl ((spec_DrawDropClue.g.run N a0).trans h)
noncomputable def spec_DrawDropClue.ent (N : Nat) : Ent Go.Proofs.Try.prog T0 := mkEnt 36 [(false, [.ro 5])] spec_DrawDropClue.sig (fun t => spec_DrawDropClue.g N t) (fun t r h => spec_DrawDropClue.good N t r h)
end Go.Proofs.Ytpeleommbipeaaa.M

namespace Go.Proofs.Ytpeleommbipeaaa.M
open Go Go.PM Go.Proofs.Ytpeleommbipeaaa.P
set_option linter.unusedVariables false
set_option maxRecDepth 100000
/-! ### spec_DrawDoesFit -/
abbrev spec_DrawDoesFit.R : Type := Int × Int × Int × Int × Int
abbrev spec_DrawDoesFit.sig : Sig := ⟨[(false, 1)], [], [.sl false 5], [(false, 1), (true, 3), (false, 1)], [], [.int .i64, .int .i64, .int .i64, .int .i64, .int .i64]⟩
noncomputable def spec_DrawDoesFit.C : Cfg D0 := ⟨Go.Proofs.Try.prog, T0, 131325, 0, 32, 0, []⟩
noncomputable def spec_DrawDoesFit.E (N : Nat) : List (Ent Go.Proofs.Try.prog T0) := [spec_l1Cur_hours.ent N, spec_l1Cur_clue.ent N, spec_l1Cur_one.ent N, spec_l1Cur_among.ent N, spec_l1Least.ent N, spec_l1Most.ent N, spec_l1Cur_pick.ent N]
noncomputable def spec_DrawDoesFit.O (N : Nat) : Orc D0 spec_DrawDoesFit.R := orcOf (spec_DrawDoesFit.E N)
noncomputable def spec_DrawDoesFit.K0 : Ex → St D0 → Option spec_DrawDoesFit.R := exitK spec_DrawDoesFit.C Go.Proofs.Try.f37.results.toList [(false, [.any]), (true, [.any, .any, .any]), (false, [.any])] (decOut spec_DrawDoesFit.sig)
noncomputable def spec_DrawDoesFit.c1 : Code := codeAt (Go.Proofs.Try.f37.body.getD .skip) []
noncomputable def spec_DrawDoesFit.o0 (N : Nat) (a0 : List Int) : Option spec_DrawDoesFit.R :=
 (spec_l1Cur_hours.g N a0 0 0).bind fun r1 =>
 (spec_l1Cur_clue.g N r1.1 r1.2.1 r1.2.2.1 r1.2.2.2).bind fun r2 =>
 (spec_l1Cur_one.g N 12 r2.2.2.2.1 r2.2.2.2.2.1 r2.2.2.2.2.2).bind fun r3 =>
 bif r3.1 then
  (spec_l1Cur_among.g N ([(-1), 0, 719, 720, 1439, 1440] : List Int) r3.2.1 r3.2.2.1 r3.2.2.2).bind fun r4 =>
  some (r1.1, r2.1, r2.2.1, r2.2.2.1, r4.1)
 else
 (spec_l1Least.g N 24 r1.1).bind fun r5 =>
 (spec_l1Most.g N 1 (w64 (60 * r5))).bind fun r6 =>
 (spec_l1Least.g N 1440 r6).bind fun r7 =>
 (spec_l1Cur_pick.g N r7 r3.2.1 r3.2.2.1 r3.2.2.2).bind fun r8 =>
 some (r1.1, r2.1, r2.2.1, r2.2.2.1, r8.1)
theorem spec_DrawDoesFit.o0.run (N : Nat) (a0 : List Int) : runC spec_DrawDoesFit.C (spec_DrawDoesFit.O N) N spec_DrawDoesFit.c1 1 (st0 [.one (.sl false 5 a0)] [] : St D0) spec_DrawDoesFit.K0 = spec_DrawDoesFit.o0 N a0 := by kernel_rfl
noncomputable def spec_DrawDoesFit.g (N : Nat) (a0 : List Int) : Option spec_DrawDoesFit.R := spec_DrawDoesFit.o0 N a0
theorem spec_DrawDoesFit.g.run (N : Nat) (a0 : List Int) : runC spec_DrawDoesFit.C (spec_DrawDoesFit.O N) N spec_DrawDoesFit.c1 1 (st0 [.one (.sl false 5 a0)] [] : St D0) spec_DrawDoesFit.K0 = spec_DrawDoesFit.g N a0 := by
  exact (spec_DrawDoesFit.o0.run N a0).trans rfl
theorem spec_DrawDoesFit.good (N : Nat) (a0 : List Int) (r : spec_DrawDoesFit.R) (h : spec_DrawDoesFit.g N a0 = some r) : Go.PM.Good Go.Proofs.Try.prog T0 37 [.one (.sl false 5 a0)] [] (spec_DrawDoesFit.sig.ret r) (spec_DrawDoesFit.sig.bs r) :=
  good_fn tabOk0 mixed0 spec_DrawDoesFit.sig (spec_DrawDoesFit.E N) Go.Proofs.Try.func37 (by kernel_rfl) (by kernel_rfl) 131325 0 0 [] [(false, [.any]), (true, [.any, .any, .any]), (false, [.any])] (by kernel_rfl) rfl ((spec_DrawDoesFit.g.run N a0).trans h)
noncomputable def spec_DrawDoesFit.ent (N : Nat) : Ent Go.Proofs.Try.prog T0 := mkEnt 37 [(false, [.ro 5])] spec_DrawDoesFit.sig (fun t => spec_DrawDoesFit.g N t) (fun t r h => spec_DrawDoesFit.good N t r h)
end Go.Proofs.Ytpeleommbipeaaa.M
