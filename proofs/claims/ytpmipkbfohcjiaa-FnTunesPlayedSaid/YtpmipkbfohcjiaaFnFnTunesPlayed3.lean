/- What the program's functions compute, walked by the machine (part 3). No conditions but those stated. -/
import Derived.Test.YtpmipkbfohcjiaaFnFnTunesPlayed2
namespace Go.Proofs.Ytpmipkbfohcjiaa.M
open Go Go.PM Go.Proofs.Ytpmipkbfohcjiaa.P
set_option linter.unusedVariables false
set_option maxRecDepth 100000
/-! ### spec_l1Cur_of -/
abbrev spec_l1Cur_of.R : Type := ByteArray × List Int × Int × Int
abbrev spec_l1Cur_of.sig : Sig := ⟨[(false, 1), (false, 1)], [(70, 3)], [.ptr 0 0, .sl false 9, .sl false 5, .int .i64, .int .u64], [(false, 1)], [(70, 3)], [.str, .sl false 5, .int .i64, .int .u64]⟩
noncomputable def spec_l1Cur_of.C : Cfg D0 := ⟨Go.Proofs.Try.prog, T0, 19, 0, 12, 1, [], 224, false, []⟩
noncomputable def spec_l1Cur_of.E (N : Nat) : List (Ent Go.Proofs.Try.prog T0) := [spec_l1Cur_pick.ent N]
noncomputable def spec_l1Cur_of.O (N : Nat) : Orc D0 spec_l1Cur_of.R := orcOf (spec_l1Cur_of.E N)
noncomputable def spec_l1Cur_of.K0 : Ex → St D0 → Option spec_l1Cur_of.R := exitK spec_l1Cur_of.C Go.Proofs.Try.f78.results.toList [(false, [.any])] (decOut spec_l1Cur_of.sig)
noncomputable def spec_l1Cur_of.c1 : Code := codeAt (Go.Proofs.Try.f78.body.getD .skip) []
noncomputable def spec_l1Cur_of.o0 (N : Nat) (a1 : List ByteArray) (b0_0 : List Int) (b0_1 : Int) (b0_2 : Int) : Option spec_l1Cur_of.R :=
 (spec_l1Cur_pick.g N (a1.length : Int) b0_0 b0_1 b0_2).bind fun r1 =>
 bif (decide (0 ≤ r1.1)) then
  bif (decide (r1.1 < (a1.length : Int))) then
   (a1[(r1.1 : Int).toNat]?).bind fun x2 =>
   some (x2, r1.2.1, r1.2.2.1, r1.2.2.2)
  else
  none
 else
 none
theorem spec_l1Cur_of.o0.run (N : Nat) (a1 : List ByteArray) (b0_0 : List Int) (b0_1 : Int) (b0_2 : Int) : runC spec_l1Cur_of.C (spec_l1Cur_of.O N) N spec_l1Cur_of.c1 1 (st0 [.one (.ptr 0 0), .one (.sl false 9 a1)] [(70, [.sl false 5 b0_0, .int .i64 b0_1, .int .u64 b0_2])] : St D0) spec_l1Cur_of.K0 = spec_l1Cur_of.o0 N a1 b0_0 b0_1 b0_2 := by kernel_rfl
noncomputable def spec_l1Cur_of.g (N : Nat) (a1 : List ByteArray) (b0_0 : List Int) (b0_1 : Int) (b0_2 : Int) : Option spec_l1Cur_of.R := spec_l1Cur_of.o0 N a1 b0_0 b0_1 b0_2
theorem spec_l1Cur_of.g.run (N : Nat) (a1 : List ByteArray) (b0_0 : List Int) (b0_1 : Int) (b0_2 : Int) : runC spec_l1Cur_of.C (spec_l1Cur_of.O N) N spec_l1Cur_of.c1 1 (st0 [.one (.ptr 0 0), .one (.sl false 9 a1)] [(70, [.sl false 5 b0_0, .int .i64 b0_1, .int .u64 b0_2])] : St D0) spec_l1Cur_of.K0 = spec_l1Cur_of.g N a1 b0_0 b0_1 b0_2 := by
  exact (spec_l1Cur_of.o0.run N a1 b0_0 b0_1 b0_2).trans rfl
theorem spec_l1Cur_of.good (N : Nat) (a1 : List ByteArray) (b0_0 : List Int) (b0_1 : Int) (b0_2 : Int) (r : spec_l1Cur_of.R) (h : spec_l1Cur_of.g N a1 b0_0 b0_1 b0_2 = some r) : Go.PM.Good Go.Proofs.Try.prog T0 78 [.one (.ptr 0 0), .one (.sl false 9 a1)] [(70, [.sl false 5 b0_0, .int .i64 b0_1, .int .u64 b0_2])] (spec_l1Cur_of.sig.ret r) (spec_l1Cur_of.sig.bs r) :=
  good_fn tabOk0 mixed0 spec_l1Cur_of.sig (spec_l1Cur_of.E N) Go.Proofs.Try.func78 (by kernel_rfl) (by kernel_rfl) 19 0 1 [] 224 false [] [(false, [.any])] (by kernel_rfl) rfl rfl ((spec_l1Cur_of.g.run N a1 b0_0 b0_1 b0_2).trans h)
noncomputable def spec_l1Cur_of.ent (N : Nat) : Ent Go.Proofs.Try.prog T0 := mkEnt 78 [(false, [.any]), (false, [.ro 9])] spec_l1Cur_of.sig (fun t => spec_l1Cur_of.g N t.2.1 t.2.2.1 t.2.2.2.1 t.2.2.2.2) (fun t r h => spec_l1Cur_of.good N t.2.1 t.2.2.1 t.2.2.2.1 t.2.2.2.2 r h)
end Go.Proofs.Ytpmipkbfohcjiaa.M

namespace Go.Proofs.Ytpmipkbfohcjiaa.M
open Go Go.PM Go.Proofs.Ytpmipkbfohcjiaa.P
set_option linter.unusedVariables false
set_option maxRecDepth 100000
/-! ### spec_l1Cur_tune -/
abbrev spec_l1Cur_tune.R : Type := List ByteArray × List Int × Int × Int
abbrev spec_l1Cur_tune.sig : Sig := ⟨[(false, 1)], [(70, 3)], [.ptr 0 0, .sl false 5, .int .i64, .int .u64], [(false, 1)], [(70, 3)], [.sl true 9, .sl false 5, .int .i64, .int .u64]⟩
noncomputable def spec_l1Cur_tune.C : Cfg D0 := ⟨Go.Proofs.Try.prog, T0, 16941453, 0, 32, 1, [(14, [3], [0]), (7548, [0, 3], [0])], 69733456, true, [(234, false, 3, [], [0]), (234, true, 3, [0], [0])]⟩
noncomputable def spec_l1Cur_tune.E (N : Nat) : List (Ent Go.Proofs.Try.prog T0) := [spec_l1Cur_sureTune.ent N, spec_l1Cur_pick.ent N, spec_l1Cur_of.ent N]
noncomputable def spec_l1Cur_tune.O (N : Nat) : Orc D0 spec_l1Cur_tune.R := orcOf (spec_l1Cur_tune.E N)
noncomputable def spec_l1Cur_tune.K0 : Ex → St D0 → Option spec_l1Cur_tune.R := exitK spec_l1Cur_tune.C Go.Proofs.Try.f69.results.toList [(false, [.own 9])] (decOut spec_l1Cur_tune.sig)
noncomputable def spec_l1Cur_tune.c1 : Code := codeAt (Go.Proofs.Try.f69.body.getD .skip) []
noncomputable def spec_l1Cur_tune.c2 : Code := codeAt (Go.Proofs.Try.f69.body.getD .skip) [false]
noncomputable def spec_l1Cur_tune.c6 : Code := codeAt (Go.Proofs.Try.f69.body.getD .skip) [true, false]
noncomputable def spec_l1Cur_tune.c15 : Code := codeAt (Go.Proofs.Try.f69.body.getD .skip) [true, true, true]
noncomputable def spec_l1Cur_tune.c28 : Code := codeAt (Go.Proofs.Try.f69.body.getD .skip) [true, true, false, false]
noncomputable def spec_l1Cur_tune.c116 : Code := codeAt (Go.Proofs.Try.f69.body.getD .skip) [true, true, false, true, false, false]
noncomputable def spec_l1Cur_tune.c234 : Code := codeAt (Go.Proofs.Try.f69.body.getD .skip) [true, true, false, true, false, true, false]
noncomputable def spec_l1Cur_tune.c470 : Code := codeAt (Go.Proofs.Try.f69.body.getD .skip) [true, true, false, true, false, true, true, false]
noncomputable def spec_l1Cur_tune.c942 : Code := codeAt (Go.Proofs.Try.f69.body.getD .skip) [true, true, false, true, false, true, true, true, false]
noncomputable def spec_l1Cur_tune.c1886 : Code := codeAt (Go.Proofs.Try.f69.body.getD .skip) [true, true, false, true, false, true, true, true, true, false]
noncomputable def spec_l1Cur_tune.c3775 : Code := codeAt (Go.Proofs.Try.f69.body.getD .skip) [true, true, false, true, false, true, true, true, true, true, true]
noncomputable def spec_l1Cur_tune.c15096 : Code := codeAt (Go.Proofs.Try.f69.body.getD .skip) [true, true, false, true, false, true, true, true, true, true, false, false, false]
noncomputable def spec_l1Cur_tune.K15 (N : Nat) : Ex → St D0 → Option spec_l1Cur_tune.R := spec_l1Cur_tune.K0
noncomputable def spec_l1Cur_tune.o1 (N : Nat) (v0 : List ByteArray) (v1 : List Int) (v2 : Int) (v3 : Int) : Option spec_l1Cur_tune.R :=
 some (v0, v1, v2, v3)
theorem spec_l1Cur_tune.o1.run (N : Nat) (v0 : List ByteArray) (v1 : List Int) (v2 : Int) (v3 : Int) : runC spec_l1Cur_tune.C (spec_l1Cur_tune.O N) N spec_l1Cur_tune.c15 15 (mkSt [(3, .one (.sl true 9 v0))] [(0, some (70, [.sl false 5 v1, .int .i64 v2, .int .u64 v3]))] : St D0) spec_l1Cur_tune.K0 = spec_l1Cur_tune.o1 N v0 v1 v2 v3 := by kernel_rfl
noncomputable def spec_l1Cur_tune.d1 (N : Nat) (v0 : List ByteArray) (v1 : List Int) (v2 : Int) (v3 : Int) : Option spec_l1Cur_tune.R := spec_l1Cur_tune.o1 N v0 v1 v2 v3
theorem spec_l1Cur_tune.d1.run (N : Nat) (v0 : List ByteArray) (v1 : List Int) (v2 : Int) (v3 : Int) : runC spec_l1Cur_tune.C (spec_l1Cur_tune.O N) N spec_l1Cur_tune.c15 15 (mkSt [(3, .one (.sl true 9 v0))] [(0, some (70, [.sl false 5 v1, .int .i64 v2, .int .u64 v3]))] : St D0) (spec_l1Cur_tune.K15 N) = spec_l1Cur_tune.d1 N v0 v1 v2 v3 := by
  exact (spec_l1Cur_tune.o1.run N v0 v1 v2 v3).trans rfl
noncomputable def spec_l1Cur_tune.B7 (N : Nat) : St D0 → Option spec_l1Cur_tune.R := fun s' => runC spec_l1Cur_tune.C (spec_l1Cur_tune.O N) N spec_l1Cur_tune.c15 15 s' (spec_l1Cur_tune.K15 N)
noncomputable def spec_l1Cur_tune.K15096 (N : Nat) (Kn7548 : St D0 → Option spec_l1Cur_tune.R) : Ex → St D0 → Option spec_l1Cur_tune.R := (onN (fun s => spec_l1Cur_tune.C.tidy 7548 s ((onN Kn7548 (blockK 1 (blockK 0 (onN (fun s => spec_l1Cur_tune.C.tidy 14 s (spec_l1Cur_tune.B7 N)) spec_l1Cur_tune.K0)))) .normal)) (onN Kn7548 (blockK 1 (blockK 0 (onN (fun s => spec_l1Cur_tune.C.tidy 14 s (spec_l1Cur_tune.B7 N)) spec_l1Cur_tune.K0)))))
noncomputable def spec_l1Cur_tune.o2 (N : Nat) (v0 : List ByteArray) (v1 : List Int) (v2 : Int) (v3 : Int) (c2 : (List ByteArray) → (List Int) → Int → Int → Option spec_l1Cur_tune.R) (c1 : (List ByteArray) → (List Int) → Int → Int → Option spec_l1Cur_tune.R) : Option spec_l1Cur_tune.R :=
 (spec_l1Cur_pick.g N 2 v1 v2 v3).bind fun r1 =>
 bif (decide ((v0.length : Int) < (w64 (12 + r1.1)))) then
  bif (decide (0 < (v0.length : Int))) then
   (v0[(0 : Int).toNat]?).bind fun x2 =>
   bif (Nat.blt (v0.length + ([x2] : List ByteArray).length) 8796093022208) then
    c2 (v0 ++ ([x2] : List ByteArray)) r1.2.1 r1.2.2.1 r1.2.2.2
   else
   none
  else
  none
 else
 c1 v0 r1.2.1 r1.2.2.1 r1.2.2.2
theorem spec_l1Cur_tune.o2.run (N : Nat) (Kb7 : St D0 → Option spec_l1Cur_tune.R) (Kn7548 : St D0 → Option spec_l1Cur_tune.R) (v0 : List ByteArray) (v1 : List Int) (v2 : Int) (v3 : Int) : runC spec_l1Cur_tune.C (spec_l1Cur_tune.O N) N spec_l1Cur_tune.c15096 15096 (mkSt [(0, .one (.ptr 0 0)), (3, .one (.sl true 9 v0))] [(0, some (70, [.sl false 5 v1, .int .i64 v2, .int .u64 v3]))] : St D0) (onN (fun s => spec_l1Cur_tune.C.tidy 7548 s ((onN Kn7548 (blockK 1 (blockK 0 (onN (fun s => spec_l1Cur_tune.C.tidy 14 s Kb7) spec_l1Cur_tune.K0)))) .normal)) (onN Kn7548 (blockK 1 (blockK 0 (onN (fun s => spec_l1Cur_tune.C.tidy 14 s Kb7) spec_l1Cur_tune.K0))))) = spec_l1Cur_tune.o2 N v0 v1 v2 v3 ((fun w0 w1 w2 w3 => Kn7548 (mkSt [(0, .one (.ptr 0 0)), (3, .one (.sl true 9 w0))] [(0, some (70, [.sl false 5 w1, .int .i64 w2, .int .u64 w3]))] : St D0))) ((fun w0 w1 w2 w3 => Kb7 (mkSt [(3, .one (.sl true 9 w0))] [(0, some (70, [.sl false 5 w1, .int .i64 w2, .int .u64 w3]))] : St D0))) := by kernel_rfl
noncomputable def spec_l1Cur_tune.d2 (N : Nat) (v0 : List ByteArray) (v1 : List Int) (v2 : Int) (v3 : Int) (c2 : (List ByteArray) → (List Int) → Int → Int → Option spec_l1Cur_tune.R) : Option spec_l1Cur_tune.R := spec_l1Cur_tune.o2 N v0 v1 v2 v3 c2 ((fun w0 w1 w2 w3 => spec_l1Cur_tune.d1 N w0 w1 w2 w3))
theorem spec_l1Cur_tune.d2.run (N : Nat) (Kn7548 : St D0 → Option spec_l1Cur_tune.R) (v0 : List ByteArray) (v1 : List Int) (v2 : Int) (v3 : Int) : runC spec_l1Cur_tune.C (spec_l1Cur_tune.O N) N spec_l1Cur_tune.c15096 15096 (mkSt [(0, .one (.ptr 0 0)), (3, .one (.sl true 9 v0))] [(0, some (70, [.sl false 5 v1, .int .i64 v2, .int .u64 v3]))] : St D0) (spec_l1Cur_tune.K15096 N Kn7548) = spec_l1Cur_tune.d2 N v0 v1 v2 v3 ((fun w0 w1 w2 w3 => Kn7548 (mkSt [(0, .one (.ptr 0 0)), (3, .one (.sl true 9 w0))] [(0, some (70, [.sl false 5 w1, .int .i64 w2, .int .u64 w3]))] : St D0))) := by
  unfold spec_l1Cur_tune.d2; exact (spec_l1Cur_tune.o2.run N (spec_l1Cur_tune.B7 N) Kn7548 v0 v1 v2 v3).trans (congr (congr rfl rfl) (funext fun w0 => funext fun w1 => funext fun w2 => funext fun w3 => spec_l1Cur_tune.d1.run N w0 w1 w2 w3))
noncomputable def spec_l1Cur_tune.K7548 (N : Nat) : Ex → St D0 → Option spec_l1Cur_tune.R := (blockK 1 (blockK 0 (onN (fun s => spec_l1Cur_tune.C.tidy 14 s (spec_l1Cur_tune.B7 N)) spec_l1Cur_tune.K0)))
noncomputable def spec_l1Cur_tune.l2 (N : Nat) : Nat → (List ByteArray) → (List Int) → Int → Int → Option spec_l1Cur_tune.R
  | 0, _, _, _, _ => none
  | n + 1, v0, v1, v2, v3 => spec_l1Cur_tune.d2 N v0 v1 v2 v3 ((fun w0 w1 w2 w3 => spec_l1Cur_tune.l2 N n w0 w1 w2 w3))
theorem spec_l1Cur_tune.loop7548 (N : Nat) : ∀ n, (∀ (v0 : List ByteArray) (v1 : List Int) (v2 : Int) (v3 : Int), iter (loopF spec_l1Cur_tune.C (spec_l1Cur_tune.O N) N spec_l1Cur_tune.c15096 7548) n (mkSt [(0, .one (.ptr 0 0)), (3, .one (.sl true 9 v0))] [(0, some (70, [.sl false 5 v1, .int .i64 v2, .int .u64 v3]))] : St D0) (spec_l1Cur_tune.K7548 N) = spec_l1Cur_tune.l2 N n v0 v1 v2 v3)
  | 0 => (fun v0 v1 v2 v3 => rfl)
  | n + 1 => (fun v0 v1 v2 v3 => (spec_l1Cur_tune.d2.run N (fun s => iter (loopF spec_l1Cur_tune.C (spec_l1Cur_tune.O N) N spec_l1Cur_tune.c15096 7548) n s (spec_l1Cur_tune.K7548 N)) v0 v1 v2 v3).trans (show _ = spec_l1Cur_tune.d2 N v0 v1 v2 v3 ((fun w0 w1 w2 w3 => spec_l1Cur_tune.l2 N n w0 w1 w2 w3)) from (congr rfl (funext fun w0 => funext fun w1 => funext fun w2 => funext fun w3 => (spec_l1Cur_tune.loop7548 N n) w0 w1 w2 w3))))
noncomputable def spec_l1Cur_tune.o0 (N : Nat) (b0_0 : List Int) (b0_1 : Int) (b0_2 : Int) (c1 : (List ByteArray) → (List Int) → Int → Int → Option spec_l1Cur_tune.R) (c2 : (List ByteArray) → (List Int) → Int → Int → Option spec_l1Cur_tune.R) : Option spec_l1Cur_tune.R :=
 (spec_l1Cur_sureTune.g N b0_0 b0_1 b0_2).bind fun r1 =>
 (spec_l1Cur_pick.g N 14 r1.2.1 r1.2.2.1 r1.2.2.2).bind fun r2 =>
 bif (r2.1 == 0) then
  bif (Nat.blt 0 r1.1.length) then
   (spec_l1Cur_of.g N ([(⟨#[]⟩ : ByteArray), (⟨#[57]⟩ : ByteArray), (⟨#[48]⟩ : ByteArray), (⟨#[49, 50, 51, 52, 53, 54, 55, 56]⟩ : ByteArray), (⟨#[49, 50, 51, 52, 53, 54, 55, 56, 49]⟩ : ByteArray)] : List ByteArray) r2.2.1 r2.2.2.1 r2.2.2.2).bind fun r3 =>
   bif (decide (0 < ((r1.1.length : Nat) : Int))) then
    (r1.1[(0 : Int).toNat]?).bind fun x4 =>
    bif (Nat.ble r1.1.length (r1.1.set (0 : Int).toNat r3.1).length) then
     c1 ((r1.1.set (0 : Int).toNat r3.1).take r1.1.length) r3.2.1 r3.2.2.1 r3.2.2.2
    else
    none
   else
   none
  else
  (spec_l1Cur_of.g N ([(⟨#[]⟩ : ByteArray), (⟨#[57]⟩ : ByteArray), (⟨#[48]⟩ : ByteArray), (⟨#[49, 50, 51, 52, 53, 54, 55, 56]⟩ : ByteArray), (⟨#[49, 50, 51, 52, 53, 54, 55, 56, 49]⟩ : ByteArray)] : List ByteArray) r2.2.1 r2.2.2.1 r2.2.2.2).bind fun r5 =>
  bif (decide (0 < (r1.1.length : Int))) then
   none
  else
  none
 else
 bif (r2.1 == 1) then
  some (([] : List ByteArray), r2.2.1, r2.2.2.1, r2.2.2.2)
 else
 bif (r2.1 == 2) then
  c2 r1.1 r2.2.1 r2.2.2.1 r2.2.2.2
 else
 c1 r1.1 r2.2.1 r2.2.2.1 r2.2.2.2
theorem spec_l1Cur_tune.o0.run (N : Nat) (H15 : Code) (H15096 : Code) (b0_0 : List Int) (b0_1 : Int) (b0_2 : Int) : runC spec_l1Cur_tune.C (spec_l1Cur_tune.O N) N (.seq spec_l1Cur_tune.c2 (.seq spec_l1Cur_tune.c6 (.seq (.seq spec_l1Cur_tune.c28 (.block 0 (.seq spec_l1Cur_tune.c116 (.cond (.tmp 8) spec_l1Cur_tune.c234 (.seq spec_l1Cur_tune.c470 (.cond (.tmp 15) spec_l1Cur_tune.c942 (.seq spec_l1Cur_tune.c1886 (.cond (.tmp 17) (.block 1 (.loop H15096)) spec_l1Cur_tune.c3775)))))))) H15))) 1 (st0 [.one (.ptr 0 0)] [(70, [.sl false 5 b0_0, .int .i64 b0_1, .int .u64 b0_2])] : St D0) spec_l1Cur_tune.K0 = spec_l1Cur_tune.o0 N b0_0 b0_1 b0_2 ((fun w0 w1 w2 w3 => runC spec_l1Cur_tune.C (spec_l1Cur_tune.O N) N H15 15 (mkSt [(3, .one (.sl true 9 w0))] [(0, some (70, [.sl false 5 w1, .int .i64 w2, .int .u64 w3]))] : St D0) spec_l1Cur_tune.K0)) ((fun w0 w1 w2 w3 => iter (loopF spec_l1Cur_tune.C (spec_l1Cur_tune.O N) N H15096 7548) N (mkSt [(0, .one (.ptr 0 0)), (3, .one (.sl true 9 w0))] [(0, some (70, [.sl false 5 w1, .int .i64 w2, .int .u64 w3]))] : St D0) (blockK 1 (blockK 0 (onN (fun s => spec_l1Cur_tune.C.tidy 14 s (fun s' => runC spec_l1Cur_tune.C (spec_l1Cur_tune.O N) N H15 15 s' spec_l1Cur_tune.K0)) spec_l1Cur_tune.K0))))) := by kernel_rfl
noncomputable def spec_l1Cur_tune.g (N : Nat) (b0_0 : List Int) (b0_1 : Int) (b0_2 : Int) : Option spec_l1Cur_tune.R := spec_l1Cur_tune.o0 N b0_0 b0_1 b0_2 ((fun w0 w1 w2 w3 => spec_l1Cur_tune.d1 N w0 w1 w2 w3)) ((fun w0 w1 w2 w3 => spec_l1Cur_tune.l2 N N w0 w1 w2 w3))
theorem spec_l1Cur_tune.c1_0 : spec_l1Cur_tune.c1 = (.seq spec_l1Cur_tune.c2 (.seq spec_l1Cur_tune.c6 (.seq (.seq spec_l1Cur_tune.c28 (.block 0 (.seq spec_l1Cur_tune.c116 (.cond (.tmp 8) spec_l1Cur_tune.c234 (.seq spec_l1Cur_tune.c470 (.cond (.tmp 15) spec_l1Cur_tune.c942 (.seq spec_l1Cur_tune.c1886 (.cond (.tmp 17) (.block 1 (.loop spec_l1Cur_tune.c15096)) spec_l1Cur_tune.c3775)))))))) spec_l1Cur_tune.c15))) := by kernel_rfl
theorem spec_l1Cur_tune.g.run (N : Nat) (b0_0 : List Int) (b0_1 : Int) (b0_2 : Int) : runC spec_l1Cur_tune.C (spec_l1Cur_tune.O N) N spec_l1Cur_tune.c1 1 (st0 [.one (.ptr 0 0)] [(70, [.sl false 5 b0_0, .int .i64 b0_1, .int .u64 b0_2])] : St D0) spec_l1Cur_tune.K0 = spec_l1Cur_tune.g N b0_0 b0_1 b0_2 := by
  rw [spec_l1Cur_tune.c1_0]; unfold spec_l1Cur_tune.g; exact (spec_l1Cur_tune.o0.run N spec_l1Cur_tune.c15 spec_l1Cur_tune.c15096 b0_0 b0_1 b0_2).trans (congr (congr rfl (funext fun w0 => funext fun w1 => funext fun w2 => funext fun w3 => spec_l1Cur_tune.d1.run N w0 w1 w2 w3)) (funext fun w0 => funext fun w1 => funext fun w2 => funext fun w3 => (spec_l1Cur_tune.loop7548 N N) w0 w1 w2 w3))
theorem spec_l1Cur_tune.good (N : Nat) (b0_0 : List Int) (b0_1 : Int) (b0_2 : Int) (r : spec_l1Cur_tune.R) (h : spec_l1Cur_tune.g N b0_0 b0_1 b0_2 = some r) : Go.PM.Good Go.Proofs.Try.prog T0 69 [.one (.ptr 0 0)] [(70, [.sl false 5 b0_0, .int .i64 b0_1, .int .u64 b0_2])] (spec_l1Cur_tune.sig.ret r) (spec_l1Cur_tune.sig.bs r) :=
  good_fn tabOk0 mixed0 spec_l1Cur_tune.sig (spec_l1Cur_tune.E N) Go.Proofs.Try.func69 (by kernel_rfl) (by kernel_rfl) 16941453 0 1 [(14, [3], [0]), (7548, [0, 3], [0])] 69733456 true [(234, false, 3, [], [0]), (234, true, 3, [0], [0])] [(false, [.own 9])] (by kernel_rfl) rfl rfl ((spec_l1Cur_tune.g.run N b0_0 b0_1 b0_2).trans h)
noncomputable def spec_l1Cur_tune.ent (N : Nat) : Ent Go.Proofs.Try.prog T0 := mkEnt 69 [(false, [.any])] spec_l1Cur_tune.sig (fun t => spec_l1Cur_tune.g N t.2.1 t.2.2.1 t.2.2.2) (fun t r h => spec_l1Cur_tune.good N t.2.1 t.2.2.1 t.2.2.2 r h)
end Go.Proofs.Ytpmipkbfohcjiaa.M

namespace Go.Proofs.Ytpmipkbfohcjiaa.M
open Go Go.PM Go.Proofs.Ytpmipkbfohcjiaa.P
set_option linter.unusedVariables false
set_option maxRecDepth 100000
/-! ### spec_l1Cur_among -/
abbrev spec_l1Cur_among.R : Type := Int × List Int × Int × Int
abbrev spec_l1Cur_among.sig : Sig := ⟨[(false, 1), (false, 1)], [(70, 3)], [.ptr 0 0, .sl false 3, .sl false 5, .int .i64, .int .u64], [(false, 1)], [(70, 3)], [.int .i64, .sl false 5, .int .i64, .int .u64]⟩
noncomputable def spec_l1Cur_among.C : Cfg D0 := ⟨Go.Proofs.Try.prog, T0, 19, 0, 12, 1, [], 224, false, []⟩
noncomputable def spec_l1Cur_among.E (N : Nat) : List (Ent Go.Proofs.Try.prog T0) := [spec_l1Cur_pick.ent N]
noncomputable def spec_l1Cur_among.O (N : Nat) : Orc D0 spec_l1Cur_among.R := orcOf (spec_l1Cur_among.E N)
noncomputable def spec_l1Cur_among.K0 : Ex → St D0 → Option spec_l1Cur_among.R := exitK spec_l1Cur_among.C Go.Proofs.Try.f71.results.toList [(false, [.any])] (decOut spec_l1Cur_among.sig)
noncomputable def spec_l1Cur_among.c1 : Code := codeAt (Go.Proofs.Try.f71.body.getD .skip) []
noncomputable def spec_l1Cur_among.o0 (N : Nat) (a1 : List Int) (b0_0 : List Int) (b0_1 : Int) (b0_2 : Int) : Option spec_l1Cur_among.R :=
 (spec_l1Cur_pick.g N (a1.length : Int) b0_0 b0_1 b0_2).bind fun r1 =>
 bif (decide (0 ≤ r1.1)) then
  bif (decide (r1.1 < (a1.length : Int))) then
   (a1[(r1.1 : Int).toNat]?).bind fun x2 =>
   some (x2, r1.2.1, r1.2.2.1, r1.2.2.2)
  else
  none
 else
 none
theorem spec_l1Cur_among.o0.run (N : Nat) (a1 : List Int) (b0_0 : List Int) (b0_1 : Int) (b0_2 : Int) : runC spec_l1Cur_among.C (spec_l1Cur_among.O N) N spec_l1Cur_among.c1 1 (st0 [.one (.ptr 0 0), .one (.sl false 3 a1)] [(70, [.sl false 5 b0_0, .int .i64 b0_1, .int .u64 b0_2])] : St D0) spec_l1Cur_among.K0 = spec_l1Cur_among.o0 N a1 b0_0 b0_1 b0_2 := by kernel_rfl
noncomputable def spec_l1Cur_among.g (N : Nat) (a1 : List Int) (b0_0 : List Int) (b0_1 : Int) (b0_2 : Int) : Option spec_l1Cur_among.R := spec_l1Cur_among.o0 N a1 b0_0 b0_1 b0_2
theorem spec_l1Cur_among.g.run (N : Nat) (a1 : List Int) (b0_0 : List Int) (b0_1 : Int) (b0_2 : Int) : runC spec_l1Cur_among.C (spec_l1Cur_among.O N) N spec_l1Cur_among.c1 1 (st0 [.one (.ptr 0 0), .one (.sl false 3 a1)] [(70, [.sl false 5 b0_0, .int .i64 b0_1, .int .u64 b0_2])] : St D0) spec_l1Cur_among.K0 = spec_l1Cur_among.g N a1 b0_0 b0_1 b0_2 := by
  exact (spec_l1Cur_among.o0.run N a1 b0_0 b0_1 b0_2).trans rfl
theorem spec_l1Cur_among.good (N : Nat) (a1 : List Int) (b0_0 : List Int) (b0_1 : Int) (b0_2 : Int) (r : spec_l1Cur_among.R) (h : spec_l1Cur_among.g N a1 b0_0 b0_1 b0_2 = some r) : Go.PM.Good Go.Proofs.Try.prog T0 71 [.one (.ptr 0 0), .one (.sl false 3 a1)] [(70, [.sl false 5 b0_0, .int .i64 b0_1, .int .u64 b0_2])] (spec_l1Cur_among.sig.ret r) (spec_l1Cur_among.sig.bs r) :=
  good_fn tabOk0 mixed0 spec_l1Cur_among.sig (spec_l1Cur_among.E N) Go.Proofs.Try.func71 (by kernel_rfl) (by kernel_rfl) 19 0 1 [] 224 false [] [(false, [.any])] (by kernel_rfl) rfl rfl ((spec_l1Cur_among.g.run N a1 b0_0 b0_1 b0_2).trans h)
noncomputable def spec_l1Cur_among.ent (N : Nat) : Ent Go.Proofs.Try.prog T0 := mkEnt 71 [(false, [.any]), (false, [.ro 3])] spec_l1Cur_among.sig (fun t => spec_l1Cur_among.g N t.2.1 t.2.2.1 t.2.2.2.1 t.2.2.2.2) (fun t r h => spec_l1Cur_among.good N t.2.1 t.2.2.1 t.2.2.2.1 t.2.2.2.2 r h)
end Go.Proofs.Ytpmipkbfohcjiaa.M

namespace Go.Proofs.Ytpmipkbfohcjiaa.M
open Go Go.PM Go.Proofs.Ytpmipkbfohcjiaa.P
set_option linter.unusedVariables false
set_option maxRecDepth 100000
/-! ### spec_l1Cur_quarter -/
abbrev spec_l1Cur_quarter.R : Type := Int × List Int × Int × Int
abbrev spec_l1Cur_quarter.sig : Sig := ⟨[(false, 1)], [(70, 3)], [.ptr 0 0, .sl false 5, .int .i64, .int .u64], [(false, 1)], [(70, 3)], [.int .i64, .sl false 5, .int .i64, .int .u64]⟩
noncomputable def spec_l1Cur_quarter.C : Cfg D0 := ⟨Go.Proofs.Try.prog, T0, 21, 0, 10, 1, [], 296, false, []⟩
noncomputable def spec_l1Cur_quarter.E (N : Nat) : List (Ent Go.Proofs.Try.prog T0) := [spec_l1Cur_one.ent N, spec_l1Cur_among.ent N, spec_l1Cur_pick.ent N]
noncomputable def spec_l1Cur_quarter.O (N : Nat) : Orc D0 spec_l1Cur_quarter.R := orcOf (spec_l1Cur_quarter.E N)
noncomputable def spec_l1Cur_quarter.K0 : Ex → St D0 → Option spec_l1Cur_quarter.R := exitK spec_l1Cur_quarter.C Go.Proofs.Try.f70.results.toList [(false, [.any])] (decOut spec_l1Cur_quarter.sig)
noncomputable def spec_l1Cur_quarter.c1 : Code := codeAt (Go.Proofs.Try.f70.body.getD .skip) []
noncomputable def spec_l1Cur_quarter.o0 (N : Nat) (b0_0 : List Int) (b0_1 : Int) (b0_2 : Int) : Option spec_l1Cur_quarter.R :=
 (spec_l1Cur_one.g N 12 b0_0 b0_1 b0_2).bind fun r1 =>
 bif r1.1 then
  (spec_l1Cur_among.g N ([(-1), 0, 1000000, 1000001, 4611686018427387904] : List Int) r1.2.1 r1.2.2.1 r1.2.2.2).bind fun r2 =>
  some (r2.1, r2.2.1, r2.2.2.1, r2.2.2.2)
 else
 (spec_l1Cur_pick.g N 60 r1.2.1 r1.2.2.1 r1.2.2.2).bind fun r3 =>
 some (r3.1, r3.2.1, r3.2.2.1, r3.2.2.2)
theorem spec_l1Cur_quarter.o0.run (N : Nat) (b0_0 : List Int) (b0_1 : Int) (b0_2 : Int) : runC spec_l1Cur_quarter.C (spec_l1Cur_quarter.O N) N spec_l1Cur_quarter.c1 1 (st0 [.one (.ptr 0 0)] [(70, [.sl false 5 b0_0, .int .i64 b0_1, .int .u64 b0_2])] : St D0) spec_l1Cur_quarter.K0 = spec_l1Cur_quarter.o0 N b0_0 b0_1 b0_2 := by kernel_rfl
noncomputable def spec_l1Cur_quarter.g (N : Nat) (b0_0 : List Int) (b0_1 : Int) (b0_2 : Int) : Option spec_l1Cur_quarter.R := spec_l1Cur_quarter.o0 N b0_0 b0_1 b0_2
theorem spec_l1Cur_quarter.g.run (N : Nat) (b0_0 : List Int) (b0_1 : Int) (b0_2 : Int) : runC spec_l1Cur_quarter.C (spec_l1Cur_quarter.O N) N spec_l1Cur_quarter.c1 1 (st0 [.one (.ptr 0 0)] [(70, [.sl false 5 b0_0, .int .i64 b0_1, .int .u64 b0_2])] : St D0) spec_l1Cur_quarter.K0 = spec_l1Cur_quarter.g N b0_0 b0_1 b0_2 := by
  exact (spec_l1Cur_quarter.o0.run N b0_0 b0_1 b0_2).trans rfl
theorem spec_l1Cur_quarter.good (N : Nat) (b0_0 : List Int) (b0_1 : Int) (b0_2 : Int) (r : spec_l1Cur_quarter.R) (h : spec_l1Cur_quarter.g N b0_0 b0_1 b0_2 = some r) : Go.PM.Good Go.Proofs.Try.prog T0 70 [.one (.ptr 0 0)] [(70, [.sl false 5 b0_0, .int .i64 b0_1, .int .u64 b0_2])] (spec_l1Cur_quarter.sig.ret r) (spec_l1Cur_quarter.sig.bs r) :=
  good_fn tabOk0 mixed0 spec_l1Cur_quarter.sig (spec_l1Cur_quarter.E N) Go.Proofs.Try.func70 (by kernel_rfl) (by kernel_rfl) 21 0 1 [] 296 false [] [(false, [.any])] (by kernel_rfl) rfl rfl ((spec_l1Cur_quarter.g.run N b0_0 b0_1 b0_2).trans h)
noncomputable def spec_l1Cur_quarter.ent (N : Nat) : Ent Go.Proofs.Try.prog T0 := mkEnt 70 [(false, [.any])] spec_l1Cur_quarter.sig (fun t => spec_l1Cur_quarter.g N t.2.1 t.2.2.1 t.2.2.2) (fun t r h => spec_l1Cur_quarter.good N t.2.1 t.2.2.1 t.2.2.2 r h)
end Go.Proofs.Ytpmipkbfohcjiaa.M

namespace Go.Proofs.Ytpmipkbfohcjiaa.M
open Go Go.PM Go.Proofs.Ytpmipkbfohcjiaa.P
set_option linter.unusedVariables false
set_option maxRecDepth 100000
/-! ### spec_DrawPhrasesOf -/
abbrev spec_DrawPhrasesOf.R : Type := List ByteArray × Int
abbrev spec_DrawPhrasesOf.sig : Sig := ⟨[(false, 1)], [], [.sl false 5], [(false, 1), (false, 1)], [], [.sl true 9, .int .i64]⟩
noncomputable def spec_DrawPhrasesOf.C : Cfg D0 := ⟨Go.Proofs.Try.prog, T0, 29, 0, 12, 0, [], 1280, false, []⟩
noncomputable def spec_DrawPhrasesOf.E (N : Nat) : List (Ent Go.Proofs.Try.prog T0) := [spec_l1Cur_tune.ent N, spec_l1Cur_quarter.ent N]
noncomputable def spec_DrawPhrasesOf.O (N : Nat) : Orc D0 spec_DrawPhrasesOf.R := orcOf (spec_DrawPhrasesOf.E N)
noncomputable def spec_DrawPhrasesOf.K0 : Ex → St D0 → Option spec_DrawPhrasesOf.R := exitK spec_DrawPhrasesOf.C Go.Proofs.Try.f58.results.toList [(false, [.own 9]), (false, [.any])] (decOut spec_DrawPhrasesOf.sig)
noncomputable def spec_DrawPhrasesOf.c1 : Code := codeAt (Go.Proofs.Try.f58.body.getD .skip) []
noncomputable def spec_DrawPhrasesOf.o0 (N : Nat) (a0 : List Int) : Option spec_DrawPhrasesOf.R :=
 (spec_l1Cur_tune.g N a0 0 0).bind fun r1 =>
 (spec_l1Cur_quarter.g N r1.2.1 r1.2.2.1 r1.2.2.2).bind fun r2 =>
 some (r1.1, r2.1)
theorem spec_DrawPhrasesOf.o0.run (N : Nat) (a0 : List Int) : runC spec_DrawPhrasesOf.C (spec_DrawPhrasesOf.O N) N spec_DrawPhrasesOf.c1 1 (st0 [.one (.sl false 5 a0)] [] : St D0) spec_DrawPhrasesOf.K0 = spec_DrawPhrasesOf.o0 N a0 := by kernel_rfl
noncomputable def spec_DrawPhrasesOf.g (N : Nat) (a0 : List Int) : Option spec_DrawPhrasesOf.R := spec_DrawPhrasesOf.o0 N a0
theorem spec_DrawPhrasesOf.g.run (N : Nat) (a0 : List Int) : runC spec_DrawPhrasesOf.C (spec_DrawPhrasesOf.O N) N spec_DrawPhrasesOf.c1 1 (st0 [.one (.sl false 5 a0)] [] : St D0) spec_DrawPhrasesOf.K0 = spec_DrawPhrasesOf.g N a0 := by
  exact (spec_DrawPhrasesOf.o0.run N a0).trans rfl
theorem spec_DrawPhrasesOf.good (N : Nat) (a0 : List Int) (r : spec_DrawPhrasesOf.R) (h : spec_DrawPhrasesOf.g N a0 = some r) : Go.PM.Good Go.Proofs.Try.prog T0 58 [.one (.sl false 5 a0)] [] (spec_DrawPhrasesOf.sig.ret r) (spec_DrawPhrasesOf.sig.bs r) :=
  good_fn tabOk0 mixed0 spec_DrawPhrasesOf.sig (spec_DrawPhrasesOf.E N) Go.Proofs.Try.func58 (by kernel_rfl) (by kernel_rfl) 29 0 0 [] 1280 false [] [(false, [.own 9]), (false, [.any])] (by kernel_rfl) rfl rfl ((spec_DrawPhrasesOf.g.run N a0).trans h)
noncomputable def spec_DrawPhrasesOf.ent (N : Nat) : Ent Go.Proofs.Try.prog T0 := mkEnt 58 [(false, [.ro 5])] spec_DrawPhrasesOf.sig (fun t => spec_DrawPhrasesOf.g N t) (fun t r h => spec_DrawPhrasesOf.good N t r h)
end Go.Proofs.Ytpmipkbfohcjiaa.M

namespace Go.Proofs.Ytpmipkbfohcjiaa.M
open Go Go.PM Go.Proofs.Ytpmipkbfohcjiaa.P
set_option linter.unusedVariables false
set_option maxRecDepth 100000
/-! ### spec_DrawPlayedAt -/
abbrev spec_DrawPlayedAt.R : Type := List ByteArray × Int
abbrev spec_DrawPlayedAt.sig : Sig := ⟨[(false, 1)], [], [.sl false 5], [(false, 1), (false, 1)], [], [.sl true 9, .int .i64]⟩
noncomputable def spec_DrawPlayedAt.C : Cfg D0 := ⟨Go.Proofs.Try.prog, T0, 13, 0, 8, 0, [], 16, false, []⟩
noncomputable def spec_DrawPlayedAt.E (N : Nat) : List (Ent Go.Proofs.Try.prog T0) := [spec_DrawPhrasesOf.ent N]
noncomputable def spec_DrawPlayedAt.O (N : Nat) : Orc D0 spec_DrawPlayedAt.R := orcOf (spec_DrawPlayedAt.E N)
noncomputable def spec_DrawPlayedAt.K0 : Ex → St D0 → Option spec_DrawPlayedAt.R := exitK spec_DrawPlayedAt.C Go.Proofs.Try.f29.results.toList [(false, [.own 9]), (false, [.any])] (decOut spec_DrawPlayedAt.sig)
noncomputable def spec_DrawPlayedAt.c1 : Code := codeAt (Go.Proofs.Try.f29.body.getD .skip) []
noncomputable def spec_DrawPlayedAt.o0 (N : Nat) (a0 : List Int) : Option spec_DrawPlayedAt.R :=
 (spec_DrawPhrasesOf.g N a0).bind fun r1 =>
 some (r1.1, r1.2)
theorem spec_DrawPlayedAt.o0.run (N : Nat) (a0 : List Int) : runC spec_DrawPlayedAt.C (spec_DrawPlayedAt.O N) N spec_DrawPlayedAt.c1 1 (st0 [.one (.sl false 5 a0)] [] : St D0) spec_DrawPlayedAt.K0 = spec_DrawPlayedAt.o0 N a0 := by kernel_rfl
noncomputable def spec_DrawPlayedAt.g (N : Nat) (a0 : List Int) : Option spec_DrawPlayedAt.R := spec_DrawPlayedAt.o0 N a0
theorem spec_DrawPlayedAt.g.run (N : Nat) (a0 : List Int) : runC spec_DrawPlayedAt.C (spec_DrawPlayedAt.O N) N spec_DrawPlayedAt.c1 1 (st0 [.one (.sl false 5 a0)] [] : St D0) spec_DrawPlayedAt.K0 = spec_DrawPlayedAt.g N a0 := by
  exact (spec_DrawPlayedAt.o0.run N a0).trans rfl
theorem spec_DrawPlayedAt.good (N : Nat) (a0 : List Int) (r : spec_DrawPlayedAt.R) (h : spec_DrawPlayedAt.g N a0 = some r) : Go.PM.Good Go.Proofs.Try.prog T0 29 [.one (.sl false 5 a0)] [] (spec_DrawPlayedAt.sig.ret r) (spec_DrawPlayedAt.sig.bs r) :=
  good_fn tabOk0 mixed0 spec_DrawPlayedAt.sig (spec_DrawPlayedAt.E N) Go.Proofs.Try.func29 (by kernel_rfl) (by kernel_rfl) 13 0 0 [] 16 false [] [(false, [.own 9]), (false, [.any])] (by kernel_rfl) rfl rfl ((spec_DrawPlayedAt.g.run N a0).trans h)
noncomputable def spec_DrawPlayedAt.ent (N : Nat) : Ent Go.Proofs.Try.prog T0 := mkEnt 29 [(false, [.ro 5])] spec_DrawPlayedAt.sig (fun t => spec_DrawPlayedAt.g N t) (fun t r h => spec_DrawPlayedAt.good N t r h)
end Go.Proofs.Ytpmipkbfohcjiaa.M

namespace Go.Proofs.Ytpmipkbfohcjiaa.M
open Go Go.PM Go.Proofs.Ytpmipkbfohcjiaa.P
set_option linter.unusedVariables false
set_option maxRecDepth 100000
/-! ### spec_DrawBellUpTo -/
abbrev spec_DrawBellUpTo.R : Type := List ByteArray × Int × Int
abbrev spec_DrawBellUpTo.sig : Sig := ⟨[(false, 1)], [], [.sl false 5], [(false, 1), (false, 1), (false, 1)], [], [.sl true 9, .int .i64, .int .i64]⟩
noncomputable def spec_DrawBellUpTo.C : Cfg D0 := ⟨Go.Proofs.Try.prog, T0, 61, 0, 16, 0, [], 18944, false, []⟩
noncomputable def spec_DrawBellUpTo.E (N : Nat) : List (Ent Go.Proofs.Try.prog T0) := [spec_l1Cur_tune.ent N, spec_l1Cur_among.ent N, spec_l1Cur_quarter.ent N]
noncomputable def spec_DrawBellUpTo.O (N : Nat) : Orc D0 spec_DrawBellUpTo.R := orcOf (spec_DrawBellUpTo.E N)
noncomputable def spec_DrawBellUpTo.K0 : Ex → St D0 → Option spec_DrawBellUpTo.R := exitK spec_DrawBellUpTo.C Go.Proofs.Try.f59.results.toList [(false, [.own 9]), (false, [.any]), (false, [.any])] (decOut spec_DrawBellUpTo.sig)
noncomputable def spec_DrawBellUpTo.c1 : Code := codeAt (Go.Proofs.Try.f59.body.getD .skip) []
noncomputable def spec_DrawBellUpTo.o0 (N : Nat) (a0 : List Int) : Option spec_DrawBellUpTo.R :=
 (spec_l1Cur_tune.g N a0 0 0).bind fun r1 =>
 (spec_l1Cur_among.g N ([1, 2, 3, 4, 1, 2, 8, 0, 9] : List Int) r1.2.1 r1.2.2.1 r1.2.2.2).bind fun r2 =>
 (spec_l1Cur_quarter.g N r2.2.1 r2.2.2.1 r2.2.2.2).bind fun r3 =>
 some (r1.1, r2.1, r3.1)
theorem spec_DrawBellUpTo.o0.run (N : Nat) (a0 : List Int) : runC spec_DrawBellUpTo.C (spec_DrawBellUpTo.O N) N spec_DrawBellUpTo.c1 1 (st0 [.one (.sl false 5 a0)] [] : St D0) spec_DrawBellUpTo.K0 = spec_DrawBellUpTo.o0 N a0 := by kernel_rfl
noncomputable def spec_DrawBellUpTo.g (N : Nat) (a0 : List Int) : Option spec_DrawBellUpTo.R := spec_DrawBellUpTo.o0 N a0
theorem spec_DrawBellUpTo.g.run (N : Nat) (a0 : List Int) : runC spec_DrawBellUpTo.C (spec_DrawBellUpTo.O N) N spec_DrawBellUpTo.c1 1 (st0 [.one (.sl false 5 a0)] [] : St D0) spec_DrawBellUpTo.K0 = spec_DrawBellUpTo.g N a0 := by
  exact (spec_DrawBellUpTo.o0.run N a0).trans rfl
theorem spec_DrawBellUpTo.good (N : Nat) (a0 : List Int) (r : spec_DrawBellUpTo.R) (h : spec_DrawBellUpTo.g N a0 = some r) : Go.PM.Good Go.Proofs.Try.prog T0 59 [.one (.sl false 5 a0)] [] (spec_DrawBellUpTo.sig.ret r) (spec_DrawBellUpTo.sig.bs r) :=
  good_fn tabOk0 mixed0 spec_DrawBellUpTo.sig (spec_DrawBellUpTo.E N) Go.Proofs.Try.func59 (by kernel_rfl) (by kernel_rfl) 61 0 0 [] 18944 false [] [(false, [.own 9]), (false, [.any]), (false, [.any])] (by kernel_rfl) rfl rfl ((spec_DrawBellUpTo.g.run N a0).trans h)
noncomputable def spec_DrawBellUpTo.ent (N : Nat) : Ent Go.Proofs.Try.prog T0 := mkEnt 59 [(false, [.ro 5])] spec_DrawBellUpTo.sig (fun t => spec_DrawBellUpTo.g N t) (fun t r h => spec_DrawBellUpTo.good N t r h)
end Go.Proofs.Ytpmipkbfohcjiaa.M

namespace Go.Proofs.Ytpmipkbfohcjiaa.M
open Go Go.PM Go.Proofs.Ytpmipkbfohcjiaa.P
set_option linter.unusedVariables false
set_option maxRecDepth 100000
/-! ### spec_DrawNextQuarterWith -/
abbrev spec_DrawNextQuarterWith.R : Type := List ByteArray × Int × Int
abbrev spec_DrawNextQuarterWith.sig : Sig := ⟨[(false, 1)], [], [.sl false 5], [(false, 1), (false, 1), (false, 1)], [], [.sl true 9, .int .i64, .int .i64]⟩
noncomputable def spec_DrawNextQuarterWith.C : Cfg D0 := ⟨Go.Proofs.Try.prog, T0, 29, 0, 10, 0, [], 32, false, []⟩
noncomputable def spec_DrawNextQuarterWith.E (N : Nat) : List (Ent Go.Proofs.Try.prog T0) := [spec_DrawBellUpTo.ent N]
noncomputable def spec_DrawNextQuarterWith.O (N : Nat) : Orc D0 spec_DrawNextQuarterWith.R := orcOf (spec_DrawNextQuarterWith.E N)
noncomputable def spec_DrawNextQuarterWith.K0 : Ex → St D0 → Option spec_DrawNextQuarterWith.R := exitK spec_DrawNextQuarterWith.C Go.Proofs.Try.f30.results.toList [(false, [.own 9]), (false, [.any]), (false, [.any])] (decOut spec_DrawNextQuarterWith.sig)
noncomputable def spec_DrawNextQuarterWith.c1 : Code := codeAt (Go.Proofs.Try.f30.body.getD .skip) []
noncomputable def spec_DrawNextQuarterWith.o0 (N : Nat) (a0 : List Int) : Option spec_DrawNextQuarterWith.R :=
 (spec_DrawBellUpTo.g N a0).bind fun r1 =>
 some (r1.1, r1.2.1, r1.2.2)
theorem spec_DrawNextQuarterWith.o0.run (N : Nat) (a0 : List Int) : runC spec_DrawNextQuarterWith.C (spec_DrawNextQuarterWith.O N) N spec_DrawNextQuarterWith.c1 1 (st0 [.one (.sl false 5 a0)] [] : St D0) spec_DrawNextQuarterWith.K0 = spec_DrawNextQuarterWith.o0 N a0 := by kernel_rfl
noncomputable def spec_DrawNextQuarterWith.g (N : Nat) (a0 : List Int) : Option spec_DrawNextQuarterWith.R := spec_DrawNextQuarterWith.o0 N a0
theorem spec_DrawNextQuarterWith.g.run (N : Nat) (a0 : List Int) : runC spec_DrawNextQuarterWith.C (spec_DrawNextQuarterWith.O N) N spec_DrawNextQuarterWith.c1 1 (st0 [.one (.sl false 5 a0)] [] : St D0) spec_DrawNextQuarterWith.K0 = spec_DrawNextQuarterWith.g N a0 := by
  exact (spec_DrawNextQuarterWith.o0.run N a0).trans rfl
theorem spec_DrawNextQuarterWith.good (N : Nat) (a0 : List Int) (r : spec_DrawNextQuarterWith.R) (h : spec_DrawNextQuarterWith.g N a0 = some r) : Go.PM.Good Go.Proofs.Try.prog T0 30 [.one (.sl false 5 a0)] [] (spec_DrawNextQuarterWith.sig.ret r) (spec_DrawNextQuarterWith.sig.bs r) :=
  good_fn tabOk0 mixed0 spec_DrawNextQuarterWith.sig (spec_DrawNextQuarterWith.E N) Go.Proofs.Try.func30 (by kernel_rfl) (by kernel_rfl) 29 0 0 [] 32 false [] [(false, [.own 9]), (false, [.any]), (false, [.any])] (by kernel_rfl) rfl rfl ((spec_DrawNextQuarterWith.g.run N a0).trans h)
noncomputable def spec_DrawNextQuarterWith.ent (N : Nat) : Ent Go.Proofs.Try.prog T0 := mkEnt 30 [(false, [.ro 5])] spec_DrawNextQuarterWith.sig (fun t => spec_DrawNextQuarterWith.g N t) (fun t r h => spec_DrawNextQuarterWith.good N t r h)
end Go.Proofs.Ytpmipkbfohcjiaa.M

namespace Go.Proofs.Ytpmipkbfohcjiaa.M
open Go Go.PM Go.Proofs.Ytpmipkbfohcjiaa.P
set_option linter.unusedVariables false
set_option maxRecDepth 100000
/-! ### laws_FnTunesPlayed -/
abbrev laws_FnTunesPlayed.R : Type := Bool
abbrev laws_FnTunesPlayed.sig : Sig := ⟨[(false, 1), (false, 1)], [], [.sl false 5, .sl false 5], [(false, 1)], [], [.bool]⟩
noncomputable def laws_FnTunesPlayed.C : Cfg D0 := ⟨Go.Proofs.Try.prog, T0, 54010945030286340856637247373325700902102735931918258709509182933776657643619120138906392047202026747826049542323890193150976777182619252281363828572147, 0, 539, 0, [(1048572, [1, 5, 6, 7, 8, 11, 15, 19, 23, 24, 27, 31, 269], []), (1048574, [1, 5, 23, 24, 31], []), (2097150, [1], []), (33554408, [1, 5, 31, 417], []), (67108822, [1, 5, 418, 419, 420], []), (134217562, [1, 5, 6, 7, 11, 15, 19, 23, 24, 27, 31, 35, 36, 273, 274, 275], []), (134217564, [1, 5, 6, 7, 11, 15, 19, 23, 24, 27, 31, 35, 304], []), (134217566, [1, 5, 6, 15, 19, 23, 24, 27, 31], []), (268435452, [53, 54, 55, 56, 57, 60, 499], []), (536870908, [53, 54, 55, 56, 60, 504], []), (2147481082, [1, 5, 6, 15, 19, 23, 24, 27, 31, 43, 44], []), (4294962134, [1, 5, 6, 15, 19, 23, 24, 27, 31, 344], []), (17179848698, [1, 5, 23, 24, 31, 394], []), (17179858534, [1, 5, 418, 419, 420, 439], []), (274877578532, [1, 5, 6, 15, 19, 23, 24, 27, 31, 43, 44, 45, 367], [])], 338747062127068112404792921645295384897734496531608962502034412036064338630678466846766145973566991011043195715997112586743333718416619896616227211026614196371456, false, []⟩
noncomputable def laws_FnTunesPlayed.E (N : Nat) : List (Ent Go.Proofs.Try.prog T0) := [laws_big.ent N, spec_DrawPlayedAt.ent N, impl_PlayedAt.ent N, spec_PlayedAt.ent N, impl_PhrasesOf.ent N, spec_PhrasesOf.ent N, impl_StandsAt.ent N, spec_StandsAt.ent N, impl_NotesUpTo.ent N, spec_NotesUpTo.ent N, impl_HoursUntilSame.ent N, spec_HoursUntilSame.ent N, impl_BellsOf.ent N, spec_BellsOf.ent N, impl_FullHours.ent N, spec_FullHours.ent N, laws_kSame.ent N, laws_kTexts.ent N, impl_IsTune.ent N, spec_IsTune.ent N, spec_DrawNextQuarterWith.ent N, impl_NextQuarterWith.ent N, spec_NextQuarterWith.ent N, impl_BellUpTo.ent N, spec_BellUpTo.ent N, laws_kHas.ent N]
noncomputable def laws_FnTunesPlayed.O (N : Nat) : Orc D0 laws_FnTunesPlayed.R := orcOf (laws_FnTunesPlayed.E N)
noncomputable def laws_FnTunesPlayed.K0 : Ex → St D0 → Option laws_FnTunesPlayed.R := exitK laws_FnTunesPlayed.C Go.Proofs.Try.f4.results.toList [(false, [.any])] (decOut laws_FnTunesPlayed.sig)
noncomputable def laws_FnTunesPlayed.c1 : Code := codeAt (Go.Proofs.Try.f4.body.getD .skip) []
noncomputable def laws_FnTunesPlayed.c2 : Code := codeAt (Go.Proofs.Try.f4.body.getD .skip) [false]
noncomputable def laws_FnTunesPlayed.c6 : Code := codeAt (Go.Proofs.Try.f4.body.getD .skip) [true, false]
noncomputable def laws_FnTunesPlayed.c14 : Code := codeAt (Go.Proofs.Try.f4.body.getD .skip) [true, true, false]
noncomputable def laws_FnTunesPlayed.c30 : Code := codeAt (Go.Proofs.Try.f4.body.getD .skip) [true, true, true, false]
noncomputable def laws_FnTunesPlayed.c62 : Code := codeAt (Go.Proofs.Try.f4.body.getD .skip) [true, true, true, true, false]
noncomputable def laws_FnTunesPlayed.c126 : Code := codeAt (Go.Proofs.Try.f4.body.getD .skip) [true, true, true, true, true, false]
noncomputable def laws_FnTunesPlayed.c254 : Code := codeAt (Go.Proofs.Try.f4.body.getD .skip) [true, true, true, true, true, true, false]
noncomputable def laws_FnTunesPlayed.c510 : Code := codeAt (Go.Proofs.Try.f4.body.getD .skip) [true, true, true, true, true, true, true, false]
noncomputable def laws_FnTunesPlayed.c1022 : Code := codeAt (Go.Proofs.Try.f4.body.getD .skip) [true, true, true, true, true, true, true, true, false]
noncomputable def laws_FnTunesPlayed.c2046 : Code := codeAt (Go.Proofs.Try.f4.body.getD .skip) [true, true, true, true, true, true, true, true, true, false]
noncomputable def laws_FnTunesPlayed.c4094 : Code := codeAt (Go.Proofs.Try.f4.body.getD .skip) [true, true, true, true, true, true, true, true, true, true, false]
noncomputable def laws_FnTunesPlayed.c8190 : Code := codeAt (Go.Proofs.Try.f4.body.getD .skip) [true, true, true, true, true, true, true, true, true, true, true, false]
noncomputable def laws_FnTunesPlayed.c16382 : Code := codeAt (Go.Proofs.Try.f4.body.getD .skip) [true, true, true, true, true, true, true, true, true, true, true, true, false]
noncomputable def laws_FnTunesPlayed.c32766 : Code := codeAt (Go.Proofs.Try.f4.body.getD .skip) [true, true, true, true, true, true, true, true, true, true, true, true, true, false]
noncomputable def laws_FnTunesPlayed.c65534 : Code := codeAt (Go.Proofs.Try.f4.body.getD .skip) [true, true, true, true, true, true, true, true, true, true, true, true, true, true, false]
noncomputable def laws_FnTunesPlayed.c131070 : Code := codeAt (Go.Proofs.Try.f4.body.getD .skip) [true, true, true, true, true, true, true, true, true, true, true, true, true, true, true, false]
noncomputable def laws_FnTunesPlayed.c262142 : Code := codeAt (Go.Proofs.Try.f4.body.getD .skip) [true, true, true, true, true, true, true, true, true, true, true, true, true, true, true, true, false]
noncomputable def laws_FnTunesPlayed.c524287 : Code := codeAt (Go.Proofs.Try.f4.body.getD .skip) [true, true, true, true, true, true, true, true, true, true, true, true, true, true, true, true, true, true]
noncomputable def laws_FnTunesPlayed.c1048572 : Code := codeAt (Go.Proofs.Try.f4.body.getD .skip) [true, true, true, true, true, true, true, true, true, true, true, true, true, true, true, true, true, false, false]
noncomputable def laws_FnTunesPlayed.c1048573 : Code := codeAt (Go.Proofs.Try.f4.body.getD .skip) [true, true, true, true, true, true, true, true, true, true, true, true, true, true, true, true, true, false, true]
noncomputable def laws_FnTunesPlayed.c1048575 : Code := codeAt (Go.Proofs.Try.f4.body.getD .skip) [true, true, true, true, true, true, true, true, true, true, true, true, true, true, true, true, true, true, true]
noncomputable def laws_FnTunesPlayed.c2097148 : Code := codeAt (Go.Proofs.Try.f4.body.getD .skip) [true, true, true, true, true, true, true, true, true, true, true, true, true, true, true, true, true, true, false, false]
noncomputable def laws_FnTunesPlayed.c2097151 : Code := codeAt (Go.Proofs.Try.f4.body.getD .skip) [true, true, true, true, true, true, true, true, true, true, true, true, true, true, true, true, true, true, true, true]
noncomputable def laws_FnTunesPlayed.c4194299 : Code := codeAt (Go.Proofs.Try.f4.body.getD .skip) [true, true, true, true, true, true, true, true, true, true, true, true, true, true, true, true, true, true, false, true, true]
noncomputable def laws_FnTunesPlayed.c4194300 : Code := codeAt (Go.Proofs.Try.f4.body.getD .skip) [true, true, true, true, true, true, true, true, true, true, true, true, true, true, true, true, true, true, true, false, false]
noncomputable def laws_FnTunesPlayed.c4194302 : Code := codeAt (Go.Proofs.Try.f4.body.getD .skip) [true, true, true, true, true, true, true, true, true, true, true, true, true, true, true, true, true, true, true, true, false]
noncomputable def laws_FnTunesPlayed.c8388596 : Code := codeAt (Go.Proofs.Try.f4.body.getD .skip) [true, true, true, true, true, true, true, true, true, true, true, true, true, true, true, true, true, true, false, true, false, false]
noncomputable def laws_FnTunesPlayed.c8388603 : Code := codeAt (Go.Proofs.Try.f4.body.getD .skip) [true, true, true, true, true, true, true, true, true, true, true, true, true, true, true, true, true, true, true, false, true, true]
noncomputable def laws_FnTunesPlayed.c8388606 : Code := codeAt (Go.Proofs.Try.f4.body.getD .skip) [true, true, true, true, true, true, true, true, true, true, true, true, true, true, true, true, true, true, true, true, true, false]
noncomputable def laws_FnTunesPlayed.c16777194 : Code := codeAt (Go.Proofs.Try.f4.body.getD .skip) [true, true, true, true, true, true, true, true, true, true, true, true, true, true, true, true, true, true, false, true, false, true, false]
noncomputable def laws_FnTunesPlayed.c16777205 : Code := codeAt (Go.Proofs.Try.f4.body.getD .skip) [true, true, true, true, true, true, true, true, true, true, true, true, true, true, true, true, true, true, true, false, true, false, true]
noncomputable def laws_FnTunesPlayed.c16777214 : Code := codeAt (Go.Proofs.Try.f4.body.getD .skip) [true, true, true, true, true, true, true, true, true, true, true, true, true, true, true, true, true, true, true, true, true, true, false]
noncomputable def laws_FnTunesPlayed.c33554391 : Code := codeAt (Go.Proofs.Try.f4.body.getD .skip) [true, true, true, true, true, true, true, true, true, true, true, true, true, true, true, true, true, true, false, true, false, true, true, true]
noncomputable def laws_FnTunesPlayed.c33554408 : Code := codeAt (Go.Proofs.Try.f4.body.getD .skip) [true, true, true, true, true, true, true, true, true, true, true, true, true, true, true, true, true, true, true, false, true, false, false, false]
noncomputable def laws_FnTunesPlayed.c33554409 : Code := codeAt (Go.Proofs.Try.f4.body.getD .skip) [true, true, true, true, true, true, true, true, true, true, true, true, true, true, true, true, true, true, true, false, true, false, false, true]
noncomputable def laws_FnTunesPlayed.c33554410 : Code := codeAt (Go.Proofs.Try.f4.body.getD .skip) [true, true, true, true, true, true, true, true, true, true, true, true, true, true, true, true, true, true, true, false, true, false, true, false]
noncomputable def laws_FnTunesPlayed.c33554430 : Code := codeAt (Go.Proofs.Try.f4.body.getD .skip) [true, true, true, true, true, true, true, true, true, true, true, true, true, true, true, true, true, true, true, true, true, true, true, false]
noncomputable def laws_FnTunesPlayed.c67108780 : Code := codeAt (Go.Proofs.Try.f4.body.getD .skip) [true, true, true, true, true, true, true, true, true, true, true, true, true, true, true, true, true, true, false, true, false, true, true, false, false]
noncomputable def laws_FnTunesPlayed.c67108783 : Code := codeAt (Go.Proofs.Try.f4.body.getD .skip) [true, true, true, true, true, true, true, true, true, true, true, true, true, true, true, true, true, true, false, true, false, true, true, true, true]
noncomputable def laws_FnTunesPlayed.c67108862 : Code := codeAt (Go.Proofs.Try.f4.body.getD .skip) [true, true, true, true, true, true, true, true, true, true, true, true, true, true, true, true, true, true, true, true, true, true, true, true, false]
noncomputable def laws_FnTunesPlayed.c134217564 : Code := codeAt (Go.Proofs.Try.f4.body.getD .skip) [true, true, true, true, true, true, true, true, true, true, true, true, true, true, true, true, true, true, false, true, false, true, true, true, false, false]
noncomputable def laws_FnTunesPlayed.c134217565 : Code := codeAt (Go.Proofs.Try.f4.body.getD .skip) [true, true, true, true, true, true, true, true, true, true, true, true, true, true, true, true, true, true, false, true, false, true, true, true, false, true]
noncomputable def laws_FnTunesPlayed.c134217567 : Code := codeAt (Go.Proofs.Try.f4.body.getD .skip) [true, true, true, true, true, true, true, true, true, true, true, true, true, true, true, true, true, true, false, true, false, true, true, true, true, true]
noncomputable def laws_FnTunesPlayed.c134217644 : Code := codeAt (Go.Proofs.Try.f4.body.getD .skip) [true, true, true, true, true, true, true, true, true, true, true, true, true, true, true, true, true, true, true, false, true, false, true, true, false, false]
noncomputable def laws_FnTunesPlayed.c134217727 : Code := codeAt (Go.Proofs.Try.f4.body.getD .skip) [true, true, true, true, true, true, true, true, true, true, true, true, true, true, true, true, true, true, true, true, true, true, true, true, true, true]
noncomputable def laws_FnTunesPlayed.c268435124 : Code := codeAt (Go.Proofs.Try.f4.body.getD .skip) [true, true, true, true, true, true, true, true, true, true, true, true, true, true, true, true, true, true, false, true, false, true, true, false, true, false, false]
noncomputable def laws_FnTunesPlayed.c268435132 : Code := codeAt (Go.Proofs.Try.f4.body.getD .skip) [true, true, true, true, true, true, true, true, true, true, true, true, true, true, true, true, true, true, false, true, false, true, true, true, true, false, false]
noncomputable def laws_FnTunesPlayed.c268435134 : Code := codeAt (Go.Proofs.Try.f4.body.getD .skip) [true, true, true, true, true, true, true, true, true, true, true, true, true, true, true, true, true, true, false, true, false, true, true, true, true, true, false]
noncomputable def laws_FnTunesPlayed.c268435288 : Code := codeAt (Go.Proofs.Try.f4.body.getD .skip) [true, true, true, true, true, true, true, true, true, true, true, true, true, true, true, true, true, true, true, false, true, false, true, true, false, false, false]
noncomputable def laws_FnTunesPlayed.c268435452 : Code := codeAt (Go.Proofs.Try.f4.body.getD .skip) [true, true, true, true, true, true, true, true, true, true, true, true, true, true, true, true, true, true, true, true, true, true, true, true, true, false, false]
noncomputable def laws_FnTunesPlayed.c268435453 : Code := codeAt (Go.Proofs.Try.f4.body.getD .skip) [true, true, true, true, true, true, true, true, true, true, true, true, true, true, true, true, true, true, true, true, true, true, true, true, true, false, true]
noncomputable def laws_FnTunesPlayed.c268435455 : Code := codeAt (Go.Proofs.Try.f4.body.getD .skip) [true, true, true, true, true, true, true, true, true, true, true, true, true, true, true, true, true, true, true, true, true, true, true, true, true, true, true]
noncomputable def laws_FnTunesPlayed.c536870267 : Code := codeAt (Go.Proofs.Try.f4.body.getD .skip) [true, true, true, true, true, true, true, true, true, true, true, true, true, true, true, true, true, true, false, true, false, true, true, true, true, false, true, true]
noncomputable def laws_FnTunesPlayed.c536870271 : Code := codeAt (Go.Proofs.Try.f4.body.getD .skip) [true, true, true, true, true, true, true, true, true, true, true, true, true, true, true, true, true, true, false, true, false, true, true, true, true, true, true, true]
noncomputable def laws_FnTunesPlayed.c536870578 : Code := codeAt (Go.Proofs.Try.f4.body.getD .skip) [true, true, true, true, true, true, true, true, true, true, true, true, true, true, true, true, true, true, true, false, true, false, true, true, false, false, true, false]
noncomputable def laws_FnTunesPlayed.c536870908 : Code := codeAt (Go.Proofs.Try.f4.body.getD .skip) [true, true, true, true, true, true, true, true, true, true, true, true, true, true, true, true, true, true, true, true, true, true, true, true, true, true, false, false]
noncomputable def laws_FnTunesPlayed.c536870909 : Code := codeAt (Go.Proofs.Try.f4.body.getD .skip) [true, true, true, true, true, true, true, true, true, true, true, true, true, true, true, true, true, true, true, true, true, true, true, true, true, true, false, true]
noncomputable def laws_FnTunesPlayed.c1073740532 : Code := codeAt (Go.Proofs.Try.f4.body.getD .skip) [true, true, true, true, true, true, true, true, true, true, true, true, true, true, true, true, true, true, false, true, false, true, true, true, true, false, true, false, false]
noncomputable def laws_FnTunesPlayed.c1073740540 : Code := codeAt (Go.Proofs.Try.f4.body.getD .skip) [true, true, true, true, true, true, true, true, true, true, true, true, true, true, true, true, true, true, false, true, false, true, true, true, true, true, true, false, false]
noncomputable def laws_FnTunesPlayed.c1073740542 : Code := codeAt (Go.Proofs.Try.f4.body.getD .skip) [true, true, true, true, true, true, true, true, true, true, true, true, true, true, true, true, true, true, false, true, false, true, true, true, true, true, true, true, false]
noncomputable def laws_FnTunesPlayed.c1073741159 : Code := codeAt (Go.Proofs.Try.f4.body.getD .skip) [true, true, true, true, true, true, true, true, true, true, true, true, true, true, true, true, true, true, true, false, true, false, true, true, false, false, true, true, true]
noncomputable def laws_FnTunesPlayed.c2147481066 : Code := codeAt (Go.Proofs.Try.f4.body.getD .skip) [true, true, true, true, true, true, true, true, true, true, true, true, true, true, true, true, true, true, false, true, false, true, true, true, true, false, true, false, true, false]
noncomputable def laws_FnTunesPlayed.c2147481086 : Code := codeAt (Go.Proofs.Try.f4.body.getD .skip) [true, true, true, true, true, true, true, true, true, true, true, true, true, true, true, true, true, true, false, true, false, true, true, true, true, true, true, true, true, false]
noncomputable def laws_FnTunesPlayed.c4294962134 : Code := codeAt (Go.Proofs.Try.f4.body.getD .skip) [true, true, true, true, true, true, true, true, true, true, true, true, true, true, true, true, true, true, false, true, false, true, true, true, true, false, true, false, true, true, false]
noncomputable def laws_FnTunesPlayed.c4294962135 : Code := codeAt (Go.Proofs.Try.f4.body.getD .skip) [true, true, true, true, true, true, true, true, true, true, true, true, true, true, true, true, true, true, false, true, false, true, true, true, true, false, true, false, true, true, true]
noncomputable def laws_FnTunesPlayed.c4294962164 : Code := codeAt (Go.Proofs.Try.f4.body.getD .skip) [true, true, true, true, true, true, true, true, true, true, true, true, true, true, true, true, true, true, false, true, false, true, true, true, true, true, true, false, true, false, false]
noncomputable def laws_FnTunesPlayed.c4294962175 : Code := codeAt (Go.Proofs.Try.f4.body.getD .skip) [true, true, true, true, true, true, true, true, true, true, true, true, true, true, true, true, true, true, false, true, false, true, true, true, true, true, true, true, true, true, true]
noncomputable def laws_FnTunesPlayed.c4294964632 : Code := codeAt (Go.Proofs.Try.f4.body.getD .skip) [true, true, true, true, true, true, true, true, true, true, true, true, true, true, true, true, true, true, true, false, true, false, true, true, false, false, true, true, false, false, false]
noncomputable def laws_FnTunesPlayed.c8589924328 : Code := codeAt (Go.Proofs.Try.f4.body.getD .skip) [true, true, true, true, true, true, true, true, true, true, true, true, true, true, true, true, true, true, false, true, false, true, true, true, true, true, true, false, true, false, false, false]
noncomputable def laws_FnTunesPlayed.c8589924348 : Code := codeAt (Go.Proofs.Try.f4.body.getD .skip) [true, true, true, true, true, true, true, true, true, true, true, true, true, true, true, true, true, true, false, true, false, true, true, true, true, true, true, true, true, true, false, false]
noncomputable def laws_FnTunesPlayed.c8589929266 : Code := codeAt (Go.Proofs.Try.f4.body.getD .skip) [true, true, true, true, true, true, true, true, true, true, true, true, true, true, true, true, true, true, true, false, true, false, true, true, false, false, true, true, false, false, true, false]
noncomputable def laws_FnTunesPlayed.c17179848659 : Code := codeAt (Go.Proofs.Try.f4.body.getD .skip) [true, true, true, true, true, true, true, true, true, true, true, true, true, true, true, true, true, true, false, true, false, true, true, true, true, true, true, false, true, false, false, true, true]
noncomputable def laws_FnTunesPlayed.c17179848698 : Code := codeAt (Go.Proofs.Try.f4.body.getD .skip) [true, true, true, true, true, true, true, true, true, true, true, true, true, true, true, true, true, true, false, true, false, true, true, true, true, true, true, true, true, true, false, true, false]
noncomputable def laws_FnTunesPlayed.c17179848699 : Code := codeAt (Go.Proofs.Try.f4.body.getD .skip) [true, true, true, true, true, true, true, true, true, true, true, true, true, true, true, true, true, true, false, true, false, true, true, true, true, true, true, true, true, true, false, true, true]
noncomputable def laws_FnTunesPlayed.c17179858534 : Code := codeAt (Go.Proofs.Try.f4.body.getD .skip) [true, true, true, true, true, true, true, true, true, true, true, true, true, true, true, true, true, true, true, false, true, false, true, true, false, false, true, true, false, false, true, true, false]
noncomputable def laws_FnTunesPlayed.c17179858535 : Code := codeAt (Go.Proofs.Try.f4.body.getD .skip) [true, true, true, true, true, true, true, true, true, true, true, true, true, true, true, true, true, true, true, false, true, false, true, true, false, false, true, true, false, false, true, true, true]
noncomputable def laws_FnTunesPlayed.c68719394632 : Code := codeAt (Go.Proofs.Try.f4.body.getD .skip) [true, true, true, true, true, true, true, true, true, true, true, true, true, true, true, true, true, true, false, true, false, true, true, true, true, true, true, false, true, false, false, true, false, false, false]
noncomputable def laws_FnTunesPlayed.c137438789267 : Code := codeAt (Go.Proofs.Try.f4.body.getD .skip) [true, true, true, true, true, true, true, true, true, true, true, true, true, true, true, true, true, true, false, true, false, true, true, true, true, true, true, false, true, false, false, true, false, false, true, true]
noncomputable def laws_FnTunesPlayed.c274877578532 : Code := codeAt (Go.Proofs.Try.f4.body.getD .skip) [true, true, true, true, true, true, true, true, true, true, true, true, true, true, true, true, true, true, false, true, false, true, true, true, true, true, true, false, true, false, false, true, false, false, true, false, false]
noncomputable def laws_FnTunesPlayed.c274877578533 : Code := codeAt (Go.Proofs.Try.f4.body.getD .skip) [true, true, true, true, true, true, true, true, true, true, true, true, true, true, true, true, true, true, false, true, false, true, true, true, true, true, true, false, true, false, false, true, false, false, true, false, true]
noncomputable def laws_FnTunesPlayed.K1048575 (N : Nat) : Ex → St D0 → Option laws_FnTunesPlayed.R := laws_FnTunesPlayed.K0
noncomputable def laws_FnTunesPlayed.B524287 (N : Nat) : St D0 → Option laws_FnTunesPlayed.R := fun s' => runC laws_FnTunesPlayed.C (laws_FnTunesPlayed.O N) N laws_FnTunesPlayed.c1048575 1048575 s' (laws_FnTunesPlayed.K1048575 N)
noncomputable def laws_FnTunesPlayed.K274877578533 (N : Nat) (Kn2147481082 : St D0 → Option laws_FnTunesPlayed.R) : Ex → St D0 → Option laws_FnTunesPlayed.R := (onN (fun s => laws_FnTunesPlayed.C.tidy 137438789266 s (fun s' => runC laws_FnTunesPlayed.C (laws_FnTunesPlayed.O N) N laws_FnTunesPlayed.c137438789267 137438789267 s' (blockK 3 (onN (fun s => laws_FnTunesPlayed.C.tidy 17179848658 s (fun s' => runC laws_FnTunesPlayed.C (laws_FnTunesPlayed.O N) N laws_FnTunesPlayed.c17179848659 17179848659 s' (onN (fun s => laws_FnTunesPlayed.C.tidy 2147481082 s ((onN Kn2147481082 (blockK 2 (onN (fun s => laws_FnTunesPlayed.C.tidy 536870270 s (fun s' => runC laws_FnTunesPlayed.C (laws_FnTunesPlayed.O N) N laws_FnTunesPlayed.c536870271 536870271 s' (onN (fun s => laws_FnTunesPlayed.C.tidy 1048574 s (laws_FnTunesPlayed.B524287 N)) laws_FnTunesPlayed.K0))) (onN (fun s => laws_FnTunesPlayed.C.tidy 1048574 s (laws_FnTunesPlayed.B524287 N)) laws_FnTunesPlayed.K0)))) .normal)) (onN Kn2147481082 (blockK 2 (onN (fun s => laws_FnTunesPlayed.C.tidy 536870270 s (fun s' => runC laws_FnTunesPlayed.C (laws_FnTunesPlayed.O N) N laws_FnTunesPlayed.c536870271 536870271 s' (onN (fun s => laws_FnTunesPlayed.C.tidy 1048574 s (laws_FnTunesPlayed.B524287 N)) laws_FnTunesPlayed.K0))) (onN (fun s => laws_FnTunesPlayed.C.tidy 1048574 s (laws_FnTunesPlayed.B524287 N)) laws_FnTunesPlayed.K0))))))) (onN (fun s => laws_FnTunesPlayed.C.tidy 2147481082 s ((onN Kn2147481082 (blockK 2 (onN (fun s => laws_FnTunesPlayed.C.tidy 536870270 s (fun s' => runC laws_FnTunesPlayed.C (laws_FnTunesPlayed.O N) N laws_FnTunesPlayed.c536870271 536870271 s' (onN (fun s => laws_FnTunesPlayed.C.tidy 1048574 s (laws_FnTunesPlayed.B524287 N)) laws_FnTunesPlayed.K0))) (onN (fun s => laws_FnTunesPlayed.C.tidy 1048574 s (laws_FnTunesPlayed.B524287 N)) laws_FnTunesPlayed.K0)))) .normal)) (onN Kn2147481082 (blockK 2 (onN (fun s => laws_FnTunesPlayed.C.tidy 536870270 s (fun s' => runC laws_FnTunesPlayed.C (laws_FnTunesPlayed.O N) N laws_FnTunesPlayed.c536870271 536870271 s' (onN (fun s => laws_FnTunesPlayed.C.tidy 1048574 s (laws_FnTunesPlayed.B524287 N)) laws_FnTunesPlayed.K0))) (onN (fun s => laws_FnTunesPlayed.C.tidy 1048574 s (laws_FnTunesPlayed.B524287 N)) laws_FnTunesPlayed.K0))))))))) (blockK 3 (onN (fun s => laws_FnTunesPlayed.C.tidy 17179848658 s (fun s' => runC laws_FnTunesPlayed.C (laws_FnTunesPlayed.O N) N laws_FnTunesPlayed.c17179848659 17179848659 s' (onN (fun s => laws_FnTunesPlayed.C.tidy 2147481082 s ((onN Kn2147481082 (blockK 2 (onN (fun s => laws_FnTunesPlayed.C.tidy 536870270 s (fun s' => runC laws_FnTunesPlayed.C (laws_FnTunesPlayed.O N) N laws_FnTunesPlayed.c536870271 536870271 s' (onN (fun s => laws_FnTunesPlayed.C.tidy 1048574 s (laws_FnTunesPlayed.B524287 N)) laws_FnTunesPlayed.K0))) (onN (fun s => laws_FnTunesPlayed.C.tidy 1048574 s (laws_FnTunesPlayed.B524287 N)) laws_FnTunesPlayed.K0)))) .normal)) (onN Kn2147481082 (blockK 2 (onN (fun s => laws_FnTunesPlayed.C.tidy 536870270 s (fun s' => runC laws_FnTunesPlayed.C (laws_FnTunesPlayed.O N) N laws_FnTunesPlayed.c536870271 536870271 s' (onN (fun s => laws_FnTunesPlayed.C.tidy 1048574 s (laws_FnTunesPlayed.B524287 N)) laws_FnTunesPlayed.K0))) (onN (fun s => laws_FnTunesPlayed.C.tidy 1048574 s (laws_FnTunesPlayed.B524287 N)) laws_FnTunesPlayed.K0))))))) (onN (fun s => laws_FnTunesPlayed.C.tidy 2147481082 s ((onN Kn2147481082 (blockK 2 (onN (fun s => laws_FnTunesPlayed.C.tidy 536870270 s (fun s' => runC laws_FnTunesPlayed.C (laws_FnTunesPlayed.O N) N laws_FnTunesPlayed.c536870271 536870271 s' (onN (fun s => laws_FnTunesPlayed.C.tidy 1048574 s (laws_FnTunesPlayed.B524287 N)) laws_FnTunesPlayed.K0))) (onN (fun s => laws_FnTunesPlayed.C.tidy 1048574 s (laws_FnTunesPlayed.B524287 N)) laws_FnTunesPlayed.K0)))) .normal)) (onN Kn2147481082 (blockK 2 (onN (fun s => laws_FnTunesPlayed.C.tidy 536870270 s (fun s' => runC laws_FnTunesPlayed.C (laws_FnTunesPlayed.O N) N laws_FnTunesPlayed.c536870271 536870271 s' (onN (fun s => laws_FnTunesPlayed.C.tidy 1048574 s (laws_FnTunesPlayed.B524287 N)) laws_FnTunesPlayed.K0))) (onN (fun s => laws_FnTunesPlayed.C.tidy 1048574 s (laws_FnTunesPlayed.B524287 N)) laws_FnTunesPlayed.K0))))))))
noncomputable def laws_FnTunesPlayed.o14 (N : Nat) (v0 : List Int) (v1 : List ByteArray) (v2 : Int) (v3 : Int) (v4 : Int) (v5 : Int) (v6 : Bool) (v7 : List Int) (v8 : List ByteArray) (v9 : Int) (v10 : Int) (v11 : Int) (v12 : Bool) (c11 : (List Int) → (List ByteArray) → Int → Int → Int → Int → Bool → (List Int) → (List ByteArray) → Int → Int → Option laws_FnTunesPlayed.R) : Option laws_FnTunesPlayed.R :=
 bif v12 then
  some (false)
 else
 c11 v0 v1 v2 v3 v4 v5 v6 v7 v8 (w64 (v9 + v11)) (w64 (v10 + 1))
theorem laws_FnTunesPlayed.o14.run (N : Nat) (Kb524287 : St D0 → Option laws_FnTunesPlayed.R) (Kn2147481082 : St D0 → Option laws_FnTunesPlayed.R) (v0 : List Int) (v1 : List ByteArray) (v2 : Int) (v3 : Int) (v4 : Int) (v5 : Int) (v6 : Bool) (v7 : List Int) (v8 : List ByteArray) (v9 : Int) (v10 : Int) (v11 : Int) (v12 : Bool) : runC laws_FnTunesPlayed.C (laws_FnTunesPlayed.O N) N laws_FnTunesPlayed.c274877578533 274877578533 (mkSt [(1, .one (.sl false 5 v0)), (5, .one (.sl true 9 v1)), (6, .one (.int .i64 v2)), (15, .one (.int .i64 v3)), (19, .one (.int .i64 v4)), (23, .one (.int .i64 v5)), (24, .one (.bool v6)), (27, .one (.sl true 3 v7)), (31, .one (.sl true 9 v8)), (43, .one (.int .i64 v9)), (44, .one (.int .i64 v10)), (45, .one (.int .i64 v11)), (367, .one (.bool v12))] [] : St D0) (onN (fun s => laws_FnTunesPlayed.C.tidy 137438789266 s (fun s' => runC laws_FnTunesPlayed.C (laws_FnTunesPlayed.O N) N laws_FnTunesPlayed.c137438789267 137438789267 s' (blockK 3 (onN (fun s => laws_FnTunesPlayed.C.tidy 17179848658 s (fun s' => runC laws_FnTunesPlayed.C (laws_FnTunesPlayed.O N) N laws_FnTunesPlayed.c17179848659 17179848659 s' (onN (fun s => laws_FnTunesPlayed.C.tidy 2147481082 s ((onN Kn2147481082 (blockK 2 (onN (fun s => laws_FnTunesPlayed.C.tidy 536870270 s (fun s' => runC laws_FnTunesPlayed.C (laws_FnTunesPlayed.O N) N laws_FnTunesPlayed.c536870271 536870271 s' (onN (fun s => laws_FnTunesPlayed.C.tidy 1048574 s Kb524287) laws_FnTunesPlayed.K0))) (onN (fun s => laws_FnTunesPlayed.C.tidy 1048574 s Kb524287) laws_FnTunesPlayed.K0)))) .normal)) (onN Kn2147481082 (blockK 2 (onN (fun s => laws_FnTunesPlayed.C.tidy 536870270 s (fun s' => runC laws_FnTunesPlayed.C (laws_FnTunesPlayed.O N) N laws_FnTunesPlayed.c536870271 536870271 s' (onN (fun s => laws_FnTunesPlayed.C.tidy 1048574 s Kb524287) laws_FnTunesPlayed.K0))) (onN (fun s => laws_FnTunesPlayed.C.tidy 1048574 s Kb524287) laws_FnTunesPlayed.K0))))))) (onN (fun s => laws_FnTunesPlayed.C.tidy 2147481082 s ((onN Kn2147481082 (blockK 2 (onN (fun s => laws_FnTunesPlayed.C.tidy 536870270 s (fun s' => runC laws_FnTunesPlayed.C (laws_FnTunesPlayed.O N) N laws_FnTunesPlayed.c536870271 536870271 s' (onN (fun s => laws_FnTunesPlayed.C.tidy 1048574 s Kb524287) laws_FnTunesPlayed.K0))) (onN (fun s => laws_FnTunesPlayed.C.tidy 1048574 s Kb524287) laws_FnTunesPlayed.K0)))) .normal)) (onN Kn2147481082 (blockK 2 (onN (fun s => laws_FnTunesPlayed.C.tidy 536870270 s (fun s' => runC laws_FnTunesPlayed.C (laws_FnTunesPlayed.O N) N laws_FnTunesPlayed.c536870271 536870271 s' (onN (fun s => laws_FnTunesPlayed.C.tidy 1048574 s Kb524287) laws_FnTunesPlayed.K0))) (onN (fun s => laws_FnTunesPlayed.C.tidy 1048574 s Kb524287) laws_FnTunesPlayed.K0))))))))) (blockK 3 (onN (fun s => laws_FnTunesPlayed.C.tidy 17179848658 s (fun s' => runC laws_FnTunesPlayed.C (laws_FnTunesPlayed.O N) N laws_FnTunesPlayed.c17179848659 17179848659 s' (onN (fun s => laws_FnTunesPlayed.C.tidy 2147481082 s ((onN Kn2147481082 (blockK 2 (onN (fun s => laws_FnTunesPlayed.C.tidy 536870270 s (fun s' => runC laws_FnTunesPlayed.C (laws_FnTunesPlayed.O N) N laws_FnTunesPlayed.c536870271 536870271 s' (onN (fun s => laws_FnTunesPlayed.C.tidy 1048574 s Kb524287) laws_FnTunesPlayed.K0))) (onN (fun s => laws_FnTunesPlayed.C.tidy 1048574 s Kb524287) laws_FnTunesPlayed.K0)))) .normal)) (onN Kn2147481082 (blockK 2 (onN (fun s => laws_FnTunesPlayed.C.tidy 536870270 s (fun s' => runC laws_FnTunesPlayed.C (laws_FnTunesPlayed.O N) N laws_FnTunesPlayed.c536870271 536870271 s' (onN (fun s => laws_FnTunesPlayed.C.tidy 1048574 s Kb524287) laws_FnTunesPlayed.K0))) (onN (fun s => laws_FnTunesPlayed.C.tidy 1048574 s Kb524287) laws_FnTunesPlayed.K0))))))) (onN (fun s => laws_FnTunesPlayed.C.tidy 2147481082 s ((onN Kn2147481082 (blockK 2 (onN (fun s => laws_FnTunesPlayed.C.tidy 536870270 s (fun s' => runC laws_FnTunesPlayed.C (laws_FnTunesPlayed.O N) N laws_FnTunesPlayed.c536870271 536870271 s' (onN (fun s => laws_FnTunesPlayed.C.tidy 1048574 s Kb524287) laws_FnTunesPlayed.K0))) (onN (fun s => laws_FnTunesPlayed.C.tidy 1048574 s Kb524287) laws_FnTunesPlayed.K0)))) .normal)) (onN Kn2147481082 (blockK 2 (onN (fun s => laws_FnTunesPlayed.C.tidy 536870270 s (fun s' => runC laws_FnTunesPlayed.C (laws_FnTunesPlayed.O N) N laws_FnTunesPlayed.c536870271 536870271 s' (onN (fun s => laws_FnTunesPlayed.C.tidy 1048574 s Kb524287) laws_FnTunesPlayed.K0))) (onN (fun s => laws_FnTunesPlayed.C.tidy 1048574 s Kb524287) laws_FnTunesPlayed.K0)))))))) = laws_FnTunesPlayed.o14 N v0 v1 v2 v3 v4 v5 v6 v7 v8 v9 v10 v11 v12 ((fun w0 w1 w2 w3 w4 w5 w6 w7 w8 w9 w10 => Kn2147481082 (mkSt [(1, .one (.sl false 5 w0)), (5, .one (.sl true 9 w1)), (6, .one (.int .i64 w2)), (15, .one (.int .i64 w3)), (19, .one (.int .i64 w4)), (23, .one (.int .i64 w5)), (24, .one (.bool w6)), (27, .one (.sl true 3 w7)), (31, .one (.sl true 9 w8)), (43, .one (.int .i64 w9)), (44, .one (.int .i64 w10))] [] : St D0))) := by kernel_rfl
noncomputable def laws_FnTunesPlayed.d14 (N : Nat) (v0 : List Int) (v1 : List ByteArray) (v2 : Int) (v3 : Int) (v4 : Int) (v5 : Int) (v6 : Bool) (v7 : List Int) (v8 : List ByteArray) (v9 : Int) (v10 : Int) (v11 : Int) (v12 : Bool) (c11 : (List Int) → (List ByteArray) → Int → Int → Int → Int → Bool → (List Int) → (List ByteArray) → Int → Int → Option laws_FnTunesPlayed.R) : Option laws_FnTunesPlayed.R := laws_FnTunesPlayed.o14 N v0 v1 v2 v3 v4 v5 v6 v7 v8 v9 v10 v11 v12 c11
theorem laws_FnTunesPlayed.d14.run (N : Nat) (Kn2147481082 : St D0 → Option laws_FnTunesPlayed.R) (v0 : List Int) (v1 : List ByteArray) (v2 : Int) (v3 : Int) (v4 : Int) (v5 : Int) (v6 : Bool) (v7 : List Int) (v8 : List ByteArray) (v9 : Int) (v10 : Int) (v11 : Int) (v12 : Bool) : runC laws_FnTunesPlayed.C (laws_FnTunesPlayed.O N) N laws_FnTunesPlayed.c274877578533 274877578533 (mkSt [(1, .one (.sl false 5 v0)), (5, .one (.sl true 9 v1)), (6, .one (.int .i64 v2)), (15, .one (.int .i64 v3)), (19, .one (.int .i64 v4)), (23, .one (.int .i64 v5)), (24, .one (.bool v6)), (27, .one (.sl true 3 v7)), (31, .one (.sl true 9 v8)), (43, .one (.int .i64 v9)), (44, .one (.int .i64 v10)), (45, .one (.int .i64 v11)), (367, .one (.bool v12))] [] : St D0) (laws_FnTunesPlayed.K274877578533 N Kn2147481082) = laws_FnTunesPlayed.d14 N v0 v1 v2 v3 v4 v5 v6 v7 v8 v9 v10 v11 v12 ((fun w0 w1 w2 w3 w4 w5 w6 w7 w8 w9 w10 => Kn2147481082 (mkSt [(1, .one (.sl false 5 w0)), (5, .one (.sl true 9 w1)), (6, .one (.int .i64 w2)), (15, .one (.int .i64 w3)), (19, .one (.int .i64 w4)), (23, .one (.int .i64 w5)), (24, .one (.bool w6)), (27, .one (.sl true 3 w7)), (31, .one (.sl true 9 w8)), (43, .one (.int .i64 w9)), (44, .one (.int .i64 w10))] [] : St D0))) := by
  exact (laws_FnTunesPlayed.o14.run N (laws_FnTunesPlayed.B524287 N) Kn2147481082 v0 v1 v2 v3 v4 v5 v6 v7 v8 v9 v10 v11 v12).trans rfl
noncomputable def laws_FnTunesPlayed.K2097151 (N : Nat) : Ex → St D0 → Option laws_FnTunesPlayed.R := laws_FnTunesPlayed.K0
noncomputable def laws_FnTunesPlayed.B1048575 (N : Nat) : St D0 → Option laws_FnTunesPlayed.R := fun s' => runC laws_FnTunesPlayed.C (laws_FnTunesPlayed.O N) N laws_FnTunesPlayed.c2097151 2097151 s' (laws_FnTunesPlayed.K2097151 N)
noncomputable def laws_FnTunesPlayed.K17179858535 (N : Nat) (Kn67108822 : St D0 → Option laws_FnTunesPlayed.R) : Ex → St D0 → Option laws_FnTunesPlayed.R := (blockK 5 (onN (fun s => laws_FnTunesPlayed.C.tidy 1073741158 s (fun s' => runC laws_FnTunesPlayed.C (laws_FnTunesPlayed.O N) N laws_FnTunesPlayed.c1073741159 1073741159 s' (onN (fun s => laws_FnTunesPlayed.C.tidy 67108822 s ((onN Kn67108822 (blockK 4 (onN (fun s => laws_FnTunesPlayed.C.tidy 2097150 s (laws_FnTunesPlayed.B1048575 N)) laws_FnTunesPlayed.K0))) .normal)) (onN Kn67108822 (blockK 4 (onN (fun s => laws_FnTunesPlayed.C.tidy 2097150 s (laws_FnTunesPlayed.B1048575 N)) laws_FnTunesPlayed.K0)))))) (onN (fun s => laws_FnTunesPlayed.C.tidy 67108822 s ((onN Kn67108822 (blockK 4 (onN (fun s => laws_FnTunesPlayed.C.tidy 2097150 s (laws_FnTunesPlayed.B1048575 N)) laws_FnTunesPlayed.K0))) .normal)) (onN Kn67108822 (blockK 4 (onN (fun s => laws_FnTunesPlayed.C.tidy 2097150 s (laws_FnTunesPlayed.B1048575 N)) laws_FnTunesPlayed.K0))))))
noncomputable def laws_FnTunesPlayed.o12 (N : Nat) (v0 : List Int) (v1 : List ByteArray) (v2 : List ByteArray) (v3 : Int) (v4 : Int) (v5 : Bool) (c9 : (List Int) → (List ByteArray) → (List ByteArray) → Int → Int → Option laws_FnTunesPlayed.R) : Option laws_FnTunesPlayed.R :=
 bif v5 then
  some (false)
 else
 c9 v0 v1 v2 v3 (w64 (v4 + 1))
theorem laws_FnTunesPlayed.o12.run (N : Nat) (Kb1048575 : St D0 → Option laws_FnTunesPlayed.R) (Kn67108822 : St D0 → Option laws_FnTunesPlayed.R) (v0 : List Int) (v1 : List ByteArray) (v2 : List ByteArray) (v3 : Int) (v4 : Int) (v5 : Bool) : runC laws_FnTunesPlayed.C (laws_FnTunesPlayed.O N) N laws_FnTunesPlayed.c17179858535 17179858535 (mkSt [(1, .one (.sl false 5 v0)), (5, .one (.sl true 9 v1)), (418, .one (.sl true 9 v2)), (419, .one (.int .i64 v3)), (420, .one (.int .i64 v4)), (439, .one (.bool v5))] [] : St D0) (blockK 5 (onN (fun s => laws_FnTunesPlayed.C.tidy 1073741158 s (fun s' => runC laws_FnTunesPlayed.C (laws_FnTunesPlayed.O N) N laws_FnTunesPlayed.c1073741159 1073741159 s' (onN (fun s => laws_FnTunesPlayed.C.tidy 67108822 s ((onN Kn67108822 (blockK 4 (onN (fun s => laws_FnTunesPlayed.C.tidy 2097150 s Kb1048575) laws_FnTunesPlayed.K0))) .normal)) (onN Kn67108822 (blockK 4 (onN (fun s => laws_FnTunesPlayed.C.tidy 2097150 s Kb1048575) laws_FnTunesPlayed.K0)))))) (onN (fun s => laws_FnTunesPlayed.C.tidy 67108822 s ((onN Kn67108822 (blockK 4 (onN (fun s => laws_FnTunesPlayed.C.tidy 2097150 s Kb1048575) laws_FnTunesPlayed.K0))) .normal)) (onN Kn67108822 (blockK 4 (onN (fun s => laws_FnTunesPlayed.C.tidy 2097150 s Kb1048575) laws_FnTunesPlayed.K0)))))) = laws_FnTunesPlayed.o12 N v0 v1 v2 v3 v4 v5 ((fun w0 w1 w2 w3 w4 => Kn67108822 (mkSt [(1, .one (.sl false 5 w0)), (5, .one (.sl true 9 w1)), (418, .one (.sl true 9 w2)), (419, .one (.int .i64 w3)), (420, .one (.int .i64 w4))] [] : St D0))) := by kernel_rfl
noncomputable def laws_FnTunesPlayed.d12 (N : Nat) (v0 : List Int) (v1 : List ByteArray) (v2 : List ByteArray) (v3 : Int) (v4 : Int) (v5 : Bool) (c9 : (List Int) → (List ByteArray) → (List ByteArray) → Int → Int → Option laws_FnTunesPlayed.R) : Option laws_FnTunesPlayed.R := laws_FnTunesPlayed.o12 N v0 v1 v2 v3 v4 v5 c9
theorem laws_FnTunesPlayed.d12.run (N : Nat) (Kn67108822 : St D0 → Option laws_FnTunesPlayed.R) (v0 : List Int) (v1 : List ByteArray) (v2 : List ByteArray) (v3 : Int) (v4 : Int) (v5 : Bool) : runC laws_FnTunesPlayed.C (laws_FnTunesPlayed.O N) N laws_FnTunesPlayed.c17179858535 17179858535 (mkSt [(1, .one (.sl false 5 v0)), (5, .one (.sl true 9 v1)), (418, .one (.sl true 9 v2)), (419, .one (.int .i64 v3)), (420, .one (.int .i64 v4)), (439, .one (.bool v5))] [] : St D0) (laws_FnTunesPlayed.K17179858535 N Kn67108822) = laws_FnTunesPlayed.d12 N v0 v1 v2 v3 v4 v5 ((fun w0 w1 w2 w3 w4 => Kn67108822 (mkSt [(1, .one (.sl false 5 w0)), (5, .one (.sl true 9 w1)), (418, .one (.sl true 9 w2)), (419, .one (.int .i64 w3)), (420, .one (.int .i64 w4))] [] : St D0))) := by
  exact (laws_FnTunesPlayed.o12.run N (laws_FnTunesPlayed.B1048575 N) Kn67108822 v0 v1 v2 v3 v4 v5).trans rfl
noncomputable def laws_FnTunesPlayed.K536870909 (N : Nat) : Ex → St D0 → Option laws_FnTunesPlayed.R := (onN (fun s => laws_FnTunesPlayed.C.tidy 268435454 s (fun s' => runC laws_FnTunesPlayed.C (laws_FnTunesPlayed.O N) N laws_FnTunesPlayed.c268435455 268435455 s' laws_FnTunesPlayed.K0)) laws_FnTunesPlayed.K0)
noncomputable def laws_FnTunesPlayed.o13 (N : Nat) (v0 : List ByteArray) (v1 : Int) (v2 : Int) (v3 : Int) (v4 : Int) (v5 : Bool) : Option laws_FnTunesPlayed.R :=
 bif v5 then
  (impl_BellUpTo.g N v0 v1 v3).bind fun r1 =>
  (impl_BellUpTo.g N v0 v1 (w64 (v3 + 1))).bind fun r2 =>
  bif (decide (v3 ≥ v2)) then
   bif r1.2 then
    bif (r1.1 == v4) then
     bif r2.2 then
      some ((decide (r2.1 > r1.1)))
     else
     some (false)
    else
    some (false)
   else
   some (false)
  else
  some (false)
 else
 some (true)
theorem laws_FnTunesPlayed.o13.run (N : Nat) (v0 : List ByteArray) (v1 : Int) (v2 : Int) (v3 : Int) (v4 : Int) (v5 : Bool) : runC laws_FnTunesPlayed.C (laws_FnTunesPlayed.O N) N laws_FnTunesPlayed.c536870909 536870909 (mkSt [(53, .one (.sl true 9 v0)), (54, .one (.int .i64 v1)), (55, .one (.int .i64 v2)), (56, .one (.int .i64 v3)), (60, .one (.int .i64 v4)), (504, .one (.bool v5))] [] : St D0) (onN (fun s => laws_FnTunesPlayed.C.tidy 268435454 s (fun s' => runC laws_FnTunesPlayed.C (laws_FnTunesPlayed.O N) N laws_FnTunesPlayed.c268435455 268435455 s' laws_FnTunesPlayed.K0)) laws_FnTunesPlayed.K0) = laws_FnTunesPlayed.o13 N v0 v1 v2 v3 v4 v5 := by kernel_rfl
noncomputable def laws_FnTunesPlayed.d13 (N : Nat) (v0 : List ByteArray) (v1 : Int) (v2 : Int) (v3 : Int) (v4 : Int) (v5 : Bool) : Option laws_FnTunesPlayed.R := laws_FnTunesPlayed.o13 N v0 v1 v2 v3 v4 v5
theorem laws_FnTunesPlayed.d13.run (N : Nat) (v0 : List ByteArray) (v1 : Int) (v2 : Int) (v3 : Int) (v4 : Int) (v5 : Bool) : runC laws_FnTunesPlayed.C (laws_FnTunesPlayed.O N) N laws_FnTunesPlayed.c536870909 536870909 (mkSt [(53, .one (.sl true 9 v0)), (54, .one (.int .i64 v1)), (55, .one (.int .i64 v2)), (56, .one (.int .i64 v3)), (60, .one (.int .i64 v4)), (504, .one (.bool v5))] [] : St D0) (laws_FnTunesPlayed.K536870909 N) = laws_FnTunesPlayed.d13 N v0 v1 v2 v3 v4 v5 := by
  exact (laws_FnTunesPlayed.o13.run N v0 v1 v2 v3 v4 v5).trans rfl
noncomputable def laws_FnTunesPlayed.K268435453 (N : Nat) : Ex → St D0 → Option laws_FnTunesPlayed.R := (onN (fun s => laws_FnTunesPlayed.C.tidy 134217726 s (fun s' => runC laws_FnTunesPlayed.C (laws_FnTunesPlayed.O N) N laws_FnTunesPlayed.c134217727 134217727 s' laws_FnTunesPlayed.K0)) laws_FnTunesPlayed.K0)
noncomputable def laws_FnTunesPlayed.o10 (N : Nat) (v0 : List ByteArray) (v1 : Int) (v2 : Int) (v3 : Int) (v4 : Bool) (v5 : Int) (v6 : Bool) (c13 : (List ByteArray) → Int → Int → Int → Int → Bool → Option laws_FnTunesPlayed.R) : Option laws_FnTunesPlayed.R :=
 bif v6 then
  some (false)
 else
 bif v4 then
  c13 v0 v1 v2 v3 v5 (decide (v3 < 1000000))
 else
 c13 v0 v1 v2 v3 v5 false
theorem laws_FnTunesPlayed.o10.run (N : Nat) (H536870909 : Code) (v0 : List ByteArray) (v1 : Int) (v2 : Int) (v3 : Int) (v4 : Bool) (v5 : Int) (v6 : Bool) : runC laws_FnTunesPlayed.C (laws_FnTunesPlayed.O N) N laws_FnTunesPlayed.c268435453 268435453 (mkSt [(53, .one (.sl true 9 v0)), (54, .one (.int .i64 v1)), (55, .one (.int .i64 v2)), (56, .one (.int .i64 v3)), (57, .one (.bool v4)), (60, .one (.int .i64 v5)), (499, .one (.bool v6))] [] : St D0) (onN (fun s => laws_FnTunesPlayed.C.tidy 134217726 s (fun s' => runC laws_FnTunesPlayed.C (laws_FnTunesPlayed.O N) N (.seq (.seq laws_FnTunesPlayed.c536870908 H536870909) laws_FnTunesPlayed.c268435455) 134217727 s' laws_FnTunesPlayed.K0)) laws_FnTunesPlayed.K0) = laws_FnTunesPlayed.o10 N v0 v1 v2 v3 v4 v5 v6 ((fun w0 w1 w2 w3 w4 w5 => runC laws_FnTunesPlayed.C (laws_FnTunesPlayed.O N) N H536870909 536870909 (mkSt [(53, .one (.sl true 9 w0)), (54, .one (.int .i64 w1)), (55, .one (.int .i64 w2)), (56, .one (.int .i64 w3)), (60, .one (.int .i64 w4)), (504, .one (.bool w5))] [] : St D0) (onN (fun s => laws_FnTunesPlayed.C.tidy 268435454 s (fun s' => runC laws_FnTunesPlayed.C (laws_FnTunesPlayed.O N) N laws_FnTunesPlayed.c268435455 268435455 s' laws_FnTunesPlayed.K0)) laws_FnTunesPlayed.K0))) := by kernel_rfl
noncomputable def laws_FnTunesPlayed.B268435454 (N : Nat) : St D0 → Option laws_FnTunesPlayed.R := fun s' => runC laws_FnTunesPlayed.C (laws_FnTunesPlayed.O N) N laws_FnTunesPlayed.c536870909 536870909 s' (laws_FnTunesPlayed.K536870909 N)
noncomputable def laws_FnTunesPlayed.d10 (N : Nat) (v0 : List ByteArray) (v1 : Int) (v2 : Int) (v3 : Int) (v4 : Bool) (v5 : Int) (v6 : Bool) : Option laws_FnTunesPlayed.R := laws_FnTunesPlayed.o10 N v0 v1 v2 v3 v4 v5 v6 ((fun w0 w1 w2 w3 w4 w5 => laws_FnTunesPlayed.d13 N w0 w1 w2 w3 w4 w5))
theorem laws_FnTunesPlayed.d10.run (N : Nat) (v0 : List ByteArray) (v1 : Int) (v2 : Int) (v3 : Int) (v4 : Bool) (v5 : Int) (v6 : Bool) : runC laws_FnTunesPlayed.C (laws_FnTunesPlayed.O N) N laws_FnTunesPlayed.c268435453 268435453 (mkSt [(53, .one (.sl true 9 v0)), (54, .one (.int .i64 v1)), (55, .one (.int .i64 v2)), (56, .one (.int .i64 v3)), (57, .one (.bool v4)), (60, .one (.int .i64 v5)), (499, .one (.bool v6))] [] : St D0) (laws_FnTunesPlayed.K268435453 N) = laws_FnTunesPlayed.d10 N v0 v1 v2 v3 v4 v5 v6 := by
  unfold laws_FnTunesPlayed.d10; exact (laws_FnTunesPlayed.o10.run N laws_FnTunesPlayed.c536870909 v0 v1 v2 v3 v4 v5 v6).trans (congr rfl (funext fun w0 => funext fun w1 => funext fun w2 => funext fun w3 => funext fun w4 => funext fun w5 => laws_FnTunesPlayed.d13.run N w0 w1 w2 w3 w4 w5))
noncomputable def laws_FnTunesPlayed.o6 (N : Nat) (v0 : List Int) (c10 : (List ByteArray) → Int → Int → Int → Bool → Int → Bool → Option laws_FnTunesPlayed.R) : Option laws_FnTunesPlayed.R :=
 (spec_DrawNextQuarterWith.g N v0).bind fun r1 =>
 (impl_NextQuarterWith.g N r1.1 r1.2.1 r1.2.2).bind fun r2 =>
 (spec_NextQuarterWith.g N r1.1 r1.2.1 r1.2.2).bind fun r3 =>
 (impl_BellUpTo.g N r1.1 r1.2.1 r1.2.2).bind fun r4 =>
 (spec_BellUpTo.g N r1.1 r1.2.1 r1.2.2).bind fun r5 =>
 bif (!(r2.2 == r3.2)) then
  c10 r1.1 r1.2.1 r1.2.2 r2.1 r2.2 r4.1 true
 else
 bif (r2.1 != r3.1) then
  c10 r1.1 r1.2.1 r1.2.2 r2.1 r2.2 r4.1 true
 else
 bif (!(r4.2 == r5.2)) then
  c10 r1.1 r1.2.1 r1.2.2 r2.1 r2.2 r4.1 true
 else
 bif (r4.1 != r5.1) then
  c10 r1.1 r1.2.1 r1.2.2 r2.1 r2.2 r4.1 true
 else
 bif r2.2 then
  c10 r1.1 r1.2.1 r1.2.2 r2.1 r2.2 r4.1 (!r4.2)
 else
 c10 r1.1 r1.2.1 r1.2.2 r2.1 r2.2 r4.1 false
theorem laws_FnTunesPlayed.o6.run (N : Nat) (H268435453 : Code) (v0 : List Int) : runC laws_FnTunesPlayed.C (laws_FnTunesPlayed.O N) N (.seq laws_FnTunesPlayed.c4194302 (.seq laws_FnTunesPlayed.c8388606 (.seq laws_FnTunesPlayed.c16777214 (.seq laws_FnTunesPlayed.c33554430 (.seq laws_FnTunesPlayed.c67108862 (.seq (.seq laws_FnTunesPlayed.c268435452 H268435453) laws_FnTunesPlayed.c134217727)))))) 2097151 (mkSt [(1, .one (.sl false 5 v0))] [] : St D0) laws_FnTunesPlayed.K0 = laws_FnTunesPlayed.o6 N v0 ((fun w0 w1 w2 w3 w4 w5 w6 => runC laws_FnTunesPlayed.C (laws_FnTunesPlayed.O N) N H268435453 268435453 (mkSt [(53, .one (.sl true 9 w0)), (54, .one (.int .i64 w1)), (55, .one (.int .i64 w2)), (56, .one (.int .i64 w3)), (57, .one (.bool w4)), (60, .one (.int .i64 w5)), (499, .one (.bool w6))] [] : St D0) (onN (fun s => laws_FnTunesPlayed.C.tidy 134217726 s (fun s' => runC laws_FnTunesPlayed.C (laws_FnTunesPlayed.O N) N laws_FnTunesPlayed.c134217727 134217727 s' laws_FnTunesPlayed.K0)) laws_FnTunesPlayed.K0))) := by kernel_rfl
noncomputable def laws_FnTunesPlayed.B134217726 (N : Nat) : St D0 → Option laws_FnTunesPlayed.R := fun s' => runC laws_FnTunesPlayed.C (laws_FnTunesPlayed.O N) N laws_FnTunesPlayed.c268435453 268435453 s' (laws_FnTunesPlayed.K268435453 N)
noncomputable def laws_FnTunesPlayed.d6 (N : Nat) (v0 : List Int) : Option laws_FnTunesPlayed.R := laws_FnTunesPlayed.o6 N v0 ((fun w0 w1 w2 w3 w4 w5 w6 => laws_FnTunesPlayed.d10 N w0 w1 w2 w3 w4 w5 w6))
theorem laws_FnTunesPlayed.c2097151_6 : laws_FnTunesPlayed.c2097151 = (.seq laws_FnTunesPlayed.c4194302 (.seq laws_FnTunesPlayed.c8388606 (.seq laws_FnTunesPlayed.c16777214 (.seq laws_FnTunesPlayed.c33554430 (.seq laws_FnTunesPlayed.c67108862 (.seq (.seq laws_FnTunesPlayed.c268435452 laws_FnTunesPlayed.c268435453) laws_FnTunesPlayed.c134217727)))))) := by kernel_rfl
theorem laws_FnTunesPlayed.d6.run (N : Nat) (v0 : List Int) : runC laws_FnTunesPlayed.C (laws_FnTunesPlayed.O N) N laws_FnTunesPlayed.c2097151 2097151 (mkSt [(1, .one (.sl false 5 v0))] [] : St D0) (laws_FnTunesPlayed.K2097151 N) = laws_FnTunesPlayed.d6 N v0 := by
  rw [laws_FnTunesPlayed.c2097151_6]; unfold laws_FnTunesPlayed.d6; exact (laws_FnTunesPlayed.o6.run N laws_FnTunesPlayed.c268435453 v0).trans (congr rfl (funext fun w0 => funext fun w1 => funext fun w2 => funext fun w3 => funext fun w4 => funext fun w5 => funext fun w6 => laws_FnTunesPlayed.d10.run N w0 w1 w2 w3 w4 w5 w6))
noncomputable def laws_FnTunesPlayed.K134217644 (N : Nat) (Kn67108822 : St D0 → Option laws_FnTunesPlayed.R) : Ex → St D0 → Option laws_FnTunesPlayed.R := (onN (fun s => laws_FnTunesPlayed.C.tidy 67108822 s ((onN Kn67108822 (blockK 4 (onN (fun s => laws_FnTunesPlayed.C.tidy 2097150 s (laws_FnTunesPlayed.B1048575 N)) laws_FnTunesPlayed.K0))) .normal)) (onN Kn67108822 (blockK 4 (onN (fun s => laws_FnTunesPlayed.C.tidy 2097150 s (laws_FnTunesPlayed.B1048575 N)) laws_FnTunesPlayed.K0))))
noncomputable def laws_FnTunesPlayed.o9 (N : Nat) (v0 : List Int) (v1 : List ByteArray) (v2 : List ByteArray) (v3 : Int) (v4 : Int) (c12 : (List Int) → (List ByteArray) → (List ByteArray) → Int → Int → Bool → Option laws_FnTunesPlayed.R) (c6 : (List Int) → Option laws_FnTunesPlayed.R) : Option laws_FnTunesPlayed.R :=
 bif (decide (v4 < v3)) then
  bif (decide (0 ≤ v4)) then
   bif (decide (v4 < (v2.length : Int))) then
    (v2[(v4 : Int).toNat]?).bind fun x1 =>
    (impl_PlayedAt.g N v1 (w64 ((w64 (4 * v4)) + 3))).bind fun r2 =>
    bif (!r2.2) then
     c12 v0 v1 v2 v3 v4 true
    else
    c12 v0 v1 v2 v3 v4 (!(x1.toList == r2.1.toList))
   else
   none
  else
  none
 else
 c6 v0
theorem laws_FnTunesPlayed.o9.run (N : Nat) (Kb1048575 : St D0 → Option laws_FnTunesPlayed.R) (Kn67108822 : St D0 → Option laws_FnTunesPlayed.R) (H17179858535 : Code) (v0 : List Int) (v1 : List ByteArray) (v2 : List ByteArray) (v3 : Int) (v4 : Int) : runC laws_FnTunesPlayed.C (laws_FnTunesPlayed.O N) N (.seq laws_FnTunesPlayed.c268435288 (.seq laws_FnTunesPlayed.c536870578 (.seq (.block 5 (.seq laws_FnTunesPlayed.c4294964632 (.seq laws_FnTunesPlayed.c8589929266 (.seq laws_FnTunesPlayed.c17179858534 H17179858535)))) laws_FnTunesPlayed.c1073741159))) 134217644 (mkSt [(1, .one (.sl false 5 v0)), (5, .one (.sl true 9 v1)), (418, .one (.sl true 9 v2)), (419, .one (.int .i64 v3)), (420, .one (.int .i64 v4))] [] : St D0) (onN (fun s => laws_FnTunesPlayed.C.tidy 67108822 s ((onN Kn67108822 (blockK 4 (onN (fun s => laws_FnTunesPlayed.C.tidy 2097150 s Kb1048575) laws_FnTunesPlayed.K0))) .normal)) (onN Kn67108822 (blockK 4 (onN (fun s => laws_FnTunesPlayed.C.tidy 2097150 s Kb1048575) laws_FnTunesPlayed.K0)))) = laws_FnTunesPlayed.o9 N v0 v1 v2 v3 v4 ((fun w0 w1 w2 w3 w4 w5 => runC laws_FnTunesPlayed.C (laws_FnTunesPlayed.O N) N H17179858535 17179858535 (mkSt [(1, .one (.sl false 5 w0)), (5, .one (.sl true 9 w1)), (418, .one (.sl true 9 w2)), (419, .one (.int .i64 w3)), (420, .one (.int .i64 w4)), (439, .one (.bool w5))] [] : St D0) (blockK 5 (onN (fun s => laws_FnTunesPlayed.C.tidy 1073741158 s (fun s' => runC laws_FnTunesPlayed.C (laws_FnTunesPlayed.O N) N laws_FnTunesPlayed.c1073741159 1073741159 s' (onN (fun s => laws_FnTunesPlayed.C.tidy 67108822 s ((onN Kn67108822 (blockK 4 (onN (fun s => laws_FnTunesPlayed.C.tidy 2097150 s Kb1048575) laws_FnTunesPlayed.K0))) .normal)) (onN Kn67108822 (blockK 4 (onN (fun s => laws_FnTunesPlayed.C.tidy 2097150 s Kb1048575) laws_FnTunesPlayed.K0)))))) (onN (fun s => laws_FnTunesPlayed.C.tidy 67108822 s ((onN Kn67108822 (blockK 4 (onN (fun s => laws_FnTunesPlayed.C.tidy 2097150 s Kb1048575) laws_FnTunesPlayed.K0))) .normal)) (onN Kn67108822 (blockK 4 (onN (fun s => laws_FnTunesPlayed.C.tidy 2097150 s Kb1048575) laws_FnTunesPlayed.K0)))))))) ((fun w0 => Kb1048575 (mkSt [(1, .one (.sl false 5 w0))] [] : St D0))) := by kernel_rfl
noncomputable def laws_FnTunesPlayed.B8589929267 (N : Nat) (Kn67108822 : St D0 → Option laws_FnTunesPlayed.R) : St D0 → Option laws_FnTunesPlayed.R := fun s' => runC laws_FnTunesPlayed.C (laws_FnTunesPlayed.O N) N laws_FnTunesPlayed.c17179858535 17179858535 s' (laws_FnTunesPlayed.K17179858535 N Kn67108822)
noncomputable def laws_FnTunesPlayed.d9 (N : Nat) (v0 : List Int) (v1 : List ByteArray) (v2 : List ByteArray) (v3 : Int) (v4 : Int) (c9 : (List Int) → (List ByteArray) → (List ByteArray) → Int → Int → Option laws_FnTunesPlayed.R) : Option laws_FnTunesPlayed.R := laws_FnTunesPlayed.o9 N v0 v1 v2 v3 v4 ((fun w0 w1 w2 w3 w4 w5 => laws_FnTunesPlayed.d12 N w0 w1 w2 w3 w4 w5 c9)) ((fun w0 => laws_FnTunesPlayed.d6 N w0))
theorem laws_FnTunesPlayed.c134217644_9 : laws_FnTunesPlayed.c134217644 = (.seq laws_FnTunesPlayed.c268435288 (.seq laws_FnTunesPlayed.c536870578 (.seq (.block 5 (.seq laws_FnTunesPlayed.c4294964632 (.seq laws_FnTunesPlayed.c8589929266 (.seq laws_FnTunesPlayed.c17179858534 laws_FnTunesPlayed.c17179858535)))) laws_FnTunesPlayed.c1073741159))) := by kernel_rfl
theorem laws_FnTunesPlayed.d9.run (N : Nat) (Kn67108822 : St D0 → Option laws_FnTunesPlayed.R) (v0 : List Int) (v1 : List ByteArray) (v2 : List ByteArray) (v3 : Int) (v4 : Int) : runC laws_FnTunesPlayed.C (laws_FnTunesPlayed.O N) N laws_FnTunesPlayed.c134217644 134217644 (mkSt [(1, .one (.sl false 5 v0)), (5, .one (.sl true 9 v1)), (418, .one (.sl true 9 v2)), (419, .one (.int .i64 v3)), (420, .one (.int .i64 v4))] [] : St D0) (laws_FnTunesPlayed.K134217644 N Kn67108822) = laws_FnTunesPlayed.d9 N v0 v1 v2 v3 v4 ((fun w0 w1 w2 w3 w4 => Kn67108822 (mkSt [(1, .one (.sl false 5 w0)), (5, .one (.sl true 9 w1)), (418, .one (.sl true 9 w2)), (419, .one (.int .i64 w3)), (420, .one (.int .i64 w4))] [] : St D0))) := by
  rw [laws_FnTunesPlayed.c134217644_9]; unfold laws_FnTunesPlayed.d9; exact (laws_FnTunesPlayed.o9.run N (laws_FnTunesPlayed.B1048575 N) Kn67108822 laws_FnTunesPlayed.c17179858535 v0 v1 v2 v3 v4).trans (congr (congr rfl (funext fun w0 => funext fun w1 => funext fun w2 => funext fun w3 => funext fun w4 => funext fun w5 => laws_FnTunesPlayed.d12.run N Kn67108822 w0 w1 w2 w3 w4 w5)) (funext fun w0 => laws_FnTunesPlayed.d6.run N w0))
noncomputable def laws_FnTunesPlayed.K67108822 (N : Nat) : Ex → St D0 → Option laws_FnTunesPlayed.R := (blockK 4 (onN (fun s => laws_FnTunesPlayed.C.tidy 2097150 s (laws_FnTunesPlayed.B1048575 N)) laws_FnTunesPlayed.K0))
noncomputable def laws_FnTunesPlayed.l9 (N : Nat) : Nat → (List Int) → (List ByteArray) → (List ByteArray) → Int → Int → Option laws_FnTunesPlayed.R
  | 0, _, _, _, _, _ => none
  | n + 1, v0, v1, v2, v3, v4 => laws_FnTunesPlayed.d9 N v0 v1 v2 v3 v4 ((fun w0 w1 w2 w3 w4 => laws_FnTunesPlayed.l9 N n w0 w1 w2 w3 w4))
theorem laws_FnTunesPlayed.loop67108822 (N : Nat) : ∀ n, (∀ (v0 : List Int) (v1 : List ByteArray) (v2 : List ByteArray) (v3 : Int) (v4 : Int), iter (loopF laws_FnTunesPlayed.C (laws_FnTunesPlayed.O N) N laws_FnTunesPlayed.c134217644 67108822) n (mkSt [(1, .one (.sl false 5 v0)), (5, .one (.sl true 9 v1)), (418, .one (.sl true 9 v2)), (419, .one (.int .i64 v3)), (420, .one (.int .i64 v4))] [] : St D0) (laws_FnTunesPlayed.K67108822 N) = laws_FnTunesPlayed.l9 N n v0 v1 v2 v3 v4)
  | 0 => (fun v0 v1 v2 v3 v4 => rfl)
  | n + 1 => (fun v0 v1 v2 v3 v4 => (laws_FnTunesPlayed.d9.run N (fun s => iter (loopF laws_FnTunesPlayed.C (laws_FnTunesPlayed.O N) N laws_FnTunesPlayed.c134217644 67108822) n s (laws_FnTunesPlayed.K67108822 N)) v0 v1 v2 v3 v4).trans (show _ = laws_FnTunesPlayed.d9 N v0 v1 v2 v3 v4 ((fun w0 w1 w2 w3 w4 => laws_FnTunesPlayed.l9 N n w0 w1 w2 w3 w4)) from (congr rfl (funext fun w0 => funext fun w1 => funext fun w2 => funext fun w3 => funext fun w4 => (laws_FnTunesPlayed.loop67108822 N n) w0 w1 w2 w3 w4))))
noncomputable def laws_FnTunesPlayed.K33554409 (N : Nat) : Ex → St D0 → Option laws_FnTunesPlayed.R := (onN (fun s => laws_FnTunesPlayed.C.tidy 16777204 s (fun s' => runC laws_FnTunesPlayed.C (laws_FnTunesPlayed.O N) N laws_FnTunesPlayed.c16777205 16777205 s' (onN (fun s => laws_FnTunesPlayed.C.tidy 2097150 s (laws_FnTunesPlayed.B1048575 N)) laws_FnTunesPlayed.K0))) (onN (fun s => laws_FnTunesPlayed.C.tidy 2097150 s (laws_FnTunesPlayed.B1048575 N)) laws_FnTunesPlayed.K0))
noncomputable def laws_FnTunesPlayed.o5 (N : Nat) (v0 : List Int) (v1 : List ByteArray) (v2 : List ByteArray) (v3 : Bool) (c9 : (List Int) → (List ByteArray) → (List ByteArray) → Int → Int → Option laws_FnTunesPlayed.R) : Option laws_FnTunesPlayed.R :=
 bif v3 then
  some (false)
 else
 c9 v0 v1 v2 (v2.length : Int) 0
theorem laws_FnTunesPlayed.o5.run (N : Nat) (Kb1048575 : St D0 → Option laws_FnTunesPlayed.R) (H134217644 : Code) (v0 : List Int) (v1 : List ByteArray) (v2 : List ByteArray) (v3 : Bool) : runC laws_FnTunesPlayed.C (laws_FnTunesPlayed.O N) N laws_FnTunesPlayed.c33554409 33554409 (mkSt [(1, .one (.sl false 5 v0)), (5, .one (.sl true 9 v1)), (31, .one (.sl true 9 v2)), (417, .one (.bool v3))] [] : St D0) (onN (fun s => laws_FnTunesPlayed.C.tidy 16777204 s (fun s' => runC laws_FnTunesPlayed.C (laws_FnTunesPlayed.O N) N (.seq laws_FnTunesPlayed.c33554410 (.block 4 (.loop H134217644))) 16777205 s' (onN (fun s => laws_FnTunesPlayed.C.tidy 2097150 s Kb1048575) laws_FnTunesPlayed.K0))) (onN (fun s => laws_FnTunesPlayed.C.tidy 2097150 s Kb1048575) laws_FnTunesPlayed.K0)) = laws_FnTunesPlayed.o5 N v0 v1 v2 v3 ((fun w0 w1 w2 w3 w4 => iter (loopF laws_FnTunesPlayed.C (laws_FnTunesPlayed.O N) N H134217644 67108822) N (mkSt [(1, .one (.sl false 5 w0)), (5, .one (.sl true 9 w1)), (418, .one (.sl true 9 w2)), (419, .one (.int .i64 w3)), (420, .one (.int .i64 w4))] [] : St D0) (blockK 4 (onN (fun s => laws_FnTunesPlayed.C.tidy 2097150 s Kb1048575) laws_FnTunesPlayed.K0)))) := by kernel_rfl
noncomputable def laws_FnTunesPlayed.d5 (N : Nat) (v0 : List Int) (v1 : List ByteArray) (v2 : List ByteArray) (v3 : Bool) : Option laws_FnTunesPlayed.R := laws_FnTunesPlayed.o5 N v0 v1 v2 v3 ((fun w0 w1 w2 w3 w4 => laws_FnTunesPlayed.l9 N N w0 w1 w2 w3 w4))
theorem laws_FnTunesPlayed.d5.run (N : Nat) (v0 : List Int) (v1 : List ByteArray) (v2 : List ByteArray) (v3 : Bool) : runC laws_FnTunesPlayed.C (laws_FnTunesPlayed.O N) N laws_FnTunesPlayed.c33554409 33554409 (mkSt [(1, .one (.sl false 5 v0)), (5, .one (.sl true 9 v1)), (31, .one (.sl true 9 v2)), (417, .one (.bool v3))] [] : St D0) (laws_FnTunesPlayed.K33554409 N) = laws_FnTunesPlayed.d5 N v0 v1 v2 v3 := by
  unfold laws_FnTunesPlayed.d5; exact (laws_FnTunesPlayed.o5.run N (laws_FnTunesPlayed.B1048575 N) laws_FnTunesPlayed.c134217644 v0 v1 v2 v3).trans (congr rfl (funext fun w0 => funext fun w1 => funext fun w2 => funext fun w3 => funext fun w4 => (laws_FnTunesPlayed.loop67108822 N N) w0 w1 w2 w3 w4))
noncomputable def laws_FnTunesPlayed.o3 (N : Nat) (v0 : List Int) (v1 : List ByteArray) (v2 : Int) (v3 : Bool) (v4 : List ByteArray) (c5 : (List Int) → (List ByteArray) → (List ByteArray) → Bool → Option laws_FnTunesPlayed.R) (c6 : (List Int) → Option laws_FnTunesPlayed.R) : Option laws_FnTunesPlayed.R :=
 bif v3 then
  bif (decide (v2 < 1)) then
   c5 v0 v1 v4 true
  else
  bif (decide (v2 > (v1.length : Int))) then
   c5 v0 v1 v4 true
  else
  bif ((v4.length : Int) != v2) then
   c5 v0 v1 v4 true
  else
  bif ((v1.length : Int) == 0) then
   none
  else
  c5 v0 v1 v4 ((Int.tmod (w64 (10 * v2)) (v1.length : Int)) != 0)
 else
 c6 v0
theorem laws_FnTunesPlayed.o3.run (N : Nat) (H2097151 : Code) (H33554409 : Code) (v0 : List Int) (v1 : List ByteArray) (v2 : Int) (v3 : Bool) (v4 : List ByteArray) : runC laws_FnTunesPlayed.C (laws_FnTunesPlayed.O N) N (.seq (.seq laws_FnTunesPlayed.c4194300 (.cond (.tmp 395) (.seq (.seq laws_FnTunesPlayed.c33554408 H33554409) laws_FnTunesPlayed.c16777205) laws_FnTunesPlayed.c8388603)) H2097151) 1048575 (mkSt [(1, .one (.sl false 5 v0)), (5, .one (.sl true 9 v1)), (23, .one (.int .i64 v2)), (24, .one (.bool v3)), (31, .one (.sl true 9 v4))] [] : St D0) laws_FnTunesPlayed.K0 = laws_FnTunesPlayed.o3 N v0 v1 v2 v3 v4 ((fun w0 w1 w2 w3 => runC laws_FnTunesPlayed.C (laws_FnTunesPlayed.O N) N H33554409 33554409 (mkSt [(1, .one (.sl false 5 w0)), (5, .one (.sl true 9 w1)), (31, .one (.sl true 9 w2)), (417, .one (.bool w3))] [] : St D0) (onN (fun s => laws_FnTunesPlayed.C.tidy 16777204 s (fun s' => runC laws_FnTunesPlayed.C (laws_FnTunesPlayed.O N) N laws_FnTunesPlayed.c16777205 16777205 s' (onN (fun s => laws_FnTunesPlayed.C.tidy 2097150 s (fun s' => runC laws_FnTunesPlayed.C (laws_FnTunesPlayed.O N) N H2097151 2097151 s' laws_FnTunesPlayed.K0)) laws_FnTunesPlayed.K0))) (onN (fun s => laws_FnTunesPlayed.C.tidy 2097150 s (fun s' => runC laws_FnTunesPlayed.C (laws_FnTunesPlayed.O N) N H2097151 2097151 s' laws_FnTunesPlayed.K0)) laws_FnTunesPlayed.K0)))) ((fun w0 => runC laws_FnTunesPlayed.C (laws_FnTunesPlayed.O N) N H2097151 2097151 (mkSt [(1, .one (.sl false 5 w0))] [] : St D0) laws_FnTunesPlayed.K0)) := by kernel_rfl
noncomputable def laws_FnTunesPlayed.B16777204 (N : Nat) : St D0 → Option laws_FnTunesPlayed.R := fun s' => runC laws_FnTunesPlayed.C (laws_FnTunesPlayed.O N) N laws_FnTunesPlayed.c33554409 33554409 s' (laws_FnTunesPlayed.K33554409 N)
noncomputable def laws_FnTunesPlayed.d3 (N : Nat) (v0 : List Int) (v1 : List ByteArray) (v2 : Int) (v3 : Bool) (v4 : List ByteArray) : Option laws_FnTunesPlayed.R := laws_FnTunesPlayed.o3 N v0 v1 v2 v3 v4 ((fun w0 w1 w2 w3 => laws_FnTunesPlayed.d5 N w0 w1 w2 w3)) ((fun w0 => laws_FnTunesPlayed.d6 N w0))
theorem laws_FnTunesPlayed.c1048575_3 : laws_FnTunesPlayed.c1048575 = (.seq (.seq laws_FnTunesPlayed.c4194300 (.cond (.tmp 395) (.seq (.seq laws_FnTunesPlayed.c33554408 laws_FnTunesPlayed.c33554409) laws_FnTunesPlayed.c16777205) laws_FnTunesPlayed.c8388603)) laws_FnTunesPlayed.c2097151) := by kernel_rfl
theorem laws_FnTunesPlayed.d3.run (N : Nat) (v0 : List Int) (v1 : List ByteArray) (v2 : Int) (v3 : Bool) (v4 : List ByteArray) : runC laws_FnTunesPlayed.C (laws_FnTunesPlayed.O N) N laws_FnTunesPlayed.c1048575 1048575 (mkSt [(1, .one (.sl false 5 v0)), (5, .one (.sl true 9 v1)), (23, .one (.int .i64 v2)), (24, .one (.bool v3)), (31, .one (.sl true 9 v4))] [] : St D0) (laws_FnTunesPlayed.K1048575 N) = laws_FnTunesPlayed.d3 N v0 v1 v2 v3 v4 := by
  rw [laws_FnTunesPlayed.c1048575_3]; unfold laws_FnTunesPlayed.d3; exact (laws_FnTunesPlayed.o3.run N laws_FnTunesPlayed.c2097151 laws_FnTunesPlayed.c33554409 v0 v1 v2 v3 v4).trans (congr (congr rfl (funext fun w0 => funext fun w1 => funext fun w2 => funext fun w3 => laws_FnTunesPlayed.d5.run N w0 w1 w2 w3)) (funext fun w0 => laws_FnTunesPlayed.d6.run N w0))
noncomputable def laws_FnTunesPlayed.K17179848699 (N : Nat) : Ex → St D0 → Option laws_FnTunesPlayed.R := (onN (fun s => laws_FnTunesPlayed.C.tidy 1048574 s (laws_FnTunesPlayed.B524287 N)) laws_FnTunesPlayed.K0)
noncomputable def laws_FnTunesPlayed.o15 (N : Nat) (v0 : List Int) (v1 : List ByteArray) (v2 : Int) (v3 : Bool) (v4 : List ByteArray) (v5 : Bool) (c3 : (List Int) → (List ByteArray) → Int → Bool → (List ByteArray) → Option laws_FnTunesPlayed.R) : Option laws_FnTunesPlayed.R :=
 bif v5 then
  some (false)
 else
 c3 v0 v1 v2 v3 v4
theorem laws_FnTunesPlayed.o15.run (N : Nat) (Kb524287 : St D0 → Option laws_FnTunesPlayed.R) (v0 : List Int) (v1 : List ByteArray) (v2 : Int) (v3 : Bool) (v4 : List ByteArray) (v5 : Bool) : runC laws_FnTunesPlayed.C (laws_FnTunesPlayed.O N) N laws_FnTunesPlayed.c17179848699 17179848699 (mkSt [(1, .one (.sl false 5 v0)), (5, .one (.sl true 9 v1)), (23, .one (.int .i64 v2)), (24, .one (.bool v3)), (31, .one (.sl true 9 v4)), (394, .one (.bool v5))] [] : St D0) (onN (fun s => laws_FnTunesPlayed.C.tidy 1048574 s Kb524287) laws_FnTunesPlayed.K0) = laws_FnTunesPlayed.o15 N v0 v1 v2 v3 v4 v5 ((fun w0 w1 w2 w3 w4 => Kb524287 (mkSt [(1, .one (.sl false 5 w0)), (5, .one (.sl true 9 w1)), (23, .one (.int .i64 w2)), (24, .one (.bool w3)), (31, .one (.sl true 9 w4))] [] : St D0))) := by kernel_rfl
noncomputable def laws_FnTunesPlayed.d15 (N : Nat) (v0 : List Int) (v1 : List ByteArray) (v2 : Int) (v3 : Bool) (v4 : List ByteArray) (v5 : Bool) : Option laws_FnTunesPlayed.R := laws_FnTunesPlayed.o15 N v0 v1 v2 v3 v4 v5 ((fun w0 w1 w2 w3 w4 => laws_FnTunesPlayed.d3 N w0 w1 w2 w3 w4))
theorem laws_FnTunesPlayed.d15.run (N : Nat) (v0 : List Int) (v1 : List ByteArray) (v2 : Int) (v3 : Bool) (v4 : List ByteArray) (v5 : Bool) : runC laws_FnTunesPlayed.C (laws_FnTunesPlayed.O N) N laws_FnTunesPlayed.c17179848699 17179848699 (mkSt [(1, .one (.sl false 5 v0)), (5, .one (.sl true 9 v1)), (23, .one (.int .i64 v2)), (24, .one (.bool v3)), (31, .one (.sl true 9 v4)), (394, .one (.bool v5))] [] : St D0) (laws_FnTunesPlayed.K17179848699 N) = laws_FnTunesPlayed.d15 N v0 v1 v2 v3 v4 v5 := by
  unfold laws_FnTunesPlayed.d15; exact (laws_FnTunesPlayed.o15.run N (laws_FnTunesPlayed.B524287 N) v0 v1 v2 v3 v4 v5).trans (congr rfl (funext fun w0 => funext fun w1 => funext fun w2 => funext fun w3 => funext fun w4 => laws_FnTunesPlayed.d3.run N w0 w1 w2 w3 w4))
noncomputable def laws_FnTunesPlayed.K4294962164 (N : Nat) (Kn2147481082 : St D0 → Option laws_FnTunesPlayed.R) : Ex → St D0 → Option laws_FnTunesPlayed.R := (onN (fun s => laws_FnTunesPlayed.C.tidy 2147481082 s ((onN Kn2147481082 (blockK 2 (onN (fun s => laws_FnTunesPlayed.C.tidy 536870270 s (fun s' => runC laws_FnTunesPlayed.C (laws_FnTunesPlayed.O N) N laws_FnTunesPlayed.c536870271 536870271 s' (onN (fun s => laws_FnTunesPlayed.C.tidy 1048574 s (laws_FnTunesPlayed.B524287 N)) laws_FnTunesPlayed.K0))) (onN (fun s => laws_FnTunesPlayed.C.tidy 1048574 s (laws_FnTunesPlayed.B524287 N)) laws_FnTunesPlayed.K0)))) .normal)) (onN Kn2147481082 (blockK 2 (onN (fun s => laws_FnTunesPlayed.C.tidy 536870270 s (fun s' => runC laws_FnTunesPlayed.C (laws_FnTunesPlayed.O N) N laws_FnTunesPlayed.c536870271 536870271 s' (onN (fun s => laws_FnTunesPlayed.C.tidy 1048574 s (laws_FnTunesPlayed.B524287 N)) laws_FnTunesPlayed.K0))) (onN (fun s => laws_FnTunesPlayed.C.tidy 1048574 s (laws_FnTunesPlayed.B524287 N)) laws_FnTunesPlayed.K0)))))
noncomputable def laws_FnTunesPlayed.o11 (N : Nat) (v0 : List Int) (v1 : List ByteArray) (v2 : Int) (v3 : Int) (v4 : Int) (v5 : Int) (v6 : Bool) (v7 : List Int) (v8 : List ByteArray) (v9 : Int) (v10 : Int) (c14 : (List Int) → (List ByteArray) → Int → Int → Int → Int → Bool → (List Int) → (List ByteArray) → Int → Int → Int → Bool → Option laws_FnTunesPlayed.R) (c15 : (List Int) → (List ByteArray) → Int → Bool → (List ByteArray) → Bool → Option laws_FnTunesPlayed.R) (c3 : (List Int) → (List ByteArray) → Int → Bool → (List ByteArray) → Option laws_FnTunesPlayed.R) : Option laws_FnTunesPlayed.R :=
 bif (decide (v10 ≤ 8)) then
  (impl_BellUpTo.g N v1 v10 v2).bind fun r1 =>
  bif (!r1.2) then
   c14 v0 v1 v2 v3 v4 v5 v6 v7 v8 v9 v10 r1.1 true
  else
  bif (decide (r1.1 > 0)) then
   (laws_kHas.g N v7 v10).bind fun r2 =>
   c14 v0 v1 v2 v3 v4 v5 v6 v7 v8 v9 v10 r1.1 (!r2)
  else
  c14 v0 v1 v2 v3 v4 v5 v6 v7 v8 v9 v10 r1.1 false
 else
 bif (v9 != v4) then
  some (false)
 else
 bif (decide (v2 ≤ (w64 (1000000 - (w64 (4 * v5)))))) then
  (impl_StandsAt.g N v1 (w64 (v2 + (w64 (4 * v5))))).bind fun r3 =>
  bif (!r3.2) then
   c15 v0 v1 v5 v6 v8 true
  else
  c15 v0 v1 v5 v6 v8 (r3.1 != v3)
 else
 c3 v0 v1 v5 v6 v8
theorem laws_FnTunesPlayed.o11.run (N : Nat) (Kb524287 : St D0 → Option laws_FnTunesPlayed.R) (Kn2147481082 : St D0 → Option laws_FnTunesPlayed.R) (H17179848699 : Code) (H274877578533 : Code) (v0 : List Int) (v1 : List ByteArray) (v2 : Int) (v3 : Int) (v4 : Int) (v5 : Int) (v6 : Bool) (v7 : List Int) (v8 : List ByteArray) (v9 : Int) (v10 : Int) : runC laws_FnTunesPlayed.C (laws_FnTunesPlayed.O N) N (.seq laws_FnTunesPlayed.c8589924328 (.seq (.block 3 (.seq laws_FnTunesPlayed.c68719394632 (.seq (.seq laws_FnTunesPlayed.c274877578532 H274877578533) laws_FnTunesPlayed.c137438789267))) laws_FnTunesPlayed.c17179848659)) 4294962164 (mkSt [(1, .one (.sl false 5 v0)), (5, .one (.sl true 9 v1)), (6, .one (.int .i64 v2)), (15, .one (.int .i64 v3)), (19, .one (.int .i64 v4)), (23, .one (.int .i64 v5)), (24, .one (.bool v6)), (27, .one (.sl true 3 v7)), (31, .one (.sl true 9 v8)), (43, .one (.int .i64 v9)), (44, .one (.int .i64 v10))] [] : St D0) (onN (fun s => laws_FnTunesPlayed.C.tidy 2147481082 s ((onN Kn2147481082 (blockK 2 (onN (fun s => laws_FnTunesPlayed.C.tidy 536870270 s (fun s' => runC laws_FnTunesPlayed.C (laws_FnTunesPlayed.O N) N (.seq laws_FnTunesPlayed.c1073740542 (.seq laws_FnTunesPlayed.c2147481086 (.cond (.tmp 378) (.seq laws_FnTunesPlayed.c8589924348 (.seq laws_FnTunesPlayed.c17179848698 H17179848699)) laws_FnTunesPlayed.c4294962175))) 536870271 s' (onN (fun s => laws_FnTunesPlayed.C.tidy 1048574 s Kb524287) laws_FnTunesPlayed.K0))) (onN (fun s => laws_FnTunesPlayed.C.tidy 1048574 s Kb524287) laws_FnTunesPlayed.K0)))) .normal)) (onN Kn2147481082 (blockK 2 (onN (fun s => laws_FnTunesPlayed.C.tidy 536870270 s (fun s' => runC laws_FnTunesPlayed.C (laws_FnTunesPlayed.O N) N (.seq laws_FnTunesPlayed.c1073740542 (.seq laws_FnTunesPlayed.c2147481086 (.cond (.tmp 378) (.seq laws_FnTunesPlayed.c8589924348 (.seq laws_FnTunesPlayed.c17179848698 H17179848699)) laws_FnTunesPlayed.c4294962175))) 536870271 s' (onN (fun s => laws_FnTunesPlayed.C.tidy 1048574 s Kb524287) laws_FnTunesPlayed.K0))) (onN (fun s => laws_FnTunesPlayed.C.tidy 1048574 s Kb524287) laws_FnTunesPlayed.K0))))) = laws_FnTunesPlayed.o11 N v0 v1 v2 v3 v4 v5 v6 v7 v8 v9 v10 ((fun w0 w1 w2 w3 w4 w5 w6 w7 w8 w9 w10 w11 w12 => runC laws_FnTunesPlayed.C (laws_FnTunesPlayed.O N) N H274877578533 274877578533 (mkSt [(1, .one (.sl false 5 w0)), (5, .one (.sl true 9 w1)), (6, .one (.int .i64 w2)), (15, .one (.int .i64 w3)), (19, .one (.int .i64 w4)), (23, .one (.int .i64 w5)), (24, .one (.bool w6)), (27, .one (.sl true 3 w7)), (31, .one (.sl true 9 w8)), (43, .one (.int .i64 w9)), (44, .one (.int .i64 w10)), (45, .one (.int .i64 w11)), (367, .one (.bool w12))] [] : St D0) (onN (fun s => laws_FnTunesPlayed.C.tidy 137438789266 s (fun s' => runC laws_FnTunesPlayed.C (laws_FnTunesPlayed.O N) N laws_FnTunesPlayed.c137438789267 137438789267 s' (blockK 3 (onN (fun s => laws_FnTunesPlayed.C.tidy 17179848658 s (fun s' => runC laws_FnTunesPlayed.C (laws_FnTunesPlayed.O N) N laws_FnTunesPlayed.c17179848659 17179848659 s' (onN (fun s => laws_FnTunesPlayed.C.tidy 2147481082 s ((onN Kn2147481082 (blockK 2 (onN (fun s => laws_FnTunesPlayed.C.tidy 536870270 s (fun s' => runC laws_FnTunesPlayed.C (laws_FnTunesPlayed.O N) N (.seq laws_FnTunesPlayed.c1073740542 (.seq laws_FnTunesPlayed.c2147481086 (.cond (.tmp 378) (.seq laws_FnTunesPlayed.c8589924348 (.seq laws_FnTunesPlayed.c17179848698 H17179848699)) laws_FnTunesPlayed.c4294962175))) 536870271 s' (onN (fun s => laws_FnTunesPlayed.C.tidy 1048574 s Kb524287) laws_FnTunesPlayed.K0))) (onN (fun s => laws_FnTunesPlayed.C.tidy 1048574 s Kb524287) laws_FnTunesPlayed.K0)))) .normal)) (onN Kn2147481082 (blockK 2 (onN (fun s => laws_FnTunesPlayed.C.tidy 536870270 s (fun s' => runC laws_FnTunesPlayed.C (laws_FnTunesPlayed.O N) N (.seq laws_FnTunesPlayed.c1073740542 (.seq laws_FnTunesPlayed.c2147481086 (.cond (.tmp 378) (.seq laws_FnTunesPlayed.c8589924348 (.seq laws_FnTunesPlayed.c17179848698 H17179848699)) laws_FnTunesPlayed.c4294962175))) 536870271 s' (onN (fun s => laws_FnTunesPlayed.C.tidy 1048574 s Kb524287) laws_FnTunesPlayed.K0))) (onN (fun s => laws_FnTunesPlayed.C.tidy 1048574 s Kb524287) laws_FnTunesPlayed.K0))))))) (onN (fun s => laws_FnTunesPlayed.C.tidy 2147481082 s ((onN Kn2147481082 (blockK 2 (onN (fun s => laws_FnTunesPlayed.C.tidy 536870270 s (fun s' => runC laws_FnTunesPlayed.C (laws_FnTunesPlayed.O N) N (.seq laws_FnTunesPlayed.c1073740542 (.seq laws_FnTunesPlayed.c2147481086 (.cond (.tmp 378) (.seq laws_FnTunesPlayed.c8589924348 (.seq laws_FnTunesPlayed.c17179848698 H17179848699)) laws_FnTunesPlayed.c4294962175))) 536870271 s' (onN (fun s => laws_FnTunesPlayed.C.tidy 1048574 s Kb524287) laws_FnTunesPlayed.K0))) (onN (fun s => laws_FnTunesPlayed.C.tidy 1048574 s Kb524287) laws_FnTunesPlayed.K0)))) .normal)) (onN Kn2147481082 (blockK 2 (onN (fun s => laws_FnTunesPlayed.C.tidy 536870270 s (fun s' => runC laws_FnTunesPlayed.C (laws_FnTunesPlayed.O N) N (.seq laws_FnTunesPlayed.c1073740542 (.seq laws_FnTunesPlayed.c2147481086 (.cond (.tmp 378) (.seq laws_FnTunesPlayed.c8589924348 (.seq laws_FnTunesPlayed.c17179848698 H17179848699)) laws_FnTunesPlayed.c4294962175))) 536870271 s' (onN (fun s => laws_FnTunesPlayed.C.tidy 1048574 s Kb524287) laws_FnTunesPlayed.K0))) (onN (fun s => laws_FnTunesPlayed.C.tidy 1048574 s Kb524287) laws_FnTunesPlayed.K0))))))))) (blockK 3 (onN (fun s => laws_FnTunesPlayed.C.tidy 17179848658 s (fun s' => runC laws_FnTunesPlayed.C (laws_FnTunesPlayed.O N) N laws_FnTunesPlayed.c17179848659 17179848659 s' (onN (fun s => laws_FnTunesPlayed.C.tidy 2147481082 s ((onN Kn2147481082 (blockK 2 (onN (fun s => laws_FnTunesPlayed.C.tidy 536870270 s (fun s' => runC laws_FnTunesPlayed.C (laws_FnTunesPlayed.O N) N (.seq laws_FnTunesPlayed.c1073740542 (.seq laws_FnTunesPlayed.c2147481086 (.cond (.tmp 378) (.seq laws_FnTunesPlayed.c8589924348 (.seq laws_FnTunesPlayed.c17179848698 H17179848699)) laws_FnTunesPlayed.c4294962175))) 536870271 s' (onN (fun s => laws_FnTunesPlayed.C.tidy 1048574 s Kb524287) laws_FnTunesPlayed.K0))) (onN (fun s => laws_FnTunesPlayed.C.tidy 1048574 s Kb524287) laws_FnTunesPlayed.K0)))) .normal)) (onN Kn2147481082 (blockK 2 (onN (fun s => laws_FnTunesPlayed.C.tidy 536870270 s (fun s' => runC laws_FnTunesPlayed.C (laws_FnTunesPlayed.O N) N (.seq laws_FnTunesPlayed.c1073740542 (.seq laws_FnTunesPlayed.c2147481086 (.cond (.tmp 378) (.seq laws_FnTunesPlayed.c8589924348 (.seq laws_FnTunesPlayed.c17179848698 H17179848699)) laws_FnTunesPlayed.c4294962175))) 536870271 s' (onN (fun s => laws_FnTunesPlayed.C.tidy 1048574 s Kb524287) laws_FnTunesPlayed.K0))) (onN (fun s => laws_FnTunesPlayed.C.tidy 1048574 s Kb524287) laws_FnTunesPlayed.K0))))))) (onN (fun s => laws_FnTunesPlayed.C.tidy 2147481082 s ((onN Kn2147481082 (blockK 2 (onN (fun s => laws_FnTunesPlayed.C.tidy 536870270 s (fun s' => runC laws_FnTunesPlayed.C (laws_FnTunesPlayed.O N) N (.seq laws_FnTunesPlayed.c1073740542 (.seq laws_FnTunesPlayed.c2147481086 (.cond (.tmp 378) (.seq laws_FnTunesPlayed.c8589924348 (.seq laws_FnTunesPlayed.c17179848698 H17179848699)) laws_FnTunesPlayed.c4294962175))) 536870271 s' (onN (fun s => laws_FnTunesPlayed.C.tidy 1048574 s Kb524287) laws_FnTunesPlayed.K0))) (onN (fun s => laws_FnTunesPlayed.C.tidy 1048574 s Kb524287) laws_FnTunesPlayed.K0)))) .normal)) (onN Kn2147481082 (blockK 2 (onN (fun s => laws_FnTunesPlayed.C.tidy 536870270 s (fun s' => runC laws_FnTunesPlayed.C (laws_FnTunesPlayed.O N) N (.seq laws_FnTunesPlayed.c1073740542 (.seq laws_FnTunesPlayed.c2147481086 (.cond (.tmp 378) (.seq laws_FnTunesPlayed.c8589924348 (.seq laws_FnTunesPlayed.c17179848698 H17179848699)) laws_FnTunesPlayed.c4294962175))) 536870271 s' (onN (fun s => laws_FnTunesPlayed.C.tidy 1048574 s Kb524287) laws_FnTunesPlayed.K0))) (onN (fun s => laws_FnTunesPlayed.C.tidy 1048574 s Kb524287) laws_FnTunesPlayed.K0)))))))))) ((fun w0 w1 w2 w3 w4 w5 => runC laws_FnTunesPlayed.C (laws_FnTunesPlayed.O N) N H17179848699 17179848699 (mkSt [(1, .one (.sl false 5 w0)), (5, .one (.sl true 9 w1)), (23, .one (.int .i64 w2)), (24, .one (.bool w3)), (31, .one (.sl true 9 w4)), (394, .one (.bool w5))] [] : St D0) (onN (fun s => laws_FnTunesPlayed.C.tidy 1048574 s Kb524287) laws_FnTunesPlayed.K0))) ((fun w0 w1 w2 w3 w4 => Kb524287 (mkSt [(1, .one (.sl false 5 w0)), (5, .one (.sl true 9 w1)), (23, .one (.int .i64 w2)), (24, .one (.bool w3)), (31, .one (.sl true 9 w4))] [] : St D0))) := by kernel_rfl
noncomputable def laws_FnTunesPlayed.B8589924349 (N : Nat) : St D0 → Option laws_FnTunesPlayed.R := fun s' => runC laws_FnTunesPlayed.C (laws_FnTunesPlayed.O N) N laws_FnTunesPlayed.c17179848699 17179848699 s' (laws_FnTunesPlayed.K17179848699 N)
noncomputable def laws_FnTunesPlayed.B137438789266 (N : Nat) (Kn2147481082 : St D0 → Option laws_FnTunesPlayed.R) : St D0 → Option laws_FnTunesPlayed.R := fun s' => runC laws_FnTunesPlayed.C (laws_FnTunesPlayed.O N) N laws_FnTunesPlayed.c274877578533 274877578533 s' (laws_FnTunesPlayed.K274877578533 N Kn2147481082)
noncomputable def laws_FnTunesPlayed.d11 (N : Nat) (v0 : List Int) (v1 : List ByteArray) (v2 : Int) (v3 : Int) (v4 : Int) (v5 : Int) (v6 : Bool) (v7 : List Int) (v8 : List ByteArray) (v9 : Int) (v10 : Int) (c11 : (List Int) → (List ByteArray) → Int → Int → Int → Int → Bool → (List Int) → (List ByteArray) → Int → Int → Option laws_FnTunesPlayed.R) : Option laws_FnTunesPlayed.R := laws_FnTunesPlayed.o11 N v0 v1 v2 v3 v4 v5 v6 v7 v8 v9 v10 ((fun w0 w1 w2 w3 w4 w5 w6 w7 w8 w9 w10 w11 w12 => laws_FnTunesPlayed.d14 N w0 w1 w2 w3 w4 w5 w6 w7 w8 w9 w10 w11 w12 c11)) ((fun w0 w1 w2 w3 w4 w5 => laws_FnTunesPlayed.d15 N w0 w1 w2 w3 w4 w5)) ((fun w0 w1 w2 w3 w4 => laws_FnTunesPlayed.d3 N w0 w1 w2 w3 w4))
theorem laws_FnTunesPlayed.c4294962164_11 : laws_FnTunesPlayed.c4294962164 = (.seq laws_FnTunesPlayed.c8589924328 (.seq (.block 3 (.seq laws_FnTunesPlayed.c68719394632 (.seq (.seq laws_FnTunesPlayed.c274877578532 laws_FnTunesPlayed.c274877578533) laws_FnTunesPlayed.c137438789267))) laws_FnTunesPlayed.c17179848659)) := by kernel_rfl
theorem laws_FnTunesPlayed.d11.run (N : Nat) (Kn2147481082 : St D0 → Option laws_FnTunesPlayed.R) (v0 : List Int) (v1 : List ByteArray) (v2 : Int) (v3 : Int) (v4 : Int) (v5 : Int) (v6 : Bool) (v7 : List Int) (v8 : List ByteArray) (v9 : Int) (v10 : Int) : runC laws_FnTunesPlayed.C (laws_FnTunesPlayed.O N) N laws_FnTunesPlayed.c4294962164 4294962164 (mkSt [(1, .one (.sl false 5 v0)), (5, .one (.sl true 9 v1)), (6, .one (.int .i64 v2)), (15, .one (.int .i64 v3)), (19, .one (.int .i64 v4)), (23, .one (.int .i64 v5)), (24, .one (.bool v6)), (27, .one (.sl true 3 v7)), (31, .one (.sl true 9 v8)), (43, .one (.int .i64 v9)), (44, .one (.int .i64 v10))] [] : St D0) (laws_FnTunesPlayed.K4294962164 N Kn2147481082) = laws_FnTunesPlayed.d11 N v0 v1 v2 v3 v4 v5 v6 v7 v8 v9 v10 ((fun w0 w1 w2 w3 w4 w5 w6 w7 w8 w9 w10 => Kn2147481082 (mkSt [(1, .one (.sl false 5 w0)), (5, .one (.sl true 9 w1)), (6, .one (.int .i64 w2)), (15, .one (.int .i64 w3)), (19, .one (.int .i64 w4)), (23, .one (.int .i64 w5)), (24, .one (.bool w6)), (27, .one (.sl true 3 w7)), (31, .one (.sl true 9 w8)), (43, .one (.int .i64 w9)), (44, .one (.int .i64 w10))] [] : St D0))) := by
  rw [laws_FnTunesPlayed.c4294962164_11]; unfold laws_FnTunesPlayed.d11; exact (laws_FnTunesPlayed.o11.run N (laws_FnTunesPlayed.B524287 N) Kn2147481082 laws_FnTunesPlayed.c17179848699 laws_FnTunesPlayed.c274877578533 v0 v1 v2 v3 v4 v5 v6 v7 v8 v9 v10).trans (congr (congr (congr rfl (funext fun w0 => funext fun w1 => funext fun w2 => funext fun w3 => funext fun w4 => funext fun w5 => funext fun w6 => funext fun w7 => funext fun w8 => funext fun w9 => funext fun w10 => funext fun w11 => funext fun w12 => laws_FnTunesPlayed.d14.run N Kn2147481082 w0 w1 w2 w3 w4 w5 w6 w7 w8 w9 w10 w11 w12)) (funext fun w0 => funext fun w1 => funext fun w2 => funext fun w3 => funext fun w4 => funext fun w5 => laws_FnTunesPlayed.d15.run N w0 w1 w2 w3 w4 w5)) (funext fun w0 => funext fun w1 => funext fun w2 => funext fun w3 => funext fun w4 => laws_FnTunesPlayed.d3.run N w0 w1 w2 w3 w4))
noncomputable def laws_FnTunesPlayed.K2147481082 (N : Nat) : Ex → St D0 → Option laws_FnTunesPlayed.R := (blockK 2 (onN (fun s => laws_FnTunesPlayed.C.tidy 536870270 s (fun s' => runC laws_FnTunesPlayed.C (laws_FnTunesPlayed.O N) N laws_FnTunesPlayed.c536870271 536870271 s' (onN (fun s => laws_FnTunesPlayed.C.tidy 1048574 s (laws_FnTunesPlayed.B524287 N)) laws_FnTunesPlayed.K0))) (onN (fun s => laws_FnTunesPlayed.C.tidy 1048574 s (laws_FnTunesPlayed.B524287 N)) laws_FnTunesPlayed.K0)))
noncomputable def laws_FnTunesPlayed.l11 (N : Nat) : Nat → (List Int) → (List ByteArray) → Int → Int → Int → Int → Bool → (List Int) → (List ByteArray) → Int → Int → Option laws_FnTunesPlayed.R
  | 0, _, _, _, _, _, _, _, _, _, _, _ => none
  | n + 1, v0, v1, v2, v3, v4, v5, v6, v7, v8, v9, v10 => laws_FnTunesPlayed.d11 N v0 v1 v2 v3 v4 v5 v6 v7 v8 v9 v10 ((fun w0 w1 w2 w3 w4 w5 w6 w7 w8 w9 w10 => laws_FnTunesPlayed.l11 N n w0 w1 w2 w3 w4 w5 w6 w7 w8 w9 w10))
theorem laws_FnTunesPlayed.loop2147481082 (N : Nat) : ∀ n, (∀ (v0 : List Int) (v1 : List ByteArray) (v2 : Int) (v3 : Int) (v4 : Int) (v5 : Int) (v6 : Bool) (v7 : List Int) (v8 : List ByteArray) (v9 : Int) (v10 : Int), iter (loopF laws_FnTunesPlayed.C (laws_FnTunesPlayed.O N) N laws_FnTunesPlayed.c4294962164 2147481082) n (mkSt [(1, .one (.sl false 5 v0)), (5, .one (.sl true 9 v1)), (6, .one (.int .i64 v2)), (15, .one (.int .i64 v3)), (19, .one (.int .i64 v4)), (23, .one (.int .i64 v5)), (24, .one (.bool v6)), (27, .one (.sl true 3 v7)), (31, .one (.sl true 9 v8)), (43, .one (.int .i64 v9)), (44, .one (.int .i64 v10))] [] : St D0) (laws_FnTunesPlayed.K2147481082 N) = laws_FnTunesPlayed.l11 N n v0 v1 v2 v3 v4 v5 v6 v7 v8 v9 v10)
  | 0 => (fun v0 v1 v2 v3 v4 v5 v6 v7 v8 v9 v10 => rfl)
  | n + 1 => (fun v0 v1 v2 v3 v4 v5 v6 v7 v8 v9 v10 => (laws_FnTunesPlayed.d11.run N (fun s => iter (loopF laws_FnTunesPlayed.C (laws_FnTunesPlayed.O N) N laws_FnTunesPlayed.c4294962164 2147481082) n s (laws_FnTunesPlayed.K2147481082 N)) v0 v1 v2 v3 v4 v5 v6 v7 v8 v9 v10).trans (show _ = laws_FnTunesPlayed.d11 N v0 v1 v2 v3 v4 v5 v6 v7 v8 v9 v10 ((fun w0 w1 w2 w3 w4 w5 w6 w7 w8 w9 w10 => laws_FnTunesPlayed.l11 N n w0 w1 w2 w3 w4 w5 w6 w7 w8 w9 w10)) from (congr rfl (funext fun w0 => funext fun w1 => funext fun w2 => funext fun w3 => funext fun w4 => funext fun w5 => funext fun w6 => funext fun w7 => funext fun w8 => funext fun w9 => funext fun w10 => (laws_FnTunesPlayed.loop2147481082 N n) w0 w1 w2 w3 w4 w5 w6 w7 w8 w9 w10))))
noncomputable def laws_FnTunesPlayed.K134217567 (N : Nat) : Ex → St D0 → Option laws_FnTunesPlayed.R := (onN (fun s => laws_FnTunesPlayed.C.tidy 1048574 s (laws_FnTunesPlayed.B524287 N)) laws_FnTunesPlayed.K0)
noncomputable def laws_FnTunesPlayed.o8 (N : Nat) (v0 : List Int) (v1 : List ByteArray) (v2 : Int) (v3 : Int) (v4 : Int) (v5 : Int) (v6 : Bool) (v7 : List Int) (v8 : List ByteArray) (c11 : (List Int) → (List ByteArray) → Int → Int → Int → Int → Bool → (List Int) → (List ByteArray) → Int → Int → Option laws_FnTunesPlayed.R) : Option laws_FnTunesPlayed.R :=
 c11 v0 v1 v2 v3 v4 v5 v6 v7 v8 0 1
theorem laws_FnTunesPlayed.o8.run (N : Nat) (Kb524287 : St D0 → Option laws_FnTunesPlayed.R) (H4294962164 : Code) (v0 : List Int) (v1 : List ByteArray) (v2 : Int) (v3 : Int) (v4 : Int) (v5 : Int) (v6 : Bool) (v7 : List Int) (v8 : List ByteArray) : runC laws_FnTunesPlayed.C (laws_FnTunesPlayed.O N) N (.seq laws_FnTunesPlayed.c268435134 (.seq (.seq laws_FnTunesPlayed.c1073740540 (.block 2 (.loop H4294962164))) laws_FnTunesPlayed.c536870271)) 134217567 (mkSt [(1, .one (.sl false 5 v0)), (5, .one (.sl true 9 v1)), (6, .one (.int .i64 v2)), (15, .one (.int .i64 v3)), (19, .one (.int .i64 v4)), (23, .one (.int .i64 v5)), (24, .one (.bool v6)), (27, .one (.sl true 3 v7)), (31, .one (.sl true 9 v8))] [] : St D0) (onN (fun s => laws_FnTunesPlayed.C.tidy 1048574 s Kb524287) laws_FnTunesPlayed.K0) = laws_FnTunesPlayed.o8 N v0 v1 v2 v3 v4 v5 v6 v7 v8 ((fun w0 w1 w2 w3 w4 w5 w6 w7 w8 w9 w10 => iter (loopF laws_FnTunesPlayed.C (laws_FnTunesPlayed.O N) N H4294962164 2147481082) N (mkSt [(1, .one (.sl false 5 w0)), (5, .one (.sl true 9 w1)), (6, .one (.int .i64 w2)), (15, .one (.int .i64 w3)), (19, .one (.int .i64 w4)), (23, .one (.int .i64 w5)), (24, .one (.bool w6)), (27, .one (.sl true 3 w7)), (31, .one (.sl true 9 w8)), (43, .one (.int .i64 w9)), (44, .one (.int .i64 w10))] [] : St D0) (blockK 2 (onN (fun s => laws_FnTunesPlayed.C.tidy 536870270 s (fun s' => runC laws_FnTunesPlayed.C (laws_FnTunesPlayed.O N) N laws_FnTunesPlayed.c536870271 536870271 s' (onN (fun s => laws_FnTunesPlayed.C.tidy 1048574 s Kb524287) laws_FnTunesPlayed.K0))) (onN (fun s => laws_FnTunesPlayed.C.tidy 1048574 s Kb524287) laws_FnTunesPlayed.K0))))) := by kernel_rfl
noncomputable def laws_FnTunesPlayed.d8 (N : Nat) (v0 : List Int) (v1 : List ByteArray) (v2 : Int) (v3 : Int) (v4 : Int) (v5 : Int) (v6 : Bool) (v7 : List Int) (v8 : List ByteArray) : Option laws_FnTunesPlayed.R := laws_FnTunesPlayed.o8 N v0 v1 v2 v3 v4 v5 v6 v7 v8 ((fun w0 w1 w2 w3 w4 w5 w6 w7 w8 w9 w10 => laws_FnTunesPlayed.l11 N N w0 w1 w2 w3 w4 w5 w6 w7 w8 w9 w10))
theorem laws_FnTunesPlayed.c134217567_8 : laws_FnTunesPlayed.c134217567 = (.seq laws_FnTunesPlayed.c268435134 (.seq (.seq laws_FnTunesPlayed.c1073740540 (.block 2 (.loop laws_FnTunesPlayed.c4294962164))) laws_FnTunesPlayed.c536870271)) := by kernel_rfl
theorem laws_FnTunesPlayed.d8.run (N : Nat) (v0 : List Int) (v1 : List ByteArray) (v2 : Int) (v3 : Int) (v4 : Int) (v5 : Int) (v6 : Bool) (v7 : List Int) (v8 : List ByteArray) : runC laws_FnTunesPlayed.C (laws_FnTunesPlayed.O N) N laws_FnTunesPlayed.c134217567 134217567 (mkSt [(1, .one (.sl false 5 v0)), (5, .one (.sl true 9 v1)), (6, .one (.int .i64 v2)), (15, .one (.int .i64 v3)), (19, .one (.int .i64 v4)), (23, .one (.int .i64 v5)), (24, .one (.bool v6)), (27, .one (.sl true 3 v7)), (31, .one (.sl true 9 v8))] [] : St D0) (laws_FnTunesPlayed.K134217567 N) = laws_FnTunesPlayed.d8 N v0 v1 v2 v3 v4 v5 v6 v7 v8 := by
  rw [laws_FnTunesPlayed.c134217567_8]; unfold laws_FnTunesPlayed.d8; exact (laws_FnTunesPlayed.o8.run N (laws_FnTunesPlayed.B524287 N) laws_FnTunesPlayed.c4294962164 v0 v1 v2 v3 v4 v5 v6 v7 v8).trans (congr rfl (funext fun w0 => funext fun w1 => funext fun w2 => funext fun w3 => funext fun w4 => funext fun w5 => funext fun w6 => funext fun w7 => funext fun w8 => funext fun w9 => funext fun w10 => (laws_FnTunesPlayed.loop2147481082 N N) w0 w1 w2 w3 w4 w5 w6 w7 w8 w9 w10))
noncomputable def laws_FnTunesPlayed.B67108783 (N : Nat) : St D0 → Option laws_FnTunesPlayed.R := fun s' => runC laws_FnTunesPlayed.C (laws_FnTunesPlayed.O N) N laws_FnTunesPlayed.c134217567 134217567 s' (laws_FnTunesPlayed.K134217567 N)
noncomputable def laws_FnTunesPlayed.K4294962135 (N : Nat) : Ex → St D0 → Option laws_FnTunesPlayed.R := (onN (fun s => laws_FnTunesPlayed.C.tidy 134217566 s (laws_FnTunesPlayed.B67108783 N)) (onN (fun s => laws_FnTunesPlayed.C.tidy 1048574 s (laws_FnTunesPlayed.B524287 N)) laws_FnTunesPlayed.K0))
noncomputable def laws_FnTunesPlayed.o7 (N : Nat) (v0 : List Int) (v1 : List ByteArray) (v2 : Int) (v3 : Int) (v4 : Int) (v5 : Int) (v6 : Bool) (v7 : List Int) (v8 : List ByteArray) (v9 : Bool) (c8 : (List Int) → (List ByteArray) → Int → Int → Int → Int → Bool → (List Int) → (List ByteArray) → Option laws_FnTunesPlayed.R) : Option laws_FnTunesPlayed.R :=
 bif v9 then
  some (false)
 else
 c8 v0 v1 v2 v3 v4 v5 v6 v7 v8
theorem laws_FnTunesPlayed.o7.run (N : Nat) (Kb524287 : St D0 → Option laws_FnTunesPlayed.R) (Kb67108783 : St D0 → Option laws_FnTunesPlayed.R) (v0 : List Int) (v1 : List ByteArray) (v2 : Int) (v3 : Int) (v4 : Int) (v5 : Int) (v6 : Bool) (v7 : List Int) (v8 : List ByteArray) (v9 : Bool) : runC laws_FnTunesPlayed.C (laws_FnTunesPlayed.O N) N laws_FnTunesPlayed.c4294962135 4294962135 (mkSt [(1, .one (.sl false 5 v0)), (5, .one (.sl true 9 v1)), (6, .one (.int .i64 v2)), (15, .one (.int .i64 v3)), (19, .one (.int .i64 v4)), (23, .one (.int .i64 v5)), (24, .one (.bool v6)), (27, .one (.sl true 3 v7)), (31, .one (.sl true 9 v8)), (344, .one (.bool v9))] [] : St D0) (onN (fun s => laws_FnTunesPlayed.C.tidy 134217566 s Kb67108783) (onN (fun s => laws_FnTunesPlayed.C.tidy 1048574 s Kb524287) laws_FnTunesPlayed.K0)) = laws_FnTunesPlayed.o7 N v0 v1 v2 v3 v4 v5 v6 v7 v8 v9 ((fun w0 w1 w2 w3 w4 w5 w6 w7 w8 => Kb67108783 (mkSt [(1, .one (.sl false 5 w0)), (5, .one (.sl true 9 w1)), (6, .one (.int .i64 w2)), (15, .one (.int .i64 w3)), (19, .one (.int .i64 w4)), (23, .one (.int .i64 w5)), (24, .one (.bool w6)), (27, .one (.sl true 3 w7)), (31, .one (.sl true 9 w8))] [] : St D0))) := by kernel_rfl
noncomputable def laws_FnTunesPlayed.d7 (N : Nat) (v0 : List Int) (v1 : List ByteArray) (v2 : Int) (v3 : Int) (v4 : Int) (v5 : Int) (v6 : Bool) (v7 : List Int) (v8 : List ByteArray) (v9 : Bool) : Option laws_FnTunesPlayed.R := laws_FnTunesPlayed.o7 N v0 v1 v2 v3 v4 v5 v6 v7 v8 v9 ((fun w0 w1 w2 w3 w4 w5 w6 w7 w8 => laws_FnTunesPlayed.d8 N w0 w1 w2 w3 w4 w5 w6 w7 w8))
theorem laws_FnTunesPlayed.d7.run (N : Nat) (v0 : List Int) (v1 : List ByteArray) (v2 : Int) (v3 : Int) (v4 : Int) (v5 : Int) (v6 : Bool) (v7 : List Int) (v8 : List ByteArray) (v9 : Bool) : runC laws_FnTunesPlayed.C (laws_FnTunesPlayed.O N) N laws_FnTunesPlayed.c4294962135 4294962135 (mkSt [(1, .one (.sl false 5 v0)), (5, .one (.sl true 9 v1)), (6, .one (.int .i64 v2)), (15, .one (.int .i64 v3)), (19, .one (.int .i64 v4)), (23, .one (.int .i64 v5)), (24, .one (.bool v6)), (27, .one (.sl true 3 v7)), (31, .one (.sl true 9 v8)), (344, .one (.bool v9))] [] : St D0) (laws_FnTunesPlayed.K4294962135 N) = laws_FnTunesPlayed.d7 N v0 v1 v2 v3 v4 v5 v6 v7 v8 v9 := by
  unfold laws_FnTunesPlayed.d7; exact (laws_FnTunesPlayed.o7.run N (laws_FnTunesPlayed.B524287 N) (laws_FnTunesPlayed.B67108783 N) v0 v1 v2 v3 v4 v5 v6 v7 v8 v9).trans (congr rfl (funext fun w0 => funext fun w1 => funext fun w2 => funext fun w3 => funext fun w4 => funext fun w5 => funext fun w6 => funext fun w7 => funext fun w8 => laws_FnTunesPlayed.d8.run N w0 w1 w2 w3 w4 w5 w6 w7 w8))
noncomputable def laws_FnTunesPlayed.K134217565 (N : Nat) : Ex → St D0 → Option laws_FnTunesPlayed.R := (onN (fun s => laws_FnTunesPlayed.C.tidy 67108782 s (fun s' => runC laws_FnTunesPlayed.C (laws_FnTunesPlayed.O N) N laws_FnTunesPlayed.c67108783 67108783 s' (onN (fun s => laws_FnTunesPlayed.C.tidy 1048574 s (laws_FnTunesPlayed.B524287 N)) laws_FnTunesPlayed.K0))) (onN (fun s => laws_FnTunesPlayed.C.tidy 1048574 s (laws_FnTunesPlayed.B524287 N)) laws_FnTunesPlayed.K0))
noncomputable def laws_FnTunesPlayed.o4 (N : Nat) (v0 : List Int) (v1 : List ByteArray) (v2 : Int) (v3 : ByteArray) (v4 : List Int) (v5 : Int) (v6 : Int) (v7 : Int) (v8 : Bool) (v9 : List Int) (v10 : List ByteArray) (v11 : Int) (v12 : Bool) (c7 : (List Int) → (List ByteArray) → Int → Int → Int → Int → Bool → (List Int) → (List ByteArray) → Bool → Option laws_FnTunesPlayed.R) (c8 : (List Int) → (List ByteArray) → Int → Int → Int → Int → Bool → (List Int) → (List ByteArray) → Option laws_FnTunesPlayed.R) : Option laws_FnTunesPlayed.R :=
 bif v12 then
  some (false)
 else
 bif (decide (v2 < 1000000)) then
  (impl_StandsAt.g N v1 (w64 (v2 + 1))).bind fun r1 =>
  (impl_NotesUpTo.g N v1 (w64 (v2 + 1))).bind fun r2 =>
  bif (!r1.2) then
   c7 v0 v1 v2 v5 v6 v7 v8 v9 v10 true
  else
  bif (v11 == 0) then
   none
  else
  bif (r1.1 != (Int.tmod (w64 (v5 + (v4.length : Int))) v11)) then
   c7 v0 v1 v2 v5 v6 v7 v8 v9 v10 true
  else
  bif (!r2.2) then
   c7 v0 v1 v2 v5 v6 v7 v8 v9 v10 true
  else
  c7 v0 v1 v2 v5 v6 v7 v8 v9 v10 ((w64 (r2.1 - v6)) != (v3.size : Int))
 else
 c8 v0 v1 v2 v5 v6 v7 v8 v9 v10
theorem laws_FnTunesPlayed.o4.run (N : Nat) (Kb524287 : St D0 → Option laws_FnTunesPlayed.R) (H134217567 : Code) (H4294962135 : Code) (v0 : List Int) (v1 : List ByteArray) (v2 : Int) (v3 : ByteArray) (v4 : List Int) (v5 : Int) (v6 : Int) (v7 : Int) (v8 : Bool) (v9 : List Int) (v10 : List ByteArray) (v11 : Int) (v12 : Bool) : runC laws_FnTunesPlayed.C (laws_FnTunesPlayed.O N) N laws_FnTunesPlayed.c134217565 134217565 (mkSt [(1, .one (.sl false 5 v0)), (5, .one (.sl true 9 v1)), (6, .one (.int .i64 v2)), (7, .one (.str v3)), (11, .one (.sl false 3 v4)), (15, .one (.int .i64 v5)), (19, .one (.int .i64 v6)), (23, .one (.int .i64 v7)), (24, .one (.bool v8)), (27, .one (.sl true 3 v9)), (31, .one (.sl true 9 v10)), (35, .one (.int .i64 v11)), (304, .one (.bool v12))] [] : St D0) (onN (fun s => laws_FnTunesPlayed.C.tidy 67108782 s (fun s' => runC laws_FnTunesPlayed.C (laws_FnTunesPlayed.O N) N (.seq (.seq laws_FnTunesPlayed.c268435132 (.cond (.tmp 306) (.seq laws_FnTunesPlayed.c1073740532 (.seq laws_FnTunesPlayed.c2147481066 (.seq laws_FnTunesPlayed.c4294962134 H4294962135))) laws_FnTunesPlayed.c536870267)) H134217567) 67108783 s' (onN (fun s => laws_FnTunesPlayed.C.tidy 1048574 s Kb524287) laws_FnTunesPlayed.K0))) (onN (fun s => laws_FnTunesPlayed.C.tidy 1048574 s Kb524287) laws_FnTunesPlayed.K0)) = laws_FnTunesPlayed.o4 N v0 v1 v2 v3 v4 v5 v6 v7 v8 v9 v10 v11 v12 ((fun w0 w1 w2 w3 w4 w5 w6 w7 w8 w9 => runC laws_FnTunesPlayed.C (laws_FnTunesPlayed.O N) N H4294962135 4294962135 (mkSt [(1, .one (.sl false 5 w0)), (5, .one (.sl true 9 w1)), (6, .one (.int .i64 w2)), (15, .one (.int .i64 w3)), (19, .one (.int .i64 w4)), (23, .one (.int .i64 w5)), (24, .one (.bool w6)), (27, .one (.sl true 3 w7)), (31, .one (.sl true 9 w8)), (344, .one (.bool w9))] [] : St D0) (onN (fun s => laws_FnTunesPlayed.C.tidy 134217566 s (fun s' => runC laws_FnTunesPlayed.C (laws_FnTunesPlayed.O N) N H134217567 134217567 s' (onN (fun s => laws_FnTunesPlayed.C.tidy 1048574 s Kb524287) laws_FnTunesPlayed.K0))) (onN (fun s => laws_FnTunesPlayed.C.tidy 1048574 s Kb524287) laws_FnTunesPlayed.K0)))) ((fun w0 w1 w2 w3 w4 w5 w6 w7 w8 => runC laws_FnTunesPlayed.C (laws_FnTunesPlayed.O N) N H134217567 134217567 (mkSt [(1, .one (.sl false 5 w0)), (5, .one (.sl true 9 w1)), (6, .one (.int .i64 w2)), (15, .one (.int .i64 w3)), (19, .one (.int .i64 w4)), (23, .one (.int .i64 w5)), (24, .one (.bool w6)), (27, .one (.sl true 3 w7)), (31, .one (.sl true 9 w8))] [] : St D0) (onN (fun s => laws_FnTunesPlayed.C.tidy 1048574 s Kb524287) laws_FnTunesPlayed.K0))) := by kernel_rfl
noncomputable def laws_FnTunesPlayed.B2147481067 (N : Nat) : St D0 → Option laws_FnTunesPlayed.R := fun s' => runC laws_FnTunesPlayed.C (laws_FnTunesPlayed.O N) N laws_FnTunesPlayed.c4294962135 4294962135 s' (laws_FnTunesPlayed.K4294962135 N)
noncomputable def laws_FnTunesPlayed.d4 (N : Nat) (v0 : List Int) (v1 : List ByteArray) (v2 : Int) (v3 : ByteArray) (v4 : List Int) (v5 : Int) (v6 : Int) (v7 : Int) (v8 : Bool) (v9 : List Int) (v10 : List ByteArray) (v11 : Int) (v12 : Bool) : Option laws_FnTunesPlayed.R := laws_FnTunesPlayed.o4 N v0 v1 v2 v3 v4 v5 v6 v7 v8 v9 v10 v11 v12 ((fun w0 w1 w2 w3 w4 w5 w6 w7 w8 w9 => laws_FnTunesPlayed.d7 N w0 w1 w2 w3 w4 w5 w6 w7 w8 w9)) ((fun w0 w1 w2 w3 w4 w5 w6 w7 w8 => laws_FnTunesPlayed.d8 N w0 w1 w2 w3 w4 w5 w6 w7 w8))
theorem laws_FnTunesPlayed.d4.run (N : Nat) (v0 : List Int) (v1 : List ByteArray) (v2 : Int) (v3 : ByteArray) (v4 : List Int) (v5 : Int) (v6 : Int) (v7 : Int) (v8 : Bool) (v9 : List Int) (v10 : List ByteArray) (v11 : Int) (v12 : Bool) : runC laws_FnTunesPlayed.C (laws_FnTunesPlayed.O N) N laws_FnTunesPlayed.c134217565 134217565 (mkSt [(1, .one (.sl false 5 v0)), (5, .one (.sl true 9 v1)), (6, .one (.int .i64 v2)), (7, .one (.str v3)), (11, .one (.sl false 3 v4)), (15, .one (.int .i64 v5)), (19, .one (.int .i64 v6)), (23, .one (.int .i64 v7)), (24, .one (.bool v8)), (27, .one (.sl true 3 v9)), (31, .one (.sl true 9 v10)), (35, .one (.int .i64 v11)), (304, .one (.bool v12))] [] : St D0) (laws_FnTunesPlayed.K134217565 N) = laws_FnTunesPlayed.d4 N v0 v1 v2 v3 v4 v5 v6 v7 v8 v9 v10 v11 v12 := by
  unfold laws_FnTunesPlayed.d4; exact (laws_FnTunesPlayed.o4.run N (laws_FnTunesPlayed.B524287 N) laws_FnTunesPlayed.c134217567 laws_FnTunesPlayed.c4294962135 v0 v1 v2 v3 v4 v5 v6 v7 v8 v9 v10 v11 v12).trans (congr (congr rfl (funext fun w0 => funext fun w1 => funext fun w2 => funext fun w3 => funext fun w4 => funext fun w5 => funext fun w6 => funext fun w7 => funext fun w8 => funext fun w9 => laws_FnTunesPlayed.d7.run N w0 w1 w2 w3 w4 w5 w6 w7 w8 w9)) (funext fun w0 => funext fun w1 => funext fun w2 => funext fun w3 => funext fun w4 => funext fun w5 => funext fun w6 => funext fun w7 => funext fun w8 => laws_FnTunesPlayed.d8.run N w0 w1 w2 w3 w4 w5 w6 w7 w8))
noncomputable def laws_FnTunesPlayed.K268435124 (N : Nat) (Kn134217562 : St D0 → Option laws_FnTunesPlayed.R) : Ex → St D0 → Option laws_FnTunesPlayed.R := (onN (fun s => laws_FnTunesPlayed.C.tidy 134217562 s ((onN Kn134217562 (blockK 0 (onN (fun s => laws_FnTunesPlayed.C.tidy 33554390 s (fun s' => runC laws_FnTunesPlayed.C (laws_FnTunesPlayed.O N) N laws_FnTunesPlayed.c33554391 33554391 s' (onN (fun s => laws_FnTunesPlayed.C.tidy 1048574 s (laws_FnTunesPlayed.B524287 N)) laws_FnTunesPlayed.K0))) (onN (fun s => laws_FnTunesPlayed.C.tidy 1048574 s (laws_FnTunesPlayed.B524287 N)) laws_FnTunesPlayed.K0)))) .normal)) (onN Kn134217562 (blockK 0 (onN (fun s => laws_FnTunesPlayed.C.tidy 33554390 s (fun s' => runC laws_FnTunesPlayed.C (laws_FnTunesPlayed.O N) N laws_FnTunesPlayed.c33554391 33554391 s' (onN (fun s => laws_FnTunesPlayed.C.tidy 1048574 s (laws_FnTunesPlayed.B524287 N)) laws_FnTunesPlayed.K0))) (onN (fun s => laws_FnTunesPlayed.C.tidy 1048574 s (laws_FnTunesPlayed.B524287 N)) laws_FnTunesPlayed.K0)))))
noncomputable def laws_FnTunesPlayed.o2 (N : Nat) (v0 : List Int) (v1 : List ByteArray) (v2 : Int) (v3 : ByteArray) (v4 : List Int) (v5 : Int) (v6 : Int) (v7 : Int) (v8 : Bool) (v9 : List Int) (v10 : List ByteArray) (v11 : Int) (v12 : ByteArray) (v13 : List Int) (v14 : Int) (v15 : Int) (c2 : (List Int) → (List ByteArray) → Int → ByteArray → (List Int) → Int → Int → Int → Bool → (List Int) → (List ByteArray) → Int → ByteArray → (List Int) → Int → Int → Option laws_FnTunesPlayed.R) (c4 : (List Int) → (List ByteArray) → Int → ByteArray → (List Int) → Int → Int → Int → Bool → (List Int) → (List ByteArray) → Int → Bool → Option laws_FnTunesPlayed.R) : Option laws_FnTunesPlayed.R :=
 bif (decide (v15 < v14)) then
  bif (decide (0 ≤ v15)) then
   bif (decide (v15 < (v13.length : Int))) then
    (v13[(v15 : Int).toNat]?).bind fun x1 =>
    bif (v11 == 0) then
     none
    else
    bif (x1 != (Int.tmod (w64 (v5 + v15)) v11)) then
     some (false)
    else
    bif (decide (0 ≤ x1)) then
     bif (decide (x1 < (v1.length : Int))) then
      (v1[(x1 : Int).toNat]?).bind fun x2 =>
      bif (Nat.ble (v12.size + x2.size) 9223372036854775807) then
       c2 v0 v1 v2 v3 v4 v5 v6 v7 v8 v9 v10 v11 (v12 ++ x2) v13 v14 (w64 (v15 + 1))
      else
      none
     else
     none
    else
    none
   else
   none
  else
  none
 else
 bif (!(v12.toList == v3.toList)) then
  c4 v0 v1 v2 v3 v4 v5 v6 v7 v8 v9 v10 v11 true
 else
 c4 v0 v1 v2 v3 v4 v5 v6 v7 v8 v9 v10 v11 ((v4.length : Int) != (w64 ((Int.tmod v2 4) + 1)))
theorem laws_FnTunesPlayed.o2.run (N : Nat) (Kb524287 : St D0 → Option laws_FnTunesPlayed.R) (Kn134217562 : St D0 → Option laws_FnTunesPlayed.R) (H134217565 : Code) (v0 : List Int) (v1 : List ByteArray) (v2 : Int) (v3 : ByteArray) (v4 : List Int) (v5 : Int) (v6 : Int) (v7 : Int) (v8 : Bool) (v9 : List Int) (v10 : List ByteArray) (v11 : Int) (v12 : ByteArray) (v13 : List Int) (v14 : Int) (v15 : Int) : runC laws_FnTunesPlayed.C (laws_FnTunesPlayed.O N) N laws_FnTunesPlayed.c268435124 268435124 (mkSt [(1, .one (.sl false 5 v0)), (5, .one (.sl true 9 v1)), (6, .one (.int .i64 v2)), (7, .one (.str v3)), (11, .one (.sl false 3 v4)), (15, .one (.int .i64 v5)), (19, .one (.int .i64 v6)), (23, .one (.int .i64 v7)), (24, .one (.bool v8)), (27, .one (.sl true 3 v9)), (31, .one (.sl true 9 v10)), (35, .one (.int .i64 v11)), (36, .one (.str v12)), (273, .one (.sl true 3 v13)), (274, .one (.int .i64 v14)), (275, .one (.int .i64 v15))] [] : St D0) (onN (fun s => laws_FnTunesPlayed.C.tidy 134217562 s ((onN Kn134217562 (blockK 0 (onN (fun s => laws_FnTunesPlayed.C.tidy 33554390 s (fun s' => runC laws_FnTunesPlayed.C (laws_FnTunesPlayed.O N) N (.seq (.seq laws_FnTunesPlayed.c134217564 H134217565) laws_FnTunesPlayed.c67108783) 33554391 s' (onN (fun s => laws_FnTunesPlayed.C.tidy 1048574 s Kb524287) laws_FnTunesPlayed.K0))) (onN (fun s => laws_FnTunesPlayed.C.tidy 1048574 s Kb524287) laws_FnTunesPlayed.K0)))) .normal)) (onN Kn134217562 (blockK 0 (onN (fun s => laws_FnTunesPlayed.C.tidy 33554390 s (fun s' => runC laws_FnTunesPlayed.C (laws_FnTunesPlayed.O N) N (.seq (.seq laws_FnTunesPlayed.c134217564 H134217565) laws_FnTunesPlayed.c67108783) 33554391 s' (onN (fun s => laws_FnTunesPlayed.C.tidy 1048574 s Kb524287) laws_FnTunesPlayed.K0))) (onN (fun s => laws_FnTunesPlayed.C.tidy 1048574 s Kb524287) laws_FnTunesPlayed.K0))))) = laws_FnTunesPlayed.o2 N v0 v1 v2 v3 v4 v5 v6 v7 v8 v9 v10 v11 v12 v13 v14 v15 ((fun w0 w1 w2 w3 w4 w5 w6 w7 w8 w9 w10 w11 w12 w13 w14 w15 => Kn134217562 (mkSt [(1, .one (.sl false 5 w0)), (5, .one (.sl true 9 w1)), (6, .one (.int .i64 w2)), (7, .one (.str w3)), (11, .one (.sl false 3 w4)), (15, .one (.int .i64 w5)), (19, .one (.int .i64 w6)), (23, .one (.int .i64 w7)), (24, .one (.bool w8)), (27, .one (.sl true 3 w9)), (31, .one (.sl true 9 w10)), (35, .one (.int .i64 w11)), (36, .one (.str w12)), (273, .one (.sl true 3 w13)), (274, .one (.int .i64 w14)), (275, .one (.int .i64 w15))] [] : St D0))) ((fun w0 w1 w2 w3 w4 w5 w6 w7 w8 w9 w10 w11 w12 => runC laws_FnTunesPlayed.C (laws_FnTunesPlayed.O N) N H134217565 134217565 (mkSt [(1, .one (.sl false 5 w0)), (5, .one (.sl true 9 w1)), (6, .one (.int .i64 w2)), (7, .one (.str w3)), (11, .one (.sl false 3 w4)), (15, .one (.int .i64 w5)), (19, .one (.int .i64 w6)), (23, .one (.int .i64 w7)), (24, .one (.bool w8)), (27, .one (.sl true 3 w9)), (31, .one (.sl true 9 w10)), (35, .one (.int .i64 w11)), (304, .one (.bool w12))] [] : St D0) (onN (fun s => laws_FnTunesPlayed.C.tidy 67108782 s (fun s' => runC laws_FnTunesPlayed.C (laws_FnTunesPlayed.O N) N laws_FnTunesPlayed.c67108783 67108783 s' (onN (fun s => laws_FnTunesPlayed.C.tidy 1048574 s Kb524287) laws_FnTunesPlayed.K0))) (onN (fun s => laws_FnTunesPlayed.C.tidy 1048574 s Kb524287) laws_FnTunesPlayed.K0)))) := by kernel_rfl
noncomputable def laws_FnTunesPlayed.B67108782 (N : Nat) : St D0 → Option laws_FnTunesPlayed.R := fun s' => runC laws_FnTunesPlayed.C (laws_FnTunesPlayed.O N) N laws_FnTunesPlayed.c134217565 134217565 s' (laws_FnTunesPlayed.K134217565 N)
noncomputable def laws_FnTunesPlayed.d2 (N : Nat) (v0 : List Int) (v1 : List ByteArray) (v2 : Int) (v3 : ByteArray) (v4 : List Int) (v5 : Int) (v6 : Int) (v7 : Int) (v8 : Bool) (v9 : List Int) (v10 : List ByteArray) (v11 : Int) (v12 : ByteArray) (v13 : List Int) (v14 : Int) (v15 : Int) (c2 : (List Int) → (List ByteArray) → Int → ByteArray → (List Int) → Int → Int → Int → Bool → (List Int) → (List ByteArray) → Int → ByteArray → (List Int) → Int → Int → Option laws_FnTunesPlayed.R) : Option laws_FnTunesPlayed.R := laws_FnTunesPlayed.o2 N v0 v1 v2 v3 v4 v5 v6 v7 v8 v9 v10 v11 v12 v13 v14 v15 c2 ((fun w0 w1 w2 w3 w4 w5 w6 w7 w8 w9 w10 w11 w12 => laws_FnTunesPlayed.d4 N w0 w1 w2 w3 w4 w5 w6 w7 w8 w9 w10 w11 w12))
theorem laws_FnTunesPlayed.d2.run (N : Nat) (Kn134217562 : St D0 → Option laws_FnTunesPlayed.R) (v0 : List Int) (v1 : List ByteArray) (v2 : Int) (v3 : ByteArray) (v4 : List Int) (v5 : Int) (v6 : Int) (v7 : Int) (v8 : Bool) (v9 : List Int) (v10 : List ByteArray) (v11 : Int) (v12 : ByteArray) (v13 : List Int) (v14 : Int) (v15 : Int) : runC laws_FnTunesPlayed.C (laws_FnTunesPlayed.O N) N laws_FnTunesPlayed.c268435124 268435124 (mkSt [(1, .one (.sl false 5 v0)), (5, .one (.sl true 9 v1)), (6, .one (.int .i64 v2)), (7, .one (.str v3)), (11, .one (.sl false 3 v4)), (15, .one (.int .i64 v5)), (19, .one (.int .i64 v6)), (23, .one (.int .i64 v7)), (24, .one (.bool v8)), (27, .one (.sl true 3 v9)), (31, .one (.sl true 9 v10)), (35, .one (.int .i64 v11)), (36, .one (.str v12)), (273, .one (.sl true 3 v13)), (274, .one (.int .i64 v14)), (275, .one (.int .i64 v15))] [] : St D0) (laws_FnTunesPlayed.K268435124 N Kn134217562) = laws_FnTunesPlayed.d2 N v0 v1 v2 v3 v4 v5 v6 v7 v8 v9 v10 v11 v12 v13 v14 v15 ((fun w0 w1 w2 w3 w4 w5 w6 w7 w8 w9 w10 w11 w12 w13 w14 w15 => Kn134217562 (mkSt [(1, .one (.sl false 5 w0)), (5, .one (.sl true 9 w1)), (6, .one (.int .i64 w2)), (7, .one (.str w3)), (11, .one (.sl false 3 w4)), (15, .one (.int .i64 w5)), (19, .one (.int .i64 w6)), (23, .one (.int .i64 w7)), (24, .one (.bool w8)), (27, .one (.sl true 3 w9)), (31, .one (.sl true 9 w10)), (35, .one (.int .i64 w11)), (36, .one (.str w12)), (273, .one (.sl true 3 w13)), (274, .one (.int .i64 w14)), (275, .one (.int .i64 w15))] [] : St D0))) := by
  unfold laws_FnTunesPlayed.d2; exact (laws_FnTunesPlayed.o2.run N (laws_FnTunesPlayed.B524287 N) Kn134217562 laws_FnTunesPlayed.c134217565 v0 v1 v2 v3 v4 v5 v6 v7 v8 v9 v10 v11 v12 v13 v14 v15).trans (congr (congr rfl rfl) (funext fun w0 => funext fun w1 => funext fun w2 => funext fun w3 => funext fun w4 => funext fun w5 => funext fun w6 => funext fun w7 => funext fun w8 => funext fun w9 => funext fun w10 => funext fun w11 => funext fun w12 => laws_FnTunesPlayed.d4.run N w0 w1 w2 w3 w4 w5 w6 w7 w8 w9 w10 w11 w12))
noncomputable def laws_FnTunesPlayed.K134217562 (N : Nat) : Ex → St D0 → Option laws_FnTunesPlayed.R := (blockK 0 (onN (fun s => laws_FnTunesPlayed.C.tidy 33554390 s (fun s' => runC laws_FnTunesPlayed.C (laws_FnTunesPlayed.O N) N laws_FnTunesPlayed.c33554391 33554391 s' (onN (fun s => laws_FnTunesPlayed.C.tidy 1048574 s (laws_FnTunesPlayed.B524287 N)) laws_FnTunesPlayed.K0))) (onN (fun s => laws_FnTunesPlayed.C.tidy 1048574 s (laws_FnTunesPlayed.B524287 N)) laws_FnTunesPlayed.K0)))
noncomputable def laws_FnTunesPlayed.l2 (N : Nat) : Nat → (List Int) → (List ByteArray) → Int → ByteArray → (List Int) → Int → Int → Int → Bool → (List Int) → (List ByteArray) → Int → ByteArray → (List Int) → Int → Int → Option laws_FnTunesPlayed.R
  | 0, _, _, _, _, _, _, _, _, _, _, _, _, _, _, _, _ => none
  | n + 1, v0, v1, v2, v3, v4, v5, v6, v7, v8, v9, v10, v11, v12, v13, v14, v15 => laws_FnTunesPlayed.d2 N v0 v1 v2 v3 v4 v5 v6 v7 v8 v9 v10 v11 v12 v13 v14 v15 ((fun w0 w1 w2 w3 w4 w5 w6 w7 w8 w9 w10 w11 w12 w13 w14 w15 => laws_FnTunesPlayed.l2 N n w0 w1 w2 w3 w4 w5 w6 w7 w8 w9 w10 w11 w12 w13 w14 w15))
theorem laws_FnTunesPlayed.loop134217562 (N : Nat) : ∀ n, (∀ (v0 : List Int) (v1 : List ByteArray) (v2 : Int) (v3 : ByteArray) (v4 : List Int) (v5 : Int) (v6 : Int) (v7 : Int) (v8 : Bool) (v9 : List Int) (v10 : List ByteArray) (v11 : Int) (v12 : ByteArray) (v13 : List Int) (v14 : Int) (v15 : Int), iter (loopF laws_FnTunesPlayed.C (laws_FnTunesPlayed.O N) N laws_FnTunesPlayed.c268435124 134217562) n (mkSt [(1, .one (.sl false 5 v0)), (5, .one (.sl true 9 v1)), (6, .one (.int .i64 v2)), (7, .one (.str v3)), (11, .one (.sl false 3 v4)), (15, .one (.int .i64 v5)), (19, .one (.int .i64 v6)), (23, .one (.int .i64 v7)), (24, .one (.bool v8)), (27, .one (.sl true 3 v9)), (31, .one (.sl true 9 v10)), (35, .one (.int .i64 v11)), (36, .one (.str v12)), (273, .one (.sl true 3 v13)), (274, .one (.int .i64 v14)), (275, .one (.int .i64 v15))] [] : St D0) (laws_FnTunesPlayed.K134217562 N) = laws_FnTunesPlayed.l2 N n v0 v1 v2 v3 v4 v5 v6 v7 v8 v9 v10 v11 v12 v13 v14 v15)
  | 0 => (fun v0 v1 v2 v3 v4 v5 v6 v7 v8 v9 v10 v11 v12 v13 v14 v15 => rfl)
  | n + 1 => (fun v0 v1 v2 v3 v4 v5 v6 v7 v8 v9 v10 v11 v12 v13 v14 v15 => (laws_FnTunesPlayed.d2.run N (fun s => iter (loopF laws_FnTunesPlayed.C (laws_FnTunesPlayed.O N) N laws_FnTunesPlayed.c268435124 134217562) n s (laws_FnTunesPlayed.K134217562 N)) v0 v1 v2 v3 v4 v5 v6 v7 v8 v9 v10 v11 v12 v13 v14 v15).trans (show _ = laws_FnTunesPlayed.d2 N v0 v1 v2 v3 v4 v5 v6 v7 v8 v9 v10 v11 v12 v13 v14 v15 ((fun w0 w1 w2 w3 w4 w5 w6 w7 w8 w9 w10 w11 w12 w13 w14 w15 => laws_FnTunesPlayed.l2 N n w0 w1 w2 w3 w4 w5 w6 w7 w8 w9 w10 w11 w12 w13 w14 w15)) from (congr rfl (funext fun w0 => funext fun w1 => funext fun w2 => funext fun w3 => funext fun w4 => funext fun w5 => funext fun w6 => funext fun w7 => funext fun w8 => funext fun w9 => funext fun w10 => funext fun w11 => funext fun w12 => funext fun w13 => funext fun w14 => funext fun w15 => (laws_FnTunesPlayed.loop134217562 N n) w0 w1 w2 w3 w4 w5 w6 w7 w8 w9 w10 w11 w12 w13 w14 w15))))
noncomputable def laws_FnTunesPlayed.K1048573 (N : Nat) : Ex → St D0 → Option laws_FnTunesPlayed.R := (onN (fun s => laws_FnTunesPlayed.C.tidy 524286 s (fun s' => runC laws_FnTunesPlayed.C (laws_FnTunesPlayed.O N) N laws_FnTunesPlayed.c524287 524287 s' laws_FnTunesPlayed.K0)) laws_FnTunesPlayed.K0)
noncomputable def laws_FnTunesPlayed.o1 (N : Nat) (v0 : List Int) (v1 : List ByteArray) (v2 : Int) (v3 : ByteArray) (v4 : Bool) (v5 : List Int) (v6 : Int) (v7 : Int) (v8 : Int) (v9 : Bool) (v10 : List Int) (v11 : List ByteArray) (v12 : Bool) (c2 : (List Int) → (List ByteArray) → Int → ByteArray → (List Int) → Int → Int → Int → Bool → (List Int) → (List ByteArray) → Int → ByteArray → (List Int) → Int → Int → Option laws_FnTunesPlayed.R) (c3 : (List Int) → (List ByteArray) → Int → Bool → (List ByteArray) → Option laws_FnTunesPlayed.R) : Option laws_FnTunesPlayed.R :=
 bif v12 then
  some (false)
 else
 bif v4 then
  c2 v0 v1 v2 v3 v5 v6 v7 v8 v9 v10 v11 (v1.length : Int) (⟨#[]⟩ : ByteArray) v5 (v5.length : Int) 0
 else
 c3 v0 v1 v8 v9 v11
theorem laws_FnTunesPlayed.o1.run (N : Nat) (H1048575 : Code) (H268435124 : Code) (v0 : List Int) (v1 : List ByteArray) (v2 : Int) (v3 : ByteArray) (v4 : Bool) (v5 : List Int) (v6 : Int) (v7 : Int) (v8 : Int) (v9 : Bool) (v10 : List Int) (v11 : List ByteArray) (v12 : Bool) : runC laws_FnTunesPlayed.C (laws_FnTunesPlayed.O N) N laws_FnTunesPlayed.c1048573 1048573 (mkSt [(1, .one (.sl false 5 v0)), (5, .one (.sl true 9 v1)), (6, .one (.int .i64 v2)), (7, .one (.str v3)), (8, .one (.bool v4)), (11, .one (.sl true 3 v5)), (15, .one (.int .i64 v6)), (19, .one (.int .i64 v7)), (23, .one (.int .i64 v8)), (24, .one (.bool v9)), (27, .one (.sl true 3 v10)), (31, .one (.sl true 9 v11)), (269, .one (.bool v12))] [] : St D0) (onN (fun s => laws_FnTunesPlayed.C.tidy 524286 s (fun s' => runC laws_FnTunesPlayed.C (laws_FnTunesPlayed.O N) N (.seq (.seq laws_FnTunesPlayed.c2097148 (.cond (.tmp 270) (.seq laws_FnTunesPlayed.c8388596 (.seq laws_FnTunesPlayed.c16777194 (.seq (.seq laws_FnTunesPlayed.c67108780 (.block 0 (.loop H268435124))) laws_FnTunesPlayed.c33554391))) laws_FnTunesPlayed.c4194299)) H1048575) 524287 s' laws_FnTunesPlayed.K0)) laws_FnTunesPlayed.K0) = laws_FnTunesPlayed.o1 N v0 v1 v2 v3 v4 v5 v6 v7 v8 v9 v10 v11 v12 ((fun w0 w1 w2 w3 w4 w5 w6 w7 w8 w9 w10 w11 w12 w13 w14 w15 => iter (loopF laws_FnTunesPlayed.C (laws_FnTunesPlayed.O N) N H268435124 134217562) N (mkSt [(1, .one (.sl false 5 w0)), (5, .one (.sl true 9 w1)), (6, .one (.int .i64 w2)), (7, .one (.str w3)), (11, .one (.sl false 3 w4)), (15, .one (.int .i64 w5)), (19, .one (.int .i64 w6)), (23, .one (.int .i64 w7)), (24, .one (.bool w8)), (27, .one (.sl true 3 w9)), (31, .one (.sl true 9 w10)), (35, .one (.int .i64 w11)), (36, .one (.str w12)), (273, .one (.sl true 3 w13)), (274, .one (.int .i64 w14)), (275, .one (.int .i64 w15))] [] : St D0) (blockK 0 (onN (fun s => laws_FnTunesPlayed.C.tidy 33554390 s (fun s' => runC laws_FnTunesPlayed.C (laws_FnTunesPlayed.O N) N laws_FnTunesPlayed.c33554391 33554391 s' (onN (fun s => laws_FnTunesPlayed.C.tidy 1048574 s (fun s' => runC laws_FnTunesPlayed.C (laws_FnTunesPlayed.O N) N H1048575 1048575 s' laws_FnTunesPlayed.K0)) laws_FnTunesPlayed.K0))) (onN (fun s => laws_FnTunesPlayed.C.tidy 1048574 s (fun s' => runC laws_FnTunesPlayed.C (laws_FnTunesPlayed.O N) N H1048575 1048575 s' laws_FnTunesPlayed.K0)) laws_FnTunesPlayed.K0))))) ((fun w0 w1 w2 w3 w4 => runC laws_FnTunesPlayed.C (laws_FnTunesPlayed.O N) N H1048575 1048575 (mkSt [(1, .one (.sl false 5 w0)), (5, .one (.sl true 9 w1)), (23, .one (.int .i64 w2)), (24, .one (.bool w3)), (31, .one (.sl true 9 w4))] [] : St D0) laws_FnTunesPlayed.K0)) := by kernel_rfl
noncomputable def laws_FnTunesPlayed.d1 (N : Nat) (v0 : List Int) (v1 : List ByteArray) (v2 : Int) (v3 : ByteArray) (v4 : Bool) (v5 : List Int) (v6 : Int) (v7 : Int) (v8 : Int) (v9 : Bool) (v10 : List Int) (v11 : List ByteArray) (v12 : Bool) : Option laws_FnTunesPlayed.R := laws_FnTunesPlayed.o1 N v0 v1 v2 v3 v4 v5 v6 v7 v8 v9 v10 v11 v12 ((fun w0 w1 w2 w3 w4 w5 w6 w7 w8 w9 w10 w11 w12 w13 w14 w15 => laws_FnTunesPlayed.l2 N N w0 w1 w2 w3 w4 w5 w6 w7 w8 w9 w10 w11 w12 w13 w14 w15)) ((fun w0 w1 w2 w3 w4 => laws_FnTunesPlayed.d3 N w0 w1 w2 w3 w4))
theorem laws_FnTunesPlayed.d1.run (N : Nat) (v0 : List Int) (v1 : List ByteArray) (v2 : Int) (v3 : ByteArray) (v4 : Bool) (v5 : List Int) (v6 : Int) (v7 : Int) (v8 : Int) (v9 : Bool) (v10 : List Int) (v11 : List ByteArray) (v12 : Bool) : runC laws_FnTunesPlayed.C (laws_FnTunesPlayed.O N) N laws_FnTunesPlayed.c1048573 1048573 (mkSt [(1, .one (.sl false 5 v0)), (5, .one (.sl true 9 v1)), (6, .one (.int .i64 v2)), (7, .one (.str v3)), (8, .one (.bool v4)), (11, .one (.sl true 3 v5)), (15, .one (.int .i64 v6)), (19, .one (.int .i64 v7)), (23, .one (.int .i64 v8)), (24, .one (.bool v9)), (27, .one (.sl true 3 v10)), (31, .one (.sl true 9 v11)), (269, .one (.bool v12))] [] : St D0) (laws_FnTunesPlayed.K1048573 N) = laws_FnTunesPlayed.d1 N v0 v1 v2 v3 v4 v5 v6 v7 v8 v9 v10 v11 v12 := by
  unfold laws_FnTunesPlayed.d1; exact (laws_FnTunesPlayed.o1.run N laws_FnTunesPlayed.c1048575 laws_FnTunesPlayed.c268435124 v0 v1 v2 v3 v4 v5 v6 v7 v8 v9 v10 v11 v12).trans (congr (congr rfl (funext fun w0 => funext fun w1 => funext fun w2 => funext fun w3 => funext fun w4 => funext fun w5 => funext fun w6 => funext fun w7 => funext fun w8 => funext fun w9 => funext fun w10 => funext fun w11 => funext fun w12 => funext fun w13 => funext fun w14 => funext fun w15 => (laws_FnTunesPlayed.loop134217562 N N) w0 w1 w2 w3 w4 w5 w6 w7 w8 w9 w10 w11 w12 w13 w14 w15)) (funext fun w0 => funext fun w1 => funext fun w2 => funext fun w3 => funext fun w4 => laws_FnTunesPlayed.d3.run N w0 w1 w2 w3 w4))
noncomputable def laws_FnTunesPlayed.o0 (N : Nat) (a0 : List Int) (a1 : List Int) (c1 : (List Int) → (List ByteArray) → Int → ByteArray → Bool → (List Int) → Int → Int → Int → Bool → (List Int) → (List ByteArray) → Bool → Option laws_FnTunesPlayed.R) : Option laws_FnTunesPlayed.R :=
 (laws_big.g N a0 a1).bind fun r1 =>
 bif r1 then
  some (true)
 else
 (spec_DrawPlayedAt.g N a0).bind fun r2 =>
 (impl_PlayedAt.g N r2.1 r2.2).bind fun r3 =>
 (spec_PlayedAt.g N r2.1 r2.2).bind fun r4 =>
 (impl_PhrasesOf.g N r2.1 r2.2).bind fun r5 =>
 (spec_PhrasesOf.g N r2.1 r2.2).bind fun r6 =>
 (impl_StandsAt.g N r2.1 r2.2).bind fun r7 =>
 (spec_StandsAt.g N r2.1 r2.2).bind fun r8 =>
 (impl_NotesUpTo.g N r2.1 r2.2).bind fun r9 =>
 (spec_NotesUpTo.g N r2.1 r2.2).bind fun r10 =>
 (impl_HoursUntilSame.g N r2.1).bind fun r11 =>
 (spec_HoursUntilSame.g N r2.1).bind fun r12 =>
 (impl_BellsOf.g N r2.1).bind fun r13 =>
 (spec_BellsOf.g N r2.1).bind fun r14 =>
 (impl_FullHours.g N r2.1).bind fun r15 =>
 (spec_FullHours.g N r2.1).bind fun r16 =>
 bif (!(r3.2 == r4.2)) then
  c1 a1 r2.1 r2.2 r3.1 r3.2 r5.1 r7.1 r9.1 r11.1 r11.2 r13.1 r15.1 true
 else
 bif (!(r3.1.toList == r4.1.toList)) then
  c1 a1 r2.1 r2.2 r3.1 r3.2 r5.1 r7.1 r9.1 r11.1 r11.2 r13.1 r15.1 true
 else
 bif (!(r5.2 == r6.2)) then
  c1 a1 r2.1 r2.2 r3.1 r3.2 r5.1 r7.1 r9.1 r11.1 r11.2 r13.1 r15.1 true
 else
 (laws_kSame.g N r5.1 r6.1).bind fun r17 =>
 bif (!r17) then
  c1 a1 r2.1 r2.2 r3.1 r3.2 r5.1 r7.1 r9.1 r11.1 r11.2 r13.1 r15.1 true
 else
 bif (!(r7.2 == r8.2)) then
  c1 a1 r2.1 r2.2 r3.1 r3.2 r5.1 r7.1 r9.1 r11.1 r11.2 r13.1 r15.1 true
 else
 bif (r7.1 != r8.1) then
  c1 a1 r2.1 r2.2 r3.1 r3.2 r5.1 r7.1 r9.1 r11.1 r11.2 r13.1 r15.1 true
 else
 bif (!(r9.2 == r10.2)) then
  c1 a1 r2.1 r2.2 r3.1 r3.2 r5.1 r7.1 r9.1 r11.1 r11.2 r13.1 r15.1 true
 else
 bif (r9.1 != r10.1) then
  c1 a1 r2.1 r2.2 r3.1 r3.2 r5.1 r7.1 r9.1 r11.1 r11.2 r13.1 r15.1 true
 else
 bif (!(r11.2 == r12.2)) then
  c1 a1 r2.1 r2.2 r3.1 r3.2 r5.1 r7.1 r9.1 r11.1 r11.2 r13.1 r15.1 true
 else
 bif (r11.1 != r12.1) then
  c1 a1 r2.1 r2.2 r3.1 r3.2 r5.1 r7.1 r9.1 r11.1 r11.2 r13.1 r15.1 true
 else
 bif (!(r13.2 == r14.2)) then
  c1 a1 r2.1 r2.2 r3.1 r3.2 r5.1 r7.1 r9.1 r11.1 r11.2 r13.1 r15.1 true
 else
 (laws_kSame.g N r13.1 r14.1).bind fun r18 =>
 bif (!r18) then
  c1 a1 r2.1 r2.2 r3.1 r3.2 r5.1 r7.1 r9.1 r11.1 r11.2 r13.1 r15.1 true
 else
 bif (!(r15.2 == r16.2)) then
  c1 a1 r2.1 r2.2 r3.1 r3.2 r5.1 r7.1 r9.1 r11.1 r11.2 r13.1 r15.1 true
 else
 (laws_kTexts.g N r15.1 r16.1).bind fun r19 =>
 bif (!r19) then
  c1 a1 r2.1 r2.2 r3.1 r3.2 r5.1 r7.1 r9.1 r11.1 r11.2 r13.1 r15.1 true
 else
 bif (!(r5.2 == r3.2)) then
  c1 a1 r2.1 r2.2 r3.1 r3.2 r5.1 r7.1 r9.1 r11.1 r11.2 r13.1 r15.1 true
 else
 bif (!(r7.2 == r3.2)) then
  c1 a1 r2.1 r2.2 r3.1 r3.2 r5.1 r7.1 r9.1 r11.1 r11.2 r13.1 r15.1 true
 else
 bif (!(r9.2 == r3.2)) then
  c1 a1 r2.1 r2.2 r3.1 r3.2 r5.1 r7.1 r9.1 r11.1 r11.2 r13.1 r15.1 true
 else
 (impl_IsTune.g N r2.1).bind fun r20 =>
 bif (!(r11.2 == r20)) then
  c1 a1 r2.1 r2.2 r3.1 r3.2 r5.1 r7.1 r9.1 r11.1 r11.2 r13.1 r15.1 true
 else
 (impl_IsTune.g N r2.1).bind fun r21 =>
 (spec_IsTune.g N r2.1).bind fun r22 =>
 bif (!(r21 == r22)) then
  c1 a1 r2.1 r2.2 r3.1 r3.2 r5.1 r7.1 r9.1 r11.1 r11.2 r13.1 r15.1 true
 else
 bif (!(r13.2 == r11.2)) then
  c1 a1 r2.1 r2.2 r3.1 r3.2 r5.1 r7.1 r9.1 r11.1 r11.2 r13.1 r15.1 true
 else
 bif (!(r15.2 == r11.2)) then
  c1 a1 r2.1 r2.2 r3.1 r3.2 r5.1 r7.1 r9.1 r11.1 r11.2 r13.1 r15.1 true
 else
 bif r3.2 then
  c1 a1 r2.1 r2.2 r3.1 r3.2 r5.1 r7.1 r9.1 r11.1 r11.2 r13.1 r15.1 (!r11.2)
 else
 c1 a1 r2.1 r2.2 r3.1 r3.2 r5.1 r7.1 r9.1 r11.1 r11.2 r13.1 r15.1 false
theorem laws_FnTunesPlayed.o0.run (N : Nat) (H1048573 : Code) (a0 : List Int) (a1 : List Int) : runC laws_FnTunesPlayed.C (laws_FnTunesPlayed.O N) N (.seq laws_FnTunesPlayed.c2 (.seq laws_FnTunesPlayed.c6 (.seq laws_FnTunesPlayed.c14 (.seq laws_FnTunesPlayed.c30 (.seq laws_FnTunesPlayed.c62 (.seq laws_FnTunesPlayed.c126 (.seq laws_FnTunesPlayed.c254 (.seq laws_FnTunesPlayed.c510 (.seq laws_FnTunesPlayed.c1022 (.seq laws_FnTunesPlayed.c2046 (.seq laws_FnTunesPlayed.c4094 (.seq laws_FnTunesPlayed.c8190 (.seq laws_FnTunesPlayed.c16382 (.seq laws_FnTunesPlayed.c32766 (.seq laws_FnTunesPlayed.c65534 (.seq laws_FnTunesPlayed.c131070 (.seq laws_FnTunesPlayed.c262142 (.seq (.seq laws_FnTunesPlayed.c1048572 H1048573) laws_FnTunesPlayed.c524287)))))))))))))))))) 1 (st0 [.one (.sl false 5 a0), .one (.sl false 5 a1)] [] : St D0) laws_FnTunesPlayed.K0 = laws_FnTunesPlayed.o0 N a0 a1 ((fun w0 w1 w2 w3 w4 w5 w6 w7 w8 w9 w10 w11 w12 => runC laws_FnTunesPlayed.C (laws_FnTunesPlayed.O N) N H1048573 1048573 (mkSt [(1, .one (.sl false 5 w0)), (5, .one (.sl true 9 w1)), (6, .one (.int .i64 w2)), (7, .one (.str w3)), (8, .one (.bool w4)), (11, .one (.sl true 3 w5)), (15, .one (.int .i64 w6)), (19, .one (.int .i64 w7)), (23, .one (.int .i64 w8)), (24, .one (.bool w9)), (27, .one (.sl true 3 w10)), (31, .one (.sl true 9 w11)), (269, .one (.bool w12))] [] : St D0) (onN (fun s => laws_FnTunesPlayed.C.tidy 524286 s (fun s' => runC laws_FnTunesPlayed.C (laws_FnTunesPlayed.O N) N laws_FnTunesPlayed.c524287 524287 s' laws_FnTunesPlayed.K0)) laws_FnTunesPlayed.K0))) := by kernel_rfl
noncomputable def laws_FnTunesPlayed.B524286 (N : Nat) : St D0 → Option laws_FnTunesPlayed.R := fun s' => runC laws_FnTunesPlayed.C (laws_FnTunesPlayed.O N) N laws_FnTunesPlayed.c1048573 1048573 s' (laws_FnTunesPlayed.K1048573 N)
noncomputable def laws_FnTunesPlayed.g (N : Nat) (a0 : List Int) (a1 : List Int) : Option laws_FnTunesPlayed.R := laws_FnTunesPlayed.o0 N a0 a1 ((fun w0 w1 w2 w3 w4 w5 w6 w7 w8 w9 w10 w11 w12 => laws_FnTunesPlayed.d1 N w0 w1 w2 w3 w4 w5 w6 w7 w8 w9 w10 w11 w12))
theorem laws_FnTunesPlayed.c1_0 : laws_FnTunesPlayed.c1 = (.seq laws_FnTunesPlayed.c2 (.seq laws_FnTunesPlayed.c6 (.seq laws_FnTunesPlayed.c14 (.seq laws_FnTunesPlayed.c30 (.seq laws_FnTunesPlayed.c62 (.seq laws_FnTunesPlayed.c126 (.seq laws_FnTunesPlayed.c254 (.seq laws_FnTunesPlayed.c510 (.seq laws_FnTunesPlayed.c1022 (.seq laws_FnTunesPlayed.c2046 (.seq laws_FnTunesPlayed.c4094 (.seq laws_FnTunesPlayed.c8190 (.seq laws_FnTunesPlayed.c16382 (.seq laws_FnTunesPlayed.c32766 (.seq laws_FnTunesPlayed.c65534 (.seq laws_FnTunesPlayed.c131070 (.seq laws_FnTunesPlayed.c262142 (.seq (.seq laws_FnTunesPlayed.c1048572 laws_FnTunesPlayed.c1048573) laws_FnTunesPlayed.c524287)))))))))))))))))) := by kernel_rfl
theorem laws_FnTunesPlayed.g.run (N : Nat) (a0 : List Int) (a1 : List Int) : runC laws_FnTunesPlayed.C (laws_FnTunesPlayed.O N) N laws_FnTunesPlayed.c1 1 (st0 [.one (.sl false 5 a0), .one (.sl false 5 a1)] [] : St D0) laws_FnTunesPlayed.K0 = laws_FnTunesPlayed.g N a0 a1 := by
  rw [laws_FnTunesPlayed.c1_0]; unfold laws_FnTunesPlayed.g; exact (laws_FnTunesPlayed.o0.run N laws_FnTunesPlayed.c1048573 a0 a1).trans (congr rfl (funext fun w0 => funext fun w1 => funext fun w2 => funext fun w3 => funext fun w4 => funext fun w5 => funext fun w6 => funext fun w7 => funext fun w8 => funext fun w9 => funext fun w10 => funext fun w11 => funext fun w12 => laws_FnTunesPlayed.d1.run N w0 w1 w2 w3 w4 w5 w6 w7 w8 w9 w10 w11 w12))
theorem laws_FnTunesPlayed.good (N : Nat) (a0 : List Int) (a1 : List Int) (r : laws_FnTunesPlayed.R) (h : laws_FnTunesPlayed.g N a0 a1 = some r) : Go.PM.Good Go.Proofs.Try.prog T0 4 [.one (.sl false 5 a0), .one (.sl false 5 a1)] [] (laws_FnTunesPlayed.sig.ret r) (laws_FnTunesPlayed.sig.bs r) :=
  good_fn tabOk0 mixed0 laws_FnTunesPlayed.sig (laws_FnTunesPlayed.E N) Go.Proofs.Try.func4 (by kernel_rfl) (by kernel_rfl) 54010945030286340856637247373325700902102735931918258709509182933776657643619120138906392047202026747826049542323890193150976777182619252281363828572147 0 0 [(1048572, [1, 5, 6, 7, 8, 11, 15, 19, 23, 24, 27, 31, 269], []), (1048574, [1, 5, 23, 24, 31], []), (2097150, [1], []), (33554408, [1, 5, 31, 417], []), (67108822, [1, 5, 418, 419, 420], []), (134217562, [1, 5, 6, 7, 11, 15, 19, 23, 24, 27, 31, 35, 36, 273, 274, 275], []), (134217564, [1, 5, 6, 7, 11, 15, 19, 23, 24, 27, 31, 35, 304], []), (134217566, [1, 5, 6, 15, 19, 23, 24, 27, 31], []), (268435452, [53, 54, 55, 56, 57, 60, 499], []), (536870908, [53, 54, 55, 56, 60, 504], []), (2147481082, [1, 5, 6, 15, 19, 23, 24, 27, 31, 43, 44], []), (4294962134, [1, 5, 6, 15, 19, 23, 24, 27, 31, 344], []), (17179848698, [1, 5, 23, 24, 31, 394], []), (17179858534, [1, 5, 418, 419, 420, 439], []), (274877578532, [1, 5, 6, 15, 19, 23, 24, 27, 31, 43, 44, 45, 367], [])] 338747062127068112404792921645295384897734496531608962502034412036064338630678466846766145973566991011043195715997112586743333718416619896616227211026614196371456 false [] [(false, [.any])] (by kernel_rfl) rfl rfl ((laws_FnTunesPlayed.g.run N a0 a1).trans h)
noncomputable def laws_FnTunesPlayed.ent (N : Nat) : Ent Go.Proofs.Try.prog T0 := mkEnt 4 [(false, [.ro 5]), (false, [.ro 5])] laws_FnTunesPlayed.sig (fun t => laws_FnTunesPlayed.g N t.1 t.2) (fun t r h => laws_FnTunesPlayed.good N t.1 t.2 r h)
end Go.Proofs.Ytpmipkbfohcjiaa.M

namespace Go.Proofs.Ytpmipkbfohcjiaa.M
open Go Go.PM Go.Proofs.Ytpmipkbfohcjiaa.P
set_option linter.unusedVariables false
set_option maxRecDepth 100000
def FnTunesPlayed.Pure : Prop := ∀ (y0 : List Int) (y1 : List Int), (y0.length ≤ maxLen ∧ y0.length * 1 ≤ 140737488351232 ∧ ∀ x ∈ y0, (Lit.int .u8 x).wf = true) → (y1.length ≤ maxLen ∧ y1.length * 1 ≤ 140737488351232 ∧ ∀ x ∈ y1, (Lit.int .u8 x).wf = true) → ∃ N, laws_FnTunesPlayed.g N y0 y1 = some true
end Go.Proofs.Ytpmipkbfohcjiaa.M
