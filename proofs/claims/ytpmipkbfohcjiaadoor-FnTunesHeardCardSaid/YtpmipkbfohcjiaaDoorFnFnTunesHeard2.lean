/- What the program's functions compute, walked by the machine (part 2). No conditions but those stated. -/
import Derived.Test.YtpmipkbfohcjiaaDoorFnFnTunesHeard1
import Derived.Test.YtpmipkbfohcjiaaDoorShelf
import Derived.Lib.IndexBytes
import Derived.Lib.AppendZerosOnto
namespace Go.Proofs.YtpmipkbfohcjiaaDoor.M
open Go Go.PM Go.Proofs.YtpmipkbfohcjiaaDoor.P
set_option linter.unusedVariables false
set_option maxRecDepth 100000
/-! ### impl_FewestHeard -/
abbrev impl_FewestHeard.R : Type := Int × Bool
abbrev impl_FewestHeard.sig : Sig := ⟨[(false, 1)], [], [.sl false 9], [(false, 1), (false, 1)], [], [.int .i64, .bool]⟩
noncomputable def impl_FewestHeard.C : Cfg D0 := ⟨Go.Proofs.Tryd.prog, T0, 35184432654845, 0, 47, 0, [(58, [0, 4], []), (14922, [0, 4, 5, 18, 19], []), (15280538, [0, 4, 5, 6, 7, 18, 19, 23, 24], [])], 826512855552, false, []⟩
noncomputable def impl_FewestHeard.E (N : Nat) : List (Ent Go.Proofs.Tryd.prog T0) := [impl_IsTune.ent N, impl_hours.ent N, impl_notes.ent N, impl_quartersOf.ent N]
noncomputable def impl_FewestHeard.O (N : Nat) : Orc D0 impl_FewestHeard.R := orcOf (impl_FewestHeard.E N)
noncomputable def impl_FewestHeard.K0 : Ex → St D0 → Option impl_FewestHeard.R := exitK impl_FewestHeard.C Go.Proofs.Tryd.f7.results.toList [(false, [.any]), (false, [.any])] (decOut impl_FewestHeard.sig)
noncomputable def impl_FewestHeard.c1 : Code := codeAt (Go.Proofs.Tryd.f7.body.getD .skip) []
noncomputable def impl_FewestHeard.c2 : Code := codeAt (Go.Proofs.Tryd.f7.body.getD .skip) [false]
noncomputable def impl_FewestHeard.c6 : Code := codeAt (Go.Proofs.Tryd.f7.body.getD .skip) [true, false]
noncomputable def impl_FewestHeard.c15 : Code := codeAt (Go.Proofs.Tryd.f7.body.getD .skip) [true, true, true]
noncomputable def impl_FewestHeard.c28 : Code := codeAt (Go.Proofs.Tryd.f7.body.getD .skip) [true, true, false, false]
noncomputable def impl_FewestHeard.c116 : Code := codeAt (Go.Proofs.Tryd.f7.body.getD .skip) [true, true, false, true, false, false]
noncomputable def impl_FewestHeard.c232 : Code := codeAt (Go.Proofs.Tryd.f7.body.getD .skip) [true, true, false, true, false, false, false]
noncomputable def impl_FewestHeard.c467 : Code := codeAt (Go.Proofs.Tryd.f7.body.getD .skip) [true, true, false, true, false, false, true, true]
noncomputable def impl_FewestHeard.c1864 : Code := codeAt (Go.Proofs.Tryd.f7.body.getD .skip) [true, true, false, true, false, false, true, false, false, false]
noncomputable def impl_FewestHeard.c3731 : Code := codeAt (Go.Proofs.Tryd.f7.body.getD .skip) [true, true, false, true, false, false, true, false, false, true, true]
noncomputable def impl_FewestHeard.c7460 : Code := codeAt (Go.Proofs.Tryd.f7.body.getD .skip) [true, true, false, true, false, false, true, false, false, true, false, false]
noncomputable def impl_FewestHeard.c29844 : Code := codeAt (Go.Proofs.Tryd.f7.body.getD .skip) [true, true, false, true, false, false, true, false, false, true, false, true, false, false]
noncomputable def impl_FewestHeard.c59688 : Code := codeAt (Go.Proofs.Tryd.f7.body.getD .skip) [true, true, false, true, false, false, true, false, false, true, false, true, false, false, false]
noncomputable def impl_FewestHeard.c119378 : Code := codeAt (Go.Proofs.Tryd.f7.body.getD .skip) [true, true, false, true, false, false, true, false, false, true, false, true, false, false, true, false]
noncomputable def impl_FewestHeard.c238759 : Code := codeAt (Go.Proofs.Tryd.f7.body.getD .skip) [true, true, false, true, false, false, true, false, false, true, false, true, false, false, true, true, true]
noncomputable def impl_FewestHeard.c955032 : Code := codeAt (Go.Proofs.Tryd.f7.body.getD .skip) [true, true, false, true, false, false, true, false, false, true, false, true, false, false, true, true, false, false, false]
noncomputable def impl_FewestHeard.c1910066 : Code := codeAt (Go.Proofs.Tryd.f7.body.getD .skip) [true, true, false, true, false, false, true, false, false, true, false, true, false, false, true, true, false, false, true, false]
noncomputable def impl_FewestHeard.c3820135 : Code := codeAt (Go.Proofs.Tryd.f7.body.getD .skip) [true, true, false, true, false, false, true, false, false, true, false, true, false, false, true, true, false, false, true, true, true]
noncomputable def impl_FewestHeard.c7640268 : Code := codeAt (Go.Proofs.Tryd.f7.body.getD .skip) [true, true, false, true, false, false, true, false, false, true, false, true, false, false, true, true, false, false, true, true, false, false]
noncomputable def impl_FewestHeard.c30561076 : Code := codeAt (Go.Proofs.Tryd.f7.body.getD .skip) [true, true, false, true, false, false, true, false, false, true, false, true, false, false, true, true, false, false, true, true, false, true, false, false]
noncomputable def impl_FewestHeard.K30561076 (N : Nat) (Kn58 : St D0 → Option impl_FewestHeard.R) (Kn14922 : St D0 → Option impl_FewestHeard.R) (Kn15280538 : St D0 → Option impl_FewestHeard.R) : Ex → St D0 → Option impl_FewestHeard.R := ((fun up => (onN (fun s => impl_FewestHeard.C.tidy 15280538 s ((onN Kn15280538 up) .normal)) (onN Kn15280538 up))) (blockK 4 ((fun up => (onN (fun s => impl_FewestHeard.C.tidy 3820134 s (fun s' => runC impl_FewestHeard.C (impl_FewestHeard.O N) N impl_FewestHeard.c3820135 3820135 s' up)) up)) (blockK 3 ((fun up => (onN (fun s => impl_FewestHeard.C.tidy 238758 s (fun s' => runC impl_FewestHeard.C (impl_FewestHeard.O N) N impl_FewestHeard.c238759 238759 s' up)) up)) ((fun up => (onN (fun s => impl_FewestHeard.C.tidy 14922 s ((onN Kn14922 up) .normal)) (onN Kn14922 up))) (blockK 2 ((fun up => (onN (fun s => impl_FewestHeard.C.tidy 3730 s (fun s' => runC impl_FewestHeard.C (impl_FewestHeard.O N) N impl_FewestHeard.c3731 3731 s' up)) up)) (blockK 1 ((fun up => (onN (fun s => impl_FewestHeard.C.tidy 466 s (fun s' => runC impl_FewestHeard.C (impl_FewestHeard.O N) N impl_FewestHeard.c467 467 s' up)) up)) ((fun up => (onN (fun s => impl_FewestHeard.C.tidy 58 s ((onN Kn58 up) .normal)) (onN Kn58 up))) (blockK 0 (onN (fun s => impl_FewestHeard.C.tidy 14 s (fun s' => runC impl_FewestHeard.C (impl_FewestHeard.O N) N impl_FewestHeard.c15 15 s' impl_FewestHeard.K0)) impl_FewestHeard.K0)))))))))))))
noncomputable def impl_FewestHeard.o3 (N : Nat) (v0 : List ByteArray) (v1 : Int) (v2 : Bool) (v3 : Int) (v4 : List ByteArray) (v5 : Int) (v6 : Int) (v7 : Int) (v8 : Int) (c3 : (List ByteArray) → Int → Bool → Int → (List ByteArray) → Int → Int → Int → Int → Option impl_FewestHeard.R) (c2 : (List ByteArray) → Int → Bool → Int → Int → Option impl_FewestHeard.R) : Option impl_FewestHeard.R :=
 bif (decide (v8 < v7)) then
  (impl_notes.g N v0 (w64 (v3 + v8))).bind fun r1 =>
  bif (Nat.blt (v4.length + ([r1] : List ByteArray).length) 8796093022208) then
   c3 v0 v1 v2 v3 (v4 ++ ([r1] : List ByteArray)) v5 v6 v7 (w64 (v8 + 1))
  else
  none
 else
 bif v2 then
  (impl_quartersOf.g N v0 v4).bind fun r2 =>
  c2 v0 v1 ((r2.length : Int) == 1) v5 (w64 (v6 + 1))
 else
 c2 v0 v1 false v5 (w64 (v6 + 1))
theorem impl_FewestHeard.o3.run (N : Nat) (Kn58 : St D0 → Option impl_FewestHeard.R) (Kn14922 : St D0 → Option impl_FewestHeard.R) (Kn15280538 : St D0 → Option impl_FewestHeard.R) (v0 : List ByteArray) (v1 : Int) (v2 : Bool) (v3 : Int) (v4 : List ByteArray) (v5 : Int) (v6 : Int) (v7 : Int) (v8 : Int) : runC impl_FewestHeard.C (impl_FewestHeard.O N) N impl_FewestHeard.c30561076 30561076 (mkSt [(0, .one (.sl false 9 v0)), (4, .one (.int .i64 v1)), (5, .one (.bool v2)), (6, .one (.int .i64 v3)), (7, .one (.sl true 9 v4)), (18, .one (.int .i64 v5)), (19, .one (.int .i64 v6)), (23, .one (.int .i64 v7)), (24, .one (.int .i64 v8))] [] : St D0) ((fun up => (onN (fun s => impl_FewestHeard.C.tidy 15280538 s ((onN Kn15280538 up) .normal)) (onN Kn15280538 up))) (blockK 4 ((fun up => (onN (fun s => impl_FewestHeard.C.tidy 3820134 s (fun s' => runC impl_FewestHeard.C (impl_FewestHeard.O N) N impl_FewestHeard.c3820135 3820135 s' up)) up)) (blockK 3 ((fun up => (onN (fun s => impl_FewestHeard.C.tidy 238758 s (fun s' => runC impl_FewestHeard.C (impl_FewestHeard.O N) N impl_FewestHeard.c238759 238759 s' up)) up)) ((fun up => (onN (fun s => impl_FewestHeard.C.tidy 14922 s ((onN Kn14922 up) .normal)) (onN Kn14922 up))) (blockK 2 ((fun up => (onN (fun s => impl_FewestHeard.C.tidy 3730 s (fun s' => runC impl_FewestHeard.C (impl_FewestHeard.O N) N impl_FewestHeard.c3731 3731 s' up)) up)) (blockK 1 ((fun up => (onN (fun s => impl_FewestHeard.C.tidy 466 s (fun s' => runC impl_FewestHeard.C (impl_FewestHeard.O N) N impl_FewestHeard.c467 467 s' up)) up)) ((fun up => (onN (fun s => impl_FewestHeard.C.tidy 58 s ((onN Kn58 up) .normal)) (onN Kn58 up))) (blockK 0 (onN (fun s => impl_FewestHeard.C.tidy 14 s (fun s' => runC impl_FewestHeard.C (impl_FewestHeard.O N) N impl_FewestHeard.c15 15 s' impl_FewestHeard.K0)) impl_FewestHeard.K0))))))))))))) = impl_FewestHeard.o3 N v0 v1 v2 v3 v4 v5 v6 v7 v8 ((fun w0 w1 w2 w3 w4 w5 w6 w7 w8 => Kn15280538 (mkSt [(0, .one (.sl false 9 w0)), (4, .one (.int .i64 w1)), (5, .one (.bool w2)), (6, .one (.int .i64 w3)), (7, .one (.sl true 9 w4)), (18, .one (.int .i64 w5)), (19, .one (.int .i64 w6)), (23, .one (.int .i64 w7)), (24, .one (.int .i64 w8))] [] : St D0))) ((fun w0 w1 w2 w3 w4 => Kn14922 (mkSt [(0, .one (.sl false 9 w0)), (4, .one (.int .i64 w1)), (5, .one (.bool w2)), (18, .one (.int .i64 w3)), (19, .one (.int .i64 w4))] [] : St D0))) := by kernel_rfl
noncomputable def impl_FewestHeard.d3 (N : Nat) (v0 : List ByteArray) (v1 : Int) (v2 : Bool) (v3 : Int) (v4 : List ByteArray) (v5 : Int) (v6 : Int) (v7 : Int) (v8 : Int) (c2 : (List ByteArray) → Int → Bool → Int → Int → Option impl_FewestHeard.R) (c3 : (List ByteArray) → Int → Bool → Int → (List ByteArray) → Int → Int → Int → Int → Option impl_FewestHeard.R) : Option impl_FewestHeard.R := impl_FewestHeard.o3 N v0 v1 v2 v3 v4 v5 v6 v7 v8 c3 c2
theorem impl_FewestHeard.d3.run (N : Nat) (Kn58 : St D0 → Option impl_FewestHeard.R) (Kn14922 : St D0 → Option impl_FewestHeard.R) (Kn15280538 : St D0 → Option impl_FewestHeard.R) (v0 : List ByteArray) (v1 : Int) (v2 : Bool) (v3 : Int) (v4 : List ByteArray) (v5 : Int) (v6 : Int) (v7 : Int) (v8 : Int) : runC impl_FewestHeard.C (impl_FewestHeard.O N) N impl_FewestHeard.c30561076 30561076 (mkSt [(0, .one (.sl false 9 v0)), (4, .one (.int .i64 v1)), (5, .one (.bool v2)), (6, .one (.int .i64 v3)), (7, .one (.sl true 9 v4)), (18, .one (.int .i64 v5)), (19, .one (.int .i64 v6)), (23, .one (.int .i64 v7)), (24, .one (.int .i64 v8))] [] : St D0) (impl_FewestHeard.K30561076 N Kn58 Kn14922 Kn15280538) = impl_FewestHeard.d3 N v0 v1 v2 v3 v4 v5 v6 v7 v8 ((fun w0 w1 w2 w3 w4 => Kn14922 (mkSt [(0, .one (.sl false 9 w0)), (4, .one (.int .i64 w1)), (5, .one (.bool w2)), (18, .one (.int .i64 w3)), (19, .one (.int .i64 w4))] [] : St D0))) ((fun w0 w1 w2 w3 w4 w5 w6 w7 w8 => Kn15280538 (mkSt [(0, .one (.sl false 9 w0)), (4, .one (.int .i64 w1)), (5, .one (.bool w2)), (6, .one (.int .i64 w3)), (7, .one (.sl true 9 w4)), (18, .one (.int .i64 w5)), (19, .one (.int .i64 w6)), (23, .one (.int .i64 w7)), (24, .one (.int .i64 w8))] [] : St D0))) := by
  exact (impl_FewestHeard.o3.run N Kn58 Kn14922 Kn15280538 v0 v1 v2 v3 v4 v5 v6 v7 v8).trans rfl
noncomputable def impl_FewestHeard.K15280538 (N : Nat) (Kn58 : St D0 → Option impl_FewestHeard.R) (Kn14922 : St D0 → Option impl_FewestHeard.R) : Ex → St D0 → Option impl_FewestHeard.R := (blockK 4 ((fun up => (onN (fun s => impl_FewestHeard.C.tidy 3820134 s (fun s' => runC impl_FewestHeard.C (impl_FewestHeard.O N) N impl_FewestHeard.c3820135 3820135 s' up)) up)) (blockK 3 ((fun up => (onN (fun s => impl_FewestHeard.C.tidy 238758 s (fun s' => runC impl_FewestHeard.C (impl_FewestHeard.O N) N impl_FewestHeard.c238759 238759 s' up)) up)) ((fun up => (onN (fun s => impl_FewestHeard.C.tidy 14922 s ((onN Kn14922 up) .normal)) (onN Kn14922 up))) (blockK 2 ((fun up => (onN (fun s => impl_FewestHeard.C.tidy 3730 s (fun s' => runC impl_FewestHeard.C (impl_FewestHeard.O N) N impl_FewestHeard.c3731 3731 s' up)) up)) (blockK 1 ((fun up => (onN (fun s => impl_FewestHeard.C.tidy 466 s (fun s' => runC impl_FewestHeard.C (impl_FewestHeard.O N) N impl_FewestHeard.c467 467 s' up)) up)) ((fun up => (onN (fun s => impl_FewestHeard.C.tidy 58 s ((onN Kn58 up) .normal)) (onN Kn58 up))) (blockK 0 (onN (fun s => impl_FewestHeard.C.tidy 14 s (fun s' => runC impl_FewestHeard.C (impl_FewestHeard.O N) N impl_FewestHeard.c15 15 s' impl_FewestHeard.K0)) impl_FewestHeard.K0))))))))))))
noncomputable def impl_FewestHeard.l3 (N : Nat) : Nat → (List ByteArray) → Int → Bool → Int → (List ByteArray) → Int → Int → Int → Int → ((List ByteArray) → Int → Bool → Int → Int → Option impl_FewestHeard.R) → Option impl_FewestHeard.R
  | 0, _, _, _, _, _, _, _, _, _, _ => none
  | n + 1, v0, v1, v2, v3, v4, v5, v6, v7, v8, c2 => impl_FewestHeard.d3 N v0 v1 v2 v3 v4 v5 v6 v7 v8 c2 ((fun w0 w1 w2 w3 w4 w5 w6 w7 w8 => impl_FewestHeard.l3 N n w0 w1 w2 w3 w4 w5 w6 w7 w8 c2))
theorem impl_FewestHeard.loop15280538 (N : Nat) (Kn58 : St D0 → Option impl_FewestHeard.R) (Kn14922 : St D0 → Option impl_FewestHeard.R) : ∀ n, (∀ (v0 : List ByteArray) (v1 : Int) (v2 : Bool) (v3 : Int) (v4 : List ByteArray) (v5 : Int) (v6 : Int) (v7 : Int) (v8 : Int), iter (loopF impl_FewestHeard.C (impl_FewestHeard.O N) N impl_FewestHeard.c30561076 15280538) n (mkSt [(0, .one (.sl false 9 v0)), (4, .one (.int .i64 v1)), (5, .one (.bool v2)), (6, .one (.int .i64 v3)), (7, .one (.sl true 9 v4)), (18, .one (.int .i64 v5)), (19, .one (.int .i64 v6)), (23, .one (.int .i64 v7)), (24, .one (.int .i64 v8))] [] : St D0) (impl_FewestHeard.K15280538 N Kn58 Kn14922) = impl_FewestHeard.l3 N n v0 v1 v2 v3 v4 v5 v6 v7 v8 ((fun w0 w1 w2 w3 w4 => Kn14922 (mkSt [(0, .one (.sl false 9 w0)), (4, .one (.int .i64 w1)), (5, .one (.bool w2)), (18, .one (.int .i64 w3)), (19, .one (.int .i64 w4))] [] : St D0))))
  | 0 => (fun v0 v1 v2 v3 v4 v5 v6 v7 v8 => rfl)
  | n + 1 => (fun v0 v1 v2 v3 v4 v5 v6 v7 v8 => (impl_FewestHeard.d3.run N Kn58 Kn14922 (fun s => iter (loopF impl_FewestHeard.C (impl_FewestHeard.O N) N impl_FewestHeard.c30561076 15280538) n s (impl_FewestHeard.K15280538 N Kn58 Kn14922)) v0 v1 v2 v3 v4 v5 v6 v7 v8).trans (show _ = impl_FewestHeard.d3 N v0 v1 v2 v3 v4 v5 v6 v7 v8 ((fun w0 w1 w2 w3 w4 => Kn14922 (mkSt [(0, .one (.sl false 9 w0)), (4, .one (.int .i64 w1)), (5, .one (.bool w2)), (18, .one (.int .i64 w3)), (19, .one (.int .i64 w4))] [] : St D0))) ((fun w0 w1 w2 w3 w4 w5 w6 w7 w8 => impl_FewestHeard.l3 N n w0 w1 w2 w3 w4 w5 w6 w7 w8 ((fun w0 w1 w2 w3 w4 => Kn14922 (mkSt [(0, .one (.sl false 9 w0)), (4, .one (.int .i64 w1)), (5, .one (.bool w2)), (18, .one (.int .i64 w3)), (19, .one (.int .i64 w4))] [] : St D0))))) from (congr (congr rfl rfl) (funext fun w0 => funext fun w1 => funext fun w2 => funext fun w3 => funext fun w4 => funext fun w5 => funext fun w6 => funext fun w7 => funext fun w8 => (impl_FewestHeard.loop15280538 N Kn58 Kn14922 n) w0 w1 w2 w3 w4 w5 w6 w7 w8))))
noncomputable def impl_FewestHeard.K29844 (N : Nat) (Kn58 : St D0 → Option impl_FewestHeard.R) (Kn14922 : St D0 → Option impl_FewestHeard.R) : Ex → St D0 → Option impl_FewestHeard.R := ((fun up => (onN (fun s => impl_FewestHeard.C.tidy 14922 s ((onN Kn14922 up) .normal)) (onN Kn14922 up))) (blockK 2 ((fun up => (onN (fun s => impl_FewestHeard.C.tidy 3730 s (fun s' => runC impl_FewestHeard.C (impl_FewestHeard.O N) N impl_FewestHeard.c3731 3731 s' up)) up)) (blockK 1 ((fun up => (onN (fun s => impl_FewestHeard.C.tidy 466 s (fun s' => runC impl_FewestHeard.C (impl_FewestHeard.O N) N impl_FewestHeard.c467 467 s' up)) up)) ((fun up => (onN (fun s => impl_FewestHeard.C.tidy 58 s ((onN Kn58 up) .normal)) (onN Kn58 up))) (blockK 0 (onN (fun s => impl_FewestHeard.C.tidy 14 s (fun s' => runC impl_FewestHeard.C (impl_FewestHeard.O N) N impl_FewestHeard.c15 15 s' impl_FewestHeard.K0)) impl_FewestHeard.K0))))))))
noncomputable def impl_FewestHeard.o2 (N : Nat) (v0 : List ByteArray) (v1 : Int) (v2 : Bool) (v3 : Int) (v4 : Int) (c3 : (List ByteArray) → Int → Bool → Int → (List ByteArray) → Int → Int → Int → Int → Option impl_FewestHeard.R) (c1 : (List ByteArray) → Int → Option impl_FewestHeard.R) : Option impl_FewestHeard.R :=
 bif (decide (v4 < v3)) then
  c3 v0 v1 v2 v4 ([] : List ByteArray) v3 v4 v1 0
 else
 bif v2 then
  some (v1, true)
 else
 c1 v0 (w64 (v1 + 1))
theorem impl_FewestHeard.o2.run (N : Nat) (Kn58 : St D0 → Option impl_FewestHeard.R) (Kn14922 : St D0 → Option impl_FewestHeard.R) (H30561076 : Code) (v0 : List ByteArray) (v1 : Int) (v2 : Bool) (v3 : Int) (v4 : Int) : runC impl_FewestHeard.C (impl_FewestHeard.O N) N (.seq impl_FewestHeard.c59688 (.seq impl_FewestHeard.c119378 (.seq (.block 3 (.seq impl_FewestHeard.c955032 (.seq impl_FewestHeard.c1910066 (.seq (.seq impl_FewestHeard.c7640268 (.block 4 (.loop H30561076))) impl_FewestHeard.c3820135)))) impl_FewestHeard.c238759))) 29844 (mkSt [(0, .one (.sl false 9 v0)), (4, .one (.int .i64 v1)), (5, .one (.bool v2)), (18, .one (.int .i64 v3)), (19, .one (.int .i64 v4))] [] : St D0) ((fun up => (onN (fun s => impl_FewestHeard.C.tidy 14922 s ((onN Kn14922 up) .normal)) (onN Kn14922 up))) (blockK 2 ((fun up => (onN (fun s => impl_FewestHeard.C.tidy 3730 s (fun s' => runC impl_FewestHeard.C (impl_FewestHeard.O N) N impl_FewestHeard.c3731 3731 s' up)) up)) (blockK 1 ((fun up => (onN (fun s => impl_FewestHeard.C.tidy 466 s (fun s' => runC impl_FewestHeard.C (impl_FewestHeard.O N) N impl_FewestHeard.c467 467 s' up)) up)) ((fun up => (onN (fun s => impl_FewestHeard.C.tidy 58 s ((onN Kn58 up) .normal)) (onN Kn58 up))) (blockK 0 (onN (fun s => impl_FewestHeard.C.tidy 14 s (fun s' => runC impl_FewestHeard.C (impl_FewestHeard.O N) N impl_FewestHeard.c15 15 s' impl_FewestHeard.K0)) impl_FewestHeard.K0)))))))) = impl_FewestHeard.o2 N v0 v1 v2 v3 v4 ((fun w0 w1 w2 w3 w4 w5 w6 w7 w8 => iter (loopF impl_FewestHeard.C (impl_FewestHeard.O N) N H30561076 15280538) N (mkSt [(0, .one (.sl false 9 w0)), (4, .one (.int .i64 w1)), (5, .one (.bool w2)), (6, .one (.int .i64 w3)), (7, .one (.sl true 9 w4)), (18, .one (.int .i64 w5)), (19, .one (.int .i64 w6)), (23, .one (.int .i64 w7)), (24, .one (.int .i64 w8))] [] : St D0) (blockK 4 ((fun up => (onN (fun s => impl_FewestHeard.C.tidy 3820134 s (fun s' => runC impl_FewestHeard.C (impl_FewestHeard.O N) N impl_FewestHeard.c3820135 3820135 s' up)) up)) (blockK 3 ((fun up => (onN (fun s => impl_FewestHeard.C.tidy 238758 s (fun s' => runC impl_FewestHeard.C (impl_FewestHeard.O N) N impl_FewestHeard.c238759 238759 s' up)) up)) ((fun up => (onN (fun s => impl_FewestHeard.C.tidy 14922 s ((onN Kn14922 up) .normal)) (onN Kn14922 up))) (blockK 2 ((fun up => (onN (fun s => impl_FewestHeard.C.tidy 3730 s (fun s' => runC impl_FewestHeard.C (impl_FewestHeard.O N) N impl_FewestHeard.c3731 3731 s' up)) up)) (blockK 1 ((fun up => (onN (fun s => impl_FewestHeard.C.tidy 466 s (fun s' => runC impl_FewestHeard.C (impl_FewestHeard.O N) N impl_FewestHeard.c467 467 s' up)) up)) ((fun up => (onN (fun s => impl_FewestHeard.C.tidy 58 s ((onN Kn58 up) .normal)) (onN Kn58 up))) (blockK 0 (onN (fun s => impl_FewestHeard.C.tidy 14 s (fun s' => runC impl_FewestHeard.C (impl_FewestHeard.O N) N impl_FewestHeard.c15 15 s' impl_FewestHeard.K0)) impl_FewestHeard.K0)))))))))))))) ((fun w0 w1 => Kn58 (mkSt [(0, .one (.sl false 9 w0)), (4, .one (.int .i64 w1))] [] : St D0))) := by kernel_rfl
noncomputable def impl_FewestHeard.d2 (N : Nat) (v0 : List ByteArray) (v1 : Int) (v2 : Bool) (v3 : Int) (v4 : Int) (c1 : (List ByteArray) → Int → Option impl_FewestHeard.R) (c2 : (List ByteArray) → Int → Bool → Int → Int → Option impl_FewestHeard.R) : Option impl_FewestHeard.R := impl_FewestHeard.o2 N v0 v1 v2 v3 v4 ((fun w0 w1 w2 w3 w4 w5 w6 w7 w8 => impl_FewestHeard.l3 N N w0 w1 w2 w3 w4 w5 w6 w7 w8 c2)) c1
theorem impl_FewestHeard.c29844_2 : impl_FewestHeard.c29844 = (.seq impl_FewestHeard.c59688 (.seq impl_FewestHeard.c119378 (.seq (.block 3 (.seq impl_FewestHeard.c955032 (.seq impl_FewestHeard.c1910066 (.seq (.seq impl_FewestHeard.c7640268 (.block 4 (.loop impl_FewestHeard.c30561076))) impl_FewestHeard.c3820135)))) impl_FewestHeard.c238759))) := by kernel_rfl
theorem impl_FewestHeard.d2.run (N : Nat) (Kn58 : St D0 → Option impl_FewestHeard.R) (Kn14922 : St D0 → Option impl_FewestHeard.R) (v0 : List ByteArray) (v1 : Int) (v2 : Bool) (v3 : Int) (v4 : Int) : runC impl_FewestHeard.C (impl_FewestHeard.O N) N impl_FewestHeard.c29844 29844 (mkSt [(0, .one (.sl false 9 v0)), (4, .one (.int .i64 v1)), (5, .one (.bool v2)), (18, .one (.int .i64 v3)), (19, .one (.int .i64 v4))] [] : St D0) (impl_FewestHeard.K29844 N Kn58 Kn14922) = impl_FewestHeard.d2 N v0 v1 v2 v3 v4 ((fun w0 w1 => Kn58 (mkSt [(0, .one (.sl false 9 w0)), (4, .one (.int .i64 w1))] [] : St D0))) ((fun w0 w1 w2 w3 w4 => Kn14922 (mkSt [(0, .one (.sl false 9 w0)), (4, .one (.int .i64 w1)), (5, .one (.bool w2)), (18, .one (.int .i64 w3)), (19, .one (.int .i64 w4))] [] : St D0))) := by
  rw [impl_FewestHeard.c29844_2]; unfold impl_FewestHeard.d2; exact (impl_FewestHeard.o2.run N Kn58 Kn14922 impl_FewestHeard.c30561076 v0 v1 v2 v3 v4).trans (congr (congr rfl (funext fun w0 => funext fun w1 => funext fun w2 => funext fun w3 => funext fun w4 => funext fun w5 => funext fun w6 => funext fun w7 => funext fun w8 => (impl_FewestHeard.loop15280538 N Kn58 Kn14922 N) w0 w1 w2 w3 w4 w5 w6 w7 w8)) rfl)
noncomputable def impl_FewestHeard.K14922 (N : Nat) (Kn58 : St D0 → Option impl_FewestHeard.R) : Ex → St D0 → Option impl_FewestHeard.R := (blockK 2 ((fun up => (onN (fun s => impl_FewestHeard.C.tidy 3730 s (fun s' => runC impl_FewestHeard.C (impl_FewestHeard.O N) N impl_FewestHeard.c3731 3731 s' up)) up)) (blockK 1 ((fun up => (onN (fun s => impl_FewestHeard.C.tidy 466 s (fun s' => runC impl_FewestHeard.C (impl_FewestHeard.O N) N impl_FewestHeard.c467 467 s' up)) up)) ((fun up => (onN (fun s => impl_FewestHeard.C.tidy 58 s ((onN Kn58 up) .normal)) (onN Kn58 up))) (blockK 0 (onN (fun s => impl_FewestHeard.C.tidy 14 s (fun s' => runC impl_FewestHeard.C (impl_FewestHeard.O N) N impl_FewestHeard.c15 15 s' impl_FewestHeard.K0)) impl_FewestHeard.K0)))))))
noncomputable def impl_FewestHeard.l2 (N : Nat) : Nat → (List ByteArray) → Int → Bool → Int → Int → ((List ByteArray) → Int → Option impl_FewestHeard.R) → Option impl_FewestHeard.R
  | 0, _, _, _, _, _, _ => none
  | n + 1, v0, v1, v2, v3, v4, c1 => impl_FewestHeard.d2 N v0 v1 v2 v3 v4 c1 ((fun w0 w1 w2 w3 w4 => impl_FewestHeard.l2 N n w0 w1 w2 w3 w4 c1))
theorem impl_FewestHeard.loop14922 (N : Nat) (Kn58 : St D0 → Option impl_FewestHeard.R) : ∀ n, (∀ (v0 : List ByteArray) (v1 : Int) (v2 : Bool) (v3 : Int) (v4 : Int), iter (loopF impl_FewestHeard.C (impl_FewestHeard.O N) N impl_FewestHeard.c29844 14922) n (mkSt [(0, .one (.sl false 9 v0)), (4, .one (.int .i64 v1)), (5, .one (.bool v2)), (18, .one (.int .i64 v3)), (19, .one (.int .i64 v4))] [] : St D0) (impl_FewestHeard.K14922 N Kn58) = impl_FewestHeard.l2 N n v0 v1 v2 v3 v4 ((fun w0 w1 => Kn58 (mkSt [(0, .one (.sl false 9 w0)), (4, .one (.int .i64 w1))] [] : St D0))))
  | 0 => (fun v0 v1 v2 v3 v4 => rfl)
  | n + 1 => (fun v0 v1 v2 v3 v4 => (impl_FewestHeard.d2.run N Kn58 (fun s => iter (loopF impl_FewestHeard.C (impl_FewestHeard.O N) N impl_FewestHeard.c29844 14922) n s (impl_FewestHeard.K14922 N Kn58)) v0 v1 v2 v3 v4).trans (show _ = impl_FewestHeard.d2 N v0 v1 v2 v3 v4 ((fun w0 w1 => Kn58 (mkSt [(0, .one (.sl false 9 w0)), (4, .one (.int .i64 w1))] [] : St D0))) ((fun w0 w1 w2 w3 w4 => impl_FewestHeard.l2 N n w0 w1 w2 w3 w4 ((fun w0 w1 => Kn58 (mkSt [(0, .one (.sl false 9 w0)), (4, .one (.int .i64 w1))] [] : St D0))))) from (congr (congr rfl rfl) (funext fun w0 => funext fun w1 => funext fun w2 => funext fun w3 => funext fun w4 => (impl_FewestHeard.loop14922 N Kn58 n) w0 w1 w2 w3 w4))))
noncomputable def impl_FewestHeard.K116 (N : Nat) (Kn58 : St D0 → Option impl_FewestHeard.R) : Ex → St D0 → Option impl_FewestHeard.R := ((fun up => (onN (fun s => impl_FewestHeard.C.tidy 58 s ((onN Kn58 up) .normal)) (onN Kn58 up))) (blockK 0 (onN (fun s => impl_FewestHeard.C.tidy 14 s (fun s' => runC impl_FewestHeard.C (impl_FewestHeard.O N) N impl_FewestHeard.c15 15 s' impl_FewestHeard.K0)) impl_FewestHeard.K0)))
noncomputable def impl_FewestHeard.o1 (N : Nat) (v0 : List ByteArray) (v1 : Int) (c2 : (List ByteArray) → Int → Bool → Int → Int → Option impl_FewestHeard.R) : Option impl_FewestHeard.R :=
 bif (decide (v1 ≤ 8)) then
  (impl_hours.g N v0).bind fun r1 =>
  c2 v0 v1 true (w64 (4 * r1)) 0
 else
 some (0, false)
theorem impl_FewestHeard.o1.run (N : Nat) (Kn58 : St D0 → Option impl_FewestHeard.R) (H29844 : Code) (v0 : List ByteArray) (v1 : Int) : runC impl_FewestHeard.C (impl_FewestHeard.O N) N (.seq impl_FewestHeard.c232 (.seq (.block 1 (.seq impl_FewestHeard.c1864 (.seq (.seq impl_FewestHeard.c7460 (.block 2 (.loop H29844))) impl_FewestHeard.c3731))) impl_FewestHeard.c467)) 116 (mkSt [(0, .one (.sl false 9 v0)), (4, .one (.int .i64 v1))] [] : St D0) ((fun up => (onN (fun s => impl_FewestHeard.C.tidy 58 s ((onN Kn58 up) .normal)) (onN Kn58 up))) (blockK 0 (onN (fun s => impl_FewestHeard.C.tidy 14 s (fun s' => runC impl_FewestHeard.C (impl_FewestHeard.O N) N impl_FewestHeard.c15 15 s' impl_FewestHeard.K0)) impl_FewestHeard.K0))) = impl_FewestHeard.o1 N v0 v1 ((fun w0 w1 w2 w3 w4 => iter (loopF impl_FewestHeard.C (impl_FewestHeard.O N) N H29844 14922) N (mkSt [(0, .one (.sl false 9 w0)), (4, .one (.int .i64 w1)), (5, .one (.bool w2)), (18, .one (.int .i64 w3)), (19, .one (.int .i64 w4))] [] : St D0) (blockK 2 ((fun up => (onN (fun s => impl_FewestHeard.C.tidy 3730 s (fun s' => runC impl_FewestHeard.C (impl_FewestHeard.O N) N impl_FewestHeard.c3731 3731 s' up)) up)) (blockK 1 ((fun up => (onN (fun s => impl_FewestHeard.C.tidy 466 s (fun s' => runC impl_FewestHeard.C (impl_FewestHeard.O N) N impl_FewestHeard.c467 467 s' up)) up)) ((fun up => (onN (fun s => impl_FewestHeard.C.tidy 58 s ((onN Kn58 up) .normal)) (onN Kn58 up))) (blockK 0 (onN (fun s => impl_FewestHeard.C.tidy 14 s (fun s' => runC impl_FewestHeard.C (impl_FewestHeard.O N) N impl_FewestHeard.c15 15 s' impl_FewestHeard.K0)) impl_FewestHeard.K0))))))))) := by kernel_rfl
noncomputable def impl_FewestHeard.d1 (N : Nat) (v0 : List ByteArray) (v1 : Int) (c1 : (List ByteArray) → Int → Option impl_FewestHeard.R) : Option impl_FewestHeard.R := impl_FewestHeard.o1 N v0 v1 ((fun w0 w1 w2 w3 w4 => impl_FewestHeard.l2 N N w0 w1 w2 w3 w4 c1))
theorem impl_FewestHeard.c116_1 : impl_FewestHeard.c116 = (.seq impl_FewestHeard.c232 (.seq (.block 1 (.seq impl_FewestHeard.c1864 (.seq (.seq impl_FewestHeard.c7460 (.block 2 (.loop impl_FewestHeard.c29844))) impl_FewestHeard.c3731))) impl_FewestHeard.c467)) := by kernel_rfl
theorem impl_FewestHeard.d1.run (N : Nat) (Kn58 : St D0 → Option impl_FewestHeard.R) (v0 : List ByteArray) (v1 : Int) : runC impl_FewestHeard.C (impl_FewestHeard.O N) N impl_FewestHeard.c116 116 (mkSt [(0, .one (.sl false 9 v0)), (4, .one (.int .i64 v1))] [] : St D0) (impl_FewestHeard.K116 N Kn58) = impl_FewestHeard.d1 N v0 v1 ((fun w0 w1 => Kn58 (mkSt [(0, .one (.sl false 9 w0)), (4, .one (.int .i64 w1))] [] : St D0))) := by
  rw [impl_FewestHeard.c116_1]; unfold impl_FewestHeard.d1; exact (impl_FewestHeard.o1.run N Kn58 impl_FewestHeard.c29844 v0 v1).trans (congr rfl (funext fun w0 => funext fun w1 => funext fun w2 => funext fun w3 => funext fun w4 => (impl_FewestHeard.loop14922 N Kn58 N) w0 w1 w2 w3 w4))
noncomputable def impl_FewestHeard.K58 (N : Nat) : Ex → St D0 → Option impl_FewestHeard.R := (blockK 0 (onN (fun s => impl_FewestHeard.C.tidy 14 s (fun s' => runC impl_FewestHeard.C (impl_FewestHeard.O N) N impl_FewestHeard.c15 15 s' impl_FewestHeard.K0)) impl_FewestHeard.K0))
noncomputable def impl_FewestHeard.l1 (N : Nat) : Nat → (List ByteArray) → Int → Option impl_FewestHeard.R
  | 0, _, _ => none
  | n + 1, v0, v1 => impl_FewestHeard.d1 N v0 v1 ((fun w0 w1 => impl_FewestHeard.l1 N n w0 w1))
theorem impl_FewestHeard.loop58 (N : Nat) : ∀ n, (∀ (v0 : List ByteArray) (v1 : Int), iter (loopF impl_FewestHeard.C (impl_FewestHeard.O N) N impl_FewestHeard.c116 58) n (mkSt [(0, .one (.sl false 9 v0)), (4, .one (.int .i64 v1))] [] : St D0) (impl_FewestHeard.K58 N) = impl_FewestHeard.l1 N n v0 v1)
  | 0 => (fun v0 v1 => rfl)
  | n + 1 => (fun v0 v1 => (impl_FewestHeard.d1.run N (fun s => iter (loopF impl_FewestHeard.C (impl_FewestHeard.O N) N impl_FewestHeard.c116 58) n s (impl_FewestHeard.K58 N)) v0 v1).trans (show _ = impl_FewestHeard.d1 N v0 v1 ((fun w0 w1 => impl_FewestHeard.l1 N n w0 w1)) from (congr rfl (funext fun w0 => funext fun w1 => (impl_FewestHeard.loop58 N n) w0 w1))))
noncomputable def impl_FewestHeard.o0 (N : Nat) (a0 : List ByteArray) (c1 : (List ByteArray) → Int → Option impl_FewestHeard.R) : Option impl_FewestHeard.R :=
 (impl_IsTune.g N a0).bind fun r1 =>
 bif (!r1) then
  some (0, false)
 else
 c1 a0 1
theorem impl_FewestHeard.o0.run (N : Nat) (H116 : Code) (a0 : List ByteArray) : runC impl_FewestHeard.C (impl_FewestHeard.O N) N (.seq impl_FewestHeard.c2 (.seq impl_FewestHeard.c6 (.seq (.seq impl_FewestHeard.c28 (.block 0 (.loop H116))) impl_FewestHeard.c15))) 1 (st0 [.one (.sl false 9 a0)] [] : St D0) impl_FewestHeard.K0 = impl_FewestHeard.o0 N a0 ((fun w0 w1 => iter (loopF impl_FewestHeard.C (impl_FewestHeard.O N) N H116 58) N (mkSt [(0, .one (.sl false 9 w0)), (4, .one (.int .i64 w1))] [] : St D0) (blockK 0 (onN (fun s => impl_FewestHeard.C.tidy 14 s (fun s' => runC impl_FewestHeard.C (impl_FewestHeard.O N) N impl_FewestHeard.c15 15 s' impl_FewestHeard.K0)) impl_FewestHeard.K0)))) := by kernel_rfl
noncomputable def impl_FewestHeard.g (N : Nat) (a0 : List ByteArray) : Option impl_FewestHeard.R := impl_FewestHeard.o0 N a0 ((fun w0 w1 => impl_FewestHeard.l1 N N w0 w1))
theorem impl_FewestHeard.c1_0 : impl_FewestHeard.c1 = (.seq impl_FewestHeard.c2 (.seq impl_FewestHeard.c6 (.seq (.seq impl_FewestHeard.c28 (.block 0 (.loop impl_FewestHeard.c116))) impl_FewestHeard.c15))) := by kernel_rfl
theorem impl_FewestHeard.g.run (N : Nat) (a0 : List ByteArray) : runC impl_FewestHeard.C (impl_FewestHeard.O N) N impl_FewestHeard.c1 1 (st0 [.one (.sl false 9 a0)] [] : St D0) impl_FewestHeard.K0 = impl_FewestHeard.g N a0 := by
  rw [impl_FewestHeard.c1_0]; unfold impl_FewestHeard.g; exact (impl_FewestHeard.o0.run N impl_FewestHeard.c116 a0).trans (congr rfl (funext fun w0 => funext fun w1 => (impl_FewestHeard.loop58 N N) w0 w1))
theorem impl_FewestHeard.good (N : Nat) (a0 : List ByteArray) (r : impl_FewestHeard.R) (h : impl_FewestHeard.g N a0 = some r) : Go.PM.Good Go.Proofs.Tryd.prog T0 7 [.one (.sl false 9 a0)] [] (impl_FewestHeard.sig.ret r) (impl_FewestHeard.sig.bs r) :=
  good_fn tabOk0 mixed0 impl_FewestHeard.sig (impl_FewestHeard.E N) Go.Proofs.Tryd.func7 (by kernel_rfl) (by kernel_rfl) 35184432654845 0 0 [(58, [0, 4], []), (14922, [0, 4, 5, 18, 19], []), (15280538, [0, 4, 5, 6, 7, 18, 19, 23, 24], [])] 826512855552 false [] [(false, [.any]), (false, [.any])] (by kernel_rfl) rfl rfl ((impl_FewestHeard.g.run N a0).trans h)
noncomputable def impl_FewestHeard.ent (N : Nat) : Ent Go.Proofs.Tryd.prog T0 := mkEnt 7 [(false, [.ro 9])] impl_FewestHeard.sig (fun t => impl_FewestHeard.g N t) (fun t r h => impl_FewestHeard.good N t r h)
end Go.Proofs.YtpmipkbfohcjiaaDoor.M

namespace Go.Proofs.YtpmipkbfohcjiaaDoor.M
open Go Go.PM Go.Proofs.YtpmipkbfohcjiaaDoor.P
set_option linter.unusedVariables false
set_option maxRecDepth 100000
/-! ### spec_FewestHeard -/
abbrev spec_FewestHeard.R : Type := Int × Bool
abbrev spec_FewestHeard.sig : Sig := ⟨[(false, 1)], [], [.sl false 9], [(false, 1), (false, 1)], [], [.int .i64, .bool]⟩
noncomputable def spec_FewestHeard.C : Cfg D0 := ⟨Go.Proofs.Tryd.prog, T0, 17592220658173, 0, 46, 0, [(58, [0, 4], []), (14922, [0, 4, 5, 6], []), (119378, [0, 4, 5, 6], []), (3820106, [0, 4, 5, 6, 7, 8], [])], 828486406656, false, []⟩
noncomputable def spec_FewestHeard.E (N : Nat) : List (Ent Go.Proofs.Tryd.prog T0) := [spec_beTune.ent N, spec_beHours.ent N, spec_beNotes.ent N, spec_beQuarters.ent N]
noncomputable def spec_FewestHeard.O (N : Nat) : Orc D0 spec_FewestHeard.R := orcOf (spec_FewestHeard.E N)
noncomputable def spec_FewestHeard.K0 : Ex → St D0 → Option spec_FewestHeard.R := exitK spec_FewestHeard.C Go.Proofs.Tryd.f8.results.toList [(false, [.any]), (false, [.any])] (decOut spec_FewestHeard.sig)
noncomputable def spec_FewestHeard.c1 : Code := codeAt (Go.Proofs.Tryd.f8.body.getD .skip) []
noncomputable def spec_FewestHeard.c2 : Code := codeAt (Go.Proofs.Tryd.f8.body.getD .skip) [false]
noncomputable def spec_FewestHeard.c6 : Code := codeAt (Go.Proofs.Tryd.f8.body.getD .skip) [true, false]
noncomputable def spec_FewestHeard.c15 : Code := codeAt (Go.Proofs.Tryd.f8.body.getD .skip) [true, true, true]
noncomputable def spec_FewestHeard.c28 : Code := codeAt (Go.Proofs.Tryd.f8.body.getD .skip) [true, true, false, false]
noncomputable def spec_FewestHeard.c116 : Code := codeAt (Go.Proofs.Tryd.f8.body.getD .skip) [true, true, false, true, false, false]
noncomputable def spec_FewestHeard.c232 : Code := codeAt (Go.Proofs.Tryd.f8.body.getD .skip) [true, true, false, true, false, false, false]
noncomputable def spec_FewestHeard.c467 : Code := codeAt (Go.Proofs.Tryd.f8.body.getD .skip) [true, true, false, true, false, false, true, true]
noncomputable def spec_FewestHeard.c1864 : Code := codeAt (Go.Proofs.Tryd.f8.body.getD .skip) [true, true, false, true, false, false, true, false, false, false]
noncomputable def spec_FewestHeard.c3731 : Code := codeAt (Go.Proofs.Tryd.f8.body.getD .skip) [true, true, false, true, false, false, true, false, false, true, true]
noncomputable def spec_FewestHeard.c7460 : Code := codeAt (Go.Proofs.Tryd.f8.body.getD .skip) [true, true, false, true, false, false, true, false, false, true, false, false]
noncomputable def spec_FewestHeard.c29844 : Code := codeAt (Go.Proofs.Tryd.f8.body.getD .skip) [true, true, false, true, false, false, true, false, false, true, false, true, false, false]
noncomputable def spec_FewestHeard.c59688 : Code := codeAt (Go.Proofs.Tryd.f8.body.getD .skip) [true, true, false, true, false, false, true, false, false, true, false, true, false, false, false]
noncomputable def spec_FewestHeard.c119379 : Code := codeAt (Go.Proofs.Tryd.f8.body.getD .skip) [true, true, false, true, false, false, true, false, false, true, false, true, false, false, true, true]
noncomputable def spec_FewestHeard.c477512 : Code := codeAt (Go.Proofs.Tryd.f8.body.getD .skip) [true, true, false, true, false, false, true, false, false, true, false, true, false, false, true, false, false, false]
noncomputable def spec_FewestHeard.c955027 : Code := codeAt (Go.Proofs.Tryd.f8.body.getD .skip) [true, true, false, true, false, false, true, false, false, true, false, true, false, false, true, false, false, true, true]
noncomputable def spec_FewestHeard.c1910052 : Code := codeAt (Go.Proofs.Tryd.f8.body.getD .skip) [true, true, false, true, false, false, true, false, false, true, false, true, false, false, true, false, false, true, false, false]
noncomputable def spec_FewestHeard.c7640212 : Code := codeAt (Go.Proofs.Tryd.f8.body.getD .skip) [true, true, false, true, false, false, true, false, false, true, false, true, false, false, true, false, false, true, false, true, false, false]
noncomputable def spec_FewestHeard.K119379 (N : Nat) (Kn58 : St D0 → Option spec_FewestHeard.R) (Kn14922 : St D0 → Option spec_FewestHeard.R) : Ex → St D0 → Option spec_FewestHeard.R := ((fun up => (onN (fun s => spec_FewestHeard.C.tidy 14922 s ((onN Kn14922 up) .normal)) (onN Kn14922 up))) (blockK 2 ((fun up => (onN (fun s => spec_FewestHeard.C.tidy 3730 s (fun s' => runC spec_FewestHeard.C (spec_FewestHeard.O N) N spec_FewestHeard.c3731 3731 s' up)) up)) (blockK 1 ((fun up => (onN (fun s => spec_FewestHeard.C.tidy 466 s (fun s' => runC spec_FewestHeard.C (spec_FewestHeard.O N) N spec_FewestHeard.c467 467 s' up)) up)) ((fun up => (onN (fun s => spec_FewestHeard.C.tidy 58 s ((onN Kn58 up) .normal)) (onN Kn58 up))) (blockK 0 (onN (fun s => spec_FewestHeard.C.tidy 14 s (fun s' => runC spec_FewestHeard.C (spec_FewestHeard.O N) N spec_FewestHeard.c15 15 s' spec_FewestHeard.K0)) spec_FewestHeard.K0))))))))
noncomputable def spec_FewestHeard.o5 (N : Nat) (v0 : List ByteArray) (v1 : Int) (v2 : Bool) (v3 : Int) (c2 : (List ByteArray) → Int → Bool → Int → Option spec_FewestHeard.R) : Option spec_FewestHeard.R :=
 c2 v0 v1 v2 (w64 (v3 + 1))
theorem spec_FewestHeard.o5.run (N : Nat) (Kn58 : St D0 → Option spec_FewestHeard.R) (Kn14922 : St D0 → Option spec_FewestHeard.R) (v0 : List ByteArray) (v1 : Int) (v2 : Bool) (v3 : Int) : runC spec_FewestHeard.C (spec_FewestHeard.O N) N spec_FewestHeard.c119379 119379 (mkSt [(0, .one (.sl false 9 v0)), (4, .one (.int .i64 v1)), (5, .one (.bool v2)), (6, .one (.int .i64 v3))] [] : St D0) ((fun up => (onN (fun s => spec_FewestHeard.C.tidy 14922 s ((onN Kn14922 up) .normal)) (onN Kn14922 up))) (blockK 2 ((fun up => (onN (fun s => spec_FewestHeard.C.tidy 3730 s (fun s' => runC spec_FewestHeard.C (spec_FewestHeard.O N) N spec_FewestHeard.c3731 3731 s' up)) up)) (blockK 1 ((fun up => (onN (fun s => spec_FewestHeard.C.tidy 466 s (fun s' => runC spec_FewestHeard.C (spec_FewestHeard.O N) N spec_FewestHeard.c467 467 s' up)) up)) ((fun up => (onN (fun s => spec_FewestHeard.C.tidy 58 s ((onN Kn58 up) .normal)) (onN Kn58 up))) (blockK 0 (onN (fun s => spec_FewestHeard.C.tidy 14 s (fun s' => runC spec_FewestHeard.C (spec_FewestHeard.O N) N spec_FewestHeard.c15 15 s' spec_FewestHeard.K0)) spec_FewestHeard.K0)))))))) = spec_FewestHeard.o5 N v0 v1 v2 v3 ((fun w0 w1 w2 w3 => Kn14922 (mkSt [(0, .one (.sl false 9 w0)), (4, .one (.int .i64 w1)), (5, .one (.bool w2)), (6, .one (.int .i64 w3))] [] : St D0))) := by kernel_rfl
noncomputable def spec_FewestHeard.d5 (N : Nat) (v0 : List ByteArray) (v1 : Int) (v2 : Bool) (v3 : Int) (c2 : (List ByteArray) → Int → Bool → Int → Option spec_FewestHeard.R) : Option spec_FewestHeard.R := spec_FewestHeard.o5 N v0 v1 v2 v3 c2
theorem spec_FewestHeard.d5.run (N : Nat) (Kn58 : St D0 → Option spec_FewestHeard.R) (Kn14922 : St D0 → Option spec_FewestHeard.R) (v0 : List ByteArray) (v1 : Int) (v2 : Bool) (v3 : Int) : runC spec_FewestHeard.C (spec_FewestHeard.O N) N spec_FewestHeard.c119379 119379 (mkSt [(0, .one (.sl false 9 v0)), (4, .one (.int .i64 v1)), (5, .one (.bool v2)), (6, .one (.int .i64 v3))] [] : St D0) (spec_FewestHeard.K119379 N Kn58 Kn14922) = spec_FewestHeard.d5 N v0 v1 v2 v3 ((fun w0 w1 w2 w3 => Kn14922 (mkSt [(0, .one (.sl false 9 w0)), (4, .one (.int .i64 w1)), (5, .one (.bool w2)), (6, .one (.int .i64 w3))] [] : St D0))) := by
  exact (spec_FewestHeard.o5.run N Kn58 Kn14922 v0 v1 v2 v3).trans rfl
noncomputable def spec_FewestHeard.B59689 (N : Nat) (Kn58 : St D0 → Option spec_FewestHeard.R) (Kn14922 : St D0 → Option spec_FewestHeard.R) : St D0 → Option spec_FewestHeard.R := fun s' => runC spec_FewestHeard.C (spec_FewestHeard.O N) N spec_FewestHeard.c119379 119379 s' (spec_FewestHeard.K119379 N Kn58 Kn14922)
noncomputable def spec_FewestHeard.K7640212 (N : Nat) (Kn58 : St D0 → Option spec_FewestHeard.R) (Kn14922 : St D0 → Option spec_FewestHeard.R) (Kn3820106 : St D0 → Option spec_FewestHeard.R) : Ex → St D0 → Option spec_FewestHeard.R := ((fun up => (onN (fun s => spec_FewestHeard.C.tidy 3820106 s ((onN Kn3820106 up) .normal)) (onN Kn3820106 up))) (blockK 4 ((fun up => (onN (fun s => spec_FewestHeard.C.tidy 955026 s (fun s' => runC spec_FewestHeard.C (spec_FewestHeard.O N) N spec_FewestHeard.c955027 955027 s' up)) up)) (blockK 3 ((fun up => (onN (fun s => spec_FewestHeard.C.tidy 119378 s (spec_FewestHeard.B59689 N Kn58 Kn14922)) up)) ((fun up => (onN (fun s => spec_FewestHeard.C.tidy 14922 s ((onN Kn14922 up) .normal)) (onN Kn14922 up))) (blockK 2 ((fun up => (onN (fun s => spec_FewestHeard.C.tidy 3730 s (fun s' => runC spec_FewestHeard.C (spec_FewestHeard.O N) N spec_FewestHeard.c3731 3731 s' up)) up)) (blockK 1 ((fun up => (onN (fun s => spec_FewestHeard.C.tidy 466 s (fun s' => runC spec_FewestHeard.C (spec_FewestHeard.O N) N spec_FewestHeard.c467 467 s' up)) up)) ((fun up => (onN (fun s => spec_FewestHeard.C.tidy 58 s ((onN Kn58 up) .normal)) (onN Kn58 up))) (blockK 0 (onN (fun s => spec_FewestHeard.C.tidy 14 s (fun s' => runC spec_FewestHeard.C (spec_FewestHeard.O N) N spec_FewestHeard.c15 15 s' spec_FewestHeard.K0)) spec_FewestHeard.K0)))))))))))))
noncomputable def spec_FewestHeard.o3 (N : Nat) (v0 : List ByteArray) (v1 : Int) (v2 : Bool) (v3 : Int) (v4 : Int) (c4 : (List ByteArray) → Int → Bool → Int → (List ByteArray) → Int → Option spec_FewestHeard.R) (c5 : (List ByteArray) → Int → Bool → Int → Option spec_FewestHeard.R) : Option spec_FewestHeard.R :=
 bif (decide (v4 < v1)) then
  (spec_beNotes.g N v0 (w64 (v3 + v4))).bind fun r1 =>
  bif (Nat.blt (([] : List ByteArray).length + ([r1] : List ByteArray).length) 8796093022208) then
   c4 v0 v1 v2 v3 (([] : List ByteArray) ++ ([r1] : List ByteArray)) (w64 (v4 + 1))
  else
  none
 else
 bif v2 then
  (spec_beQuarters.g N v0 ([] : List ByteArray)).bind fun r2 =>
  c5 v0 v1 ((r2.length : Int) == 1) v3
 else
 c5 v0 v1 false v3
theorem spec_FewestHeard.o3.run (N : Nat) (Kb59689 : St D0 → Option spec_FewestHeard.R) (Kn58 : St D0 → Option spec_FewestHeard.R) (Kn14922 : St D0 → Option spec_FewestHeard.R) (Kn3820106 : St D0 → Option spec_FewestHeard.R) (v0 : List ByteArray) (v1 : Int) (v2 : Bool) (v3 : Int) (v4 : Int) : runC spec_FewestHeard.C (spec_FewestHeard.O N) N spec_FewestHeard.c7640212 7640212 (mkSt [(0, .one (.sl false 9 v0)), (4, .one (.int .i64 v1)), (5, .one (.bool v2)), (6, .one (.int .i64 v3)), (7, .one (.nl)), (8, .one (.int .i64 v4))] [] : St D0) ((fun up => (onN (fun s => spec_FewestHeard.C.tidy 3820106 s ((onN Kn3820106 up) .normal)) (onN Kn3820106 up))) (blockK 4 ((fun up => (onN (fun s => spec_FewestHeard.C.tidy 955026 s (fun s' => runC spec_FewestHeard.C (spec_FewestHeard.O N) N spec_FewestHeard.c955027 955027 s' up)) up)) (blockK 3 ((fun up => (onN (fun s => spec_FewestHeard.C.tidy 119378 s Kb59689) up)) ((fun up => (onN (fun s => spec_FewestHeard.C.tidy 14922 s ((onN Kn14922 up) .normal)) (onN Kn14922 up))) (blockK 2 ((fun up => (onN (fun s => spec_FewestHeard.C.tidy 3730 s (fun s' => runC spec_FewestHeard.C (spec_FewestHeard.O N) N spec_FewestHeard.c3731 3731 s' up)) up)) (blockK 1 ((fun up => (onN (fun s => spec_FewestHeard.C.tidy 466 s (fun s' => runC spec_FewestHeard.C (spec_FewestHeard.O N) N spec_FewestHeard.c467 467 s' up)) up)) ((fun up => (onN (fun s => spec_FewestHeard.C.tidy 58 s ((onN Kn58 up) .normal)) (onN Kn58 up))) (blockK 0 (onN (fun s => spec_FewestHeard.C.tidy 14 s (fun s' => runC spec_FewestHeard.C (spec_FewestHeard.O N) N spec_FewestHeard.c15 15 s' spec_FewestHeard.K0)) spec_FewestHeard.K0))))))))))))) = spec_FewestHeard.o3 N v0 v1 v2 v3 v4 ((fun w0 w1 w2 w3 w4 w5 => Kn3820106 (mkSt [(0, .one (.sl false 9 w0)), (4, .one (.int .i64 w1)), (5, .one (.bool w2)), (6, .one (.int .i64 w3)), (7, .one (.sl true 9 w4)), (8, .one (.int .i64 w5))] [] : St D0))) ((fun w0 w1 w2 w3 => Kb59689 (mkSt [(0, .one (.sl false 9 w0)), (4, .one (.int .i64 w1)), (5, .one (.bool w2)), (6, .one (.int .i64 w3))] [] : St D0))) := by kernel_rfl
noncomputable def spec_FewestHeard.d3 (N : Nat) (v0 : List ByteArray) (v1 : Int) (v2 : Bool) (v3 : Int) (v4 : Int) (c2 : (List ByteArray) → Int → Bool → Int → Option spec_FewestHeard.R) (c4 : (List ByteArray) → Int → Bool → Int → (List ByteArray) → Int → Option spec_FewestHeard.R) : Option spec_FewestHeard.R := spec_FewestHeard.o3 N v0 v1 v2 v3 v4 c4 ((fun w0 w1 w2 w3 => spec_FewestHeard.d5 N w0 w1 w2 w3 c2))
theorem spec_FewestHeard.d3.run (N : Nat) (Kn58 : St D0 → Option spec_FewestHeard.R) (Kn14922 : St D0 → Option spec_FewestHeard.R) (Kn3820106 : St D0 → Option spec_FewestHeard.R) (v0 : List ByteArray) (v1 : Int) (v2 : Bool) (v3 : Int) (v4 : Int) : runC spec_FewestHeard.C (spec_FewestHeard.O N) N spec_FewestHeard.c7640212 7640212 (mkSt [(0, .one (.sl false 9 v0)), (4, .one (.int .i64 v1)), (5, .one (.bool v2)), (6, .one (.int .i64 v3)), (7, .one (.nl)), (8, .one (.int .i64 v4))] [] : St D0) (spec_FewestHeard.K7640212 N Kn58 Kn14922 Kn3820106) = spec_FewestHeard.d3 N v0 v1 v2 v3 v4 ((fun w0 w1 w2 w3 => Kn14922 (mkSt [(0, .one (.sl false 9 w0)), (4, .one (.int .i64 w1)), (5, .one (.bool w2)), (6, .one (.int .i64 w3))] [] : St D0))) ((fun w0 w1 w2 w3 w4 w5 => Kn3820106 (mkSt [(0, .one (.sl false 9 w0)), (4, .one (.int .i64 w1)), (5, .one (.bool w2)), (6, .one (.int .i64 w3)), (7, .one (.sl true 9 w4)), (8, .one (.int .i64 w5))] [] : St D0))) := by
  unfold spec_FewestHeard.d3; exact (spec_FewestHeard.o3.run N (spec_FewestHeard.B59689 N Kn58 Kn14922) Kn58 Kn14922 Kn3820106 v0 v1 v2 v3 v4).trans (congr (congr rfl rfl) (funext fun w0 => funext fun w1 => funext fun w2 => funext fun w3 => spec_FewestHeard.d5.run N Kn58 Kn14922 w0 w1 w2 w3))
noncomputable def spec_FewestHeard.o4 (N : Nat) (v0 : List ByteArray) (v1 : Int) (v2 : Bool) (v3 : Int) (v4 : List ByteArray) (v5 : Int) (c4 : (List ByteArray) → Int → Bool → Int → (List ByteArray) → Int → Option spec_FewestHeard.R) (c5 : (List ByteArray) → Int → Bool → Int → Option spec_FewestHeard.R) : Option spec_FewestHeard.R :=
 bif (decide (v5 < v1)) then
  (spec_beNotes.g N v0 (w64 (v3 + v5))).bind fun r1 =>
  bif (Nat.blt (v4.length + ([r1] : List ByteArray).length) 8796093022208) then
   c4 v0 v1 v2 v3 (v4 ++ ([r1] : List ByteArray)) (w64 (v5 + 1))
  else
  none
 else
 bif v2 then
  (spec_beQuarters.g N v0 v4).bind fun r2 =>
  c5 v0 v1 ((r2.length : Int) == 1) v3
 else
 c5 v0 v1 false v3
theorem spec_FewestHeard.o4.run (N : Nat) (Kb59689 : St D0 → Option spec_FewestHeard.R) (Kn58 : St D0 → Option spec_FewestHeard.R) (Kn14922 : St D0 → Option spec_FewestHeard.R) (Kn3820106 : St D0 → Option spec_FewestHeard.R) (v0 : List ByteArray) (v1 : Int) (v2 : Bool) (v3 : Int) (v4 : List ByteArray) (v5 : Int) : runC spec_FewestHeard.C (spec_FewestHeard.O N) N spec_FewestHeard.c7640212 7640212 (mkSt [(0, .one (.sl false 9 v0)), (4, .one (.int .i64 v1)), (5, .one (.bool v2)), (6, .one (.int .i64 v3)), (7, .one (.sl true 9 v4)), (8, .one (.int .i64 v5))] [] : St D0) ((fun up => (onN (fun s => spec_FewestHeard.C.tidy 3820106 s ((onN Kn3820106 up) .normal)) (onN Kn3820106 up))) (blockK 4 ((fun up => (onN (fun s => spec_FewestHeard.C.tidy 955026 s (fun s' => runC spec_FewestHeard.C (spec_FewestHeard.O N) N spec_FewestHeard.c955027 955027 s' up)) up)) (blockK 3 ((fun up => (onN (fun s => spec_FewestHeard.C.tidy 119378 s Kb59689) up)) ((fun up => (onN (fun s => spec_FewestHeard.C.tidy 14922 s ((onN Kn14922 up) .normal)) (onN Kn14922 up))) (blockK 2 ((fun up => (onN (fun s => spec_FewestHeard.C.tidy 3730 s (fun s' => runC spec_FewestHeard.C (spec_FewestHeard.O N) N spec_FewestHeard.c3731 3731 s' up)) up)) (blockK 1 ((fun up => (onN (fun s => spec_FewestHeard.C.tidy 466 s (fun s' => runC spec_FewestHeard.C (spec_FewestHeard.O N) N spec_FewestHeard.c467 467 s' up)) up)) ((fun up => (onN (fun s => spec_FewestHeard.C.tidy 58 s ((onN Kn58 up) .normal)) (onN Kn58 up))) (blockK 0 (onN (fun s => spec_FewestHeard.C.tidy 14 s (fun s' => runC spec_FewestHeard.C (spec_FewestHeard.O N) N spec_FewestHeard.c15 15 s' spec_FewestHeard.K0)) spec_FewestHeard.K0))))))))))))) = spec_FewestHeard.o4 N v0 v1 v2 v3 v4 v5 ((fun w0 w1 w2 w3 w4 w5 => Kn3820106 (mkSt [(0, .one (.sl false 9 w0)), (4, .one (.int .i64 w1)), (5, .one (.bool w2)), (6, .one (.int .i64 w3)), (7, .one (.sl true 9 w4)), (8, .one (.int .i64 w5))] [] : St D0))) ((fun w0 w1 w2 w3 => Kb59689 (mkSt [(0, .one (.sl false 9 w0)), (4, .one (.int .i64 w1)), (5, .one (.bool w2)), (6, .one (.int .i64 w3))] [] : St D0))) := by kernel_rfl
noncomputable def spec_FewestHeard.d4 (N : Nat) (v0 : List ByteArray) (v1 : Int) (v2 : Bool) (v3 : Int) (v4 : List ByteArray) (v5 : Int) (c2 : (List ByteArray) → Int → Bool → Int → Option spec_FewestHeard.R) (c4 : (List ByteArray) → Int → Bool → Int → (List ByteArray) → Int → Option spec_FewestHeard.R) : Option spec_FewestHeard.R := spec_FewestHeard.o4 N v0 v1 v2 v3 v4 v5 c4 ((fun w0 w1 w2 w3 => spec_FewestHeard.d5 N w0 w1 w2 w3 c2))
theorem spec_FewestHeard.d4.run (N : Nat) (Kn58 : St D0 → Option spec_FewestHeard.R) (Kn14922 : St D0 → Option spec_FewestHeard.R) (Kn3820106 : St D0 → Option spec_FewestHeard.R) (v0 : List ByteArray) (v1 : Int) (v2 : Bool) (v3 : Int) (v4 : List ByteArray) (v5 : Int) : runC spec_FewestHeard.C (spec_FewestHeard.O N) N spec_FewestHeard.c7640212 7640212 (mkSt [(0, .one (.sl false 9 v0)), (4, .one (.int .i64 v1)), (5, .one (.bool v2)), (6, .one (.int .i64 v3)), (7, .one (.sl true 9 v4)), (8, .one (.int .i64 v5))] [] : St D0) (spec_FewestHeard.K7640212 N Kn58 Kn14922 Kn3820106) = spec_FewestHeard.d4 N v0 v1 v2 v3 v4 v5 ((fun w0 w1 w2 w3 => Kn14922 (mkSt [(0, .one (.sl false 9 w0)), (4, .one (.int .i64 w1)), (5, .one (.bool w2)), (6, .one (.int .i64 w3))] [] : St D0))) ((fun w0 w1 w2 w3 w4 w5 => Kn3820106 (mkSt [(0, .one (.sl false 9 w0)), (4, .one (.int .i64 w1)), (5, .one (.bool w2)), (6, .one (.int .i64 w3)), (7, .one (.sl true 9 w4)), (8, .one (.int .i64 w5))] [] : St D0))) := by
  unfold spec_FewestHeard.d4; exact (spec_FewestHeard.o4.run N (spec_FewestHeard.B59689 N Kn58 Kn14922) Kn58 Kn14922 Kn3820106 v0 v1 v2 v3 v4 v5).trans (congr (congr rfl rfl) (funext fun w0 => funext fun w1 => funext fun w2 => funext fun w3 => spec_FewestHeard.d5.run N Kn58 Kn14922 w0 w1 w2 w3))
noncomputable def spec_FewestHeard.K3820106 (N : Nat) (Kn58 : St D0 → Option spec_FewestHeard.R) (Kn14922 : St D0 → Option spec_FewestHeard.R) : Ex → St D0 → Option spec_FewestHeard.R := (blockK 4 ((fun up => (onN (fun s => spec_FewestHeard.C.tidy 955026 s (fun s' => runC spec_FewestHeard.C (spec_FewestHeard.O N) N spec_FewestHeard.c955027 955027 s' up)) up)) (blockK 3 ((fun up => (onN (fun s => spec_FewestHeard.C.tidy 119378 s (spec_FewestHeard.B59689 N Kn58 Kn14922)) up)) ((fun up => (onN (fun s => spec_FewestHeard.C.tidy 14922 s ((onN Kn14922 up) .normal)) (onN Kn14922 up))) (blockK 2 ((fun up => (onN (fun s => spec_FewestHeard.C.tidy 3730 s (fun s' => runC spec_FewestHeard.C (spec_FewestHeard.O N) N spec_FewestHeard.c3731 3731 s' up)) up)) (blockK 1 ((fun up => (onN (fun s => spec_FewestHeard.C.tidy 466 s (fun s' => runC spec_FewestHeard.C (spec_FewestHeard.O N) N spec_FewestHeard.c467 467 s' up)) up)) ((fun up => (onN (fun s => spec_FewestHeard.C.tidy 58 s ((onN Kn58 up) .normal)) (onN Kn58 up))) (blockK 0 (onN (fun s => spec_FewestHeard.C.tidy 14 s (fun s' => runC spec_FewestHeard.C (spec_FewestHeard.O N) N spec_FewestHeard.c15 15 s' spec_FewestHeard.K0)) spec_FewestHeard.K0))))))))))))
mutual
noncomputable def spec_FewestHeard.l3 (N : Nat) : Nat → (List ByteArray) → Int → Bool → Int → Int → ((List ByteArray) → Int → Bool → Int → Option spec_FewestHeard.R) → Option spec_FewestHeard.R
  | 0, _, _, _, _, _, _ => none
  | n + 1, v0, v1, v2, v3, v4, c2 => spec_FewestHeard.d3 N v0 v1 v2 v3 v4 c2 ((fun w0 w1 w2 w3 w4 w5 => spec_FewestHeard.l4 N n w0 w1 w2 w3 w4 w5 c2))
noncomputable def spec_FewestHeard.l4 (N : Nat) : Nat → (List ByteArray) → Int → Bool → Int → (List ByteArray) → Int → ((List ByteArray) → Int → Bool → Int → Option spec_FewestHeard.R) → Option spec_FewestHeard.R
  | 0, _, _, _, _, _, _, _ => none
  | n + 1, v0, v1, v2, v3, v4, v5, c2 => spec_FewestHeard.d4 N v0 v1 v2 v3 v4 v5 c2 ((fun w0 w1 w2 w3 w4 w5 => spec_FewestHeard.l4 N n w0 w1 w2 w3 w4 w5 c2))
end
theorem spec_FewestHeard.loop3820106 (N : Nat) (Kn58 : St D0 → Option spec_FewestHeard.R) (Kn14922 : St D0 → Option spec_FewestHeard.R) : ∀ n, (∀ (v0 : List ByteArray) (v1 : Int) (v2 : Bool) (v3 : Int) (v4 : Int), iter (loopF spec_FewestHeard.C (spec_FewestHeard.O N) N spec_FewestHeard.c7640212 3820106) n (mkSt [(0, .one (.sl false 9 v0)), (4, .one (.int .i64 v1)), (5, .one (.bool v2)), (6, .one (.int .i64 v3)), (7, .one (.nl)), (8, .one (.int .i64 v4))] [] : St D0) (spec_FewestHeard.K3820106 N Kn58 Kn14922) = spec_FewestHeard.l3 N n v0 v1 v2 v3 v4 ((fun w0 w1 w2 w3 => Kn14922 (mkSt [(0, .one (.sl false 9 w0)), (4, .one (.int .i64 w1)), (5, .one (.bool w2)), (6, .one (.int .i64 w3))] [] : St D0)))) ∧ (∀ (v0 : List ByteArray) (v1 : Int) (v2 : Bool) (v3 : Int) (v4 : List ByteArray) (v5 : Int), iter (loopF spec_FewestHeard.C (spec_FewestHeard.O N) N spec_FewestHeard.c7640212 3820106) n (mkSt [(0, .one (.sl false 9 v0)), (4, .one (.int .i64 v1)), (5, .one (.bool v2)), (6, .one (.int .i64 v3)), (7, .one (.sl true 9 v4)), (8, .one (.int .i64 v5))] [] : St D0) (spec_FewestHeard.K3820106 N Kn58 Kn14922) = spec_FewestHeard.l4 N n v0 v1 v2 v3 v4 v5 ((fun w0 w1 w2 w3 => Kn14922 (mkSt [(0, .one (.sl false 9 w0)), (4, .one (.int .i64 w1)), (5, .one (.bool w2)), (6, .one (.int .i64 w3))] [] : St D0))))
  | 0 => ⟨(fun v0 v1 v2 v3 v4 => rfl), (fun v0 v1 v2 v3 v4 v5 => rfl)⟩
  | n + 1 => ⟨(fun v0 v1 v2 v3 v4 => (spec_FewestHeard.d3.run N Kn58 Kn14922 (fun s => iter (loopF spec_FewestHeard.C (spec_FewestHeard.O N) N spec_FewestHeard.c7640212 3820106) n s (spec_FewestHeard.K3820106 N Kn58 Kn14922)) v0 v1 v2 v3 v4).trans (show _ = spec_FewestHeard.d3 N v0 v1 v2 v3 v4 ((fun w0 w1 w2 w3 => Kn14922 (mkSt [(0, .one (.sl false 9 w0)), (4, .one (.int .i64 w1)), (5, .one (.bool w2)), (6, .one (.int .i64 w3))] [] : St D0))) ((fun w0 w1 w2 w3 w4 w5 => spec_FewestHeard.l4 N n w0 w1 w2 w3 w4 w5 ((fun w0 w1 w2 w3 => Kn14922 (mkSt [(0, .one (.sl false 9 w0)), (4, .one (.int .i64 w1)), (5, .one (.bool w2)), (6, .one (.int .i64 w3))] [] : St D0))))) from (congr (congr rfl rfl) (funext fun w0 => funext fun w1 => funext fun w2 => funext fun w3 => funext fun w4 => funext fun w5 => (spec_FewestHeard.loop3820106 N Kn58 Kn14922 n).2 w0 w1 w2 w3 w4 w5)))), (fun v0 v1 v2 v3 v4 v5 => (spec_FewestHeard.d4.run N Kn58 Kn14922 (fun s => iter (loopF spec_FewestHeard.C (spec_FewestHeard.O N) N spec_FewestHeard.c7640212 3820106) n s (spec_FewestHeard.K3820106 N Kn58 Kn14922)) v0 v1 v2 v3 v4 v5).trans (show _ = spec_FewestHeard.d4 N v0 v1 v2 v3 v4 v5 ((fun w0 w1 w2 w3 => Kn14922 (mkSt [(0, .one (.sl false 9 w0)), (4, .one (.int .i64 w1)), (5, .one (.bool w2)), (6, .one (.int .i64 w3))] [] : St D0))) ((fun w0 w1 w2 w3 w4 w5 => spec_FewestHeard.l4 N n w0 w1 w2 w3 w4 w5 ((fun w0 w1 w2 w3 => Kn14922 (mkSt [(0, .one (.sl false 9 w0)), (4, .one (.int .i64 w1)), (5, .one (.bool w2)), (6, .one (.int .i64 w3))] [] : St D0))))) from (congr (congr rfl rfl) (funext fun w0 => funext fun w1 => funext fun w2 => funext fun w3 => funext fun w4 => funext fun w5 => (spec_FewestHeard.loop3820106 N Kn58 Kn14922 n).2 w0 w1 w2 w3 w4 w5))))⟩
noncomputable def spec_FewestHeard.K29844 (N : Nat) (Kn58 : St D0 → Option spec_FewestHeard.R) (Kn14922 : St D0 → Option spec_FewestHeard.R) : Ex → St D0 → Option spec_FewestHeard.R := ((fun up => (onN (fun s => spec_FewestHeard.C.tidy 14922 s ((onN Kn14922 up) .normal)) (onN Kn14922 up))) (blockK 2 ((fun up => (onN (fun s => spec_FewestHeard.C.tidy 3730 s (fun s' => runC spec_FewestHeard.C (spec_FewestHeard.O N) N spec_FewestHeard.c3731 3731 s' up)) up)) (blockK 1 ((fun up => (onN (fun s => spec_FewestHeard.C.tidy 466 s (fun s' => runC spec_FewestHeard.C (spec_FewestHeard.O N) N spec_FewestHeard.c467 467 s' up)) up)) ((fun up => (onN (fun s => spec_FewestHeard.C.tidy 58 s ((onN Kn58 up) .normal)) (onN Kn58 up))) (blockK 0 (onN (fun s => spec_FewestHeard.C.tidy 14 s (fun s' => runC spec_FewestHeard.C (spec_FewestHeard.O N) N spec_FewestHeard.c15 15 s' spec_FewestHeard.K0)) spec_FewestHeard.K0))))))))
noncomputable def spec_FewestHeard.o2 (N : Nat) (v0 : List ByteArray) (v1 : Int) (v2 : Bool) (v3 : Int) (c3 : (List ByteArray) → Int → Bool → Int → Int → Option spec_FewestHeard.R) (c1 : (List ByteArray) → Int → Option spec_FewestHeard.R) : Option spec_FewestHeard.R :=
 (spec_beHours.g N v0).bind fun r1 =>
 bif (decide (v3 < (w64 (4 * r1)))) then
  c3 v0 v1 v2 v3 0
 else
 bif v2 then
  some (v1, true)
 else
 c1 v0 (w64 (v1 + 1))
theorem spec_FewestHeard.o2.run (N : Nat) (Kn58 : St D0 → Option spec_FewestHeard.R) (Kn14922 : St D0 → Option spec_FewestHeard.R) (H7640212 : Code) (v0 : List ByteArray) (v1 : Int) (v2 : Bool) (v3 : Int) : runC spec_FewestHeard.C (spec_FewestHeard.O N) N (.seq spec_FewestHeard.c59688 (.seq (.block 3 (.seq spec_FewestHeard.c477512 (.seq (.seq spec_FewestHeard.c1910052 (.block 4 (.loop H7640212))) spec_FewestHeard.c955027))) spec_FewestHeard.c119379)) 29844 (mkSt [(0, .one (.sl false 9 v0)), (4, .one (.int .i64 v1)), (5, .one (.bool v2)), (6, .one (.int .i64 v3))] [] : St D0) ((fun up => (onN (fun s => spec_FewestHeard.C.tidy 14922 s ((onN Kn14922 up) .normal)) (onN Kn14922 up))) (blockK 2 ((fun up => (onN (fun s => spec_FewestHeard.C.tidy 3730 s (fun s' => runC spec_FewestHeard.C (spec_FewestHeard.O N) N spec_FewestHeard.c3731 3731 s' up)) up)) (blockK 1 ((fun up => (onN (fun s => spec_FewestHeard.C.tidy 466 s (fun s' => runC spec_FewestHeard.C (spec_FewestHeard.O N) N spec_FewestHeard.c467 467 s' up)) up)) ((fun up => (onN (fun s => spec_FewestHeard.C.tidy 58 s ((onN Kn58 up) .normal)) (onN Kn58 up))) (blockK 0 (onN (fun s => spec_FewestHeard.C.tidy 14 s (fun s' => runC spec_FewestHeard.C (spec_FewestHeard.O N) N spec_FewestHeard.c15 15 s' spec_FewestHeard.K0)) spec_FewestHeard.K0)))))))) = spec_FewestHeard.o2 N v0 v1 v2 v3 ((fun w0 w1 w2 w3 w4 => iter (loopF spec_FewestHeard.C (spec_FewestHeard.O N) N H7640212 3820106) N (mkSt [(0, .one (.sl false 9 w0)), (4, .one (.int .i64 w1)), (5, .one (.bool w2)), (6, .one (.int .i64 w3)), (7, .one (.nl)), (8, .one (.int .i64 w4))] [] : St D0) (blockK 4 ((fun up => (onN (fun s => spec_FewestHeard.C.tidy 955026 s (fun s' => runC spec_FewestHeard.C (spec_FewestHeard.O N) N spec_FewestHeard.c955027 955027 s' up)) up)) (blockK 3 ((fun up => (onN (fun s => spec_FewestHeard.C.tidy 119378 s (fun s' => runC spec_FewestHeard.C (spec_FewestHeard.O N) N spec_FewestHeard.c119379 119379 s' up)) up)) ((fun up => (onN (fun s => spec_FewestHeard.C.tidy 14922 s ((onN Kn14922 up) .normal)) (onN Kn14922 up))) (blockK 2 ((fun up => (onN (fun s => spec_FewestHeard.C.tidy 3730 s (fun s' => runC spec_FewestHeard.C (spec_FewestHeard.O N) N spec_FewestHeard.c3731 3731 s' up)) up)) (blockK 1 ((fun up => (onN (fun s => spec_FewestHeard.C.tidy 466 s (fun s' => runC spec_FewestHeard.C (spec_FewestHeard.O N) N spec_FewestHeard.c467 467 s' up)) up)) ((fun up => (onN (fun s => spec_FewestHeard.C.tidy 58 s ((onN Kn58 up) .normal)) (onN Kn58 up))) (blockK 0 (onN (fun s => spec_FewestHeard.C.tidy 14 s (fun s' => runC spec_FewestHeard.C (spec_FewestHeard.O N) N spec_FewestHeard.c15 15 s' spec_FewestHeard.K0)) spec_FewestHeard.K0)))))))))))))) ((fun w0 w1 => Kn58 (mkSt [(0, .one (.sl false 9 w0)), (4, .one (.int .i64 w1))] [] : St D0))) := by kernel_rfl
noncomputable def spec_FewestHeard.d2 (N : Nat) (v0 : List ByteArray) (v1 : Int) (v2 : Bool) (v3 : Int) (c1 : (List ByteArray) → Int → Option spec_FewestHeard.R) (c2 : (List ByteArray) → Int → Bool → Int → Option spec_FewestHeard.R) : Option spec_FewestHeard.R := spec_FewestHeard.o2 N v0 v1 v2 v3 ((fun w0 w1 w2 w3 w4 => spec_FewestHeard.l3 N N w0 w1 w2 w3 w4 c2)) c1
theorem spec_FewestHeard.c29844_2 : spec_FewestHeard.c29844 = (.seq spec_FewestHeard.c59688 (.seq (.block 3 (.seq spec_FewestHeard.c477512 (.seq (.seq spec_FewestHeard.c1910052 (.block 4 (.loop spec_FewestHeard.c7640212))) spec_FewestHeard.c955027))) spec_FewestHeard.c119379)) := by kernel_rfl
theorem spec_FewestHeard.d2.run (N : Nat) (Kn58 : St D0 → Option spec_FewestHeard.R) (Kn14922 : St D0 → Option spec_FewestHeard.R) (v0 : List ByteArray) (v1 : Int) (v2 : Bool) (v3 : Int) : runC spec_FewestHeard.C (spec_FewestHeard.O N) N spec_FewestHeard.c29844 29844 (mkSt [(0, .one (.sl false 9 v0)), (4, .one (.int .i64 v1)), (5, .one (.bool v2)), (6, .one (.int .i64 v3))] [] : St D0) (spec_FewestHeard.K29844 N Kn58 Kn14922) = spec_FewestHeard.d2 N v0 v1 v2 v3 ((fun w0 w1 => Kn58 (mkSt [(0, .one (.sl false 9 w0)), (4, .one (.int .i64 w1))] [] : St D0))) ((fun w0 w1 w2 w3 => Kn14922 (mkSt [(0, .one (.sl false 9 w0)), (4, .one (.int .i64 w1)), (5, .one (.bool w2)), (6, .one (.int .i64 w3))] [] : St D0))) := by
  rw [spec_FewestHeard.c29844_2]; unfold spec_FewestHeard.d2; exact (spec_FewestHeard.o2.run N Kn58 Kn14922 spec_FewestHeard.c7640212 v0 v1 v2 v3).trans (congr (congr rfl (funext fun w0 => funext fun w1 => funext fun w2 => funext fun w3 => funext fun w4 => (spec_FewestHeard.loop3820106 N Kn58 Kn14922 N).1 w0 w1 w2 w3 w4)) rfl)
noncomputable def spec_FewestHeard.K14922 (N : Nat) (Kn58 : St D0 → Option spec_FewestHeard.R) : Ex → St D0 → Option spec_FewestHeard.R := (blockK 2 ((fun up => (onN (fun s => spec_FewestHeard.C.tidy 3730 s (fun s' => runC spec_FewestHeard.C (spec_FewestHeard.O N) N spec_FewestHeard.c3731 3731 s' up)) up)) (blockK 1 ((fun up => (onN (fun s => spec_FewestHeard.C.tidy 466 s (fun s' => runC spec_FewestHeard.C (spec_FewestHeard.O N) N spec_FewestHeard.c467 467 s' up)) up)) ((fun up => (onN (fun s => spec_FewestHeard.C.tidy 58 s ((onN Kn58 up) .normal)) (onN Kn58 up))) (blockK 0 (onN (fun s => spec_FewestHeard.C.tidy 14 s (fun s' => runC spec_FewestHeard.C (spec_FewestHeard.O N) N spec_FewestHeard.c15 15 s' spec_FewestHeard.K0)) spec_FewestHeard.K0)))))))
noncomputable def spec_FewestHeard.l2 (N : Nat) : Nat → (List ByteArray) → Int → Bool → Int → ((List ByteArray) → Int → Option spec_FewestHeard.R) → Option spec_FewestHeard.R
  | 0, _, _, _, _, _ => none
  | n + 1, v0, v1, v2, v3, c1 => spec_FewestHeard.d2 N v0 v1 v2 v3 c1 ((fun w0 w1 w2 w3 => spec_FewestHeard.l2 N n w0 w1 w2 w3 c1))
theorem spec_FewestHeard.loop14922 (N : Nat) (Kn58 : St D0 → Option spec_FewestHeard.R) : ∀ n, (∀ (v0 : List ByteArray) (v1 : Int) (v2 : Bool) (v3 : Int), iter (loopF spec_FewestHeard.C (spec_FewestHeard.O N) N spec_FewestHeard.c29844 14922) n (mkSt [(0, .one (.sl false 9 v0)), (4, .one (.int .i64 v1)), (5, .one (.bool v2)), (6, .one (.int .i64 v3))] [] : St D0) (spec_FewestHeard.K14922 N Kn58) = spec_FewestHeard.l2 N n v0 v1 v2 v3 ((fun w0 w1 => Kn58 (mkSt [(0, .one (.sl false 9 w0)), (4, .one (.int .i64 w1))] [] : St D0))))
  | 0 => (fun v0 v1 v2 v3 => rfl)
  | n + 1 => (fun v0 v1 v2 v3 => (spec_FewestHeard.d2.run N Kn58 (fun s => iter (loopF spec_FewestHeard.C (spec_FewestHeard.O N) N spec_FewestHeard.c29844 14922) n s (spec_FewestHeard.K14922 N Kn58)) v0 v1 v2 v3).trans (show _ = spec_FewestHeard.d2 N v0 v1 v2 v3 ((fun w0 w1 => Kn58 (mkSt [(0, .one (.sl false 9 w0)), (4, .one (.int .i64 w1))] [] : St D0))) ((fun w0 w1 w2 w3 => spec_FewestHeard.l2 N n w0 w1 w2 w3 ((fun w0 w1 => Kn58 (mkSt [(0, .one (.sl false 9 w0)), (4, .one (.int .i64 w1))] [] : St D0))))) from (congr (congr rfl rfl) (funext fun w0 => funext fun w1 => funext fun w2 => funext fun w3 => (spec_FewestHeard.loop14922 N Kn58 n) w0 w1 w2 w3))))
noncomputable def spec_FewestHeard.K116 (N : Nat) (Kn58 : St D0 → Option spec_FewestHeard.R) : Ex → St D0 → Option spec_FewestHeard.R := ((fun up => (onN (fun s => spec_FewestHeard.C.tidy 58 s ((onN Kn58 up) .normal)) (onN Kn58 up))) (blockK 0 (onN (fun s => spec_FewestHeard.C.tidy 14 s (fun s' => runC spec_FewestHeard.C (spec_FewestHeard.O N) N spec_FewestHeard.c15 15 s' spec_FewestHeard.K0)) spec_FewestHeard.K0)))
noncomputable def spec_FewestHeard.o1 (N : Nat) (v0 : List ByteArray) (v1 : Int) (c2 : (List ByteArray) → Int → Bool → Int → Option spec_FewestHeard.R) : Option spec_FewestHeard.R :=
 bif (decide (v1 ≤ 8)) then
  c2 v0 v1 true 0
 else
 some (0, false)
theorem spec_FewestHeard.o1.run (N : Nat) (Kn58 : St D0 → Option spec_FewestHeard.R) (H29844 : Code) (v0 : List ByteArray) (v1 : Int) : runC spec_FewestHeard.C (spec_FewestHeard.O N) N (.seq spec_FewestHeard.c232 (.seq (.block 1 (.seq spec_FewestHeard.c1864 (.seq (.seq spec_FewestHeard.c7460 (.block 2 (.loop H29844))) spec_FewestHeard.c3731))) spec_FewestHeard.c467)) 116 (mkSt [(0, .one (.sl false 9 v0)), (4, .one (.int .i64 v1))] [] : St D0) ((fun up => (onN (fun s => spec_FewestHeard.C.tidy 58 s ((onN Kn58 up) .normal)) (onN Kn58 up))) (blockK 0 (onN (fun s => spec_FewestHeard.C.tidy 14 s (fun s' => runC spec_FewestHeard.C (spec_FewestHeard.O N) N spec_FewestHeard.c15 15 s' spec_FewestHeard.K0)) spec_FewestHeard.K0))) = spec_FewestHeard.o1 N v0 v1 ((fun w0 w1 w2 w3 => iter (loopF spec_FewestHeard.C (spec_FewestHeard.O N) N H29844 14922) N (mkSt [(0, .one (.sl false 9 w0)), (4, .one (.int .i64 w1)), (5, .one (.bool w2)), (6, .one (.int .i64 w3))] [] : St D0) (blockK 2 ((fun up => (onN (fun s => spec_FewestHeard.C.tidy 3730 s (fun s' => runC spec_FewestHeard.C (spec_FewestHeard.O N) N spec_FewestHeard.c3731 3731 s' up)) up)) (blockK 1 ((fun up => (onN (fun s => spec_FewestHeard.C.tidy 466 s (fun s' => runC spec_FewestHeard.C (spec_FewestHeard.O N) N spec_FewestHeard.c467 467 s' up)) up)) ((fun up => (onN (fun s => spec_FewestHeard.C.tidy 58 s ((onN Kn58 up) .normal)) (onN Kn58 up))) (blockK 0 (onN (fun s => spec_FewestHeard.C.tidy 14 s (fun s' => runC spec_FewestHeard.C (spec_FewestHeard.O N) N spec_FewestHeard.c15 15 s' spec_FewestHeard.K0)) spec_FewestHeard.K0))))))))) := by kernel_rfl
noncomputable def spec_FewestHeard.d1 (N : Nat) (v0 : List ByteArray) (v1 : Int) (c1 : (List ByteArray) → Int → Option spec_FewestHeard.R) : Option spec_FewestHeard.R := spec_FewestHeard.o1 N v0 v1 ((fun w0 w1 w2 w3 => spec_FewestHeard.l2 N N w0 w1 w2 w3 c1))
theorem spec_FewestHeard.c116_1 : spec_FewestHeard.c116 = (.seq spec_FewestHeard.c232 (.seq (.block 1 (.seq spec_FewestHeard.c1864 (.seq (.seq spec_FewestHeard.c7460 (.block 2 (.loop spec_FewestHeard.c29844))) spec_FewestHeard.c3731))) spec_FewestHeard.c467)) := by kernel_rfl
theorem spec_FewestHeard.d1.run (N : Nat) (Kn58 : St D0 → Option spec_FewestHeard.R) (v0 : List ByteArray) (v1 : Int) : runC spec_FewestHeard.C (spec_FewestHeard.O N) N spec_FewestHeard.c116 116 (mkSt [(0, .one (.sl false 9 v0)), (4, .one (.int .i64 v1))] [] : St D0) (spec_FewestHeard.K116 N Kn58) = spec_FewestHeard.d1 N v0 v1 ((fun w0 w1 => Kn58 (mkSt [(0, .one (.sl false 9 w0)), (4, .one (.int .i64 w1))] [] : St D0))) := by
  rw [spec_FewestHeard.c116_1]; unfold spec_FewestHeard.d1; exact (spec_FewestHeard.o1.run N Kn58 spec_FewestHeard.c29844 v0 v1).trans (congr rfl (funext fun w0 => funext fun w1 => funext fun w2 => funext fun w3 => (spec_FewestHeard.loop14922 N Kn58 N) w0 w1 w2 w3))
noncomputable def spec_FewestHeard.K58 (N : Nat) : Ex → St D0 → Option spec_FewestHeard.R := (blockK 0 (onN (fun s => spec_FewestHeard.C.tidy 14 s (fun s' => runC spec_FewestHeard.C (spec_FewestHeard.O N) N spec_FewestHeard.c15 15 s' spec_FewestHeard.K0)) spec_FewestHeard.K0))
noncomputable def spec_FewestHeard.l1 (N : Nat) : Nat → (List ByteArray) → Int → Option spec_FewestHeard.R
  | 0, _, _ => none
  | n + 1, v0, v1 => spec_FewestHeard.d1 N v0 v1 ((fun w0 w1 => spec_FewestHeard.l1 N n w0 w1))
theorem spec_FewestHeard.loop58 (N : Nat) : ∀ n, (∀ (v0 : List ByteArray) (v1 : Int), iter (loopF spec_FewestHeard.C (spec_FewestHeard.O N) N spec_FewestHeard.c116 58) n (mkSt [(0, .one (.sl false 9 v0)), (4, .one (.int .i64 v1))] [] : St D0) (spec_FewestHeard.K58 N) = spec_FewestHeard.l1 N n v0 v1)
  | 0 => (fun v0 v1 => rfl)
  | n + 1 => (fun v0 v1 => (spec_FewestHeard.d1.run N (fun s => iter (loopF spec_FewestHeard.C (spec_FewestHeard.O N) N spec_FewestHeard.c116 58) n s (spec_FewestHeard.K58 N)) v0 v1).trans (show _ = spec_FewestHeard.d1 N v0 v1 ((fun w0 w1 => spec_FewestHeard.l1 N n w0 w1)) from (congr rfl (funext fun w0 => funext fun w1 => (spec_FewestHeard.loop58 N n) w0 w1))))
noncomputable def spec_FewestHeard.o0 (N : Nat) (a0 : List ByteArray) (c1 : (List ByteArray) → Int → Option spec_FewestHeard.R) : Option spec_FewestHeard.R :=
 (spec_beTune.g N a0).bind fun r1 =>
 bif (!r1) then
  some (0, false)
 else
 c1 a0 1
theorem spec_FewestHeard.o0.run (N : Nat) (H116 : Code) (a0 : List ByteArray) : runC spec_FewestHeard.C (spec_FewestHeard.O N) N (.seq spec_FewestHeard.c2 (.seq spec_FewestHeard.c6 (.seq (.seq spec_FewestHeard.c28 (.block 0 (.loop H116))) spec_FewestHeard.c15))) 1 (st0 [.one (.sl false 9 a0)] [] : St D0) spec_FewestHeard.K0 = spec_FewestHeard.o0 N a0 ((fun w0 w1 => iter (loopF spec_FewestHeard.C (spec_FewestHeard.O N) N H116 58) N (mkSt [(0, .one (.sl false 9 w0)), (4, .one (.int .i64 w1))] [] : St D0) (blockK 0 (onN (fun s => spec_FewestHeard.C.tidy 14 s (fun s' => runC spec_FewestHeard.C (spec_FewestHeard.O N) N spec_FewestHeard.c15 15 s' spec_FewestHeard.K0)) spec_FewestHeard.K0)))) := by kernel_rfl
noncomputable def spec_FewestHeard.g (N : Nat) (a0 : List ByteArray) : Option spec_FewestHeard.R := spec_FewestHeard.o0 N a0 ((fun w0 w1 => spec_FewestHeard.l1 N N w0 w1))
theorem spec_FewestHeard.c1_0 : spec_FewestHeard.c1 = (.seq spec_FewestHeard.c2 (.seq spec_FewestHeard.c6 (.seq (.seq spec_FewestHeard.c28 (.block 0 (.loop spec_FewestHeard.c116))) spec_FewestHeard.c15))) := by kernel_rfl
theorem spec_FewestHeard.g.run (N : Nat) (a0 : List ByteArray) : runC spec_FewestHeard.C (spec_FewestHeard.O N) N spec_FewestHeard.c1 1 (st0 [.one (.sl false 9 a0)] [] : St D0) spec_FewestHeard.K0 = spec_FewestHeard.g N a0 := by
  rw [spec_FewestHeard.c1_0]; unfold spec_FewestHeard.g; exact (spec_FewestHeard.o0.run N spec_FewestHeard.c116 a0).trans (congr rfl (funext fun w0 => funext fun w1 => (spec_FewestHeard.loop58 N N) w0 w1))
theorem spec_FewestHeard.good (N : Nat) (a0 : List ByteArray) (r : spec_FewestHeard.R) (h : spec_FewestHeard.g N a0 = some r) : Go.PM.Good Go.Proofs.Tryd.prog T0 8 [.one (.sl false 9 a0)] [] (spec_FewestHeard.sig.ret r) (spec_FewestHeard.sig.bs r) :=
  good_fn tabOk0 mixed0 spec_FewestHeard.sig (spec_FewestHeard.E N) Go.Proofs.Tryd.func8 (by kernel_rfl) (by kernel_rfl) 17592220658173 0 0 [(58, [0, 4], []), (14922, [0, 4, 5, 6], []), (119378, [0, 4, 5, 6], []), (3820106, [0, 4, 5, 6, 7, 8], [])] 828486406656 false [] [(false, [.any]), (false, [.any])] (by kernel_rfl) rfl rfl ((spec_FewestHeard.g.run N a0).trans h)
noncomputable def spec_FewestHeard.ent (N : Nat) : Ent Go.Proofs.Tryd.prog T0 := mkEnt 8 [(false, [.ro 9])] spec_FewestHeard.sig (fun t => spec_FewestHeard.g N t) (fun t r h => spec_FewestHeard.good N t r h)
end Go.Proofs.YtpmipkbfohcjiaaDoor.M

namespace Go.Proofs.YtpmipkbfohcjiaaDoor.M
open Go Go.PM Go.Proofs.YtpmipkbfohcjiaaDoor.P
set_option linter.unusedVariables false
set_option maxRecDepth 100000
open Go.RowKit Go.Lib
/-! ### strings_Split -/
theorem strings_Split.asd {p : Prop} (h : p) : Aside p := h
abbrev strings_Split.R : Type := List ByteArray
abbrev strings_Split.sig : Sig := ⟨[(false, 1), (false, 1)], [], [.str, .str], [(false, 1)], [], [.sl true 9]⟩
noncomputable def strings_Split.g (N : Nat) (a0 : ByteArray) (a1 : ByteArray) : Option strings_Split.R := match a1.data.toList with
  | [_] => bif decide (a0.size < 4294967281) then some (Lib.splitB a1 0 (Lib.countB a0 a1) a0) else none
  | _ => none
set_option maxHeartbeats 1000000 in
theorem strings_Split.walk (a0 : ByteArray) (ch : UInt8) (w : World) (hs : a0.size < 4294967281) :
    Calls Go.Proofs.Tryd.prog 46 #[.string a0, .string ⟨#[ch]⟩] w fun e w' => ∃ v', e = .returned v' ∧ w'.ownsRow w.heap.size 9 1 v' (Lib.splitB ⟨#[ch]⟩ 0 (Lib.countB a0 ⟨#[ch]⟩) a0).length ((Lib.splitB ⟨#[ch]⟩ 0 (Lib.countB a0 ⟨#[ch]⟩) a0).map Value.string) ∧ Below w.heap.size w w' := by
  have h1 : 1 ≤ (⟨#[ch]⟩ : ByteArray).size := Nat.le_refl 1
  have hle := Lib.countB_le ⟨#[ch]⟩ h1 a0.size a0 (Nat.le_refl _)
  have hlen := Lib.splitB_all ⟨#[ch]⟩ h1 0 _ a0 rfl
  have hI : ∀ (x : ByteArray) (c : Array Value), x.size ≤ a0.size → Calls Go.Proofs.Tryd.prog 74 #[.string x, .string ⟨#[ch]⟩] (w.alloc (.cells c 9)) fun e w' => e = .returned (.int .i64 (Lib.indexB x ⟨#[ch]⟩)) ∧ w' = w.alloc (.cells c 9) := by
    intro x c hx
    refine (Go.Proofs.Tryd.strings_Index_one x ch _).mono ?_
    rintro e w' ⟨rfl, rfl⟩
    exact ⟨by rw [show Lib.indexB x ⟨#[ch]⟩ = Lib.index x.data.toList [ch] from rfl, Lib.index_one], rfl⟩
  have hC : Calls Go.Proofs.Tryd.prog 73 #[.string a0, .string ⟨#[ch]⟩] w fun e w' => e = .returned (.int .i64 (Lib.countB a0 ⟨#[ch]⟩)) ∧ w' = w := by
    refine (Go.Proofs.Tryd.strings_Count_one a0 ch w).mono ?_
    rintro e w' ⟨rfl, rfl⟩
    exact ⟨by rw [show Lib.countB a0 ⟨#[ch]⟩ = Lib.count a0.data.toList [ch] from rfl, Lib.count_one]; rfl, rfl⟩
  have c := Go.Proofs.Any.strings_genSplit_core Go.Proofs.Tryd.lays221 (by kernel_rfl) a0 ⟨#[ch]⟩ 0 (-1) (Lib.countB a0 ⟨#[ch]⟩ + 1) w hs h1 (Nat.zero_le _) hI hC (by decide) (by decide) (by rw [if_pos (by decide)]; omega)
  rw [Nat.add_sub_cancel, hlen] at c
  have e2 : Lib.cellsOf (Lib.splitB ⟨#[ch]⟩ 0 (Lib.countB a0 ⟨#[ch]⟩) a0) (Lib.countB a0 ⟨#[ch]⟩ + 1) = ((Lib.splitB ⟨#[ch]⟩ 0 (Lib.countB a0 ⟨#[ch]⟩) a0).map Value.string).toArray := by rw [← hlen]; exact Lib.cellsOf_full _
  rw [e2] at c
  have HC := strings_Split.asd (show Calls Go.Proofs.Tryd.prog 65 #[.string a0, .string ⟨#[ch]⟩, .int .i64 0, .int .i64 (-1)] w _ from c)
  have HL := strings_Split.asd hlen
  have HLE := strings_Split.asd hle
  clear c hI hC e2 hlen hle
  go_enter Go.Proofs.Tryd.func46, Go.Proofs.Tryd.ntmps46
  go_wp2_with (go_at_call 65; refine HC.out.mono ?_; rintro e w' ⟨rfl, hw⟩; have HW := strings_Split.asd hw; clear hw)
  go_ret
  have hw := HW.out
  have hlen := HL.out
  have hle := HLE.out
  subst hw
  refine ⟨_, rfl, ?_, (Below.refl _ _).alloc (Nat.le_refl _) _⟩
  have ho := World.ownsRow_lit (base := w.heap.size) (e := 9) (size := 1) w ((Lib.splitB ⟨#[ch]⟩ 0 (Lib.countB a0 ⟨#[ch]⟩) a0).map Value.string).toArray (Lib.countB a0 ⟨#[ch]⟩ + 1) (Nat.le_refl _) (by unfold maxLen; omega) (by simp [hlen])
  rw [hlen]
  simp at ho
  exact ho
theorem strings_Split.good (N : Nat) (a0 : ByteArray) (a1 : ByteArray) (r : strings_Split.R) (h : strings_Split.g N a0 a1 = some r) : Go.PM.Good Go.Proofs.Tryd.prog T0 46 [.one (.str a0), .one (.str a1)] [] (strings_Split.sig.ret r) (strings_Split.sig.bs r) := by
  obtain ⟨⟨l⟩⟩ := a1
  match l, h with
  | [ch], h =>
    obtain ⟨hc, h⟩ := bif_some (show (bif decide (a0.size < 4294967281) then some (Lib.splitB ⟨#[ch]⟩ 0 (Lib.countB a0 ⟨#[ch]⟩) a0) else none) = some r from h)
    have hc := of_decide_eq_true hc
    cases Option.some.inj h
    refine good_new tabOk0 9 ⟨_, Go.Proofs.Tryd.func46, by kernel_rfl, rfl⟩ [.one (.str a0), .one (.str ⟨#[ch]⟩)] (Lib.splitB ⟨#[ch]⟩ 0 (Lib.countB a0 ⟨#[ch]⟩) a0) ?_
    intro w C blk vargs hsz hrep hag
    have ev : vargs = #[.string a0, .string ⟨#[ch]⟩] := (args2 hsz).trans (by rw [rep_str (hrep 0), rep_str (hrep 1)])
    rw [ev]
    exact ⟨_, row_str (T := T0) (e := 9) (fun x => x) rfl (fun x => rfl), strings_Split.walk a0 ch w hc⟩
noncomputable def strings_Split.ent (N : Nat) : Ent Go.Proofs.Tryd.prog T0 := mkEnt 46 [(false, [.any]), (false, [.any])] strings_Split.sig (fun t => strings_Split.g N t.1 t.2) (fun t r h => strings_Split.good N t.1 t.2 r h)

end Go.Proofs.YtpmipkbfohcjiaaDoor.M

namespace Go.Proofs.YtpmipkbfohcjiaaDoor.M
open Go Go.PM Go.Proofs.YtpmipkbfohcjiaaDoor.P
set_option linter.unusedVariables false
set_option maxRecDepth 100000
/-! ### spec_l1Split -/
abbrev spec_l1Split.R : Type := List ByteArray
abbrev spec_l1Split.sig : Sig := ⟨[(false, 1), (false, 1)], [], [.str, .int .u8], [(false, 1)], [], [.sl true 9]⟩
noncomputable def spec_l1Split.C : Cfg D0 := ⟨Go.Proofs.Tryd.prog, T0, 264435, 0, 34, 0, [(122, [0, 1, 5, 6, 7], []), (978, [0, 1, 5, 6, 7], [])], 1685246720, false, []⟩
noncomputable def spec_l1Split.E (N : Nat) : List (Ent Go.Proofs.Tryd.prog T0) := []
noncomputable def spec_l1Split.O (N : Nat) : Orc D0 spec_l1Split.R := orcOf (spec_l1Split.E N)
noncomputable def spec_l1Split.K0 : Ex → St D0 → Option spec_l1Split.R := exitK spec_l1Split.C Go.Proofs.Tryd.f50.results.toList [(false, [.own 9])] (decOut spec_l1Split.sig)
noncomputable def spec_l1Split.c1 : Code := codeAt (Go.Proofs.Tryd.f50.body.getD .skip) []
noncomputable def spec_l1Split.c2 : Code := codeAt (Go.Proofs.Tryd.f50.body.getD .skip) [false]
noncomputable def spec_l1Split.c6 : Code := codeAt (Go.Proofs.Tryd.f50.body.getD .skip) [true, false]
noncomputable def spec_l1Split.c14 : Code := codeAt (Go.Proofs.Tryd.f50.body.getD .skip) [true, true, false]
noncomputable def spec_l1Split.c31 : Code := codeAt (Go.Proofs.Tryd.f50.body.getD .skip) [true, true, true, true]
noncomputable def spec_l1Split.c60 : Code := codeAt (Go.Proofs.Tryd.f50.body.getD .skip) [true, true, true, false, false]
noncomputable def spec_l1Split.c244 : Code := codeAt (Go.Proofs.Tryd.f50.body.getD .skip) [true, true, true, false, true, false, false]
noncomputable def spec_l1Split.c488 : Code := codeAt (Go.Proofs.Tryd.f50.body.getD .skip) [true, true, true, false, true, false, false, false]
noncomputable def spec_l1Split.c978 : Code := codeAt (Go.Proofs.Tryd.f50.body.getD .skip) [true, true, true, false, true, false, false, true, false]
noncomputable def spec_l1Split.c979 : Code := codeAt (Go.Proofs.Tryd.f50.body.getD .skip) [true, true, true, false, true, false, false, true, true]
noncomputable def spec_l1Split.K979 (N : Nat) (Kn122 : St D0 → Option spec_l1Split.R) : Ex → St D0 → Option spec_l1Split.R := ((fun up => (onN (fun s => spec_l1Split.C.tidy 122 s ((onN Kn122 up) .normal)) (onN Kn122 up))) (blockK 0 (onN (fun s => spec_l1Split.C.tidy 30 s (fun s' => runC spec_l1Split.C (spec_l1Split.O N) N spec_l1Split.c31 31 s' spec_l1Split.K0)) spec_l1Split.K0)))
noncomputable def spec_l1Split.o2 (N : Nat) (v0 : ByteArray) (v1 : Int) (v2 : List ByteArray) (v3 : Int) (v4 : Int) (c4 : ByteArray → Int → (List ByteArray) → Int → Int → Option spec_l1Split.R) : Option spec_l1Split.R :=
 c4 v0 v1 v2 v3 (w64 (v4 + 1))
theorem spec_l1Split.o2.run (N : Nat) (Kn122 : St D0 → Option spec_l1Split.R) (v0 : ByteArray) (v1 : Int) (v2 : List ByteArray) (v3 : Int) (v4 : Int) : runC spec_l1Split.C (spec_l1Split.O N) N spec_l1Split.c979 979 (mkSt [(0, .one (.str v0)), (1, .one (.int .u8 v1)), (5, .one (.sl true 9 v2)), (6, .one (.int .i64 v3)), (7, .one (.int .i64 v4))] [] : St D0) ((fun up => (onN (fun s => spec_l1Split.C.tidy 122 s ((onN Kn122 up) .normal)) (onN Kn122 up))) (blockK 0 (onN (fun s => spec_l1Split.C.tidy 30 s (fun s' => runC spec_l1Split.C (spec_l1Split.O N) N spec_l1Split.c31 31 s' spec_l1Split.K0)) spec_l1Split.K0))) = spec_l1Split.o2 N v0 v1 v2 v3 v4 ((fun w0 w1 w2 w3 w4 => Kn122 (mkSt [(0, .one (.str w0)), (1, .one (.int .u8 w1)), (5, .one (.sl true 9 w2)), (6, .one (.int .i64 w3)), (7, .one (.int .i64 w4))] [] : St D0))) := by kernel_rfl
noncomputable def spec_l1Split.d2 (N : Nat) (v0 : ByteArray) (v1 : Int) (v2 : List ByteArray) (v3 : Int) (v4 : Int) (c4 : ByteArray → Int → (List ByteArray) → Int → Int → Option spec_l1Split.R) : Option spec_l1Split.R := spec_l1Split.o2 N v0 v1 v2 v3 v4 c4
theorem spec_l1Split.d2.run (N : Nat) (Kn122 : St D0 → Option spec_l1Split.R) (v0 : ByteArray) (v1 : Int) (v2 : List ByteArray) (v3 : Int) (v4 : Int) : runC spec_l1Split.C (spec_l1Split.O N) N spec_l1Split.c979 979 (mkSt [(0, .one (.str v0)), (1, .one (.int .u8 v1)), (5, .one (.sl true 9 v2)), (6, .one (.int .i64 v3)), (7, .one (.int .i64 v4))] [] : St D0) (spec_l1Split.K979 N Kn122) = spec_l1Split.d2 N v0 v1 v2 v3 v4 ((fun w0 w1 w2 w3 w4 => Kn122 (mkSt [(0, .one (.str w0)), (1, .one (.int .u8 w1)), (5, .one (.sl true 9 w2)), (6, .one (.int .i64 w3)), (7, .one (.int .i64 w4))] [] : St D0))) := by
  exact (spec_l1Split.o2.run N Kn122 v0 v1 v2 v3 v4).trans rfl
noncomputable def spec_l1Split.o3 (N : Nat) (v0 : ByteArray) (v1 : Int) (v2 : Int) (v3 : Int) (c1 : ByteArray → Int → Int → Int → Option spec_l1Split.R) : Option spec_l1Split.R :=
 c1 v0 v1 v2 (w64 (v3 + 1))
theorem spec_l1Split.o3.run (N : Nat) (Kn122 : St D0 → Option spec_l1Split.R) (v0 : ByteArray) (v1 : Int) (v2 : Int) (v3 : Int) : runC spec_l1Split.C (spec_l1Split.O N) N spec_l1Split.c979 979 (mkSt [(0, .one (.str v0)), (1, .one (.int .u8 v1)), (5, .one (.nl)), (6, .one (.int .i64 v2)), (7, .one (.int .i64 v3))] [] : St D0) ((fun up => (onN (fun s => spec_l1Split.C.tidy 122 s ((onN Kn122 up) .normal)) (onN Kn122 up))) (blockK 0 (onN (fun s => spec_l1Split.C.tidy 30 s (fun s' => runC spec_l1Split.C (spec_l1Split.O N) N spec_l1Split.c31 31 s' spec_l1Split.K0)) spec_l1Split.K0))) = spec_l1Split.o3 N v0 v1 v2 v3 ((fun w0 w1 w2 w3 => Kn122 (mkSt [(0, .one (.str w0)), (1, .one (.int .u8 w1)), (5, .one (.nl)), (6, .one (.int .i64 w2)), (7, .one (.int .i64 w3))] [] : St D0))) := by kernel_rfl
noncomputable def spec_l1Split.d3 (N : Nat) (v0 : ByteArray) (v1 : Int) (v2 : Int) (v3 : Int) (c1 : ByteArray → Int → Int → Int → Option spec_l1Split.R) : Option spec_l1Split.R := spec_l1Split.o3 N v0 v1 v2 v3 c1
theorem spec_l1Split.d3.run (N : Nat) (Kn122 : St D0 → Option spec_l1Split.R) (v0 : ByteArray) (v1 : Int) (v2 : Int) (v3 : Int) : runC spec_l1Split.C (spec_l1Split.O N) N spec_l1Split.c979 979 (mkSt [(0, .one (.str v0)), (1, .one (.int .u8 v1)), (5, .one (.nl)), (6, .one (.int .i64 v2)), (7, .one (.int .i64 v3))] [] : St D0) (spec_l1Split.K979 N Kn122) = spec_l1Split.d3 N v0 v1 v2 v3 ((fun w0 w1 w2 w3 => Kn122 (mkSt [(0, .one (.str w0)), (1, .one (.int .u8 w1)), (5, .one (.nl)), (6, .one (.int .i64 w2)), (7, .one (.int .i64 w3))] [] : St D0))) := by
  exact (spec_l1Split.o3.run N Kn122 v0 v1 v2 v3).trans rfl
noncomputable def spec_l1Split.K244 (N : Nat) (Kn122 : St D0 → Option spec_l1Split.R) : Ex → St D0 → Option spec_l1Split.R := ((fun up => (onN (fun s => spec_l1Split.C.tidy 122 s ((onN Kn122 up) .normal)) (onN Kn122 up))) (blockK 0 (onN (fun s => spec_l1Split.C.tidy 30 s (fun s' => runC spec_l1Split.C (spec_l1Split.O N) N spec_l1Split.c31 31 s' spec_l1Split.K0)) spec_l1Split.K0)))
noncomputable def spec_l1Split.o1 (N : Nat) (v0 : ByteArray) (v1 : Int) (v2 : Int) (v3 : Int) (c2 : ByteArray → Int → (List ByteArray) → Int → Int → Option spec_l1Split.R) (c3 : ByteArray → Int → Int → Int → Option spec_l1Split.R) : Option spec_l1Split.R :=
 bif (decide (v3 < (v0.size : Int))) then
  bif (decide (0 ≤ v3)) then
   bif (decide (v3 < (v0.size : Int))) then
    bif ((bt v0 v3) == v1) then
     bif (decide (0 ≤ v3)) then
      bif (decide (v3 ≤ (v0.size : Int))) then
       bif (decide (0 ≤ v2)) then
        bif (decide (v2 ≤ v3)) then
         bif (Nat.blt (([] : List ByteArray).length + ([(v0.extract (v2 : Int).toNat (v3 : Int).toNat)] : List ByteArray).length) 8796093022208) then
          c2 v0 v1 (([] : List ByteArray) ++ ([(v0.extract (v2 : Int).toNat (v3 : Int).toNat)] : List ByteArray)) (w64 (v3 + 1)) v3
         else
         none
        else
        none
       else
       none
      else
      none
     else
     none
    else
    c3 v0 v1 v2 v3
   else
   none
  else
  none
 else
 bif (decide (0 ≤ (v0.size : Int))) then
  bif (decide ((v0.size : Int) ≤ (v0.size : Int))) then
   bif (decide (0 ≤ v2)) then
    bif (decide (v2 ≤ (v0.size : Int))) then
     bif (Nat.blt (([] : List ByteArray).length + ([(v0.extract (v2 : Int).toNat ((v0.size : Int) : Int).toNat)] : List ByteArray).length) 8796093022208) then
      some ((([] : List ByteArray) ++ ([(v0.extract (v2 : Int).toNat ((v0.size : Int) : Int).toNat)] : List ByteArray)))
     else
     none
    else
    none
   else
   none
  else
  none
 else
 none
theorem spec_l1Split.o1.run (N : Nat) (Kn122 : St D0 → Option spec_l1Split.R) (H979 : Code) (v0 : ByteArray) (v1 : Int) (v2 : Int) (v3 : Int) : runC spec_l1Split.C (spec_l1Split.O N) N (.seq spec_l1Split.c488 (.seq spec_l1Split.c978 H979)) 244 (mkSt [(0, .one (.str v0)), (1, .one (.int .u8 v1)), (5, .one (.nl)), (6, .one (.int .i64 v2)), (7, .one (.int .i64 v3))] [] : St D0) ((fun up => (onN (fun s => spec_l1Split.C.tidy 122 s ((onN Kn122 up) .normal)) (onN Kn122 up))) (blockK 0 (onN (fun s => spec_l1Split.C.tidy 30 s (fun s' => runC spec_l1Split.C (spec_l1Split.O N) N spec_l1Split.c31 31 s' spec_l1Split.K0)) spec_l1Split.K0))) = spec_l1Split.o1 N v0 v1 v2 v3 ((fun w0 w1 w2 w3 w4 => runC spec_l1Split.C (spec_l1Split.O N) N H979 979 (mkSt [(0, .one (.str w0)), (1, .one (.int .u8 w1)), (5, .one (.sl true 9 w2)), (6, .one (.int .i64 w3)), (7, .one (.int .i64 w4))] [] : St D0) ((fun up => (onN (fun s => spec_l1Split.C.tidy 122 s ((onN Kn122 up) .normal)) (onN Kn122 up))) (blockK 0 (onN (fun s => spec_l1Split.C.tidy 30 s (fun s' => runC spec_l1Split.C (spec_l1Split.O N) N spec_l1Split.c31 31 s' spec_l1Split.K0)) spec_l1Split.K0))))) ((fun w0 w1 w2 w3 => runC spec_l1Split.C (spec_l1Split.O N) N H979 979 (mkSt [(0, .one (.str w0)), (1, .one (.int .u8 w1)), (5, .one (.nl)), (6, .one (.int .i64 w2)), (7, .one (.int .i64 w3))] [] : St D0) ((fun up => (onN (fun s => spec_l1Split.C.tidy 122 s ((onN Kn122 up) .normal)) (onN Kn122 up))) (blockK 0 (onN (fun s => spec_l1Split.C.tidy 30 s (fun s' => runC spec_l1Split.C (spec_l1Split.O N) N spec_l1Split.c31 31 s' spec_l1Split.K0)) spec_l1Split.K0))))) := by kernel_rfl
noncomputable def spec_l1Split.B489 (N : Nat) (Kn122 : St D0 → Option spec_l1Split.R) : St D0 → Option spec_l1Split.R := fun s' => runC spec_l1Split.C (spec_l1Split.O N) N spec_l1Split.c979 979 s' (spec_l1Split.K979 N Kn122)
noncomputable def spec_l1Split.d1 (N : Nat) (v0 : ByteArray) (v1 : Int) (v2 : Int) (v3 : Int) (c1 : ByteArray → Int → Int → Int → Option spec_l1Split.R) (c4 : ByteArray → Int → (List ByteArray) → Int → Int → Option spec_l1Split.R) : Option spec_l1Split.R := spec_l1Split.o1 N v0 v1 v2 v3 ((fun w0 w1 w2 w3 w4 => spec_l1Split.d2 N w0 w1 w2 w3 w4 c4)) ((fun w0 w1 w2 w3 => spec_l1Split.d3 N w0 w1 w2 w3 c1))
theorem spec_l1Split.c244_1 : spec_l1Split.c244 = (.seq spec_l1Split.c488 (.seq spec_l1Split.c978 spec_l1Split.c979)) := by kernel_rfl
theorem spec_l1Split.d1.run (N : Nat) (Kn122 : St D0 → Option spec_l1Split.R) (v0 : ByteArray) (v1 : Int) (v2 : Int) (v3 : Int) : runC spec_l1Split.C (spec_l1Split.O N) N spec_l1Split.c244 244 (mkSt [(0, .one (.str v0)), (1, .one (.int .u8 v1)), (5, .one (.nl)), (6, .one (.int .i64 v2)), (7, .one (.int .i64 v3))] [] : St D0) (spec_l1Split.K244 N Kn122) = spec_l1Split.d1 N v0 v1 v2 v3 ((fun w0 w1 w2 w3 => Kn122 (mkSt [(0, .one (.str w0)), (1, .one (.int .u8 w1)), (5, .one (.nl)), (6, .one (.int .i64 w2)), (7, .one (.int .i64 w3))] [] : St D0))) ((fun w0 w1 w2 w3 w4 => Kn122 (mkSt [(0, .one (.str w0)), (1, .one (.int .u8 w1)), (5, .one (.sl true 9 w2)), (6, .one (.int .i64 w3)), (7, .one (.int .i64 w4))] [] : St D0))) := by
  rw [spec_l1Split.c244_1]; unfold spec_l1Split.d1; exact (spec_l1Split.o1.run N Kn122 spec_l1Split.c979 v0 v1 v2 v3).trans (congr (congr rfl (funext fun w0 => funext fun w1 => funext fun w2 => funext fun w3 => funext fun w4 => spec_l1Split.d2.run N Kn122 w0 w1 w2 w3 w4)) (funext fun w0 => funext fun w1 => funext fun w2 => funext fun w3 => spec_l1Split.d3.run N Kn122 w0 w1 w2 w3))
noncomputable def spec_l1Split.o4 (N : Nat) (v0 : ByteArray) (v1 : Int) (v2 : List ByteArray) (v3 : Int) (v4 : Int) (c2 : ByteArray → Int → (List ByteArray) → Int → Int → Option spec_l1Split.R) : Option spec_l1Split.R :=
 bif (decide (v4 < (v0.size : Int))) then
  bif (decide (0 ≤ v4)) then
   bif (decide (v4 < (v0.size : Int))) then
    bif ((bt v0 v4) == v1) then
     bif (decide (0 ≤ v4)) then
      bif (decide (v4 ≤ (v0.size : Int))) then
       bif (decide (0 ≤ v3)) then
        bif (decide (v3 ≤ v4)) then
         bif (Nat.blt (v2.length + ([(v0.extract (v3 : Int).toNat (v4 : Int).toNat)] : List ByteArray).length) 8796093022208) then
          c2 v0 v1 (v2 ++ ([(v0.extract (v3 : Int).toNat (v4 : Int).toNat)] : List ByteArray)) (w64 (v4 + 1)) v4
         else
         none
        else
        none
       else
       none
      else
      none
     else
     none
    else
    c2 v0 v1 v2 v3 v4
   else
   none
  else
  none
 else
 bif (decide (0 ≤ (v0.size : Int))) then
  bif (decide ((v0.size : Int) ≤ (v0.size : Int))) then
   bif (decide (0 ≤ v3)) then
    bif (decide (v3 ≤ (v0.size : Int))) then
     bif (Nat.blt (v2.length + ([(v0.extract (v3 : Int).toNat ((v0.size : Int) : Int).toNat)] : List ByteArray).length) 8796093022208) then
      some ((v2 ++ ([(v0.extract (v3 : Int).toNat ((v0.size : Int) : Int).toNat)] : List ByteArray)))
     else
     none
    else
    none
   else
   none
  else
  none
 else
 none
theorem spec_l1Split.o4.run (N : Nat) (Kn122 : St D0 → Option spec_l1Split.R) (H979 : Code) (v0 : ByteArray) (v1 : Int) (v2 : List ByteArray) (v3 : Int) (v4 : Int) : runC spec_l1Split.C (spec_l1Split.O N) N (.seq spec_l1Split.c488 (.seq spec_l1Split.c978 H979)) 244 (mkSt [(0, .one (.str v0)), (1, .one (.int .u8 v1)), (5, .one (.sl true 9 v2)), (6, .one (.int .i64 v3)), (7, .one (.int .i64 v4))] [] : St D0) ((fun up => (onN (fun s => spec_l1Split.C.tidy 122 s ((onN Kn122 up) .normal)) (onN Kn122 up))) (blockK 0 (onN (fun s => spec_l1Split.C.tidy 30 s (fun s' => runC spec_l1Split.C (spec_l1Split.O N) N spec_l1Split.c31 31 s' spec_l1Split.K0)) spec_l1Split.K0))) = spec_l1Split.o4 N v0 v1 v2 v3 v4 ((fun w0 w1 w2 w3 w4 => runC spec_l1Split.C (spec_l1Split.O N) N H979 979 (mkSt [(0, .one (.str w0)), (1, .one (.int .u8 w1)), (5, .one (.sl true 9 w2)), (6, .one (.int .i64 w3)), (7, .one (.int .i64 w4))] [] : St D0) ((fun up => (onN (fun s => spec_l1Split.C.tidy 122 s ((onN Kn122 up) .normal)) (onN Kn122 up))) (blockK 0 (onN (fun s => spec_l1Split.C.tidy 30 s (fun s' => runC spec_l1Split.C (spec_l1Split.O N) N spec_l1Split.c31 31 s' spec_l1Split.K0)) spec_l1Split.K0))))) := by kernel_rfl
noncomputable def spec_l1Split.d4 (N : Nat) (v0 : ByteArray) (v1 : Int) (v2 : List ByteArray) (v3 : Int) (v4 : Int) (c4 : ByteArray → Int → (List ByteArray) → Int → Int → Option spec_l1Split.R) : Option spec_l1Split.R := spec_l1Split.o4 N v0 v1 v2 v3 v4 ((fun w0 w1 w2 w3 w4 => spec_l1Split.d2 N w0 w1 w2 w3 w4 c4))
theorem spec_l1Split.c244_4 : spec_l1Split.c244 = (.seq spec_l1Split.c488 (.seq spec_l1Split.c978 spec_l1Split.c979)) := by kernel_rfl
theorem spec_l1Split.d4.run (N : Nat) (Kn122 : St D0 → Option spec_l1Split.R) (v0 : ByteArray) (v1 : Int) (v2 : List ByteArray) (v3 : Int) (v4 : Int) : runC spec_l1Split.C (spec_l1Split.O N) N spec_l1Split.c244 244 (mkSt [(0, .one (.str v0)), (1, .one (.int .u8 v1)), (5, .one (.sl true 9 v2)), (6, .one (.int .i64 v3)), (7, .one (.int .i64 v4))] [] : St D0) (spec_l1Split.K244 N Kn122) = spec_l1Split.d4 N v0 v1 v2 v3 v4 ((fun w0 w1 w2 w3 w4 => Kn122 (mkSt [(0, .one (.str w0)), (1, .one (.int .u8 w1)), (5, .one (.sl true 9 w2)), (6, .one (.int .i64 w3)), (7, .one (.int .i64 w4))] [] : St D0))) := by
  rw [spec_l1Split.c244_4]; unfold spec_l1Split.d4; exact (spec_l1Split.o4.run N Kn122 spec_l1Split.c979 v0 v1 v2 v3 v4).trans (congr rfl (funext fun w0 => funext fun w1 => funext fun w2 => funext fun w3 => funext fun w4 => spec_l1Split.d2.run N Kn122 w0 w1 w2 w3 w4))
noncomputable def spec_l1Split.K122 (N : Nat) : Ex → St D0 → Option spec_l1Split.R := (blockK 0 (onN (fun s => spec_l1Split.C.tidy 30 s (fun s' => runC spec_l1Split.C (spec_l1Split.O N) N spec_l1Split.c31 31 s' spec_l1Split.K0)) spec_l1Split.K0))
mutual
noncomputable def spec_l1Split.l1 (N : Nat) : Nat → ByteArray → Int → Int → Int → Option spec_l1Split.R
  | 0, _, _, _, _ => none
  | n + 1, v0, v1, v2, v3 => spec_l1Split.d1 N v0 v1 v2 v3 ((fun w0 w1 w2 w3 => spec_l1Split.l1 N n w0 w1 w2 w3)) ((fun w0 w1 w2 w3 w4 => spec_l1Split.l4 N n w0 w1 w2 w3 w4))
noncomputable def spec_l1Split.l4 (N : Nat) : Nat → ByteArray → Int → (List ByteArray) → Int → Int → Option spec_l1Split.R
  | 0, _, _, _, _, _ => none
  | n + 1, v0, v1, v2, v3, v4 => spec_l1Split.d4 N v0 v1 v2 v3 v4 ((fun w0 w1 w2 w3 w4 => spec_l1Split.l4 N n w0 w1 w2 w3 w4))
end
theorem spec_l1Split.loop122 (N : Nat) : ∀ n, (∀ (v0 : ByteArray) (v1 : Int) (v2 : Int) (v3 : Int), iter (loopF spec_l1Split.C (spec_l1Split.O N) N spec_l1Split.c244 122) n (mkSt [(0, .one (.str v0)), (1, .one (.int .u8 v1)), (5, .one (.nl)), (6, .one (.int .i64 v2)), (7, .one (.int .i64 v3))] [] : St D0) (spec_l1Split.K122 N) = spec_l1Split.l1 N n v0 v1 v2 v3) ∧ (∀ (v0 : ByteArray) (v1 : Int) (v2 : List ByteArray) (v3 : Int) (v4 : Int), iter (loopF spec_l1Split.C (spec_l1Split.O N) N spec_l1Split.c244 122) n (mkSt [(0, .one (.str v0)), (1, .one (.int .u8 v1)), (5, .one (.sl true 9 v2)), (6, .one (.int .i64 v3)), (7, .one (.int .i64 v4))] [] : St D0) (spec_l1Split.K122 N) = spec_l1Split.l4 N n v0 v1 v2 v3 v4)
  | 0 => ⟨(fun v0 v1 v2 v3 => rfl), (fun v0 v1 v2 v3 v4 => rfl)⟩
  | n + 1 => ⟨(fun v0 v1 v2 v3 => (spec_l1Split.d1.run N (fun s => iter (loopF spec_l1Split.C (spec_l1Split.O N) N spec_l1Split.c244 122) n s (spec_l1Split.K122 N)) v0 v1 v2 v3).trans (show _ = spec_l1Split.d1 N v0 v1 v2 v3 ((fun w0 w1 w2 w3 => spec_l1Split.l1 N n w0 w1 w2 w3)) ((fun w0 w1 w2 w3 w4 => spec_l1Split.l4 N n w0 w1 w2 w3 w4)) from (congr (congr rfl (funext fun w0 => funext fun w1 => funext fun w2 => funext fun w3 => (spec_l1Split.loop122 N n).1 w0 w1 w2 w3)) (funext fun w0 => funext fun w1 => funext fun w2 => funext fun w3 => funext fun w4 => (spec_l1Split.loop122 N n).2 w0 w1 w2 w3 w4)))), (fun v0 v1 v2 v3 v4 => (spec_l1Split.d4.run N (fun s => iter (loopF spec_l1Split.C (spec_l1Split.O N) N spec_l1Split.c244 122) n s (spec_l1Split.K122 N)) v0 v1 v2 v3 v4).trans (show _ = spec_l1Split.d4 N v0 v1 v2 v3 v4 ((fun w0 w1 w2 w3 w4 => spec_l1Split.l4 N n w0 w1 w2 w3 w4)) from (congr rfl (funext fun w0 => funext fun w1 => funext fun w2 => funext fun w3 => funext fun w4 => (spec_l1Split.loop122 N n).2 w0 w1 w2 w3 w4))))⟩
noncomputable def spec_l1Split.o0 (N : Nat) (a0 : ByteArray) (a1 : Int) (c1 : ByteArray → Int → Int → Int → Option spec_l1Split.R) : Option spec_l1Split.R :=
 c1 a0 a1 0 0
theorem spec_l1Split.o0.run (N : Nat) (H244 : Code) (a0 : ByteArray) (a1 : Int) : runC spec_l1Split.C (spec_l1Split.O N) N (.seq spec_l1Split.c2 (.seq spec_l1Split.c6 (.seq spec_l1Split.c14 (.seq (.seq spec_l1Split.c60 (.block 0 (.loop H244))) spec_l1Split.c31)))) 1 (st0 [.one (.str a0), .one (.int .u8 a1)] [] : St D0) spec_l1Split.K0 = spec_l1Split.o0 N a0 a1 ((fun w0 w1 w2 w3 => iter (loopF spec_l1Split.C (spec_l1Split.O N) N H244 122) N (mkSt [(0, .one (.str w0)), (1, .one (.int .u8 w1)), (5, .one (.nl)), (6, .one (.int .i64 w2)), (7, .one (.int .i64 w3))] [] : St D0) (blockK 0 (onN (fun s => spec_l1Split.C.tidy 30 s (fun s' => runC spec_l1Split.C (spec_l1Split.O N) N spec_l1Split.c31 31 s' spec_l1Split.K0)) spec_l1Split.K0)))) := by kernel_rfl
noncomputable def spec_l1Split.g (N : Nat) (a0 : ByteArray) (a1 : Int) : Option spec_l1Split.R := spec_l1Split.o0 N a0 a1 ((fun w0 w1 w2 w3 => spec_l1Split.l1 N N w0 w1 w2 w3))
theorem spec_l1Split.c1_0 : spec_l1Split.c1 = (.seq spec_l1Split.c2 (.seq spec_l1Split.c6 (.seq spec_l1Split.c14 (.seq (.seq spec_l1Split.c60 (.block 0 (.loop spec_l1Split.c244))) spec_l1Split.c31)))) := by kernel_rfl
theorem spec_l1Split.g.run (N : Nat) (a0 : ByteArray) (a1 : Int) : runC spec_l1Split.C (spec_l1Split.O N) N spec_l1Split.c1 1 (st0 [.one (.str a0), .one (.int .u8 a1)] [] : St D0) spec_l1Split.K0 = spec_l1Split.g N a0 a1 := by
  rw [spec_l1Split.c1_0]; unfold spec_l1Split.g; exact (spec_l1Split.o0.run N spec_l1Split.c244 a0 a1).trans (congr rfl (funext fun w0 => funext fun w1 => funext fun w2 => funext fun w3 => (spec_l1Split.loop122 N N).1 w0 w1 w2 w3))
theorem spec_l1Split.good (N : Nat) (a0 : ByteArray) (a1 : Int) (r : spec_l1Split.R) (h : spec_l1Split.g N a0 a1 = some r) : Go.PM.Good Go.Proofs.Tryd.prog T0 50 [.one (.str a0), .one (.int .u8 a1)] [] (spec_l1Split.sig.ret r) (spec_l1Split.sig.bs r) :=
  good_fn tabOk0 mixed0 spec_l1Split.sig (spec_l1Split.E N) Go.Proofs.Tryd.func50 (by kernel_rfl) (by kernel_rfl) 264435 0 0 [(122, [0, 1, 5, 6, 7], []), (978, [0, 1, 5, 6, 7], [])] 1685246720 false [] [(false, [.own 9])] (by kernel_rfl) rfl rfl ((spec_l1Split.g.run N a0 a1).trans h)
noncomputable def spec_l1Split.ent (N : Nat) : Ent Go.Proofs.Tryd.prog T0 := mkEnt 50 [(false, [.any]), (false, [.any])] spec_l1Split.sig (fun t => spec_l1Split.g N t.1 t.2) (fun t r h => spec_l1Split.good N t.1 t.2 r h)
end Go.Proofs.YtpmipkbfohcjiaaDoor.M

namespace Go.Proofs.YtpmipkbfohcjiaaDoor.M
open Go Go.PM Go.Proofs.YtpmipkbfohcjiaaDoor.P
set_option linter.unusedVariables false
set_option maxRecDepth 100000
/-! ### impl_MirrorTune -/
abbrev impl_MirrorTune.R : Type := List ByteArray × Bool
abbrev impl_MirrorTune.sig : Sig := ⟨[(false, 1)], [], [.sl false 9], [(false, 1), (false, 1)], [], [.sl true 9, .bool]⟩
noncomputable def impl_MirrorTune.C : Cfg D0 := ⟨Go.Proofs.Tryd.prog, T0, 14805469, 0, 40, 0, [(122, [4, 13, 14, 15], []), (125338, [4, 6, 7, 13, 14, 15, 21, 22], [])], 17382244864, false, []⟩
noncomputable def impl_MirrorTune.E (N : Nat) : List (Ent Go.Proofs.Tryd.prog T0) := [impl_IsTune.ent N]
noncomputable def impl_MirrorTune.O (N : Nat) : Orc D0 impl_MirrorTune.R := orcOf (impl_MirrorTune.E N)
noncomputable def impl_MirrorTune.K0 : Ex → St D0 → Option impl_MirrorTune.R := exitK impl_MirrorTune.C Go.Proofs.Tryd.f9.results.toList [(false, [.own 9]), (false, [.any])] (decOut impl_MirrorTune.sig)
noncomputable def impl_MirrorTune.c1 : Code := codeAt (Go.Proofs.Tryd.f9.body.getD .skip) []
noncomputable def impl_MirrorTune.c2 : Code := codeAt (Go.Proofs.Tryd.f9.body.getD .skip) [false]
noncomputable def impl_MirrorTune.c6 : Code := codeAt (Go.Proofs.Tryd.f9.body.getD .skip) [true, false]
noncomputable def impl_MirrorTune.c14 : Code := codeAt (Go.Proofs.Tryd.f9.body.getD .skip) [true, true, false]
noncomputable def impl_MirrorTune.c31 : Code := codeAt (Go.Proofs.Tryd.f9.body.getD .skip) [true, true, true, true]
noncomputable def impl_MirrorTune.c60 : Code := codeAt (Go.Proofs.Tryd.f9.body.getD .skip) [true, true, true, false, false]
noncomputable def impl_MirrorTune.c244 : Code := codeAt (Go.Proofs.Tryd.f9.body.getD .skip) [true, true, true, false, true, false, false]
noncomputable def impl_MirrorTune.c488 : Code := codeAt (Go.Proofs.Tryd.f9.body.getD .skip) [true, true, true, false, true, false, false, false]
noncomputable def impl_MirrorTune.c978 : Code := codeAt (Go.Proofs.Tryd.f9.body.getD .skip) [true, true, true, false, true, false, false, true, false]
noncomputable def impl_MirrorTune.c1959 : Code := codeAt (Go.Proofs.Tryd.f9.body.getD .skip) [true, true, true, false, true, false, false, true, true, true]
noncomputable def impl_MirrorTune.c7832 : Code := codeAt (Go.Proofs.Tryd.f9.body.getD .skip) [true, true, true, false, true, false, false, true, true, false, false, false]
noncomputable def impl_MirrorTune.c15666 : Code := codeAt (Go.Proofs.Tryd.f9.body.getD .skip) [true, true, true, false, true, false, false, true, true, false, false, true, false]
noncomputable def impl_MirrorTune.c31335 : Code := codeAt (Go.Proofs.Tryd.f9.body.getD .skip) [true, true, true, false, true, false, false, true, true, false, false, true, true, true]
noncomputable def impl_MirrorTune.c62668 : Code := codeAt (Go.Proofs.Tryd.f9.body.getD .skip) [true, true, true, false, true, false, false, true, true, false, false, true, true, false, false]
noncomputable def impl_MirrorTune.c250676 : Code := codeAt (Go.Proofs.Tryd.f9.body.getD .skip) [true, true, true, false, true, false, false, true, true, false, false, true, true, false, true, false, false]
noncomputable def impl_MirrorTune.K250676 (N : Nat) (Kn122 : St D0 → Option impl_MirrorTune.R) (Kn125338 : St D0 → Option impl_MirrorTune.R) : Ex → St D0 → Option impl_MirrorTune.R := ((fun up => (onN (fun s => impl_MirrorTune.C.tidy 125338 s ((onN Kn125338 up) .normal)) (onN Kn125338 up))) (blockK 2 ((fun up => (onN (fun s => impl_MirrorTune.C.tidy 31334 s (fun s' => runC impl_MirrorTune.C (impl_MirrorTune.O N) N impl_MirrorTune.c31335 31335 s' up)) up)) (blockK 1 ((fun up => (onN (fun s => impl_MirrorTune.C.tidy 1958 s (fun s' => runC impl_MirrorTune.C (impl_MirrorTune.O N) N impl_MirrorTune.c1959 1959 s' up)) up)) ((fun up => (onN (fun s => impl_MirrorTune.C.tidy 122 s ((onN Kn122 up) .normal)) (onN Kn122 up))) (blockK 0 (onN (fun s => impl_MirrorTune.C.tidy 30 s (fun s' => runC impl_MirrorTune.C (impl_MirrorTune.O N) N impl_MirrorTune.c31 31 s' impl_MirrorTune.K0)) impl_MirrorTune.K0))))))))
noncomputable def impl_MirrorTune.o2 (N : Nat) (v0 : List ByteArray) (v1 : ByteArray) (v2 : List Int) (v3 : List ByteArray) (v4 : Int) (v5 : Int) (v6 : Int) (v7 : Int) (c2 : (List ByteArray) → ByteArray → (List Int) → (List ByteArray) → Int → Int → Int → Int → Option impl_MirrorTune.R) (c1 : (List ByteArray) → (List ByteArray) → Int → Int → Option impl_MirrorTune.R) : Option impl_MirrorTune.R :=
 bif (decide (v7 < v6)) then
  bif (decide (0 ≤ v7)) then
   bif (decide (v7 < (v1.size : Int))) then
    bif (Nat.blt (v2.length + ([((IntKind.wrap .u8) (105 - (bt v1 v7)))] : List Int).length) 140737488355328) then
     c2 v0 v1 (v2 ++ ([((IntKind.wrap .u8) (105 - (bt v1 v7)))] : List Int)) v3 v4 v5 v6 (w64 (v7 + 1))
    else
    none
   else
   none
  else
  none
 else
 (numsO T0 5 v2).bind fun r1 =>
 bif (Nat.blt (v0.length + ([(strOfNums r1)] : List ByteArray).length) 8796093022208) then
  c1 (v0 ++ ([(strOfNums r1)] : List ByteArray)) v3 v4 (w64 (v5 + 1))
 else
 none
theorem impl_MirrorTune.o2.run (N : Nat) (Kn122 : St D0 → Option impl_MirrorTune.R) (Kn125338 : St D0 → Option impl_MirrorTune.R) (v0 : List ByteArray) (v1 : ByteArray) (v2 : List Int) (v3 : List ByteArray) (v4 : Int) (v5 : Int) (v6 : Int) (v7 : Int) : runC impl_MirrorTune.C (impl_MirrorTune.O N) N impl_MirrorTune.c250676 250676 (mkSt [(4, .one (.sl true 9 v0)), (6, .one (.str v1)), (7, .one (.sl true 5 v2)), (13, .one (.sl false 9 v3)), (14, .one (.int .i64 v4)), (15, .one (.int .i64 v5)), (21, .one (.int .i64 v6)), (22, .one (.int .i64 v7))] [] : St D0) ((fun up => (onN (fun s => impl_MirrorTune.C.tidy 125338 s ((onN Kn125338 up) .normal)) (onN Kn125338 up))) (blockK 2 ((fun up => (onN (fun s => impl_MirrorTune.C.tidy 31334 s (fun s' => runC impl_MirrorTune.C (impl_MirrorTune.O N) N impl_MirrorTune.c31335 31335 s' up)) up)) (blockK 1 ((fun up => (onN (fun s => impl_MirrorTune.C.tidy 1958 s (fun s' => runC impl_MirrorTune.C (impl_MirrorTune.O N) N impl_MirrorTune.c1959 1959 s' up)) up)) ((fun up => (onN (fun s => impl_MirrorTune.C.tidy 122 s ((onN Kn122 up) .normal)) (onN Kn122 up))) (blockK 0 (onN (fun s => impl_MirrorTune.C.tidy 30 s (fun s' => runC impl_MirrorTune.C (impl_MirrorTune.O N) N impl_MirrorTune.c31 31 s' impl_MirrorTune.K0)) impl_MirrorTune.K0)))))))) = impl_MirrorTune.o2 N v0 v1 v2 v3 v4 v5 v6 v7 ((fun w0 w1 w2 w3 w4 w5 w6 w7 => Kn125338 (mkSt [(4, .one (.sl true 9 w0)), (6, .one (.str w1)), (7, .one (.sl true 5 w2)), (13, .one (.sl false 9 w3)), (14, .one (.int .i64 w4)), (15, .one (.int .i64 w5)), (21, .one (.int .i64 w6)), (22, .one (.int .i64 w7))] [] : St D0))) ((fun w0 w1 w2 w3 => Kn122 (mkSt [(4, .one (.sl true 9 w0)), (13, .one (.sl false 9 w1)), (14, .one (.int .i64 w2)), (15, .one (.int .i64 w3))] [] : St D0))) := by kernel_rfl
noncomputable def impl_MirrorTune.d2 (N : Nat) (v0 : List ByteArray) (v1 : ByteArray) (v2 : List Int) (v3 : List ByteArray) (v4 : Int) (v5 : Int) (v6 : Int) (v7 : Int) (c1 : (List ByteArray) → (List ByteArray) → Int → Int → Option impl_MirrorTune.R) (c2 : (List ByteArray) → ByteArray → (List Int) → (List ByteArray) → Int → Int → Int → Int → Option impl_MirrorTune.R) : Option impl_MirrorTune.R := impl_MirrorTune.o2 N v0 v1 v2 v3 v4 v5 v6 v7 c2 c1
theorem impl_MirrorTune.d2.run (N : Nat) (Kn122 : St D0 → Option impl_MirrorTune.R) (Kn125338 : St D0 → Option impl_MirrorTune.R) (v0 : List ByteArray) (v1 : ByteArray) (v2 : List Int) (v3 : List ByteArray) (v4 : Int) (v5 : Int) (v6 : Int) (v7 : Int) : runC impl_MirrorTune.C (impl_MirrorTune.O N) N impl_MirrorTune.c250676 250676 (mkSt [(4, .one (.sl true 9 v0)), (6, .one (.str v1)), (7, .one (.sl true 5 v2)), (13, .one (.sl false 9 v3)), (14, .one (.int .i64 v4)), (15, .one (.int .i64 v5)), (21, .one (.int .i64 v6)), (22, .one (.int .i64 v7))] [] : St D0) (impl_MirrorTune.K250676 N Kn122 Kn125338) = impl_MirrorTune.d2 N v0 v1 v2 v3 v4 v5 v6 v7 ((fun w0 w1 w2 w3 => Kn122 (mkSt [(4, .one (.sl true 9 w0)), (13, .one (.sl false 9 w1)), (14, .one (.int .i64 w2)), (15, .one (.int .i64 w3))] [] : St D0))) ((fun w0 w1 w2 w3 w4 w5 w6 w7 => Kn125338 (mkSt [(4, .one (.sl true 9 w0)), (6, .one (.str w1)), (7, .one (.sl true 5 w2)), (13, .one (.sl false 9 w3)), (14, .one (.int .i64 w4)), (15, .one (.int .i64 w5)), (21, .one (.int .i64 w6)), (22, .one (.int .i64 w7))] [] : St D0))) := by
  exact (impl_MirrorTune.o2.run N Kn122 Kn125338 v0 v1 v2 v3 v4 v5 v6 v7).trans rfl
noncomputable def impl_MirrorTune.K125338 (N : Nat) (Kn122 : St D0 → Option impl_MirrorTune.R) : Ex → St D0 → Option impl_MirrorTune.R := (blockK 2 ((fun up => (onN (fun s => impl_MirrorTune.C.tidy 31334 s (fun s' => runC impl_MirrorTune.C (impl_MirrorTune.O N) N impl_MirrorTune.c31335 31335 s' up)) up)) (blockK 1 ((fun up => (onN (fun s => impl_MirrorTune.C.tidy 1958 s (fun s' => runC impl_MirrorTune.C (impl_MirrorTune.O N) N impl_MirrorTune.c1959 1959 s' up)) up)) ((fun up => (onN (fun s => impl_MirrorTune.C.tidy 122 s ((onN Kn122 up) .normal)) (onN Kn122 up))) (blockK 0 (onN (fun s => impl_MirrorTune.C.tidy 30 s (fun s' => runC impl_MirrorTune.C (impl_MirrorTune.O N) N impl_MirrorTune.c31 31 s' impl_MirrorTune.K0)) impl_MirrorTune.K0)))))))
noncomputable def impl_MirrorTune.l2 (N : Nat) : Nat → (List ByteArray) → ByteArray → (List Int) → (List ByteArray) → Int → Int → Int → Int → ((List ByteArray) → (List ByteArray) → Int → Int → Option impl_MirrorTune.R) → Option impl_MirrorTune.R
  | 0, _, _, _, _, _, _, _, _, _ => none
  | n + 1, v0, v1, v2, v3, v4, v5, v6, v7, c1 => impl_MirrorTune.d2 N v0 v1 v2 v3 v4 v5 v6 v7 c1 ((fun w0 w1 w2 w3 w4 w5 w6 w7 => impl_MirrorTune.l2 N n w0 w1 w2 w3 w4 w5 w6 w7 c1))
theorem impl_MirrorTune.loop125338 (N : Nat) (Kn122 : St D0 → Option impl_MirrorTune.R) : ∀ n, (∀ (v0 : List ByteArray) (v1 : ByteArray) (v2 : List Int) (v3 : List ByteArray) (v4 : Int) (v5 : Int) (v6 : Int) (v7 : Int), iter (loopF impl_MirrorTune.C (impl_MirrorTune.O N) N impl_MirrorTune.c250676 125338) n (mkSt [(4, .one (.sl true 9 v0)), (6, .one (.str v1)), (7, .one (.sl true 5 v2)), (13, .one (.sl false 9 v3)), (14, .one (.int .i64 v4)), (15, .one (.int .i64 v5)), (21, .one (.int .i64 v6)), (22, .one (.int .i64 v7))] [] : St D0) (impl_MirrorTune.K125338 N Kn122) = impl_MirrorTune.l2 N n v0 v1 v2 v3 v4 v5 v6 v7 ((fun w0 w1 w2 w3 => Kn122 (mkSt [(4, .one (.sl true 9 w0)), (13, .one (.sl false 9 w1)), (14, .one (.int .i64 w2)), (15, .one (.int .i64 w3))] [] : St D0))))
  | 0 => (fun v0 v1 v2 v3 v4 v5 v6 v7 => rfl)
  | n + 1 => (fun v0 v1 v2 v3 v4 v5 v6 v7 => (impl_MirrorTune.d2.run N Kn122 (fun s => iter (loopF impl_MirrorTune.C (impl_MirrorTune.O N) N impl_MirrorTune.c250676 125338) n s (impl_MirrorTune.K125338 N Kn122)) v0 v1 v2 v3 v4 v5 v6 v7).trans (show _ = impl_MirrorTune.d2 N v0 v1 v2 v3 v4 v5 v6 v7 ((fun w0 w1 w2 w3 => Kn122 (mkSt [(4, .one (.sl true 9 w0)), (13, .one (.sl false 9 w1)), (14, .one (.int .i64 w2)), (15, .one (.int .i64 w3))] [] : St D0))) ((fun w0 w1 w2 w3 w4 w5 w6 w7 => impl_MirrorTune.l2 N n w0 w1 w2 w3 w4 w5 w6 w7 ((fun w0 w1 w2 w3 => Kn122 (mkSt [(4, .one (.sl true 9 w0)), (13, .one (.sl false 9 w1)), (14, .one (.int .i64 w2)), (15, .one (.int .i64 w3))] [] : St D0))))) from (congr (congr rfl rfl) (funext fun w0 => funext fun w1 => funext fun w2 => funext fun w3 => funext fun w4 => funext fun w5 => funext fun w6 => funext fun w7 => (impl_MirrorTune.loop125338 N Kn122 n) w0 w1 w2 w3 w4 w5 w6 w7))))
noncomputable def impl_MirrorTune.K244 (N : Nat) (Kn122 : St D0 → Option impl_MirrorTune.R) : Ex → St D0 → Option impl_MirrorTune.R := ((fun up => (onN (fun s => impl_MirrorTune.C.tidy 122 s ((onN Kn122 up) .normal)) (onN Kn122 up))) (blockK 0 (onN (fun s => impl_MirrorTune.C.tidy 30 s (fun s' => runC impl_MirrorTune.C (impl_MirrorTune.O N) N impl_MirrorTune.c31 31 s' impl_MirrorTune.K0)) impl_MirrorTune.K0)))
noncomputable def impl_MirrorTune.o1 (N : Nat) (v0 : List ByteArray) (v1 : List ByteArray) (v2 : Int) (v3 : Int) (c2 : (List ByteArray) → ByteArray → (List Int) → (List ByteArray) → Int → Int → Int → Int → Option impl_MirrorTune.R) : Option impl_MirrorTune.R :=
 bif (decide (v3 < v2)) then
  bif (decide (0 ≤ v3)) then
   bif (decide (v3 < (v1.length : Int))) then
    (v1[(v3 : Int).toNat]?).bind fun x1 =>
    c2 v0 x1 ([] : List Int) v1 v2 v3 (x1.size : Int) 0
   else
   none
  else
  none
 else
 some (v0, true)
theorem impl_MirrorTune.o1.run (N : Nat) (Kn122 : St D0 → Option impl_MirrorTune.R) (H250676 : Code) (v0 : List ByteArray) (v1 : List ByteArray) (v2 : Int) (v3 : Int) : runC impl_MirrorTune.C (impl_MirrorTune.O N) N (.seq impl_MirrorTune.c488 (.seq impl_MirrorTune.c978 (.seq (.block 1 (.seq impl_MirrorTune.c7832 (.seq impl_MirrorTune.c15666 (.seq (.seq impl_MirrorTune.c62668 (.block 2 (.loop H250676))) impl_MirrorTune.c31335)))) impl_MirrorTune.c1959))) 244 (mkSt [(4, .one (.sl true 9 v0)), (13, .one (.sl false 9 v1)), (14, .one (.int .i64 v2)), (15, .one (.int .i64 v3))] [] : St D0) ((fun up => (onN (fun s => impl_MirrorTune.C.tidy 122 s ((onN Kn122 up) .normal)) (onN Kn122 up))) (blockK 0 (onN (fun s => impl_MirrorTune.C.tidy 30 s (fun s' => runC impl_MirrorTune.C (impl_MirrorTune.O N) N impl_MirrorTune.c31 31 s' impl_MirrorTune.K0)) impl_MirrorTune.K0))) = impl_MirrorTune.o1 N v0 v1 v2 v3 ((fun w0 w1 w2 w3 w4 w5 w6 w7 => iter (loopF impl_MirrorTune.C (impl_MirrorTune.O N) N H250676 125338) N (mkSt [(4, .one (.sl true 9 w0)), (6, .one (.str w1)), (7, .one (.sl true 5 w2)), (13, .one (.sl false 9 w3)), (14, .one (.int .i64 w4)), (15, .one (.int .i64 w5)), (21, .one (.int .i64 w6)), (22, .one (.int .i64 w7))] [] : St D0) (blockK 2 ((fun up => (onN (fun s => impl_MirrorTune.C.tidy 31334 s (fun s' => runC impl_MirrorTune.C (impl_MirrorTune.O N) N impl_MirrorTune.c31335 31335 s' up)) up)) (blockK 1 ((fun up => (onN (fun s => impl_MirrorTune.C.tidy 1958 s (fun s' => runC impl_MirrorTune.C (impl_MirrorTune.O N) N impl_MirrorTune.c1959 1959 s' up)) up)) ((fun up => (onN (fun s => impl_MirrorTune.C.tidy 122 s ((onN Kn122 up) .normal)) (onN Kn122 up))) (blockK 0 (onN (fun s => impl_MirrorTune.C.tidy 30 s (fun s' => runC impl_MirrorTune.C (impl_MirrorTune.O N) N impl_MirrorTune.c31 31 s' impl_MirrorTune.K0)) impl_MirrorTune.K0))))))))) := by kernel_rfl
noncomputable def impl_MirrorTune.d1 (N : Nat) (v0 : List ByteArray) (v1 : List ByteArray) (v2 : Int) (v3 : Int) (c1 : (List ByteArray) → (List ByteArray) → Int → Int → Option impl_MirrorTune.R) : Option impl_MirrorTune.R := impl_MirrorTune.o1 N v0 v1 v2 v3 ((fun w0 w1 w2 w3 w4 w5 w6 w7 => impl_MirrorTune.l2 N N w0 w1 w2 w3 w4 w5 w6 w7 c1))
theorem impl_MirrorTune.c244_1 : impl_MirrorTune.c244 = (.seq impl_MirrorTune.c488 (.seq impl_MirrorTune.c978 (.seq (.block 1 (.seq impl_MirrorTune.c7832 (.seq impl_MirrorTune.c15666 (.seq (.seq impl_MirrorTune.c62668 (.block 2 (.loop impl_MirrorTune.c250676))) impl_MirrorTune.c31335)))) impl_MirrorTune.c1959))) := by kernel_rfl
theorem impl_MirrorTune.d1.run (N : Nat) (Kn122 : St D0 → Option impl_MirrorTune.R) (v0 : List ByteArray) (v1 : List ByteArray) (v2 : Int) (v3 : Int) : runC impl_MirrorTune.C (impl_MirrorTune.O N) N impl_MirrorTune.c244 244 (mkSt [(4, .one (.sl true 9 v0)), (13, .one (.sl false 9 v1)), (14, .one (.int .i64 v2)), (15, .one (.int .i64 v3))] [] : St D0) (impl_MirrorTune.K244 N Kn122) = impl_MirrorTune.d1 N v0 v1 v2 v3 ((fun w0 w1 w2 w3 => Kn122 (mkSt [(4, .one (.sl true 9 w0)), (13, .one (.sl false 9 w1)), (14, .one (.int .i64 w2)), (15, .one (.int .i64 w3))] [] : St D0))) := by
  rw [impl_MirrorTune.c244_1]; unfold impl_MirrorTune.d1; exact (impl_MirrorTune.o1.run N Kn122 impl_MirrorTune.c250676 v0 v1 v2 v3).trans (congr rfl (funext fun w0 => funext fun w1 => funext fun w2 => funext fun w3 => funext fun w4 => funext fun w5 => funext fun w6 => funext fun w7 => (impl_MirrorTune.loop125338 N Kn122 N) w0 w1 w2 w3 w4 w5 w6 w7))
noncomputable def impl_MirrorTune.K122 (N : Nat) : Ex → St D0 → Option impl_MirrorTune.R := (blockK 0 (onN (fun s => impl_MirrorTune.C.tidy 30 s (fun s' => runC impl_MirrorTune.C (impl_MirrorTune.O N) N impl_MirrorTune.c31 31 s' impl_MirrorTune.K0)) impl_MirrorTune.K0))
noncomputable def impl_MirrorTune.l1 (N : Nat) : Nat → (List ByteArray) → (List ByteArray) → Int → Int → Option impl_MirrorTune.R
  | 0, _, _, _, _ => none
  | n + 1, v0, v1, v2, v3 => impl_MirrorTune.d1 N v0 v1 v2 v3 ((fun w0 w1 w2 w3 => impl_MirrorTune.l1 N n w0 w1 w2 w3))
theorem impl_MirrorTune.loop122 (N : Nat) : ∀ n, (∀ (v0 : List ByteArray) (v1 : List ByteArray) (v2 : Int) (v3 : Int), iter (loopF impl_MirrorTune.C (impl_MirrorTune.O N) N impl_MirrorTune.c244 122) n (mkSt [(4, .one (.sl true 9 v0)), (13, .one (.sl false 9 v1)), (14, .one (.int .i64 v2)), (15, .one (.int .i64 v3))] [] : St D0) (impl_MirrorTune.K122 N) = impl_MirrorTune.l1 N n v0 v1 v2 v3)
  | 0 => (fun v0 v1 v2 v3 => rfl)
  | n + 1 => (fun v0 v1 v2 v3 => (impl_MirrorTune.d1.run N (fun s => iter (loopF impl_MirrorTune.C (impl_MirrorTune.O N) N impl_MirrorTune.c244 122) n s (impl_MirrorTune.K122 N)) v0 v1 v2 v3).trans (show _ = impl_MirrorTune.d1 N v0 v1 v2 v3 ((fun w0 w1 w2 w3 => impl_MirrorTune.l1 N n w0 w1 w2 w3)) from (congr rfl (funext fun w0 => funext fun w1 => funext fun w2 => funext fun w3 => (impl_MirrorTune.loop122 N n) w0 w1 w2 w3))))
noncomputable def impl_MirrorTune.o0 (N : Nat) (a0 : List ByteArray) (c1 : (List ByteArray) → (List ByteArray) → Int → Int → Option impl_MirrorTune.R) : Option impl_MirrorTune.R :=
 (impl_IsTune.g N a0).bind fun r1 =>
 bif (!r1) then
  some (([] : List ByteArray), false)
 else
 c1 ([] : List ByteArray) a0 (a0.length : Int) 0
theorem impl_MirrorTune.o0.run (N : Nat) (H244 : Code) (a0 : List ByteArray) : runC impl_MirrorTune.C (impl_MirrorTune.O N) N (.seq impl_MirrorTune.c2 (.seq impl_MirrorTune.c6 (.seq impl_MirrorTune.c14 (.seq (.seq impl_MirrorTune.c60 (.block 0 (.loop H244))) impl_MirrorTune.c31)))) 1 (st0 [.one (.sl false 9 a0)] [] : St D0) impl_MirrorTune.K0 = impl_MirrorTune.o0 N a0 ((fun w0 w1 w2 w3 => iter (loopF impl_MirrorTune.C (impl_MirrorTune.O N) N H244 122) N (mkSt [(4, .one (.sl true 9 w0)), (13, .one (.sl false 9 w1)), (14, .one (.int .i64 w2)), (15, .one (.int .i64 w3))] [] : St D0) (blockK 0 (onN (fun s => impl_MirrorTune.C.tidy 30 s (fun s' => runC impl_MirrorTune.C (impl_MirrorTune.O N) N impl_MirrorTune.c31 31 s' impl_MirrorTune.K0)) impl_MirrorTune.K0)))) := by kernel_rfl
noncomputable def impl_MirrorTune.g (N : Nat) (a0 : List ByteArray) : Option impl_MirrorTune.R := impl_MirrorTune.o0 N a0 ((fun w0 w1 w2 w3 => impl_MirrorTune.l1 N N w0 w1 w2 w3))
theorem impl_MirrorTune.c1_0 : impl_MirrorTune.c1 = (.seq impl_MirrorTune.c2 (.seq impl_MirrorTune.c6 (.seq impl_MirrorTune.c14 (.seq (.seq impl_MirrorTune.c60 (.block 0 (.loop impl_MirrorTune.c244))) impl_MirrorTune.c31)))) := by kernel_rfl
theorem impl_MirrorTune.g.run (N : Nat) (a0 : List ByteArray) : runC impl_MirrorTune.C (impl_MirrorTune.O N) N impl_MirrorTune.c1 1 (st0 [.one (.sl false 9 a0)] [] : St D0) impl_MirrorTune.K0 = impl_MirrorTune.g N a0 := by
  rw [impl_MirrorTune.c1_0]; unfold impl_MirrorTune.g; exact (impl_MirrorTune.o0.run N impl_MirrorTune.c244 a0).trans (congr rfl (funext fun w0 => funext fun w1 => funext fun w2 => funext fun w3 => (impl_MirrorTune.loop122 N N) w0 w1 w2 w3))
theorem impl_MirrorTune.good (N : Nat) (a0 : List ByteArray) (r : impl_MirrorTune.R) (h : impl_MirrorTune.g N a0 = some r) : Go.PM.Good Go.Proofs.Tryd.prog T0 9 [.one (.sl false 9 a0)] [] (impl_MirrorTune.sig.ret r) (impl_MirrorTune.sig.bs r) :=
  good_fn tabOk0 mixed0 impl_MirrorTune.sig (impl_MirrorTune.E N) Go.Proofs.Tryd.func9 (by kernel_rfl) (by kernel_rfl) 14805469 0 0 [(122, [4, 13, 14, 15], []), (125338, [4, 6, 7, 13, 14, 15, 21, 22], [])] 17382244864 false [] [(false, [.own 9]), (false, [.any])] (by kernel_rfl) rfl rfl ((impl_MirrorTune.g.run N a0).trans h)
noncomputable def impl_MirrorTune.ent (N : Nat) : Ent Go.Proofs.Tryd.prog T0 := mkEnt 9 [(false, [.ro 9])] impl_MirrorTune.sig (fun t => impl_MirrorTune.g N t) (fun t r h => impl_MirrorTune.good N t r h)
end Go.Proofs.YtpmipkbfohcjiaaDoor.M

namespace Go.Proofs.YtpmipkbfohcjiaaDoor.M
open Go Go.PM Go.Proofs.YtpmipkbfohcjiaaDoor.P
set_option linter.unusedVariables false
set_option maxRecDepth 100000
/-! ### spec_l1Num -/
abbrev spec_l1Num.R : Type := ByteArray
abbrev spec_l1Num.sig : Sig := ⟨[(false, 1)], [], [.int .i64], [(false, 1)], [], [.str]⟩
noncomputable def spec_l1Num.C : Cfg D0 := ⟨Go.Proofs.Tryd.prog, T0, 21, 0, 20, 0, [], 9256, false, []⟩
noncomputable def spec_l1Num.E (N : Nat) (G : Int → Option spec_l1Num.R) (hG : ∀ (a0 : Int) (r : spec_l1Num.R), G a0 = some r → Go.PM.Good Go.Proofs.Tryd.prog T0 39 [.one (.int .i64 a0)] [] (spec_l1Num.sig.ret r) (spec_l1Num.sig.bs r)) : List (Ent Go.Proofs.Tryd.prog T0) := [mkEnt 39 [(false, [.any])] spec_l1Num.sig (fun t => G t) (fun t r h => hG t r h)]
noncomputable def spec_l1Num.O (N : Nat) (G : Int → Option spec_l1Num.R) (hG : ∀ (a0 : Int) (r : spec_l1Num.R), G a0 = some r → Go.PM.Good Go.Proofs.Tryd.prog T0 39 [.one (.int .i64 a0)] [] (spec_l1Num.sig.ret r) (spec_l1Num.sig.bs r)) : Orc D0 spec_l1Num.R := orcOf (spec_l1Num.E N G hG)
noncomputable def spec_l1Num.K0 : Ex → St D0 → Option spec_l1Num.R := exitK spec_l1Num.C Go.Proofs.Tryd.f39.results.toList [(false, [.any])] (decOut spec_l1Num.sig)
noncomputable def spec_l1Num.c1 : Code := codeAt (Go.Proofs.Tryd.f39.body.getD .skip) []
noncomputable def spec_l1Num.o0 (N : Nat) (G : Int → Option spec_l1Num.R) (a0 : Int) : Option spec_l1Num.R :=
 bif (decide (a0 < 10)) then
  (numsO T0 5 ([((IntKind.wrap .u8) (w64 (48 + a0)))] : List Int)).bind fun r1 =>
  some ((strOfNums r1))
 else
 (G (w64 (Int.tdiv a0 10))).bind fun r2 =>
 (numsO T0 5 ([((IntKind.wrap .u8) (w64 (48 + (Int.tmod a0 10))))] : List Int)).bind fun r3 =>
 bif (Nat.ble (r2.size + (strOfNums r3).size) 9223372036854775807) then
  some ((r2 ++ (strOfNums r3)))
 else
 none
theorem spec_l1Num.o0.run (N : Nat) (G : Int → Option spec_l1Num.R) (hG : ∀ (a0 : Int) (r : spec_l1Num.R), G a0 = some r → Go.PM.Good Go.Proofs.Tryd.prog T0 39 [.one (.int .i64 a0)] [] (spec_l1Num.sig.ret r) (spec_l1Num.sig.bs r)) (a0 : Int) : runC spec_l1Num.C (spec_l1Num.O N G hG) N spec_l1Num.c1 1 (st0 [.one (.int .i64 a0)] [] : St D0) spec_l1Num.K0 = spec_l1Num.o0 N G a0 := by kernel_rfl
noncomputable def spec_l1Num.s (N : Nat) (G : Int → Option spec_l1Num.R) (a0 : Int) : Option spec_l1Num.R := spec_l1Num.o0 N G a0
theorem spec_l1Num.s.run (N : Nat) (G : Int → Option spec_l1Num.R) (hG : ∀ (a0 : Int) (r : spec_l1Num.R), G a0 = some r → Go.PM.Good Go.Proofs.Tryd.prog T0 39 [.one (.int .i64 a0)] [] (spec_l1Num.sig.ret r) (spec_l1Num.sig.bs r)) (a0 : Int) : runC spec_l1Num.C (spec_l1Num.O N G hG) N spec_l1Num.c1 1 (st0 [.one (.int .i64 a0)] [] : St D0) spec_l1Num.K0 = spec_l1Num.s N G a0 := by
  exact (spec_l1Num.o0.run N G hG a0).trans rfl
noncomputable def spec_l1Num.gk (N : Nat) : Nat → Int → Option spec_l1Num.R
  | 0, _ => none
  | k + 1, a0 => spec_l1Num.s N (spec_l1Num.gk N k) a0
theorem spec_l1Num.goodk (N : Nat) : ∀ (k : Nat) (a0 : Int) (r : spec_l1Num.R), spec_l1Num.gk N k a0 = some r → Go.PM.Good Go.Proofs.Tryd.prog T0 39 [.one (.int .i64 a0)] [] (spec_l1Num.sig.ret r) (spec_l1Num.sig.bs r)
  | 0, _, _, h => by cases h
  | k + 1, a0, r, h => good_fn tabOk0 mixed0 spec_l1Num.sig (spec_l1Num.E N (spec_l1Num.gk N k) (spec_l1Num.goodk N k)) Go.Proofs.Tryd.func39 (by kernel_rfl) (by kernel_rfl) 21 0 0 [] 9256 false [] [(false, [.any])] (by kernel_rfl) rfl rfl ((spec_l1Num.s.run N (spec_l1Num.gk N k) (spec_l1Num.goodk N k) a0).trans h)
noncomputable def spec_l1Num.g (N : Nat) (a0 : Int) : Option spec_l1Num.R := spec_l1Num.gk N N a0
theorem spec_l1Num.good (N : Nat) (a0 : Int) (r : spec_l1Num.R) (h : spec_l1Num.g N a0 = some r) : Go.PM.Good Go.Proofs.Tryd.prog T0 39 [.one (.int .i64 a0)] [] (spec_l1Num.sig.ret r) (spec_l1Num.sig.bs r) := spec_l1Num.goodk N N a0 r h
noncomputable def spec_l1Num.ent (N : Nat) : Ent Go.Proofs.Tryd.prog T0 := mkEnt 39 [(false, [.any])] spec_l1Num.sig (fun t => spec_l1Num.g N t) (fun t r h => spec_l1Num.good N t r h)
end Go.Proofs.YtpmipkbfohcjiaaDoor.M

namespace Go.Proofs.YtpmipkbfohcjiaaDoor.M
open Go Go.PM Go.Proofs.YtpmipkbfohcjiaaDoor.P
set_option linter.unusedVariables false
set_option maxRecDepth 100000
/-! ### spec_MirrorTune -/
abbrev spec_MirrorTune.R : Type := List ByteArray × Bool
abbrev spec_MirrorTune.sig : Sig := ⟨[(false, 1)], [], [.sl false 9], [(false, 1), (false, 1)], [], [.sl true 9, .bool]⟩
noncomputable def spec_MirrorTune.C : Cfg D0 := ⟨Go.Proofs.Tryd.prog, T0, 2161117, 0, 39, 0, [(122, [4, 12, 13, 14], []), (125338, [4, 6, 7, 8, 12, 13, 14], [])], 122421760, false, []⟩
noncomputable def spec_MirrorTune.E (N : Nat) : List (Ent Go.Proofs.Tryd.prog T0) := [spec_beTune.ent N, spec_l1Num.ent N]
noncomputable def spec_MirrorTune.O (N : Nat) : Orc D0 spec_MirrorTune.R := orcOf (spec_MirrorTune.E N)
noncomputable def spec_MirrorTune.K0 : Ex → St D0 → Option spec_MirrorTune.R := exitK spec_MirrorTune.C Go.Proofs.Tryd.f10.results.toList [(false, [.own 9]), (false, [.any])] (decOut spec_MirrorTune.sig)
noncomputable def spec_MirrorTune.c1 : Code := codeAt (Go.Proofs.Tryd.f10.body.getD .skip) []
noncomputable def spec_MirrorTune.c2 : Code := codeAt (Go.Proofs.Tryd.f10.body.getD .skip) [false]
noncomputable def spec_MirrorTune.c6 : Code := codeAt (Go.Proofs.Tryd.f10.body.getD .skip) [true, false]
noncomputable def spec_MirrorTune.c14 : Code := codeAt (Go.Proofs.Tryd.f10.body.getD .skip) [true, true, false]
noncomputable def spec_MirrorTune.c31 : Code := codeAt (Go.Proofs.Tryd.f10.body.getD .skip) [true, true, true, true]
noncomputable def spec_MirrorTune.c60 : Code := codeAt (Go.Proofs.Tryd.f10.body.getD .skip) [true, true, true, false, false]
noncomputable def spec_MirrorTune.c244 : Code := codeAt (Go.Proofs.Tryd.f10.body.getD .skip) [true, true, true, false, true, false, false]
noncomputable def spec_MirrorTune.c488 : Code := codeAt (Go.Proofs.Tryd.f10.body.getD .skip) [true, true, true, false, true, false, false, false]
noncomputable def spec_MirrorTune.c978 : Code := codeAt (Go.Proofs.Tryd.f10.body.getD .skip) [true, true, true, false, true, false, false, true, false]
noncomputable def spec_MirrorTune.c1959 : Code := codeAt (Go.Proofs.Tryd.f10.body.getD .skip) [true, true, true, false, true, false, false, true, true, true]
noncomputable def spec_MirrorTune.c7832 : Code := codeAt (Go.Proofs.Tryd.f10.body.getD .skip) [true, true, true, false, true, false, false, true, true, false, false, false]
noncomputable def spec_MirrorTune.c15666 : Code := codeAt (Go.Proofs.Tryd.f10.body.getD .skip) [true, true, true, false, true, false, false, true, true, false, false, true, false]
noncomputable def spec_MirrorTune.c31335 : Code := codeAt (Go.Proofs.Tryd.f10.body.getD .skip) [true, true, true, false, true, false, false, true, true, false, false, true, true, true]
noncomputable def spec_MirrorTune.c62668 : Code := codeAt (Go.Proofs.Tryd.f10.body.getD .skip) [true, true, true, false, true, false, false, true, true, false, false, true, true, false, false]
noncomputable def spec_MirrorTune.c250676 : Code := codeAt (Go.Proofs.Tryd.f10.body.getD .skip) [true, true, true, false, true, false, false, true, true, false, false, true, true, false, true, false, false]
noncomputable def spec_MirrorTune.K250676 (N : Nat) (Kn122 : St D0 → Option spec_MirrorTune.R) (Kn125338 : St D0 → Option spec_MirrorTune.R) : Ex → St D0 → Option spec_MirrorTune.R := ((fun up => (onN (fun s => spec_MirrorTune.C.tidy 125338 s ((onN Kn125338 up) .normal)) (onN Kn125338 up))) (blockK 2 ((fun up => (onN (fun s => spec_MirrorTune.C.tidy 31334 s (fun s' => runC spec_MirrorTune.C (spec_MirrorTune.O N) N spec_MirrorTune.c31335 31335 s' up)) up)) (blockK 1 ((fun up => (onN (fun s => spec_MirrorTune.C.tidy 1958 s (fun s' => runC spec_MirrorTune.C (spec_MirrorTune.O N) N spec_MirrorTune.c1959 1959 s' up)) up)) ((fun up => (onN (fun s => spec_MirrorTune.C.tidy 122 s ((onN Kn122 up) .normal)) (onN Kn122 up))) (blockK 0 (onN (fun s => spec_MirrorTune.C.tidy 30 s (fun s' => runC spec_MirrorTune.C (spec_MirrorTune.O N) N spec_MirrorTune.c31 31 s' spec_MirrorTune.K0)) spec_MirrorTune.K0))))))))
noncomputable def spec_MirrorTune.o2 (N : Nat) (v0 : ByteArray) (v1 : ByteArray) (v2 : Int) (v3 : List ByteArray) (v4 : Int) (v5 : Int) (c2 : ByteArray → ByteArray → Int → (List ByteArray) → Int → Int → Option spec_MirrorTune.R) (c3 : (List ByteArray) → (List ByteArray) → Int → Int → Option spec_MirrorTune.R) : Option spec_MirrorTune.R :=
 bif (decide (v2 < (v0.size : Int))) then
  bif (decide (0 ≤ v2)) then
   bif (decide (v2 < (v0.size : Int))) then
    (spec_l1Num.g N (w64 (9 - (w64 ((IntKind.wrap .u8) ((bt v0 v2) - 48)))))).bind fun r1 =>
    bif (Nat.ble (v1.size + r1.size) 9223372036854775807) then
     c2 v0 (v1 ++ r1) (w64 (v2 + 1)) v3 v4 v5
    else
    none
   else
   none
  else
  none
 else
 bif (Nat.blt (([] : List ByteArray).length + ([v1] : List ByteArray).length) 8796093022208) then
  c3 (([] : List ByteArray) ++ ([v1] : List ByteArray)) v3 v4 (w64 (v5 + 1))
 else
 none
theorem spec_MirrorTune.o2.run (N : Nat) (Kn122 : St D0 → Option spec_MirrorTune.R) (Kn125338 : St D0 → Option spec_MirrorTune.R) (v0 : ByteArray) (v1 : ByteArray) (v2 : Int) (v3 : List ByteArray) (v4 : Int) (v5 : Int) : runC spec_MirrorTune.C (spec_MirrorTune.O N) N spec_MirrorTune.c250676 250676 (mkSt [(4, .one (.nl)), (6, .one (.str v0)), (7, .one (.str v1)), (8, .one (.int .i64 v2)), (12, .one (.sl false 9 v3)), (13, .one (.int .i64 v4)), (14, .one (.int .i64 v5))] [] : St D0) ((fun up => (onN (fun s => spec_MirrorTune.C.tidy 125338 s ((onN Kn125338 up) .normal)) (onN Kn125338 up))) (blockK 2 ((fun up => (onN (fun s => spec_MirrorTune.C.tidy 31334 s (fun s' => runC spec_MirrorTune.C (spec_MirrorTune.O N) N spec_MirrorTune.c31335 31335 s' up)) up)) (blockK 1 ((fun up => (onN (fun s => spec_MirrorTune.C.tidy 1958 s (fun s' => runC spec_MirrorTune.C (spec_MirrorTune.O N) N spec_MirrorTune.c1959 1959 s' up)) up)) ((fun up => (onN (fun s => spec_MirrorTune.C.tidy 122 s ((onN Kn122 up) .normal)) (onN Kn122 up))) (blockK 0 (onN (fun s => spec_MirrorTune.C.tidy 30 s (fun s' => runC spec_MirrorTune.C (spec_MirrorTune.O N) N spec_MirrorTune.c31 31 s' spec_MirrorTune.K0)) spec_MirrorTune.K0)))))))) = spec_MirrorTune.o2 N v0 v1 v2 v3 v4 v5 ((fun w0 w1 w2 w3 w4 w5 => Kn125338 (mkSt [(4, .one (.nl)), (6, .one (.str w0)), (7, .one (.str w1)), (8, .one (.int .i64 w2)), (12, .one (.sl false 9 w3)), (13, .one (.int .i64 w4)), (14, .one (.int .i64 w5))] [] : St D0))) ((fun w0 w1 w2 w3 => Kn122 (mkSt [(4, .one (.sl true 9 w0)), (12, .one (.sl false 9 w1)), (13, .one (.int .i64 w2)), (14, .one (.int .i64 w3))] [] : St D0))) := by kernel_rfl
noncomputable def spec_MirrorTune.d2 (N : Nat) (v0 : ByteArray) (v1 : ByteArray) (v2 : Int) (v3 : List ByteArray) (v4 : Int) (v5 : Int) (c2 : ByteArray → ByteArray → Int → (List ByteArray) → Int → Int → Option spec_MirrorTune.R) (c3 : (List ByteArray) → (List ByteArray) → Int → Int → Option spec_MirrorTune.R) : Option spec_MirrorTune.R := spec_MirrorTune.o2 N v0 v1 v2 v3 v4 v5 c2 c3
theorem spec_MirrorTune.d2.run (N : Nat) (Kn122 : St D0 → Option spec_MirrorTune.R) (Kn125338 : St D0 → Option spec_MirrorTune.R) (v0 : ByteArray) (v1 : ByteArray) (v2 : Int) (v3 : List ByteArray) (v4 : Int) (v5 : Int) : runC spec_MirrorTune.C (spec_MirrorTune.O N) N spec_MirrorTune.c250676 250676 (mkSt [(4, .one (.nl)), (6, .one (.str v0)), (7, .one (.str v1)), (8, .one (.int .i64 v2)), (12, .one (.sl false 9 v3)), (13, .one (.int .i64 v4)), (14, .one (.int .i64 v5))] [] : St D0) (spec_MirrorTune.K250676 N Kn122 Kn125338) = spec_MirrorTune.d2 N v0 v1 v2 v3 v4 v5 ((fun w0 w1 w2 w3 w4 w5 => Kn125338 (mkSt [(4, .one (.nl)), (6, .one (.str w0)), (7, .one (.str w1)), (8, .one (.int .i64 w2)), (12, .one (.sl false 9 w3)), (13, .one (.int .i64 w4)), (14, .one (.int .i64 w5))] [] : St D0))) ((fun w0 w1 w2 w3 => Kn122 (mkSt [(4, .one (.sl true 9 w0)), (12, .one (.sl false 9 w1)), (13, .one (.int .i64 w2)), (14, .one (.int .i64 w3))] [] : St D0))) := by
  exact (spec_MirrorTune.o2.run N Kn122 Kn125338 v0 v1 v2 v3 v4 v5).trans rfl
noncomputable def spec_MirrorTune.o4 (N : Nat) (v0 : List ByteArray) (v1 : ByteArray) (v2 : ByteArray) (v3 : Int) (v4 : List ByteArray) (v5 : Int) (v6 : Int) (c4 : (List ByteArray) → ByteArray → ByteArray → Int → (List ByteArray) → Int → Int → Option spec_MirrorTune.R) (c3 : (List ByteArray) → (List ByteArray) → Int → Int → Option spec_MirrorTune.R) : Option spec_MirrorTune.R :=
 bif (decide (v3 < (v1.size : Int))) then
  bif (decide (0 ≤ v3)) then
   bif (decide (v3 < (v1.size : Int))) then
    (spec_l1Num.g N (w64 (9 - (w64 ((IntKind.wrap .u8) ((bt v1 v3) - 48)))))).bind fun r1 =>
    bif (Nat.ble (v2.size + r1.size) 9223372036854775807) then
     c4 v0 v1 (v2 ++ r1) (w64 (v3 + 1)) v4 v5 v6
    else
    none
   else
   none
  else
  none
 else
 bif (Nat.blt (v0.length + ([v2] : List ByteArray).length) 8796093022208) then
  c3 (v0 ++ ([v2] : List ByteArray)) v4 v5 (w64 (v6 + 1))
 else
 none
theorem spec_MirrorTune.o4.run (N : Nat) (Kn122 : St D0 → Option spec_MirrorTune.R) (Kn125338 : St D0 → Option spec_MirrorTune.R) (v0 : List ByteArray) (v1 : ByteArray) (v2 : ByteArray) (v3 : Int) (v4 : List ByteArray) (v5 : Int) (v6 : Int) : runC spec_MirrorTune.C (spec_MirrorTune.O N) N spec_MirrorTune.c250676 250676 (mkSt [(4, .one (.sl true 9 v0)), (6, .one (.str v1)), (7, .one (.str v2)), (8, .one (.int .i64 v3)), (12, .one (.sl false 9 v4)), (13, .one (.int .i64 v5)), (14, .one (.int .i64 v6))] [] : St D0) ((fun up => (onN (fun s => spec_MirrorTune.C.tidy 125338 s ((onN Kn125338 up) .normal)) (onN Kn125338 up))) (blockK 2 ((fun up => (onN (fun s => spec_MirrorTune.C.tidy 31334 s (fun s' => runC spec_MirrorTune.C (spec_MirrorTune.O N) N spec_MirrorTune.c31335 31335 s' up)) up)) (blockK 1 ((fun up => (onN (fun s => spec_MirrorTune.C.tidy 1958 s (fun s' => runC spec_MirrorTune.C (spec_MirrorTune.O N) N spec_MirrorTune.c1959 1959 s' up)) up)) ((fun up => (onN (fun s => spec_MirrorTune.C.tidy 122 s ((onN Kn122 up) .normal)) (onN Kn122 up))) (blockK 0 (onN (fun s => spec_MirrorTune.C.tidy 30 s (fun s' => runC spec_MirrorTune.C (spec_MirrorTune.O N) N spec_MirrorTune.c31 31 s' spec_MirrorTune.K0)) spec_MirrorTune.K0)))))))) = spec_MirrorTune.o4 N v0 v1 v2 v3 v4 v5 v6 ((fun w0 w1 w2 w3 w4 w5 w6 => Kn125338 (mkSt [(4, .one (.sl true 9 w0)), (6, .one (.str w1)), (7, .one (.str w2)), (8, .one (.int .i64 w3)), (12, .one (.sl false 9 w4)), (13, .one (.int .i64 w5)), (14, .one (.int .i64 w6))] [] : St D0))) ((fun w0 w1 w2 w3 => Kn122 (mkSt [(4, .one (.sl true 9 w0)), (12, .one (.sl false 9 w1)), (13, .one (.int .i64 w2)), (14, .one (.int .i64 w3))] [] : St D0))) := by kernel_rfl
noncomputable def spec_MirrorTune.d4 (N : Nat) (v0 : List ByteArray) (v1 : ByteArray) (v2 : ByteArray) (v3 : Int) (v4 : List ByteArray) (v5 : Int) (v6 : Int) (c3 : (List ByteArray) → (List ByteArray) → Int → Int → Option spec_MirrorTune.R) (c4 : (List ByteArray) → ByteArray → ByteArray → Int → (List ByteArray) → Int → Int → Option spec_MirrorTune.R) : Option spec_MirrorTune.R := spec_MirrorTune.o4 N v0 v1 v2 v3 v4 v5 v6 c4 c3
theorem spec_MirrorTune.d4.run (N : Nat) (Kn122 : St D0 → Option spec_MirrorTune.R) (Kn125338 : St D0 → Option spec_MirrorTune.R) (v0 : List ByteArray) (v1 : ByteArray) (v2 : ByteArray) (v3 : Int) (v4 : List ByteArray) (v5 : Int) (v6 : Int) : runC spec_MirrorTune.C (spec_MirrorTune.O N) N spec_MirrorTune.c250676 250676 (mkSt [(4, .one (.sl true 9 v0)), (6, .one (.str v1)), (7, .one (.str v2)), (8, .one (.int .i64 v3)), (12, .one (.sl false 9 v4)), (13, .one (.int .i64 v5)), (14, .one (.int .i64 v6))] [] : St D0) (spec_MirrorTune.K250676 N Kn122 Kn125338) = spec_MirrorTune.d4 N v0 v1 v2 v3 v4 v5 v6 ((fun w0 w1 w2 w3 => Kn122 (mkSt [(4, .one (.sl true 9 w0)), (12, .one (.sl false 9 w1)), (13, .one (.int .i64 w2)), (14, .one (.int .i64 w3))] [] : St D0))) ((fun w0 w1 w2 w3 w4 w5 w6 => Kn125338 (mkSt [(4, .one (.sl true 9 w0)), (6, .one (.str w1)), (7, .one (.str w2)), (8, .one (.int .i64 w3)), (12, .one (.sl false 9 w4)), (13, .one (.int .i64 w5)), (14, .one (.int .i64 w6))] [] : St D0))) := by
  exact (spec_MirrorTune.o4.run N Kn122 Kn125338 v0 v1 v2 v3 v4 v5 v6).trans rfl
noncomputable def spec_MirrorTune.K125338 (N : Nat) (Kn122 : St D0 → Option spec_MirrorTune.R) : Ex → St D0 → Option spec_MirrorTune.R := (blockK 2 ((fun up => (onN (fun s => spec_MirrorTune.C.tidy 31334 s (fun s' => runC spec_MirrorTune.C (spec_MirrorTune.O N) N spec_MirrorTune.c31335 31335 s' up)) up)) (blockK 1 ((fun up => (onN (fun s => spec_MirrorTune.C.tidy 1958 s (fun s' => runC spec_MirrorTune.C (spec_MirrorTune.O N) N spec_MirrorTune.c1959 1959 s' up)) up)) ((fun up => (onN (fun s => spec_MirrorTune.C.tidy 122 s ((onN Kn122 up) .normal)) (onN Kn122 up))) (blockK 0 (onN (fun s => spec_MirrorTune.C.tidy 30 s (fun s' => runC spec_MirrorTune.C (spec_MirrorTune.O N) N spec_MirrorTune.c31 31 s' spec_MirrorTune.K0)) spec_MirrorTune.K0)))))))
mutual
noncomputable def spec_MirrorTune.l2 (N : Nat) : Nat → ByteArray → ByteArray → Int → (List ByteArray) → Int → Int → ((List ByteArray) → (List ByteArray) → Int → Int → Option spec_MirrorTune.R) → Option spec_MirrorTune.R
  | 0, _, _, _, _, _, _, _ => none
  | n + 1, v0, v1, v2, v3, v4, v5, c3 => spec_MirrorTune.d2 N v0 v1 v2 v3 v4 v5 ((fun w0 w1 w2 w3 w4 w5 => spec_MirrorTune.l2 N n w0 w1 w2 w3 w4 w5 c3)) c3
noncomputable def spec_MirrorTune.l4 (N : Nat) : Nat → (List ByteArray) → ByteArray → ByteArray → Int → (List ByteArray) → Int → Int → ((List ByteArray) → (List ByteArray) → Int → Int → Option spec_MirrorTune.R) → Option spec_MirrorTune.R
  | 0, _, _, _, _, _, _, _, _ => none
  | n + 1, v0, v1, v2, v3, v4, v5, v6, c3 => spec_MirrorTune.d4 N v0 v1 v2 v3 v4 v5 v6 c3 ((fun w0 w1 w2 w3 w4 w5 w6 => spec_MirrorTune.l4 N n w0 w1 w2 w3 w4 w5 w6 c3))
end
theorem spec_MirrorTune.loop125338 (N : Nat) (Kn122 : St D0 → Option spec_MirrorTune.R) : ∀ n, (∀ (v0 : ByteArray) (v1 : ByteArray) (v2 : Int) (v3 : List ByteArray) (v4 : Int) (v5 : Int), iter (loopF spec_MirrorTune.C (spec_MirrorTune.O N) N spec_MirrorTune.c250676 125338) n (mkSt [(4, .one (.nl)), (6, .one (.str v0)), (7, .one (.str v1)), (8, .one (.int .i64 v2)), (12, .one (.sl false 9 v3)), (13, .one (.int .i64 v4)), (14, .one (.int .i64 v5))] [] : St D0) (spec_MirrorTune.K125338 N Kn122) = spec_MirrorTune.l2 N n v0 v1 v2 v3 v4 v5 ((fun w0 w1 w2 w3 => Kn122 (mkSt [(4, .one (.sl true 9 w0)), (12, .one (.sl false 9 w1)), (13, .one (.int .i64 w2)), (14, .one (.int .i64 w3))] [] : St D0)))) ∧ (∀ (v0 : List ByteArray) (v1 : ByteArray) (v2 : ByteArray) (v3 : Int) (v4 : List ByteArray) (v5 : Int) (v6 : Int), iter (loopF spec_MirrorTune.C (spec_MirrorTune.O N) N spec_MirrorTune.c250676 125338) n (mkSt [(4, .one (.sl true 9 v0)), (6, .one (.str v1)), (7, .one (.str v2)), (8, .one (.int .i64 v3)), (12, .one (.sl false 9 v4)), (13, .one (.int .i64 v5)), (14, .one (.int .i64 v6))] [] : St D0) (spec_MirrorTune.K125338 N Kn122) = spec_MirrorTune.l4 N n v0 v1 v2 v3 v4 v5 v6 ((fun w0 w1 w2 w3 => Kn122 (mkSt [(4, .one (.sl true 9 w0)), (12, .one (.sl false 9 w1)), (13, .one (.int .i64 w2)), (14, .one (.int .i64 w3))] [] : St D0))))
  | 0 => ⟨(fun v0 v1 v2 v3 v4 v5 => rfl), (fun v0 v1 v2 v3 v4 v5 v6 => rfl)⟩
  | n + 1 => ⟨(fun v0 v1 v2 v3 v4 v5 => (spec_MirrorTune.d2.run N Kn122 (fun s => iter (loopF spec_MirrorTune.C (spec_MirrorTune.O N) N spec_MirrorTune.c250676 125338) n s (spec_MirrorTune.K125338 N Kn122)) v0 v1 v2 v3 v4 v5).trans (show _ = spec_MirrorTune.d2 N v0 v1 v2 v3 v4 v5 ((fun w0 w1 w2 w3 w4 w5 => spec_MirrorTune.l2 N n w0 w1 w2 w3 w4 w5 ((fun w0 w1 w2 w3 => Kn122 (mkSt [(4, .one (.sl true 9 w0)), (12, .one (.sl false 9 w1)), (13, .one (.int .i64 w2)), (14, .one (.int .i64 w3))] [] : St D0))))) ((fun w0 w1 w2 w3 => Kn122 (mkSt [(4, .one (.sl true 9 w0)), (12, .one (.sl false 9 w1)), (13, .one (.int .i64 w2)), (14, .one (.int .i64 w3))] [] : St D0))) from (congr (congr rfl (funext fun w0 => funext fun w1 => funext fun w2 => funext fun w3 => funext fun w4 => funext fun w5 => (spec_MirrorTune.loop125338 N Kn122 n).1 w0 w1 w2 w3 w4 w5)) rfl))), (fun v0 v1 v2 v3 v4 v5 v6 => (spec_MirrorTune.d4.run N Kn122 (fun s => iter (loopF spec_MirrorTune.C (spec_MirrorTune.O N) N spec_MirrorTune.c250676 125338) n s (spec_MirrorTune.K125338 N Kn122)) v0 v1 v2 v3 v4 v5 v6).trans (show _ = spec_MirrorTune.d4 N v0 v1 v2 v3 v4 v5 v6 ((fun w0 w1 w2 w3 => Kn122 (mkSt [(4, .one (.sl true 9 w0)), (12, .one (.sl false 9 w1)), (13, .one (.int .i64 w2)), (14, .one (.int .i64 w3))] [] : St D0))) ((fun w0 w1 w2 w3 w4 w5 w6 => spec_MirrorTune.l4 N n w0 w1 w2 w3 w4 w5 w6 ((fun w0 w1 w2 w3 => Kn122 (mkSt [(4, .one (.sl true 9 w0)), (12, .one (.sl false 9 w1)), (13, .one (.int .i64 w2)), (14, .one (.int .i64 w3))] [] : St D0))))) from (congr (congr rfl rfl) (funext fun w0 => funext fun w1 => funext fun w2 => funext fun w3 => funext fun w4 => funext fun w5 => funext fun w6 => (spec_MirrorTune.loop125338 N Kn122 n).2 w0 w1 w2 w3 w4 w5 w6))))⟩
noncomputable def spec_MirrorTune.K244 (N : Nat) (Kn122 : St D0 → Option spec_MirrorTune.R) : Ex → St D0 → Option spec_MirrorTune.R := ((fun up => (onN (fun s => spec_MirrorTune.C.tidy 122 s ((onN Kn122 up) .normal)) (onN Kn122 up))) (blockK 0 (onN (fun s => spec_MirrorTune.C.tidy 30 s (fun s' => runC spec_MirrorTune.C (spec_MirrorTune.O N) N spec_MirrorTune.c31 31 s' spec_MirrorTune.K0)) spec_MirrorTune.K0)))
noncomputable def spec_MirrorTune.o1 (N : Nat) (v0 : List ByteArray) (v1 : Int) (v2 : Int) (c2 : ByteArray → ByteArray → Int → (List ByteArray) → Int → Int → Option spec_MirrorTune.R) : Option spec_MirrorTune.R :=
 bif (decide (v2 < v1)) then
  bif (decide (0 ≤ v2)) then
   bif (decide (v2 < (v0.length : Int))) then
    (v0[(v2 : Int).toNat]?).bind fun x1 =>
    c2 x1 (⟨#[]⟩ : ByteArray) 0 v0 v1 v2
   else
   none
  else
  none
 else
 some (([] : List ByteArray), true)
theorem spec_MirrorTune.o1.run (N : Nat) (Kn122 : St D0 → Option spec_MirrorTune.R) (H250676 : Code) (v0 : List ByteArray) (v1 : Int) (v2 : Int) : runC spec_MirrorTune.C (spec_MirrorTune.O N) N (.seq spec_MirrorTune.c488 (.seq spec_MirrorTune.c978 (.seq (.block 1 (.seq spec_MirrorTune.c7832 (.seq spec_MirrorTune.c15666 (.seq (.seq spec_MirrorTune.c62668 (.block 2 (.loop H250676))) spec_MirrorTune.c31335)))) spec_MirrorTune.c1959))) 244 (mkSt [(4, .one (.nl)), (12, .one (.sl false 9 v0)), (13, .one (.int .i64 v1)), (14, .one (.int .i64 v2))] [] : St D0) ((fun up => (onN (fun s => spec_MirrorTune.C.tidy 122 s ((onN Kn122 up) .normal)) (onN Kn122 up))) (blockK 0 (onN (fun s => spec_MirrorTune.C.tidy 30 s (fun s' => runC spec_MirrorTune.C (spec_MirrorTune.O N) N spec_MirrorTune.c31 31 s' spec_MirrorTune.K0)) spec_MirrorTune.K0))) = spec_MirrorTune.o1 N v0 v1 v2 ((fun w0 w1 w2 w3 w4 w5 => iter (loopF spec_MirrorTune.C (spec_MirrorTune.O N) N H250676 125338) N (mkSt [(4, .one (.nl)), (6, .one (.str w0)), (7, .one (.str w1)), (8, .one (.int .i64 w2)), (12, .one (.sl false 9 w3)), (13, .one (.int .i64 w4)), (14, .one (.int .i64 w5))] [] : St D0) (blockK 2 ((fun up => (onN (fun s => spec_MirrorTune.C.tidy 31334 s (fun s' => runC spec_MirrorTune.C (spec_MirrorTune.O N) N spec_MirrorTune.c31335 31335 s' up)) up)) (blockK 1 ((fun up => (onN (fun s => spec_MirrorTune.C.tidy 1958 s (fun s' => runC spec_MirrorTune.C (spec_MirrorTune.O N) N spec_MirrorTune.c1959 1959 s' up)) up)) ((fun up => (onN (fun s => spec_MirrorTune.C.tidy 122 s ((onN Kn122 up) .normal)) (onN Kn122 up))) (blockK 0 (onN (fun s => spec_MirrorTune.C.tidy 30 s (fun s' => runC spec_MirrorTune.C (spec_MirrorTune.O N) N spec_MirrorTune.c31 31 s' spec_MirrorTune.K0)) spec_MirrorTune.K0))))))))) := by kernel_rfl
noncomputable def spec_MirrorTune.d1 (N : Nat) (v0 : List ByteArray) (v1 : Int) (v2 : Int) (c3 : (List ByteArray) → (List ByteArray) → Int → Int → Option spec_MirrorTune.R) : Option spec_MirrorTune.R := spec_MirrorTune.o1 N v0 v1 v2 ((fun w0 w1 w2 w3 w4 w5 => spec_MirrorTune.l2 N N w0 w1 w2 w3 w4 w5 c3))
theorem spec_MirrorTune.c244_1 : spec_MirrorTune.c244 = (.seq spec_MirrorTune.c488 (.seq spec_MirrorTune.c978 (.seq (.block 1 (.seq spec_MirrorTune.c7832 (.seq spec_MirrorTune.c15666 (.seq (.seq spec_MirrorTune.c62668 (.block 2 (.loop spec_MirrorTune.c250676))) spec_MirrorTune.c31335)))) spec_MirrorTune.c1959))) := by kernel_rfl
theorem spec_MirrorTune.d1.run (N : Nat) (Kn122 : St D0 → Option spec_MirrorTune.R) (v0 : List ByteArray) (v1 : Int) (v2 : Int) : runC spec_MirrorTune.C (spec_MirrorTune.O N) N spec_MirrorTune.c244 244 (mkSt [(4, .one (.nl)), (12, .one (.sl false 9 v0)), (13, .one (.int .i64 v1)), (14, .one (.int .i64 v2))] [] : St D0) (spec_MirrorTune.K244 N Kn122) = spec_MirrorTune.d1 N v0 v1 v2 ((fun w0 w1 w2 w3 => Kn122 (mkSt [(4, .one (.sl true 9 w0)), (12, .one (.sl false 9 w1)), (13, .one (.int .i64 w2)), (14, .one (.int .i64 w3))] [] : St D0))) := by
  rw [spec_MirrorTune.c244_1]; unfold spec_MirrorTune.d1; exact (spec_MirrorTune.o1.run N Kn122 spec_MirrorTune.c250676 v0 v1 v2).trans (congr rfl (funext fun w0 => funext fun w1 => funext fun w2 => funext fun w3 => funext fun w4 => funext fun w5 => (spec_MirrorTune.loop125338 N Kn122 N).1 w0 w1 w2 w3 w4 w5))
noncomputable def spec_MirrorTune.o3 (N : Nat) (v0 : List ByteArray) (v1 : List ByteArray) (v2 : Int) (v3 : Int) (c4 : (List ByteArray) → ByteArray → ByteArray → Int → (List ByteArray) → Int → Int → Option spec_MirrorTune.R) : Option spec_MirrorTune.R :=
 bif (decide (v3 < v2)) then
  bif (decide (0 ≤ v3)) then
   bif (decide (v3 < (v1.length : Int))) then
    (v1[(v3 : Int).toNat]?).bind fun x1 =>
    c4 v0 x1 (⟨#[]⟩ : ByteArray) 0 v1 v2 v3
   else
   none
  else
  none
 else
 some (v0, true)
theorem spec_MirrorTune.o3.run (N : Nat) (Kn122 : St D0 → Option spec_MirrorTune.R) (H250676 : Code) (v0 : List ByteArray) (v1 : List ByteArray) (v2 : Int) (v3 : Int) : runC spec_MirrorTune.C (spec_MirrorTune.O N) N (.seq spec_MirrorTune.c488 (.seq spec_MirrorTune.c978 (.seq (.block 1 (.seq spec_MirrorTune.c7832 (.seq spec_MirrorTune.c15666 (.seq (.seq spec_MirrorTune.c62668 (.block 2 (.loop H250676))) spec_MirrorTune.c31335)))) spec_MirrorTune.c1959))) 244 (mkSt [(4, .one (.sl true 9 v0)), (12, .one (.sl false 9 v1)), (13, .one (.int .i64 v2)), (14, .one (.int .i64 v3))] [] : St D0) ((fun up => (onN (fun s => spec_MirrorTune.C.tidy 122 s ((onN Kn122 up) .normal)) (onN Kn122 up))) (blockK 0 (onN (fun s => spec_MirrorTune.C.tidy 30 s (fun s' => runC spec_MirrorTune.C (spec_MirrorTune.O N) N spec_MirrorTune.c31 31 s' spec_MirrorTune.K0)) spec_MirrorTune.K0))) = spec_MirrorTune.o3 N v0 v1 v2 v3 ((fun w0 w1 w2 w3 w4 w5 w6 => iter (loopF spec_MirrorTune.C (spec_MirrorTune.O N) N H250676 125338) N (mkSt [(4, .one (.sl true 9 w0)), (6, .one (.str w1)), (7, .one (.str w2)), (8, .one (.int .i64 w3)), (12, .one (.sl false 9 w4)), (13, .one (.int .i64 w5)), (14, .one (.int .i64 w6))] [] : St D0) (blockK 2 ((fun up => (onN (fun s => spec_MirrorTune.C.tidy 31334 s (fun s' => runC spec_MirrorTune.C (spec_MirrorTune.O N) N spec_MirrorTune.c31335 31335 s' up)) up)) (blockK 1 ((fun up => (onN (fun s => spec_MirrorTune.C.tidy 1958 s (fun s' => runC spec_MirrorTune.C (spec_MirrorTune.O N) N spec_MirrorTune.c1959 1959 s' up)) up)) ((fun up => (onN (fun s => spec_MirrorTune.C.tidy 122 s ((onN Kn122 up) .normal)) (onN Kn122 up))) (blockK 0 (onN (fun s => spec_MirrorTune.C.tidy 30 s (fun s' => runC spec_MirrorTune.C (spec_MirrorTune.O N) N spec_MirrorTune.c31 31 s' spec_MirrorTune.K0)) spec_MirrorTune.K0))))))))) := by kernel_rfl
noncomputable def spec_MirrorTune.d3 (N : Nat) (v0 : List ByteArray) (v1 : List ByteArray) (v2 : Int) (v3 : Int) (c3 : (List ByteArray) → (List ByteArray) → Int → Int → Option spec_MirrorTune.R) : Option spec_MirrorTune.R := spec_MirrorTune.o3 N v0 v1 v2 v3 ((fun w0 w1 w2 w3 w4 w5 w6 => spec_MirrorTune.l4 N N w0 w1 w2 w3 w4 w5 w6 c3))
theorem spec_MirrorTune.c244_3 : spec_MirrorTune.c244 = (.seq spec_MirrorTune.c488 (.seq spec_MirrorTune.c978 (.seq (.block 1 (.seq spec_MirrorTune.c7832 (.seq spec_MirrorTune.c15666 (.seq (.seq spec_MirrorTune.c62668 (.block 2 (.loop spec_MirrorTune.c250676))) spec_MirrorTune.c31335)))) spec_MirrorTune.c1959))) := by kernel_rfl
theorem spec_MirrorTune.d3.run (N : Nat) (Kn122 : St D0 → Option spec_MirrorTune.R) (v0 : List ByteArray) (v1 : List ByteArray) (v2 : Int) (v3 : Int) : runC spec_MirrorTune.C (spec_MirrorTune.O N) N spec_MirrorTune.c244 244 (mkSt [(4, .one (.sl true 9 v0)), (12, .one (.sl false 9 v1)), (13, .one (.int .i64 v2)), (14, .one (.int .i64 v3))] [] : St D0) (spec_MirrorTune.K244 N Kn122) = spec_MirrorTune.d3 N v0 v1 v2 v3 ((fun w0 w1 w2 w3 => Kn122 (mkSt [(4, .one (.sl true 9 w0)), (12, .one (.sl false 9 w1)), (13, .one (.int .i64 w2)), (14, .one (.int .i64 w3))] [] : St D0))) := by
  rw [spec_MirrorTune.c244_3]; unfold spec_MirrorTune.d3; exact (spec_MirrorTune.o3.run N Kn122 spec_MirrorTune.c250676 v0 v1 v2 v3).trans (congr rfl (funext fun w0 => funext fun w1 => funext fun w2 => funext fun w3 => funext fun w4 => funext fun w5 => funext fun w6 => (spec_MirrorTune.loop125338 N Kn122 N).2 w0 w1 w2 w3 w4 w5 w6))
noncomputable def spec_MirrorTune.K122 (N : Nat) : Ex → St D0 → Option spec_MirrorTune.R := (blockK 0 (onN (fun s => spec_MirrorTune.C.tidy 30 s (fun s' => runC spec_MirrorTune.C (spec_MirrorTune.O N) N spec_MirrorTune.c31 31 s' spec_MirrorTune.K0)) spec_MirrorTune.K0))
mutual
noncomputable def spec_MirrorTune.l1 (N : Nat) : Nat → (List ByteArray) → Int → Int → Option spec_MirrorTune.R
  | 0, _, _, _ => none
  | n + 1, v0, v1, v2 => spec_MirrorTune.d1 N v0 v1 v2 ((fun w0 w1 w2 w3 => spec_MirrorTune.l3 N n w0 w1 w2 w3))
noncomputable def spec_MirrorTune.l3 (N : Nat) : Nat → (List ByteArray) → (List ByteArray) → Int → Int → Option spec_MirrorTune.R
  | 0, _, _, _, _ => none
  | n + 1, v0, v1, v2, v3 => spec_MirrorTune.d3 N v0 v1 v2 v3 ((fun w0 w1 w2 w3 => spec_MirrorTune.l3 N n w0 w1 w2 w3))
end
theorem spec_MirrorTune.loop122 (N : Nat) : ∀ n, (∀ (v0 : List ByteArray) (v1 : Int) (v2 : Int), iter (loopF spec_MirrorTune.C (spec_MirrorTune.O N) N spec_MirrorTune.c244 122) n (mkSt [(4, .one (.nl)), (12, .one (.sl false 9 v0)), (13, .one (.int .i64 v1)), (14, .one (.int .i64 v2))] [] : St D0) (spec_MirrorTune.K122 N) = spec_MirrorTune.l1 N n v0 v1 v2) ∧ (∀ (v0 : List ByteArray) (v1 : List ByteArray) (v2 : Int) (v3 : Int), iter (loopF spec_MirrorTune.C (spec_MirrorTune.O N) N spec_MirrorTune.c244 122) n (mkSt [(4, .one (.sl true 9 v0)), (12, .one (.sl false 9 v1)), (13, .one (.int .i64 v2)), (14, .one (.int .i64 v3))] [] : St D0) (spec_MirrorTune.K122 N) = spec_MirrorTune.l3 N n v0 v1 v2 v3)
  | 0 => ⟨(fun v0 v1 v2 => rfl), (fun v0 v1 v2 v3 => rfl)⟩
  | n + 1 => ⟨(fun v0 v1 v2 => (spec_MirrorTune.d1.run N (fun s => iter (loopF spec_MirrorTune.C (spec_MirrorTune.O N) N spec_MirrorTune.c244 122) n s (spec_MirrorTune.K122 N)) v0 v1 v2).trans (show _ = spec_MirrorTune.d1 N v0 v1 v2 ((fun w0 w1 w2 w3 => spec_MirrorTune.l3 N n w0 w1 w2 w3)) from (congr rfl (funext fun w0 => funext fun w1 => funext fun w2 => funext fun w3 => (spec_MirrorTune.loop122 N n).2 w0 w1 w2 w3)))), (fun v0 v1 v2 v3 => (spec_MirrorTune.d3.run N (fun s => iter (loopF spec_MirrorTune.C (spec_MirrorTune.O N) N spec_MirrorTune.c244 122) n s (spec_MirrorTune.K122 N)) v0 v1 v2 v3).trans (show _ = spec_MirrorTune.d3 N v0 v1 v2 v3 ((fun w0 w1 w2 w3 => spec_MirrorTune.l3 N n w0 w1 w2 w3)) from (congr rfl (funext fun w0 => funext fun w1 => funext fun w2 => funext fun w3 => (spec_MirrorTune.loop122 N n).2 w0 w1 w2 w3))))⟩
noncomputable def spec_MirrorTune.o0 (N : Nat) (a0 : List ByteArray) (c1 : (List ByteArray) → Int → Int → Option spec_MirrorTune.R) : Option spec_MirrorTune.R :=
 (spec_beTune.g N a0).bind fun r1 =>
 bif (!r1) then
  some (([] : List ByteArray), false)
 else
 c1 a0 (a0.length : Int) 0
theorem spec_MirrorTune.o0.run (N : Nat) (H244 : Code) (a0 : List ByteArray) : runC spec_MirrorTune.C (spec_MirrorTune.O N) N (.seq spec_MirrorTune.c2 (.seq spec_MirrorTune.c6 (.seq spec_MirrorTune.c14 (.seq (.seq spec_MirrorTune.c60 (.block 0 (.loop H244))) spec_MirrorTune.c31)))) 1 (st0 [.one (.sl false 9 a0)] [] : St D0) spec_MirrorTune.K0 = spec_MirrorTune.o0 N a0 ((fun w0 w1 w2 => iter (loopF spec_MirrorTune.C (spec_MirrorTune.O N) N H244 122) N (mkSt [(4, .one (.nl)), (12, .one (.sl false 9 w0)), (13, .one (.int .i64 w1)), (14, .one (.int .i64 w2))] [] : St D0) (blockK 0 (onN (fun s => spec_MirrorTune.C.tidy 30 s (fun s' => runC spec_MirrorTune.C (spec_MirrorTune.O N) N spec_MirrorTune.c31 31 s' spec_MirrorTune.K0)) spec_MirrorTune.K0)))) := by kernel_rfl
noncomputable def spec_MirrorTune.g (N : Nat) (a0 : List ByteArray) : Option spec_MirrorTune.R := spec_MirrorTune.o0 N a0 ((fun w0 w1 w2 => spec_MirrorTune.l1 N N w0 w1 w2))
theorem spec_MirrorTune.c1_0 : spec_MirrorTune.c1 = (.seq spec_MirrorTune.c2 (.seq spec_MirrorTune.c6 (.seq spec_MirrorTune.c14 (.seq (.seq spec_MirrorTune.c60 (.block 0 (.loop spec_MirrorTune.c244))) spec_MirrorTune.c31)))) := by kernel_rfl
theorem spec_MirrorTune.g.run (N : Nat) (a0 : List ByteArray) : runC spec_MirrorTune.C (spec_MirrorTune.O N) N spec_MirrorTune.c1 1 (st0 [.one (.sl false 9 a0)] [] : St D0) spec_MirrorTune.K0 = spec_MirrorTune.g N a0 := by
  rw [spec_MirrorTune.c1_0]; unfold spec_MirrorTune.g; exact (spec_MirrorTune.o0.run N spec_MirrorTune.c244 a0).trans (congr rfl (funext fun w0 => funext fun w1 => funext fun w2 => (spec_MirrorTune.loop122 N N).1 w0 w1 w2))
theorem spec_MirrorTune.good (N : Nat) (a0 : List ByteArray) (r : spec_MirrorTune.R) (h : spec_MirrorTune.g N a0 = some r) : Go.PM.Good Go.Proofs.Tryd.prog T0 10 [.one (.sl false 9 a0)] [] (spec_MirrorTune.sig.ret r) (spec_MirrorTune.sig.bs r) :=
  good_fn tabOk0 mixed0 spec_MirrorTune.sig (spec_MirrorTune.E N) Go.Proofs.Tryd.func10 (by kernel_rfl) (by kernel_rfl) 2161117 0 0 [(122, [4, 12, 13, 14], []), (125338, [4, 6, 7, 8, 12, 13, 14], [])] 122421760 false [] [(false, [.own 9]), (false, [.any])] (by kernel_rfl) rfl rfl ((spec_MirrorTune.g.run N a0).trans h)
noncomputable def spec_MirrorTune.ent (N : Nat) : Ent Go.Proofs.Tryd.prog T0 := mkEnt 10 [(false, [.ro 9])] spec_MirrorTune.sig (fun t => spec_MirrorTune.g N t) (fun t r h => spec_MirrorTune.good N t r h)
end Go.Proofs.YtpmipkbfohcjiaaDoor.M

namespace Go.Proofs.YtpmipkbfohcjiaaDoor.M
open Go Go.PM Go.Proofs.YtpmipkbfohcjiaaDoor.P
set_option linter.unusedVariables false
set_option maxRecDepth 100000
open Go.RowKit Go.Lib
/-! ### strings_Join -/
abbrev strings_Join.R : Type := ByteArray
abbrev strings_Join.sig : Sig := ⟨[(false, 1), (false, 1)], [], [.sl false 9, .str], [(false, 1)], [], [.str]⟩
noncomputable def strings_Join.g (N : Nat) (a0 : List ByteArray) (a1 : ByteArray) : Option strings_Join.R := bif decide ((Lib.join (a0.map (·.data.toList)) a1.data.toList).length ≤ 140737488355328 ∧ a0.length ≤ 140737488355328) then some ⟨(Lib.join (a0.map (·.data.toList)) a1.data.toList).toArray⟩ else none
theorem strings_Join.good (N : Nat) (a0 : List ByteArray) (a1 : ByteArray) (r : strings_Join.R) (h : strings_Join.g N a0 a1 = some r) : Go.PM.Good Go.Proofs.Tryd.prog T0 40 [.one (.sl false 9 a0), .one (.str a1)] [] (strings_Join.sig.ret r) (strings_Join.sig.bs r) := by
  unfold strings_Join.g at h
  obtain ⟨hc, h⟩ := bif_some h
  have hc := of_decide_eq_true hc
  cases Option.some.inj h
  refine good_flat ⟨_, Go.Proofs.Tryd.func40, by kernel_rfl, rfl⟩ _ (.str _) ?_
  intro w C blk vargs hsz hrep hag
  have e1 := rep_str (hrep 1)
  obtain ⟨A, cp, b, o, vals, e0, hcp, hA, hC, hR⟩ := inv_sl (T := T0) (e := 9) (xs := a0) (own := false) (hrep 0)
  have ev : vargs = #[.slice A a0.length cp, .string a1] := (args2 hsz).trans (by rw [e0, e1])
  rw [ev]
  cases a0 with
  | nil =>
    refine (Go.Proofs.Tryd.strings_Join_none A cp a1 w).mono ?_
    rintro e w' ⟨rfl, rfl⟩
    exact ⟨rfl, Below.refl _ _⟩
  | cons x xs =>
    have hA' := hA (by simp)
    subst hA'
    have hcell : ∀ (j : Nat) y, (x :: xs)[j]? = some y → w.cell? ⟨b, o + j, none⟩ = some (.string y) := by
      intro j y hj
      have h1 := hC j y 0 (.str y) hj rfl
      have h2 := hR j y 0 (.str y) hj rfl
      have h3 := hag _ _ _ h1
      rw [show vals j 0 = .string y from inv_str (C := C) (blk := blk) h2] at h3
      rw [← h3]
      show _ = w.cell? ⟨b, o + j * 1 + 0, none⟩
      rw [Nat.mul_one, Nat.add_zero]
    have hb : b < w.heap.size := World.block_lt_of_cell? w _ (hcell 0 x rfl)
    refine (Go.Proofs.Tryd.strings_Join b o cp (x :: xs) a1 w hcell hb hc.2 hcp hc.1).mono ?_
    rintro e w' ⟨rfl, hB⟩
    exact ⟨rfl, hB⟩
noncomputable def strings_Join.ent (N : Nat) : Ent Go.Proofs.Tryd.prog T0 := mkEnt 40 [(false, [.ro 9]), (false, [.any])] strings_Join.sig (fun t => strings_Join.g N t.1 t.2) (fun t r h => strings_Join.good N t.1 t.2 r h)
end Go.Proofs.YtpmipkbfohcjiaaDoor.M

namespace Go.Proofs.YtpmipkbfohcjiaaDoor.M
open Go Go.PM Go.Proofs.YtpmipkbfohcjiaaDoor.P
set_option linter.unusedVariables false
set_option maxRecDepth 100000
/-! ### impl_TuneText -/
abbrev impl_TuneText.R : Type := ByteArray × Bool
abbrev impl_TuneText.sig : Sig := ⟨[(false, 1)], [], [.sl false 9], [(false, 1), (false, 1)], [], [.str, .bool]⟩
noncomputable def impl_TuneText.C : Cfg D0 := ⟨Go.Proofs.Tryd.prog, T0, 77, 0, 9, 0, [], 144, false, []⟩
noncomputable def impl_TuneText.E (N : Nat) : List (Ent Go.Proofs.Tryd.prog T0) := [impl_IsTune.ent N, strings_Join.ent N]
noncomputable def impl_TuneText.O (N : Nat) : Orc D0 impl_TuneText.R := orcOf (impl_TuneText.E N)
noncomputable def impl_TuneText.K0 : Ex → St D0 → Option impl_TuneText.R := exitK impl_TuneText.C Go.Proofs.Tryd.f11.results.toList [(false, [.any]), (false, [.any])] (decOut impl_TuneText.sig)
noncomputable def impl_TuneText.c1 : Code := codeAt (Go.Proofs.Tryd.f11.body.getD .skip) []
noncomputable def impl_TuneText.o0 (N : Nat) (a0 : List ByteArray) : Option impl_TuneText.R :=
 (impl_IsTune.g N a0).bind fun r1 =>
 bif (!r1) then
  some ((⟨#[]⟩ : ByteArray), false)
 else
 (strings_Join.g N a0 (⟨#[47]⟩ : ByteArray)).bind fun r2 =>
 some (r2, true)
theorem impl_TuneText.o0.run (N : Nat) (a0 : List ByteArray) : runC impl_TuneText.C (impl_TuneText.O N) N impl_TuneText.c1 1 (st0 [.one (.sl false 9 a0)] [] : St D0) impl_TuneText.K0 = impl_TuneText.o0 N a0 := by kernel_rfl
noncomputable def impl_TuneText.g (N : Nat) (a0 : List ByteArray) : Option impl_TuneText.R := impl_TuneText.o0 N a0
theorem impl_TuneText.g.run (N : Nat) (a0 : List ByteArray) : runC impl_TuneText.C (impl_TuneText.O N) N impl_TuneText.c1 1 (st0 [.one (.sl false 9 a0)] [] : St D0) impl_TuneText.K0 = impl_TuneText.g N a0 := by
  exact (impl_TuneText.o0.run N a0).trans rfl
theorem impl_TuneText.good (N : Nat) (a0 : List ByteArray) (r : impl_TuneText.R) (h : impl_TuneText.g N a0 = some r) : Go.PM.Good Go.Proofs.Tryd.prog T0 11 [.one (.sl false 9 a0)] [] (impl_TuneText.sig.ret r) (impl_TuneText.sig.bs r) :=
  good_fn tabOk0 mixed0 impl_TuneText.sig (impl_TuneText.E N) Go.Proofs.Tryd.func11 (by kernel_rfl) (by kernel_rfl) 77 0 0 [] 144 false [] [(false, [.any]), (false, [.any])] (by kernel_rfl) rfl rfl ((impl_TuneText.g.run N a0).trans h)
noncomputable def impl_TuneText.ent (N : Nat) : Ent Go.Proofs.Tryd.prog T0 := mkEnt 11 [(false, [.ro 9])] impl_TuneText.sig (fun t => impl_TuneText.g N t) (fun t r h => impl_TuneText.good N t r h)
end Go.Proofs.YtpmipkbfohcjiaaDoor.M

namespace Go.Proofs.YtpmipkbfohcjiaaDoor.M
open Go Go.PM Go.Proofs.YtpmipkbfohcjiaaDoor.P
set_option linter.unusedVariables false
set_option maxRecDepth 100000
/-! ### spec_beText -/
abbrev spec_beText.R : Type := ByteArray
abbrev spec_beText.sig : Sig := ⟨[(false, 1)], [], [.sl false 9], [(false, 1)], [], [.str]⟩
noncomputable def spec_beText.C : Cfg D0 := ⟨Go.Proofs.Tryd.prog, T0, 17405, 0, 22, 0, [(58, [3, 6, 7, 8], []), (7474, [3, 5, 6, 7, 8], [])], 434176, false, []⟩
noncomputable def spec_beText.E (N : Nat) : List (Ent Go.Proofs.Tryd.prog T0) := []
noncomputable def spec_beText.O (N : Nat) : Orc D0 spec_beText.R := orcOf (spec_beText.E N)
noncomputable def spec_beText.K0 : Ex → St D0 → Option spec_beText.R := exitK spec_beText.C Go.Proofs.Tryd.f41.results.toList [(false, [.any])] (decOut spec_beText.sig)
noncomputable def spec_beText.c1 : Code := codeAt (Go.Proofs.Tryd.f41.body.getD .skip) []
noncomputable def spec_beText.c2 : Code := codeAt (Go.Proofs.Tryd.f41.body.getD .skip) [false]
noncomputable def spec_beText.c6 : Code := codeAt (Go.Proofs.Tryd.f41.body.getD .skip) [true, false]
noncomputable def spec_beText.c15 : Code := codeAt (Go.Proofs.Tryd.f41.body.getD .skip) [true, true, true]
noncomputable def spec_beText.c28 : Code := codeAt (Go.Proofs.Tryd.f41.body.getD .skip) [true, true, false, false]
noncomputable def spec_beText.c116 : Code := codeAt (Go.Proofs.Tryd.f41.body.getD .skip) [true, true, false, true, false, false]
noncomputable def spec_beText.c232 : Code := codeAt (Go.Proofs.Tryd.f41.body.getD .skip) [true, true, false, true, false, false, false]
noncomputable def spec_beText.c466 : Code := codeAt (Go.Proofs.Tryd.f41.body.getD .skip) [true, true, false, true, false, false, true, false]
noncomputable def spec_beText.c935 : Code := codeAt (Go.Proofs.Tryd.f41.body.getD .skip) [true, true, false, true, false, false, true, true, true]
noncomputable def spec_beText.c3736 : Code := codeAt (Go.Proofs.Tryd.f41.body.getD .skip) [true, true, false, true, false, false, true, true, false, false, false]
noncomputable def spec_beText.c7474 : Code := codeAt (Go.Proofs.Tryd.f41.body.getD .skip) [true, true, false, true, false, false, true, true, false, false, true, false]
noncomputable def spec_beText.c7475 : Code := codeAt (Go.Proofs.Tryd.f41.body.getD .skip) [true, true, false, true, false, false, true, true, false, false, true, true]
noncomputable def spec_beText.K7475 (N : Nat) (Kn58 : St D0 → Option spec_beText.R) : Ex → St D0 → Option spec_beText.R := (blockK 1 ((fun up => (onN (fun s => spec_beText.C.tidy 934 s (fun s' => runC spec_beText.C (spec_beText.O N) N spec_beText.c935 935 s' up)) up)) ((fun up => (onN (fun s => spec_beText.C.tidy 58 s ((onN Kn58 up) .normal)) (onN Kn58 up))) (blockK 0 (onN (fun s => spec_beText.C.tidy 14 s (fun s' => runC spec_beText.C (spec_beText.O N) N spec_beText.c15 15 s' spec_beText.K0)) spec_beText.K0)))))
noncomputable def spec_beText.o2 (N : Nat) (v0 : ByteArray) (v1 : ByteArray) (v2 : List ByteArray) (v3 : Int) (v4 : Int) (c1 : ByteArray → (List ByteArray) → Int → Int → Option spec_beText.R) : Option spec_beText.R :=
 bif (Nat.ble (v0.size + v1.size) 9223372036854775807) then
  c1 (v0 ++ v1) v2 v3 (w64 (v4 + 1))
 else
 none
theorem spec_beText.o2.run (N : Nat) (Kn58 : St D0 → Option spec_beText.R) (v0 : ByteArray) (v1 : ByteArray) (v2 : List ByteArray) (v3 : Int) (v4 : Int) : runC spec_beText.C (spec_beText.O N) N spec_beText.c7475 7475 (mkSt [(3, .one (.str v0)), (5, .one (.str v1)), (6, .one (.sl false 9 v2)), (7, .one (.int .i64 v3)), (8, .one (.int .i64 v4))] [] : St D0) (blockK 1 ((fun up => (onN (fun s => spec_beText.C.tidy 934 s (fun s' => runC spec_beText.C (spec_beText.O N) N spec_beText.c935 935 s' up)) up)) ((fun up => (onN (fun s => spec_beText.C.tidy 58 s ((onN Kn58 up) .normal)) (onN Kn58 up))) (blockK 0 (onN (fun s => spec_beText.C.tidy 14 s (fun s' => runC spec_beText.C (spec_beText.O N) N spec_beText.c15 15 s' spec_beText.K0)) spec_beText.K0))))) = spec_beText.o2 N v0 v1 v2 v3 v4 ((fun w0 w1 w2 w3 => Kn58 (mkSt [(3, .one (.str w0)), (6, .one (.sl false 9 w1)), (7, .one (.int .i64 w2)), (8, .one (.int .i64 w3))] [] : St D0))) := by kernel_rfl
noncomputable def spec_beText.d2 (N : Nat) (v0 : ByteArray) (v1 : ByteArray) (v2 : List ByteArray) (v3 : Int) (v4 : Int) (c1 : ByteArray → (List ByteArray) → Int → Int → Option spec_beText.R) : Option spec_beText.R := spec_beText.o2 N v0 v1 v2 v3 v4 c1
theorem spec_beText.d2.run (N : Nat) (Kn58 : St D0 → Option spec_beText.R) (v0 : ByteArray) (v1 : ByteArray) (v2 : List ByteArray) (v3 : Int) (v4 : Int) : runC spec_beText.C (spec_beText.O N) N spec_beText.c7475 7475 (mkSt [(3, .one (.str v0)), (5, .one (.str v1)), (6, .one (.sl false 9 v2)), (7, .one (.int .i64 v3)), (8, .one (.int .i64 v4))] [] : St D0) (spec_beText.K7475 N Kn58) = spec_beText.d2 N v0 v1 v2 v3 v4 ((fun w0 w1 w2 w3 => Kn58 (mkSt [(3, .one (.str w0)), (6, .one (.sl false 9 w1)), (7, .one (.int .i64 w2)), (8, .one (.int .i64 w3))] [] : St D0))) := by
  exact (spec_beText.o2.run N Kn58 v0 v1 v2 v3 v4).trans rfl
noncomputable def spec_beText.K116 (N : Nat) (Kn58 : St D0 → Option spec_beText.R) : Ex → St D0 → Option spec_beText.R := ((fun up => (onN (fun s => spec_beText.C.tidy 58 s ((onN Kn58 up) .normal)) (onN Kn58 up))) (blockK 0 (onN (fun s => spec_beText.C.tidy 14 s (fun s' => runC spec_beText.C (spec_beText.O N) N spec_beText.c15 15 s' spec_beText.K0)) spec_beText.K0)))
noncomputable def spec_beText.o1 (N : Nat) (v0 : ByteArray) (v1 : List ByteArray) (v2 : Int) (v3 : Int) (c2 : ByteArray → ByteArray → (List ByteArray) → Int → Int → Option spec_beText.R) : Option spec_beText.R :=
 bif (decide (v3 < v2)) then
  bif (decide (0 ≤ v3)) then
   bif (decide (v3 < (v1.length : Int))) then
    (v1[(v3 : Int).toNat]?).bind fun x1 =>
    bif (decide (v3 > 0)) then
     bif (Nat.ble (v0.size + (⟨#[47]⟩ : ByteArray).size) 9223372036854775807) then
      c2 (v0 ++ (⟨#[47]⟩ : ByteArray)) x1 v1 v2 v3
     else
     none
    else
    c2 v0 x1 v1 v2 v3
   else
   none
  else
  none
 else
 some (v0)
theorem spec_beText.o1.run (N : Nat) (Kn58 : St D0 → Option spec_beText.R) (H7475 : Code) (v0 : ByteArray) (v1 : List ByteArray) (v2 : Int) (v3 : Int) : runC spec_beText.C (spec_beText.O N) N (.seq spec_beText.c232 (.seq spec_beText.c466 (.seq (.block 1 (.seq spec_beText.c3736 (.seq spec_beText.c7474 H7475))) spec_beText.c935))) 116 (mkSt [(3, .one (.str v0)), (6, .one (.sl false 9 v1)), (7, .one (.int .i64 v2)), (8, .one (.int .i64 v3))] [] : St D0) ((fun up => (onN (fun s => spec_beText.C.tidy 58 s ((onN Kn58 up) .normal)) (onN Kn58 up))) (blockK 0 (onN (fun s => spec_beText.C.tidy 14 s (fun s' => runC spec_beText.C (spec_beText.O N) N spec_beText.c15 15 s' spec_beText.K0)) spec_beText.K0))) = spec_beText.o1 N v0 v1 v2 v3 ((fun w0 w1 w2 w3 w4 => runC spec_beText.C (spec_beText.O N) N H7475 7475 (mkSt [(3, .one (.str w0)), (5, .one (.str w1)), (6, .one (.sl false 9 w2)), (7, .one (.int .i64 w3)), (8, .one (.int .i64 w4))] [] : St D0) (blockK 1 ((fun up => (onN (fun s => spec_beText.C.tidy 934 s (fun s' => runC spec_beText.C (spec_beText.O N) N spec_beText.c935 935 s' up)) up)) ((fun up => (onN (fun s => spec_beText.C.tidy 58 s ((onN Kn58 up) .normal)) (onN Kn58 up))) (blockK 0 (onN (fun s => spec_beText.C.tidy 14 s (fun s' => runC spec_beText.C (spec_beText.O N) N spec_beText.c15 15 s' spec_beText.K0)) spec_beText.K0))))))) := by kernel_rfl
noncomputable def spec_beText.B3737 (N : Nat) (Kn58 : St D0 → Option spec_beText.R) : St D0 → Option spec_beText.R := fun s' => runC spec_beText.C (spec_beText.O N) N spec_beText.c7475 7475 s' (spec_beText.K7475 N Kn58)
noncomputable def spec_beText.d1 (N : Nat) (v0 : ByteArray) (v1 : List ByteArray) (v2 : Int) (v3 : Int) (c1 : ByteArray → (List ByteArray) → Int → Int → Option spec_beText.R) : Option spec_beText.R := spec_beText.o1 N v0 v1 v2 v3 ((fun w0 w1 w2 w3 w4 => spec_beText.d2 N w0 w1 w2 w3 w4 c1))
theorem spec_beText.c116_1 : spec_beText.c116 = (.seq spec_beText.c232 (.seq spec_beText.c466 (.seq (.block 1 (.seq spec_beText.c3736 (.seq spec_beText.c7474 spec_beText.c7475))) spec_beText.c935))) := by kernel_rfl
theorem spec_beText.d1.run (N : Nat) (Kn58 : St D0 → Option spec_beText.R) (v0 : ByteArray) (v1 : List ByteArray) (v2 : Int) (v3 : Int) : runC spec_beText.C (spec_beText.O N) N spec_beText.c116 116 (mkSt [(3, .one (.str v0)), (6, .one (.sl false 9 v1)), (7, .one (.int .i64 v2)), (8, .one (.int .i64 v3))] [] : St D0) (spec_beText.K116 N Kn58) = spec_beText.d1 N v0 v1 v2 v3 ((fun w0 w1 w2 w3 => Kn58 (mkSt [(3, .one (.str w0)), (6, .one (.sl false 9 w1)), (7, .one (.int .i64 w2)), (8, .one (.int .i64 w3))] [] : St D0))) := by
  rw [spec_beText.c116_1]; unfold spec_beText.d1; exact (spec_beText.o1.run N Kn58 spec_beText.c7475 v0 v1 v2 v3).trans (congr rfl (funext fun w0 => funext fun w1 => funext fun w2 => funext fun w3 => funext fun w4 => spec_beText.d2.run N Kn58 w0 w1 w2 w3 w4))
noncomputable def spec_beText.K58 (N : Nat) : Ex → St D0 → Option spec_beText.R := (blockK 0 (onN (fun s => spec_beText.C.tidy 14 s (fun s' => runC spec_beText.C (spec_beText.O N) N spec_beText.c15 15 s' spec_beText.K0)) spec_beText.K0))
noncomputable def spec_beText.l1 (N : Nat) : Nat → ByteArray → (List ByteArray) → Int → Int → Option spec_beText.R
  | 0, _, _, _, _ => none
  | n + 1, v0, v1, v2, v3 => spec_beText.d1 N v0 v1 v2 v3 ((fun w0 w1 w2 w3 => spec_beText.l1 N n w0 w1 w2 w3))
theorem spec_beText.loop58 (N : Nat) : ∀ n, (∀ (v0 : ByteArray) (v1 : List ByteArray) (v2 : Int) (v3 : Int), iter (loopF spec_beText.C (spec_beText.O N) N spec_beText.c116 58) n (mkSt [(3, .one (.str v0)), (6, .one (.sl false 9 v1)), (7, .one (.int .i64 v2)), (8, .one (.int .i64 v3))] [] : St D0) (spec_beText.K58 N) = spec_beText.l1 N n v0 v1 v2 v3)
  | 0 => (fun v0 v1 v2 v3 => rfl)
  | n + 1 => (fun v0 v1 v2 v3 => (spec_beText.d1.run N (fun s => iter (loopF spec_beText.C (spec_beText.O N) N spec_beText.c116 58) n s (spec_beText.K58 N)) v0 v1 v2 v3).trans (show _ = spec_beText.d1 N v0 v1 v2 v3 ((fun w0 w1 w2 w3 => spec_beText.l1 N n w0 w1 w2 w3)) from (congr rfl (funext fun w0 => funext fun w1 => funext fun w2 => funext fun w3 => (spec_beText.loop58 N n) w0 w1 w2 w3))))
noncomputable def spec_beText.o0 (N : Nat) (a0 : List ByteArray) (c1 : ByteArray → (List ByteArray) → Int → Int → Option spec_beText.R) : Option spec_beText.R :=
 c1 (⟨#[]⟩ : ByteArray) a0 (a0.length : Int) 0
theorem spec_beText.o0.run (N : Nat) (H116 : Code) (a0 : List ByteArray) : runC spec_beText.C (spec_beText.O N) N (.seq spec_beText.c2 (.seq spec_beText.c6 (.seq (.seq spec_beText.c28 (.block 0 (.loop H116))) spec_beText.c15))) 1 (st0 [.one (.sl false 9 a0)] [] : St D0) spec_beText.K0 = spec_beText.o0 N a0 ((fun w0 w1 w2 w3 => iter (loopF spec_beText.C (spec_beText.O N) N H116 58) N (mkSt [(3, .one (.str w0)), (6, .one (.sl false 9 w1)), (7, .one (.int .i64 w2)), (8, .one (.int .i64 w3))] [] : St D0) (blockK 0 (onN (fun s => spec_beText.C.tidy 14 s (fun s' => runC spec_beText.C (spec_beText.O N) N spec_beText.c15 15 s' spec_beText.K0)) spec_beText.K0)))) := by kernel_rfl
noncomputable def spec_beText.g (N : Nat) (a0 : List ByteArray) : Option spec_beText.R := spec_beText.o0 N a0 ((fun w0 w1 w2 w3 => spec_beText.l1 N N w0 w1 w2 w3))
theorem spec_beText.c1_0 : spec_beText.c1 = (.seq spec_beText.c2 (.seq spec_beText.c6 (.seq (.seq spec_beText.c28 (.block 0 (.loop spec_beText.c116))) spec_beText.c15))) := by kernel_rfl
theorem spec_beText.g.run (N : Nat) (a0 : List ByteArray) : runC spec_beText.C (spec_beText.O N) N spec_beText.c1 1 (st0 [.one (.sl false 9 a0)] [] : St D0) spec_beText.K0 = spec_beText.g N a0 := by
  rw [spec_beText.c1_0]; unfold spec_beText.g; exact (spec_beText.o0.run N spec_beText.c116 a0).trans (congr rfl (funext fun w0 => funext fun w1 => funext fun w2 => funext fun w3 => (spec_beText.loop58 N N) w0 w1 w2 w3))
theorem spec_beText.good (N : Nat) (a0 : List ByteArray) (r : spec_beText.R) (h : spec_beText.g N a0 = some r) : Go.PM.Good Go.Proofs.Tryd.prog T0 41 [.one (.sl false 9 a0)] [] (spec_beText.sig.ret r) (spec_beText.sig.bs r) :=
  good_fn tabOk0 mixed0 spec_beText.sig (spec_beText.E N) Go.Proofs.Tryd.func41 (by kernel_rfl) (by kernel_rfl) 17405 0 0 [(58, [3, 6, 7, 8], []), (7474, [3, 5, 6, 7, 8], [])] 434176 false [] [(false, [.any])] (by kernel_rfl) rfl rfl ((spec_beText.g.run N a0).trans h)
noncomputable def spec_beText.ent (N : Nat) : Ent Go.Proofs.Tryd.prog T0 := mkEnt 41 [(false, [.ro 9])] spec_beText.sig (fun t => spec_beText.g N t) (fun t r h => spec_beText.good N t r h)
end Go.Proofs.YtpmipkbfohcjiaaDoor.M

namespace Go.Proofs.YtpmipkbfohcjiaaDoor.M
open Go Go.PM Go.Proofs.YtpmipkbfohcjiaaDoor.P
set_option linter.unusedVariables false
set_option maxRecDepth 100000
/-! ### spec_TuneText -/
abbrev spec_TuneText.R : Type := ByteArray × Bool
abbrev spec_TuneText.sig : Sig := ⟨[(false, 1)], [], [.sl false 9], [(false, 1), (false, 1)], [], [.str, .bool]⟩
noncomputable def spec_TuneText.C : Cfg D0 := ⟨Go.Proofs.Tryd.prog, T0, 77, 0, 9, 0, [], 144, false, []⟩
noncomputable def spec_TuneText.E (N : Nat) : List (Ent Go.Proofs.Tryd.prog T0) := [spec_beTune.ent N, spec_beText.ent N]
noncomputable def spec_TuneText.O (N : Nat) : Orc D0 spec_TuneText.R := orcOf (spec_TuneText.E N)
noncomputable def spec_TuneText.K0 : Ex → St D0 → Option spec_TuneText.R := exitK spec_TuneText.C Go.Proofs.Tryd.f12.results.toList [(false, [.any]), (false, [.any])] (decOut spec_TuneText.sig)
noncomputable def spec_TuneText.c1 : Code := codeAt (Go.Proofs.Tryd.f12.body.getD .skip) []
noncomputable def spec_TuneText.o0 (N : Nat) (a0 : List ByteArray) : Option spec_TuneText.R :=
 (spec_beTune.g N a0).bind fun r1 =>
 bif (!r1) then
  some ((⟨#[]⟩ : ByteArray), false)
 else
 (spec_beText.g N a0).bind fun r2 =>
 some (r2, true)
theorem spec_TuneText.o0.run (N : Nat) (a0 : List ByteArray) : runC spec_TuneText.C (spec_TuneText.O N) N spec_TuneText.c1 1 (st0 [.one (.sl false 9 a0)] [] : St D0) spec_TuneText.K0 = spec_TuneText.o0 N a0 := by kernel_rfl
noncomputable def spec_TuneText.g (N : Nat) (a0 : List ByteArray) : Option spec_TuneText.R := spec_TuneText.o0 N a0
theorem spec_TuneText.g.run (N : Nat) (a0 : List ByteArray) : runC spec_TuneText.C (spec_TuneText.O N) N spec_TuneText.c1 1 (st0 [.one (.sl false 9 a0)] [] : St D0) spec_TuneText.K0 = spec_TuneText.g N a0 := by
  exact (spec_TuneText.o0.run N a0).trans rfl
theorem spec_TuneText.good (N : Nat) (a0 : List ByteArray) (r : spec_TuneText.R) (h : spec_TuneText.g N a0 = some r) : Go.PM.Good Go.Proofs.Tryd.prog T0 12 [.one (.sl false 9 a0)] [] (spec_TuneText.sig.ret r) (spec_TuneText.sig.bs r) :=
  good_fn tabOk0 mixed0 spec_TuneText.sig (spec_TuneText.E N) Go.Proofs.Tryd.func12 (by kernel_rfl) (by kernel_rfl) 77 0 0 [] 144 false [] [(false, [.any]), (false, [.any])] (by kernel_rfl) rfl rfl ((spec_TuneText.g.run N a0).trans h)
noncomputable def spec_TuneText.ent (N : Nat) : Ent Go.Proofs.Tryd.prog T0 := mkEnt 12 [(false, [.ro 9])] spec_TuneText.sig (fun t => spec_TuneText.g N t) (fun t r h => spec_TuneText.good N t r h)
end Go.Proofs.YtpmipkbfohcjiaaDoor.M

namespace Go.Proofs.YtpmipkbfohcjiaaDoor.M
open Go Go.PM Go.Proofs.YtpmipkbfohcjiaaDoor.P
set_option linter.unusedVariables false
set_option maxRecDepth 100000
/-! ### impl_lcm -/
abbrev impl_lcm.R : Type := Int
abbrev impl_lcm.sig : Sig := ⟨[(false, 1), (false, 1)], [], [.int .i64, .int .i64], [(false, 1)], [], [.int .i64]⟩
noncomputable def impl_lcm.C : Cfg D0 := ⟨Go.Proofs.Tryd.prog, T0, 19, 0, 12, 0, [], 1248, false, []⟩
noncomputable def impl_lcm.E (N : Nat) : List (Ent Go.Proofs.Tryd.prog T0) := [impl_gcd.ent N]
noncomputable def impl_lcm.O (N : Nat) : Orc D0 impl_lcm.R := orcOf (impl_lcm.E N)
noncomputable def impl_lcm.K0 : Ex → St D0 → Option impl_lcm.R := exitK impl_lcm.C Go.Proofs.Tryd.f47.results.toList [(false, [.any])] (decOut impl_lcm.sig)
noncomputable def impl_lcm.c1 : Code := codeAt (Go.Proofs.Tryd.f47.body.getD .skip) []
noncomputable def impl_lcm.o0 (N : Nat) (a0 : Int) (a1 : Int) : Option impl_lcm.R :=
 (impl_gcd.g N a0 a1).bind fun r1 =>
 bif (r1 == 0) then
  none
 else
 some ((w64 ((w64 (Int.tdiv a0 r1)) * a1)))
theorem impl_lcm.o0.run (N : Nat) (a0 : Int) (a1 : Int) : runC impl_lcm.C (impl_lcm.O N) N impl_lcm.c1 1 (st0 [.one (.int .i64 a0), .one (.int .i64 a1)] [] : St D0) impl_lcm.K0 = impl_lcm.o0 N a0 a1 := by kernel_rfl
noncomputable def impl_lcm.g (N : Nat) (a0 : Int) (a1 : Int) : Option impl_lcm.R := impl_lcm.o0 N a0 a1
theorem impl_lcm.g.run (N : Nat) (a0 : Int) (a1 : Int) : runC impl_lcm.C (impl_lcm.O N) N impl_lcm.c1 1 (st0 [.one (.int .i64 a0), .one (.int .i64 a1)] [] : St D0) impl_lcm.K0 = impl_lcm.g N a0 a1 := by
  exact (impl_lcm.o0.run N a0 a1).trans rfl
theorem impl_lcm.good (N : Nat) (a0 : Int) (a1 : Int) (r : impl_lcm.R) (h : impl_lcm.g N a0 a1 = some r) : Go.PM.Good Go.Proofs.Tryd.prog T0 47 [.one (.int .i64 a0), .one (.int .i64 a1)] [] (impl_lcm.sig.ret r) (impl_lcm.sig.bs r) :=
  good_fn tabOk0 mixed0 impl_lcm.sig (impl_lcm.E N) Go.Proofs.Tryd.func47 (by kernel_rfl) (by kernel_rfl) 19 0 0 [] 1248 false [] [(false, [.any])] (by kernel_rfl) rfl rfl ((impl_lcm.g.run N a0 a1).trans h)
noncomputable def impl_lcm.ent (N : Nat) : Ent Go.Proofs.Tryd.prog T0 := mkEnt 47 [(false, [.any]), (false, [.any])] impl_lcm.sig (fun t => impl_lcm.g N t.1 t.2) (fun t r h => impl_lcm.good N t.1 t.2 r h)
end Go.Proofs.YtpmipkbfohcjiaaDoor.M

namespace Go.Proofs.YtpmipkbfohcjiaaDoor.M
open Go Go.PM Go.Proofs.YtpmipkbfohcjiaaDoor.P
set_option linter.unusedVariables false
set_option maxRecDepth 100000
/-! ### impl_IsSameTune -/
abbrev impl_IsSameTune.R : Type := Bool × Bool
abbrev impl_IsSameTune.sig : Sig := ⟨[(false, 1), (false, 1)], [], [.sl false 9, .sl false 9], [(false, 1), (false, 1)], [], [.bool, .bool]⟩
noncomputable def impl_IsSameTune.C : Cfg D0 := ⟨Go.Proofs.Tryd.prog, T0, 1081098355, 0, 32, 0, [(12, [0, 1, 14], []), (58, [0, 1, 20, 21], [])], 453150848, false, []⟩
noncomputable def impl_IsSameTune.E (N : Nat) : List (Ent Go.Proofs.Tryd.prog T0) := [impl_IsTune.ent N, impl_hours.ent N, impl_lcm.ent N, impl_notes.ent N]
noncomputable def impl_IsSameTune.O (N : Nat) : Orc D0 impl_IsSameTune.R := orcOf (impl_IsSameTune.E N)
noncomputable def impl_IsSameTune.K0 : Ex → St D0 → Option impl_IsSameTune.R := exitK impl_IsSameTune.C Go.Proofs.Tryd.f20.results.toList [(false, [.any]), (false, [.any])] (decOut impl_IsSameTune.sig)
noncomputable def impl_IsSameTune.c1 : Code := codeAt (Go.Proofs.Tryd.f20.body.getD .skip) []
noncomputable def impl_IsSameTune.c2 : Code := codeAt (Go.Proofs.Tryd.f20.body.getD .skip) [false]
noncomputable def impl_IsSameTune.c7 : Code := codeAt (Go.Proofs.Tryd.f20.body.getD .skip) [true, true]
noncomputable def impl_IsSameTune.c12 : Code := codeAt (Go.Proofs.Tryd.f20.body.getD .skip) [true, false, false]
noncomputable def impl_IsSameTune.c13 : Code := codeAt (Go.Proofs.Tryd.f20.body.getD .skip) [true, false, true]
noncomputable def impl_IsSameTune.c15 : Code := codeAt (Go.Proofs.Tryd.f20.body.getD .skip) [true, true, true]
noncomputable def impl_IsSameTune.c28 : Code := codeAt (Go.Proofs.Tryd.f20.body.getD .skip) [true, true, false, false]
noncomputable def impl_IsSameTune.c116 : Code := codeAt (Go.Proofs.Tryd.f20.body.getD .skip) [true, true, false, true, false, false]
noncomputable def impl_IsSameTune.K116 (N : Nat) (Kn58 : St D0 → Option impl_IsSameTune.R) : Ex → St D0 → Option impl_IsSameTune.R := ((fun up => (onN (fun s => impl_IsSameTune.C.tidy 58 s ((onN Kn58 up) .normal)) (onN Kn58 up))) (blockK 0 (onN (fun s => impl_IsSameTune.C.tidy 14 s (fun s' => runC impl_IsSameTune.C (impl_IsSameTune.O N) N impl_IsSameTune.c15 15 s' impl_IsSameTune.K0)) impl_IsSameTune.K0)))
noncomputable def impl_IsSameTune.o2 (N : Nat) (v0 : List ByteArray) (v1 : List ByteArray) (v2 : Int) (v3 : Int) (c2 : (List ByteArray) → (List ByteArray) → Int → Int → Option impl_IsSameTune.R) : Option impl_IsSameTune.R :=
 bif (decide (v3 < v2)) then
  (impl_notes.g N v0 v3).bind fun r1 =>
  (impl_notes.g N v1 v3).bind fun r2 =>
  bif (!(r1.toList == r2.toList)) then
   some (false, true)
  else
  c2 v0 v1 v2 (w64 (v3 + 1))
 else
 some (true, true)
theorem impl_IsSameTune.o2.run (N : Nat) (Kn58 : St D0 → Option impl_IsSameTune.R) (v0 : List ByteArray) (v1 : List ByteArray) (v2 : Int) (v3 : Int) : runC impl_IsSameTune.C (impl_IsSameTune.O N) N impl_IsSameTune.c116 116 (mkSt [(0, .one (.sl false 9 v0)), (1, .one (.sl false 9 v1)), (20, .one (.int .i64 v2)), (21, .one (.int .i64 v3))] [] : St D0) ((fun up => (onN (fun s => impl_IsSameTune.C.tidy 58 s ((onN Kn58 up) .normal)) (onN Kn58 up))) (blockK 0 (onN (fun s => impl_IsSameTune.C.tidy 14 s (fun s' => runC impl_IsSameTune.C (impl_IsSameTune.O N) N impl_IsSameTune.c15 15 s' impl_IsSameTune.K0)) impl_IsSameTune.K0))) = impl_IsSameTune.o2 N v0 v1 v2 v3 ((fun w0 w1 w2 w3 => Kn58 (mkSt [(0, .one (.sl false 9 w0)), (1, .one (.sl false 9 w1)), (20, .one (.int .i64 w2)), (21, .one (.int .i64 w3))] [] : St D0))) := by kernel_rfl
noncomputable def impl_IsSameTune.d2 (N : Nat) (v0 : List ByteArray) (v1 : List ByteArray) (v2 : Int) (v3 : Int) (c2 : (List ByteArray) → (List ByteArray) → Int → Int → Option impl_IsSameTune.R) : Option impl_IsSameTune.R := impl_IsSameTune.o2 N v0 v1 v2 v3 c2
theorem impl_IsSameTune.d2.run (N : Nat) (Kn58 : St D0 → Option impl_IsSameTune.R) (v0 : List ByteArray) (v1 : List ByteArray) (v2 : Int) (v3 : Int) : runC impl_IsSameTune.C (impl_IsSameTune.O N) N impl_IsSameTune.c116 116 (mkSt [(0, .one (.sl false 9 v0)), (1, .one (.sl false 9 v1)), (20, .one (.int .i64 v2)), (21, .one (.int .i64 v3))] [] : St D0) (impl_IsSameTune.K116 N Kn58) = impl_IsSameTune.d2 N v0 v1 v2 v3 ((fun w0 w1 w2 w3 => Kn58 (mkSt [(0, .one (.sl false 9 w0)), (1, .one (.sl false 9 w1)), (20, .one (.int .i64 w2)), (21, .one (.int .i64 w3))] [] : St D0))) := by
  exact (impl_IsSameTune.o2.run N Kn58 v0 v1 v2 v3).trans rfl
noncomputable def impl_IsSameTune.K58 (N : Nat) : Ex → St D0 → Option impl_IsSameTune.R := (blockK 0 (onN (fun s => impl_IsSameTune.C.tidy 14 s (fun s' => runC impl_IsSameTune.C (impl_IsSameTune.O N) N impl_IsSameTune.c15 15 s' impl_IsSameTune.K0)) impl_IsSameTune.K0))
noncomputable def impl_IsSameTune.l2 (N : Nat) : Nat → (List ByteArray) → (List ByteArray) → Int → Int → Option impl_IsSameTune.R
  | 0, _, _, _, _ => none
  | n + 1, v0, v1, v2, v3 => impl_IsSameTune.d2 N v0 v1 v2 v3 ((fun w0 w1 w2 w3 => impl_IsSameTune.l2 N n w0 w1 w2 w3))
theorem impl_IsSameTune.loop58 (N : Nat) : ∀ n, (∀ (v0 : List ByteArray) (v1 : List ByteArray) (v2 : Int) (v3 : Int), iter (loopF impl_IsSameTune.C (impl_IsSameTune.O N) N impl_IsSameTune.c116 58) n (mkSt [(0, .one (.sl false 9 v0)), (1, .one (.sl false 9 v1)), (20, .one (.int .i64 v2)), (21, .one (.int .i64 v3))] [] : St D0) (impl_IsSameTune.K58 N) = impl_IsSameTune.l2 N n v0 v1 v2 v3)
  | 0 => (fun v0 v1 v2 v3 => rfl)
  | n + 1 => (fun v0 v1 v2 v3 => (impl_IsSameTune.d2.run N (fun s => iter (loopF impl_IsSameTune.C (impl_IsSameTune.O N) N impl_IsSameTune.c116 58) n s (impl_IsSameTune.K58 N)) v0 v1 v2 v3).trans (show _ = impl_IsSameTune.d2 N v0 v1 v2 v3 ((fun w0 w1 w2 w3 => impl_IsSameTune.l2 N n w0 w1 w2 w3)) from (congr rfl (funext fun w0 => funext fun w1 => funext fun w2 => funext fun w3 => (impl_IsSameTune.loop58 N n) w0 w1 w2 w3))))
noncomputable def impl_IsSameTune.K13 (N : Nat) : Ex → St D0 → Option impl_IsSameTune.R := (onN (fun s => impl_IsSameTune.C.tidy 6 s (fun s' => runC impl_IsSameTune.C (impl_IsSameTune.O N) N impl_IsSameTune.c7 7 s' impl_IsSameTune.K0)) impl_IsSameTune.K0)
noncomputable def impl_IsSameTune.o1 (N : Nat) (v0 : List ByteArray) (v1 : List ByteArray) (v2 : Bool) (c2 : (List ByteArray) → (List ByteArray) → Int → Int → Option impl_IsSameTune.R) : Option impl_IsSameTune.R :=
 bif v2 then
  some (false, false)
 else
 (impl_hours.g N v0).bind fun r1 =>
 (impl_hours.g N v1).bind fun r2 =>
 (impl_lcm.g N r1 r2).bind fun r3 =>
 c2 v0 v1 (w64 (4 * r3)) 0
theorem impl_IsSameTune.o1.run (N : Nat) (H116 : Code) (v0 : List ByteArray) (v1 : List ByteArray) (v2 : Bool) : runC impl_IsSameTune.C (impl_IsSameTune.O N) N impl_IsSameTune.c13 13 (mkSt [(0, .one (.sl false 9 v0)), (1, .one (.sl false 9 v1)), (14, .one (.bool v2))] [] : St D0) (onN (fun s => impl_IsSameTune.C.tidy 6 s (fun s' => runC impl_IsSameTune.C (impl_IsSameTune.O N) N (.seq (.seq impl_IsSameTune.c28 (.block 0 (.loop H116))) impl_IsSameTune.c15) 7 s' impl_IsSameTune.K0)) impl_IsSameTune.K0) = impl_IsSameTune.o1 N v0 v1 v2 ((fun w0 w1 w2 w3 => iter (loopF impl_IsSameTune.C (impl_IsSameTune.O N) N H116 58) N (mkSt [(0, .one (.sl false 9 w0)), (1, .one (.sl false 9 w1)), (20, .one (.int .i64 w2)), (21, .one (.int .i64 w3))] [] : St D0) (blockK 0 (onN (fun s => impl_IsSameTune.C.tidy 14 s (fun s' => runC impl_IsSameTune.C (impl_IsSameTune.O N) N impl_IsSameTune.c15 15 s' impl_IsSameTune.K0)) impl_IsSameTune.K0)))) := by kernel_rfl
noncomputable def impl_IsSameTune.d1 (N : Nat) (v0 : List ByteArray) (v1 : List ByteArray) (v2 : Bool) : Option impl_IsSameTune.R := impl_IsSameTune.o1 N v0 v1 v2 ((fun w0 w1 w2 w3 => impl_IsSameTune.l2 N N w0 w1 w2 w3))
theorem impl_IsSameTune.d1.run (N : Nat) (v0 : List ByteArray) (v1 : List ByteArray) (v2 : Bool) : runC impl_IsSameTune.C (impl_IsSameTune.O N) N impl_IsSameTune.c13 13 (mkSt [(0, .one (.sl false 9 v0)), (1, .one (.sl false 9 v1)), (14, .one (.bool v2))] [] : St D0) (impl_IsSameTune.K13 N) = impl_IsSameTune.d1 N v0 v1 v2 := by
  unfold impl_IsSameTune.d1; exact (impl_IsSameTune.o1.run N impl_IsSameTune.c116 v0 v1 v2).trans (congr rfl (funext fun w0 => funext fun w1 => funext fun w2 => funext fun w3 => (impl_IsSameTune.loop58 N N) w0 w1 w2 w3))
noncomputable def impl_IsSameTune.o0 (N : Nat) (a0 : List ByteArray) (a1 : List ByteArray) (c1 : (List ByteArray) → (List ByteArray) → Bool → Option impl_IsSameTune.R) : Option impl_IsSameTune.R :=
 (impl_IsTune.g N a0).bind fun r1 =>
 bif (!r1) then
  c1 a0 a1 true
 else
 (impl_IsTune.g N a1).bind fun r2 =>
 c1 a0 a1 (!r2)
theorem impl_IsSameTune.o0.run (N : Nat) (H13 : Code) (a0 : List ByteArray) (a1 : List ByteArray) : runC impl_IsSameTune.C (impl_IsSameTune.O N) N (.seq impl_IsSameTune.c2 (.seq (.seq impl_IsSameTune.c12 H13) impl_IsSameTune.c7)) 1 (st0 [.one (.sl false 9 a0), .one (.sl false 9 a1)] [] : St D0) impl_IsSameTune.K0 = impl_IsSameTune.o0 N a0 a1 ((fun w0 w1 w2 => runC impl_IsSameTune.C (impl_IsSameTune.O N) N H13 13 (mkSt [(0, .one (.sl false 9 w0)), (1, .one (.sl false 9 w1)), (14, .one (.bool w2))] [] : St D0) (onN (fun s => impl_IsSameTune.C.tidy 6 s (fun s' => runC impl_IsSameTune.C (impl_IsSameTune.O N) N impl_IsSameTune.c7 7 s' impl_IsSameTune.K0)) impl_IsSameTune.K0))) := by kernel_rfl
noncomputable def impl_IsSameTune.B6 (N : Nat) : St D0 → Option impl_IsSameTune.R := fun s' => runC impl_IsSameTune.C (impl_IsSameTune.O N) N impl_IsSameTune.c13 13 s' (impl_IsSameTune.K13 N)
noncomputable def impl_IsSameTune.g (N : Nat) (a0 : List ByteArray) (a1 : List ByteArray) : Option impl_IsSameTune.R := impl_IsSameTune.o0 N a0 a1 ((fun w0 w1 w2 => impl_IsSameTune.d1 N w0 w1 w2))
theorem impl_IsSameTune.c1_0 : impl_IsSameTune.c1 = (.seq impl_IsSameTune.c2 (.seq (.seq impl_IsSameTune.c12 impl_IsSameTune.c13) impl_IsSameTune.c7)) := by kernel_rfl
theorem impl_IsSameTune.g.run (N : Nat) (a0 : List ByteArray) (a1 : List ByteArray) : runC impl_IsSameTune.C (impl_IsSameTune.O N) N impl_IsSameTune.c1 1 (st0 [.one (.sl false 9 a0), .one (.sl false 9 a1)] [] : St D0) impl_IsSameTune.K0 = impl_IsSameTune.g N a0 a1 := by
  rw [impl_IsSameTune.c1_0]; unfold impl_IsSameTune.g; exact (impl_IsSameTune.o0.run N impl_IsSameTune.c13 a0 a1).trans (congr rfl (funext fun w0 => funext fun w1 => funext fun w2 => impl_IsSameTune.d1.run N w0 w1 w2))
theorem impl_IsSameTune.good (N : Nat) (a0 : List ByteArray) (a1 : List ByteArray) (r : impl_IsSameTune.R) (h : impl_IsSameTune.g N a0 a1 = some r) : Go.PM.Good Go.Proofs.Tryd.prog T0 20 [.one (.sl false 9 a0), .one (.sl false 9 a1)] [] (impl_IsSameTune.sig.ret r) (impl_IsSameTune.sig.bs r) :=
  good_fn tabOk0 mixed0 impl_IsSameTune.sig (impl_IsSameTune.E N) Go.Proofs.Tryd.func20 (by kernel_rfl) (by kernel_rfl) 1081098355 0 0 [(12, [0, 1, 14], []), (58, [0, 1, 20, 21], [])] 453150848 false [] [(false, [.any]), (false, [.any])] (by kernel_rfl) rfl rfl ((impl_IsSameTune.g.run N a0 a1).trans h)
noncomputable def impl_IsSameTune.ent (N : Nat) : Ent Go.Proofs.Tryd.prog T0 := mkEnt 20 [(false, [.ro 9]), (false, [.ro 9])] impl_IsSameTune.sig (fun t => impl_IsSameTune.g N t.1 t.2) (fun t r h => impl_IsSameTune.good N t.1 t.2 r h)
end Go.Proofs.YtpmipkbfohcjiaaDoor.M

namespace Go.Proofs.YtpmipkbfohcjiaaDoor.M
open Go Go.PM Go.Proofs.YtpmipkbfohcjiaaDoor.P
set_option linter.unusedVariables false
set_option maxRecDepth 100000
/-! ### spec_IsSameTune -/
abbrev spec_IsSameTune.R : Type := Bool × Bool
abbrev spec_IsSameTune.sig : Sig := ⟨[(false, 1), (false, 1)], [], [.sl false 9, .sl false 9], [(false, 1), (false, 1)], [], [.bool, .bool]⟩
noncomputable def spec_IsSameTune.C : Cfg D0 := ⟨Go.Proofs.Tryd.prog, T0, 2151694451, 0, 32, 0, [(12, [0, 1, 14], []), (58, [0, 1, 6], [])], 914983040, false, []⟩
noncomputable def spec_IsSameTune.E (N : Nat) : List (Ent Go.Proofs.Tryd.prog T0) := [spec_beTune.ent N, spec_beHours.ent N, spec_beNotes.ent N]
noncomputable def spec_IsSameTune.O (N : Nat) : Orc D0 spec_IsSameTune.R := orcOf (spec_IsSameTune.E N)
noncomputable def spec_IsSameTune.K0 : Ex → St D0 → Option spec_IsSameTune.R := exitK spec_IsSameTune.C Go.Proofs.Tryd.f21.results.toList [(false, [.any]), (false, [.any])] (decOut spec_IsSameTune.sig)
noncomputable def spec_IsSameTune.c1 : Code := codeAt (Go.Proofs.Tryd.f21.body.getD .skip) []
noncomputable def spec_IsSameTune.c2 : Code := codeAt (Go.Proofs.Tryd.f21.body.getD .skip) [false]
noncomputable def spec_IsSameTune.c7 : Code := codeAt (Go.Proofs.Tryd.f21.body.getD .skip) [true, true]
noncomputable def spec_IsSameTune.c12 : Code := codeAt (Go.Proofs.Tryd.f21.body.getD .skip) [true, false, false]
noncomputable def spec_IsSameTune.c13 : Code := codeAt (Go.Proofs.Tryd.f21.body.getD .skip) [true, false, true]
noncomputable def spec_IsSameTune.c15 : Code := codeAt (Go.Proofs.Tryd.f21.body.getD .skip) [true, true, true]
noncomputable def spec_IsSameTune.c28 : Code := codeAt (Go.Proofs.Tryd.f21.body.getD .skip) [true, true, false, false]
noncomputable def spec_IsSameTune.c116 : Code := codeAt (Go.Proofs.Tryd.f21.body.getD .skip) [true, true, false, true, false, false]
noncomputable def spec_IsSameTune.K116 (N : Nat) (Kn58 : St D0 → Option spec_IsSameTune.R) : Ex → St D0 → Option spec_IsSameTune.R := ((fun up => (onN (fun s => spec_IsSameTune.C.tidy 58 s ((onN Kn58 up) .normal)) (onN Kn58 up))) (blockK 0 (onN (fun s => spec_IsSameTune.C.tidy 14 s (fun s' => runC spec_IsSameTune.C (spec_IsSameTune.O N) N spec_IsSameTune.c15 15 s' spec_IsSameTune.K0)) spec_IsSameTune.K0)))
noncomputable def spec_IsSameTune.o2 (N : Nat) (v0 : List ByteArray) (v1 : List ByteArray) (v2 : Int) (c2 : (List ByteArray) → (List ByteArray) → Int → Option spec_IsSameTune.R) : Option spec_IsSameTune.R :=
 (spec_beHours.g N v0).bind fun r1 =>
 (spec_beHours.g N v1).bind fun r2 =>
 bif (decide (v2 < (w64 ((w64 (4 * r1)) * r2)))) then
  (spec_beNotes.g N v0 v2).bind fun r3 =>
  (spec_beNotes.g N v1 v2).bind fun r4 =>
  bif (!(r3.toList == r4.toList)) then
   some (false, true)
  else
  c2 v0 v1 (w64 (v2 + 1))
 else
 some (true, true)
theorem spec_IsSameTune.o2.run (N : Nat) (Kn58 : St D0 → Option spec_IsSameTune.R) (v0 : List ByteArray) (v1 : List ByteArray) (v2 : Int) : runC spec_IsSameTune.C (spec_IsSameTune.O N) N spec_IsSameTune.c116 116 (mkSt [(0, .one (.sl false 9 v0)), (1, .one (.sl false 9 v1)), (6, .one (.int .i64 v2))] [] : St D0) ((fun up => (onN (fun s => spec_IsSameTune.C.tidy 58 s ((onN Kn58 up) .normal)) (onN Kn58 up))) (blockK 0 (onN (fun s => spec_IsSameTune.C.tidy 14 s (fun s' => runC spec_IsSameTune.C (spec_IsSameTune.O N) N spec_IsSameTune.c15 15 s' spec_IsSameTune.K0)) spec_IsSameTune.K0))) = spec_IsSameTune.o2 N v0 v1 v2 ((fun w0 w1 w2 => Kn58 (mkSt [(0, .one (.sl false 9 w0)), (1, .one (.sl false 9 w1)), (6, .one (.int .i64 w2))] [] : St D0))) := by kernel_rfl
noncomputable def spec_IsSameTune.d2 (N : Nat) (v0 : List ByteArray) (v1 : List ByteArray) (v2 : Int) (c2 : (List ByteArray) → (List ByteArray) → Int → Option spec_IsSameTune.R) : Option spec_IsSameTune.R := spec_IsSameTune.o2 N v0 v1 v2 c2
theorem spec_IsSameTune.d2.run (N : Nat) (Kn58 : St D0 → Option spec_IsSameTune.R) (v0 : List ByteArray) (v1 : List ByteArray) (v2 : Int) : runC spec_IsSameTune.C (spec_IsSameTune.O N) N spec_IsSameTune.c116 116 (mkSt [(0, .one (.sl false 9 v0)), (1, .one (.sl false 9 v1)), (6, .one (.int .i64 v2))] [] : St D0) (spec_IsSameTune.K116 N Kn58) = spec_IsSameTune.d2 N v0 v1 v2 ((fun w0 w1 w2 => Kn58 (mkSt [(0, .one (.sl false 9 w0)), (1, .one (.sl false 9 w1)), (6, .one (.int .i64 w2))] [] : St D0))) := by
  exact (spec_IsSameTune.o2.run N Kn58 v0 v1 v2).trans rfl
noncomputable def spec_IsSameTune.K58 (N : Nat) : Ex → St D0 → Option spec_IsSameTune.R := (blockK 0 (onN (fun s => spec_IsSameTune.C.tidy 14 s (fun s' => runC spec_IsSameTune.C (spec_IsSameTune.O N) N spec_IsSameTune.c15 15 s' spec_IsSameTune.K0)) spec_IsSameTune.K0))
noncomputable def spec_IsSameTune.l2 (N : Nat) : Nat → (List ByteArray) → (List ByteArray) → Int → Option spec_IsSameTune.R
  | 0, _, _, _ => none
  | n + 1, v0, v1, v2 => spec_IsSameTune.d2 N v0 v1 v2 ((fun w0 w1 w2 => spec_IsSameTune.l2 N n w0 w1 w2))
theorem spec_IsSameTune.loop58 (N : Nat) : ∀ n, (∀ (v0 : List ByteArray) (v1 : List ByteArray) (v2 : Int), iter (loopF spec_IsSameTune.C (spec_IsSameTune.O N) N spec_IsSameTune.c116 58) n (mkSt [(0, .one (.sl false 9 v0)), (1, .one (.sl false 9 v1)), (6, .one (.int .i64 v2))] [] : St D0) (spec_IsSameTune.K58 N) = spec_IsSameTune.l2 N n v0 v1 v2)
  | 0 => (fun v0 v1 v2 => rfl)
  | n + 1 => (fun v0 v1 v2 => (spec_IsSameTune.d2.run N (fun s => iter (loopF spec_IsSameTune.C (spec_IsSameTune.O N) N spec_IsSameTune.c116 58) n s (spec_IsSameTune.K58 N)) v0 v1 v2).trans (show _ = spec_IsSameTune.d2 N v0 v1 v2 ((fun w0 w1 w2 => spec_IsSameTune.l2 N n w0 w1 w2)) from (congr rfl (funext fun w0 => funext fun w1 => funext fun w2 => (spec_IsSameTune.loop58 N n) w0 w1 w2))))
noncomputable def spec_IsSameTune.K13 (N : Nat) : Ex → St D0 → Option spec_IsSameTune.R := (onN (fun s => spec_IsSameTune.C.tidy 6 s (fun s' => runC spec_IsSameTune.C (spec_IsSameTune.O N) N spec_IsSameTune.c7 7 s' spec_IsSameTune.K0)) spec_IsSameTune.K0)
noncomputable def spec_IsSameTune.o1 (N : Nat) (v0 : List ByteArray) (v1 : List ByteArray) (v2 : Bool) (c2 : (List ByteArray) → (List ByteArray) → Int → Option spec_IsSameTune.R) : Option spec_IsSameTune.R :=
 bif v2 then
  some (false, false)
 else
 c2 v0 v1 0
theorem spec_IsSameTune.o1.run (N : Nat) (H116 : Code) (v0 : List ByteArray) (v1 : List ByteArray) (v2 : Bool) : runC spec_IsSameTune.C (spec_IsSameTune.O N) N spec_IsSameTune.c13 13 (mkSt [(0, .one (.sl false 9 v0)), (1, .one (.sl false 9 v1)), (14, .one (.bool v2))] [] : St D0) (onN (fun s => spec_IsSameTune.C.tidy 6 s (fun s' => runC spec_IsSameTune.C (spec_IsSameTune.O N) N (.seq (.seq spec_IsSameTune.c28 (.block 0 (.loop H116))) spec_IsSameTune.c15) 7 s' spec_IsSameTune.K0)) spec_IsSameTune.K0) = spec_IsSameTune.o1 N v0 v1 v2 ((fun w0 w1 w2 => iter (loopF spec_IsSameTune.C (spec_IsSameTune.O N) N H116 58) N (mkSt [(0, .one (.sl false 9 w0)), (1, .one (.sl false 9 w1)), (6, .one (.int .i64 w2))] [] : St D0) (blockK 0 (onN (fun s => spec_IsSameTune.C.tidy 14 s (fun s' => runC spec_IsSameTune.C (spec_IsSameTune.O N) N spec_IsSameTune.c15 15 s' spec_IsSameTune.K0)) spec_IsSameTune.K0)))) := by kernel_rfl
noncomputable def spec_IsSameTune.d1 (N : Nat) (v0 : List ByteArray) (v1 : List ByteArray) (v2 : Bool) : Option spec_IsSameTune.R := spec_IsSameTune.o1 N v0 v1 v2 ((fun w0 w1 w2 => spec_IsSameTune.l2 N N w0 w1 w2))
theorem spec_IsSameTune.d1.run (N : Nat) (v0 : List ByteArray) (v1 : List ByteArray) (v2 : Bool) : runC spec_IsSameTune.C (spec_IsSameTune.O N) N spec_IsSameTune.c13 13 (mkSt [(0, .one (.sl false 9 v0)), (1, .one (.sl false 9 v1)), (14, .one (.bool v2))] [] : St D0) (spec_IsSameTune.K13 N) = spec_IsSameTune.d1 N v0 v1 v2 := by
  unfold spec_IsSameTune.d1; exact (spec_IsSameTune.o1.run N spec_IsSameTune.c116 v0 v1 v2).trans (congr rfl (funext fun w0 => funext fun w1 => funext fun w2 => (spec_IsSameTune.loop58 N N) w0 w1 w2))
noncomputable def spec_IsSameTune.o0 (N : Nat) (a0 : List ByteArray) (a1 : List ByteArray) (c1 : (List ByteArray) → (List ByteArray) → Bool → Option spec_IsSameTune.R) : Option spec_IsSameTune.R :=
 (spec_beTune.g N a0).bind fun r1 =>
 bif (!r1) then
  c1 a0 a1 true
 else
 (spec_beTune.g N a1).bind fun r2 =>
 c1 a0 a1 (!r2)
theorem spec_IsSameTune.o0.run (N : Nat) (H13 : Code) (a0 : List ByteArray) (a1 : List ByteArray) : runC spec_IsSameTune.C (spec_IsSameTune.O N) N (.seq spec_IsSameTune.c2 (.seq (.seq spec_IsSameTune.c12 H13) spec_IsSameTune.c7)) 1 (st0 [.one (.sl false 9 a0), .one (.sl false 9 a1)] [] : St D0) spec_IsSameTune.K0 = spec_IsSameTune.o0 N a0 a1 ((fun w0 w1 w2 => runC spec_IsSameTune.C (spec_IsSameTune.O N) N H13 13 (mkSt [(0, .one (.sl false 9 w0)), (1, .one (.sl false 9 w1)), (14, .one (.bool w2))] [] : St D0) (onN (fun s => spec_IsSameTune.C.tidy 6 s (fun s' => runC spec_IsSameTune.C (spec_IsSameTune.O N) N spec_IsSameTune.c7 7 s' spec_IsSameTune.K0)) spec_IsSameTune.K0))) := by kernel_rfl
noncomputable def spec_IsSameTune.B6 (N : Nat) : St D0 → Option spec_IsSameTune.R := fun s' => runC spec_IsSameTune.C (spec_IsSameTune.O N) N spec_IsSameTune.c13 13 s' (spec_IsSameTune.K13 N)
noncomputable def spec_IsSameTune.g (N : Nat) (a0 : List ByteArray) (a1 : List ByteArray) : Option spec_IsSameTune.R := spec_IsSameTune.o0 N a0 a1 ((fun w0 w1 w2 => spec_IsSameTune.d1 N w0 w1 w2))
theorem spec_IsSameTune.c1_0 : spec_IsSameTune.c1 = (.seq spec_IsSameTune.c2 (.seq (.seq spec_IsSameTune.c12 spec_IsSameTune.c13) spec_IsSameTune.c7)) := by kernel_rfl
theorem spec_IsSameTune.g.run (N : Nat) (a0 : List ByteArray) (a1 : List ByteArray) : runC spec_IsSameTune.C (spec_IsSameTune.O N) N spec_IsSameTune.c1 1 (st0 [.one (.sl false 9 a0), .one (.sl false 9 a1)] [] : St D0) spec_IsSameTune.K0 = spec_IsSameTune.g N a0 a1 := by
  rw [spec_IsSameTune.c1_0]; unfold spec_IsSameTune.g; exact (spec_IsSameTune.o0.run N spec_IsSameTune.c13 a0 a1).trans (congr rfl (funext fun w0 => funext fun w1 => funext fun w2 => spec_IsSameTune.d1.run N w0 w1 w2))
theorem spec_IsSameTune.good (N : Nat) (a0 : List ByteArray) (a1 : List ByteArray) (r : spec_IsSameTune.R) (h : spec_IsSameTune.g N a0 a1 = some r) : Go.PM.Good Go.Proofs.Tryd.prog T0 21 [.one (.sl false 9 a0), .one (.sl false 9 a1)] [] (spec_IsSameTune.sig.ret r) (spec_IsSameTune.sig.bs r) :=
  good_fn tabOk0 mixed0 spec_IsSameTune.sig (spec_IsSameTune.E N) Go.Proofs.Tryd.func21 (by kernel_rfl) (by kernel_rfl) 2151694451 0 0 [(12, [0, 1, 14], []), (58, [0, 1, 6], [])] 914983040 false [] [(false, [.any]), (false, [.any])] (by kernel_rfl) rfl rfl ((spec_IsSameTune.g.run N a0 a1).trans h)
noncomputable def spec_IsSameTune.ent (N : Nat) : Ent Go.Proofs.Tryd.prog T0 := mkEnt 21 [(false, [.ro 9]), (false, [.ro 9])] spec_IsSameTune.sig (fun t => spec_IsSameTune.g N t.1 t.2) (fun t r h => spec_IsSameTune.good N t.1 t.2 r h)
end Go.Proofs.YtpmipkbfohcjiaaDoor.M

namespace Go.Proofs.YtpmipkbfohcjiaaDoor.M
open Go Go.PM Go.Proofs.YtpmipkbfohcjiaaDoor.P
set_option linter.unusedVariables false
set_option maxRecDepth 100000
open Go.RowKit Go.Lib
/-! ### slices_Grow_string_string -/
theorem slices_Grow_string_string.asd {p : Prop} (h : p) : Aside p := h
abbrev slices_Grow_string_string.R : Type := List ByteArray
abbrev slices_Grow_string_string.sig : Sig := ⟨[(false, 1), (false, 1)], [], [.nl, .int .i64], [(false, 1)], [], [.sl true 9]⟩
noncomputable def slices_Grow_string_string.g (N : Nat) (a0 : Unit) (a1 : Int) : Option slices_Grow_string_string.R := bif decide (0 ≤ a1) && decide (a1 ≤ 4611686018427) then some [] else none
set_option maxHeartbeats 2000000 in
theorem slices_Grow_string_string.walk0 (w : World) : Calls Go.Proofs.Tryd.prog 66 #[.slice none 0 0, .int .i64 0] w fun e w' => e = .returned (.slice none 0 0) ∧ w' = w := by
  go_enter Go.Proofs.Tryd.func66, Go.Proofs.Tryd.ntmps66
  go_wp2
  go_ret
  exact ⟨rfl, rfl⟩
set_option maxHeartbeats 4000000 in
theorem slices_Grow_string_string.walk (n : Nat) (h0 : 0 < n) (hn : n ≤ 4611686018427) (w : World) : Calls Go.Proofs.Tryd.prog 66 #[.slice none 0 0, .int .i64 n] w fun e w' => ∃ v', e = .returned v' ∧ w'.ownsRow w.heap.size 9 1 v' 0 [] ∧ Below w.heap.size w w' := by
  have HI : (Go.Proofs.Tryd.prog.info? 9).map (fun i => (i.zero, i.size, i.bytes)) = some (some (.string ByteArray.empty), 1, 16) := by kernel_rfl
  obtain ⟨i0, hi, hz0, hz1, hz2⟩ := info_parts HI
  have h1 : ¬ ((n : Int) < 0) := by omega
  have h2 : wrap64 ((0 : Int) - (0 : Int)) = 0 := by unfold wrap64; omega
  have h3 : wrap64 ((n : Int) - 0) = (n : Int) := by unfold wrap64; omega
  have h4 : (n : Int) > 0 := by omega
  have hrz : ∀ ty, (Builtin.append_ #[22, 3] ty #[.slice none 0 0, .int .i64 (n : Int)]).run Go.Proofs.Tryd.prog w =
      .ok (.slice (some ⟨w.heap.size, 0, none⟩) n (grownCap w n 0 9)) (w.drew.alloc (.cells (#[] ++ Builtin.zeroCells (Value.string ByteArray.empty).cells n ++ Builtin.zeroCells (Value.string ByteArray.empty).cells (grownCap w n 0 9 - n)) 9)) := fun ty => by
    have h := Lib.run_append_grow_zeros w 22 3 ty 9 i0 (.string ByteArray.empty) .i64 .i64 Go.Proofs.Tryd.underlying22 Go.Proofs.Tryd.underlying3 hi hz0 none 0 0 [] (run_firstCells_none w.drew i0.size 0 0 0) n (by omega) (by omega) (by omega) (by omega)
      (by rw [hz2]; omega) (by rw [Nat.zero_add, hz2]; exact growslice_fits (by omega) (by omega))
    rw [Nat.zero_add] at h
    exact h
  have hGn : n ≤ grownCap w n 0 9 := grownCap_ge w _ _ _
  have hGm : grownCap w n 0 9 ≤ maxLen := grownCap_le_maxLen w n 0 9 (by unfold maxLen; omega)
  obtain ⟨G, hG⟩ : ∃ G, G = grownCap w n 0 9 := ⟨_, rfl⟩
  rw [← hG] at hrz hGn hGm
  have hG63 : G ≤ 9223372036854775807 := by unfold maxLen at hGm; omega
  have HM := slices_Grow_string_string.asd hGm
  clear hG hGm HI hz0 hz1 hz2 hi
  go_enter Go.Proofs.Tryd.func66, Go.Proofs.Tryd.ntmps66
  go_wp2_with (at_builtin; refine Lib.wpList_append_run _ rfl _ _ _ _ rfl _ _ rfl rfl _ _ (hrz _) ?_)
  all_goals go_ret
  refine ⟨_, rfl, ⟨rfl, .inr ⟨w.heap.size, G, Builtin.zeroCells #[Value.string ByteArray.empty] n ++ Builtin.zeroCells #[Value.string ByteArray.empty] (G - n), rfl, Nat.le_refl _, ?_, Nat.zero_le _, HM.out, ?_, ?_⟩⟩, ((Below.refl _ w).alloc (Nat.le_refl _) _).drew⟩
  · show (w.heap.push _)[w.heap.size]? = _
    rw [Array.getElem?_push_size]
  · rw [Array.size_append, size_zeroCells, size_zeroCells]; show n * 1 + (G - n) * 1 = G * 1; omega
  · rw [Nat.zero_mul]; rfl
theorem slices_Grow_string_string.good (N : Nat) (a0 : Unit) (a1 : Int) (r : slices_Grow_string_string.R) (h : slices_Grow_string_string.g N a0 a1 = some r) : Go.PM.Good Go.Proofs.Tryd.prog T0 66 [.one .nl, .one (.int .i64 a1)] [] (slices_Grow_string_string.sig.ret r) (slices_Grow_string_string.sig.bs r) := by
  obtain ⟨hc, h⟩ := bif_some h
  simp only [Bool.and_eq_true, decide_eq_true_eq] at hc
  cases Option.some.inj h
  obtain ⟨n, rfl⟩ := Int.eq_ofNat_of_zero_le hc.1
  refine good_new tabOk0 9 ⟨_, Go.Proofs.Tryd.func66, by kernel_rfl, rfl⟩ [.one .nl, .one (.int .i64 n)] [] ?_
  intro w C blk vargs hsz hrep hag
  have ev : vargs = #[.slice none 0 0, .int .i64 n] := (args2 hsz).trans (by rw [inv_nl (C := C) (blk := blk) (hrep 0), rep_int (hrep 1)])
  rw [ev]
  refine ⟨_, RowOf.nil _ _ _, ?_⟩
  cases n with
  | zero =>
    refine (slices_Grow_string_string.walk0 w).mono ?_
    rintro e w' ⟨rfl, rfl⟩
    exact ⟨_, rfl, World.ownsRow_nil _ _ _ _, Below.refl _ _⟩
  | succ n => exact slices_Grow_string_string.walk (n+1) (by omega) (by omega) w
noncomputable def slices_Grow_string_string.ent (N : Nat) : Ent Go.Proofs.Tryd.prog T0 := mkEnt 66 [(false, [.any]), (false, [.any])] slices_Grow_string_string.sig (fun t => slices_Grow_string_string.g N t.1 t.2) (fun t r h => slices_Grow_string_string.good N t.1 t.2 r h)

end Go.Proofs.YtpmipkbfohcjiaaDoor.M

namespace Go.Proofs.YtpmipkbfohcjiaaDoor.M
open Go Go.PM Go.Proofs.YtpmipkbfohcjiaaDoor.P
set_option linter.unusedVariables false
set_option maxRecDepth 100000
/-! ### slices_Concat_string_string -/
abbrev slices_Concat_string_string.R : Type := List ByteArray
abbrev slices_Concat_string_string.sig : Sig := ⟨[(false, 1)], [], [.sl false 22], [(false, 1)], [], [.sl true 9]⟩
noncomputable def slices_Concat_string_string.C : Cfg D0 := ⟨Go.Proofs.Tryd.prog, T0, 504373101, 0, 36, 0, [(58, [0, 3, 9, 10, 11], []), (250, [6, 25, 26, 27], [])], 4303978496, false, []⟩
noncomputable def slices_Concat_string_string.E (N : Nat) : List (Ent Go.Proofs.Tryd.prog T0) := [slices_Grow_string_string.ent N]
noncomputable def slices_Concat_string_string.O (N : Nat) : Orc D0 slices_Concat_string_string.R := orcOf (slices_Concat_string_string.E N)
noncomputable def slices_Concat_string_string.K0 : Ex → St D0 → Option slices_Concat_string_string.R := exitK slices_Concat_string_string.C Go.Proofs.Tryd.f48.results.toList [(false, [.own 9])] (decOut slices_Concat_string_string.sig)
noncomputable def slices_Concat_string_string.c1 : Code := codeAt (Go.Proofs.Tryd.f48.body.getD .skip) []
noncomputable def slices_Concat_string_string.c2 : Code := codeAt (Go.Proofs.Tryd.f48.body.getD .skip) [false]
noncomputable def slices_Concat_string_string.c6 : Code := codeAt (Go.Proofs.Tryd.f48.body.getD .skip) [true, false]
noncomputable def slices_Concat_string_string.c15 : Code := codeAt (Go.Proofs.Tryd.f48.body.getD .skip) [true, true, true]
noncomputable def slices_Concat_string_string.c28 : Code := codeAt (Go.Proofs.Tryd.f48.body.getD .skip) [true, true, false, false]
noncomputable def slices_Concat_string_string.c30 : Code := codeAt (Go.Proofs.Tryd.f48.body.getD .skip) [true, true, true, false]
noncomputable def slices_Concat_string_string.c63 : Code := codeAt (Go.Proofs.Tryd.f48.body.getD .skip) [true, true, true, true, true]
noncomputable def slices_Concat_string_string.c116 : Code := codeAt (Go.Proofs.Tryd.f48.body.getD .skip) [true, true, false, true, false, false]
noncomputable def slices_Concat_string_string.c124 : Code := codeAt (Go.Proofs.Tryd.f48.body.getD .skip) [true, true, true, true, false, false]
noncomputable def slices_Concat_string_string.c500 : Code := codeAt (Go.Proofs.Tryd.f48.body.getD .skip) [true, true, true, true, false, true, false, false]
noncomputable def slices_Concat_string_string.K500 (N : Nat) (Kn250 : St D0 → Option slices_Concat_string_string.R) : Ex → St D0 → Option slices_Concat_string_string.R := ((fun up => (onN (fun s => slices_Concat_string_string.C.tidy 250 s ((onN Kn250 up) .normal)) (onN Kn250 up))) (blockK 2 (onN (fun s => slices_Concat_string_string.C.tidy 62 s (fun s' => runC slices_Concat_string_string.C (slices_Concat_string_string.O N) N slices_Concat_string_string.c63 63 s' slices_Concat_string_string.K0)) slices_Concat_string_string.K0)))
noncomputable def slices_Concat_string_string.o2 (N : Nat) (v0 : List ByteArray) (v1 : List ((List ByteArray))) (v2 : Int) (v3 : Int) (c2 : (List ByteArray) → (List ((List ByteArray))) → Int → Int → Option slices_Concat_string_string.R) : Option slices_Concat_string_string.R :=
 bif (decide (v3 < v2)) then
  bif (decide (0 ≤ v3)) then
   bif (decide (v3 < (v1.length : Int))) then
    (v1[(v3 : Int).toNat]?).bind fun x1 =>
    bif (Nat.blt (v0.length + x1.length) 8796093022208) then
     c2 (v0 ++ x1) v1 v2 (w64 (v3 + 1))
    else
    none
   else
   none
  else
  none
 else
 some (v0)
theorem slices_Concat_string_string.o2.run (N : Nat) (Kn250 : St D0 → Option slices_Concat_string_string.R) (v0 : List ByteArray) (v1 : List ((List ByteArray))) (v2 : Int) (v3 : Int) : runC slices_Concat_string_string.C (slices_Concat_string_string.O N) N slices_Concat_string_string.c500 500 (mkSt [(6, .one (.sl true 9 v0)), (25, .one (.sl false 22 v1)), (26, .one (.int .i64 v2)), (27, .one (.int .i64 v3))] [] : St D0) ((fun up => (onN (fun s => slices_Concat_string_string.C.tidy 250 s ((onN Kn250 up) .normal)) (onN Kn250 up))) (blockK 2 (onN (fun s => slices_Concat_string_string.C.tidy 62 s (fun s' => runC slices_Concat_string_string.C (slices_Concat_string_string.O N) N slices_Concat_string_string.c63 63 s' slices_Concat_string_string.K0)) slices_Concat_string_string.K0))) = slices_Concat_string_string.o2 N v0 v1 v2 v3 ((fun w0 w1 w2 w3 => Kn250 (mkSt [(6, .one (.sl true 9 w0)), (25, .one (.sl false 22 w1)), (26, .one (.int .i64 w2)), (27, .one (.int .i64 w3))] [] : St D0))) := by kernel_rfl
noncomputable def slices_Concat_string_string.d2 (N : Nat) (v0 : List ByteArray) (v1 : List ((List ByteArray))) (v2 : Int) (v3 : Int) (c2 : (List ByteArray) → (List ((List ByteArray))) → Int → Int → Option slices_Concat_string_string.R) : Option slices_Concat_string_string.R := slices_Concat_string_string.o2 N v0 v1 v2 v3 c2
theorem slices_Concat_string_string.d2.run (N : Nat) (Kn250 : St D0 → Option slices_Concat_string_string.R) (v0 : List ByteArray) (v1 : List ((List ByteArray))) (v2 : Int) (v3 : Int) : runC slices_Concat_string_string.C (slices_Concat_string_string.O N) N slices_Concat_string_string.c500 500 (mkSt [(6, .one (.sl true 9 v0)), (25, .one (.sl false 22 v1)), (26, .one (.int .i64 v2)), (27, .one (.int .i64 v3))] [] : St D0) (slices_Concat_string_string.K500 N Kn250) = slices_Concat_string_string.d2 N v0 v1 v2 v3 ((fun w0 w1 w2 w3 => Kn250 (mkSt [(6, .one (.sl true 9 w0)), (25, .one (.sl false 22 w1)), (26, .one (.int .i64 w2)), (27, .one (.int .i64 w3))] [] : St D0))) := by
  exact (slices_Concat_string_string.o2.run N Kn250 v0 v1 v2 v3).trans rfl
noncomputable def slices_Concat_string_string.K250 (N : Nat) : Ex → St D0 → Option slices_Concat_string_string.R := (blockK 2 (onN (fun s => slices_Concat_string_string.C.tidy 62 s (fun s' => runC slices_Concat_string_string.C (slices_Concat_string_string.O N) N slices_Concat_string_string.c63 63 s' slices_Concat_string_string.K0)) slices_Concat_string_string.K0))
noncomputable def slices_Concat_string_string.l2 (N : Nat) : Nat → (List ByteArray) → (List ((List ByteArray))) → Int → Int → Option slices_Concat_string_string.R
  | 0, _, _, _, _ => none
  | n + 1, v0, v1, v2, v3 => slices_Concat_string_string.d2 N v0 v1 v2 v3 ((fun w0 w1 w2 w3 => slices_Concat_string_string.l2 N n w0 w1 w2 w3))
theorem slices_Concat_string_string.loop250 (N : Nat) : ∀ n, (∀ (v0 : List ByteArray) (v1 : List ((List ByteArray))) (v2 : Int) (v3 : Int), iter (loopF slices_Concat_string_string.C (slices_Concat_string_string.O N) N slices_Concat_string_string.c500 250) n (mkSt [(6, .one (.sl true 9 v0)), (25, .one (.sl false 22 v1)), (26, .one (.int .i64 v2)), (27, .one (.int .i64 v3))] [] : St D0) (slices_Concat_string_string.K250 N) = slices_Concat_string_string.l2 N n v0 v1 v2 v3)
  | 0 => (fun v0 v1 v2 v3 => rfl)
  | n + 1 => (fun v0 v1 v2 v3 => (slices_Concat_string_string.d2.run N (fun s => iter (loopF slices_Concat_string_string.C (slices_Concat_string_string.O N) N slices_Concat_string_string.c500 250) n s (slices_Concat_string_string.K250 N)) v0 v1 v2 v3).trans (show _ = slices_Concat_string_string.d2 N v0 v1 v2 v3 ((fun w0 w1 w2 w3 => slices_Concat_string_string.l2 N n w0 w1 w2 w3)) from (congr rfl (funext fun w0 => funext fun w1 => funext fun w2 => funext fun w3 => (slices_Concat_string_string.loop250 N n) w0 w1 w2 w3))))
noncomputable def slices_Concat_string_string.K116 (N : Nat) (Kn58 : St D0 → Option slices_Concat_string_string.R) : Ex → St D0 → Option slices_Concat_string_string.R := ((fun up => (onN (fun s => slices_Concat_string_string.C.tidy 58 s ((onN Kn58 up) .normal)) (onN Kn58 up))) (blockK 0 (onN (fun s => slices_Concat_string_string.C.tidy 14 s (fun s' => runC slices_Concat_string_string.C (slices_Concat_string_string.O N) N slices_Concat_string_string.c15 15 s' slices_Concat_string_string.K0)) slices_Concat_string_string.K0)))
noncomputable def slices_Concat_string_string.o1 (N : Nat) (v0 : List ((List ByteArray))) (v1 : Int) (v2 : List ((List ByteArray))) (v3 : Int) (v4 : Int) (c1 : (List ((List ByteArray))) → Int → (List ((List ByteArray))) → Int → Int → Option slices_Concat_string_string.R) (c2 : (List ByteArray) → (List ((List ByteArray))) → Int → Int → Option slices_Concat_string_string.R) : Option slices_Concat_string_string.R :=
 bif (decide (v4 < v3)) then
  bif (decide (0 ≤ v4)) then
   bif (decide (v4 < (v2.length : Int))) then
    (v2[(v4 : Int).toNat]?).bind fun x1 =>
    bif (decide ((w64 (v1 + (x1.length : Int))) < 0)) then
     none
    else
    c1 v0 (w64 (v1 + (x1.length : Int))) v2 v3 (w64 (v4 + 1))
   else
   none
  else
  none
 else
 (slices_Grow_string_string.g N () v1).bind fun r2 =>
 c2 r2 v0 (v0.length : Int) 0
theorem slices_Concat_string_string.o1.run (N : Nat) (Kn58 : St D0 → Option slices_Concat_string_string.R) (H500 : Code) (v0 : List ((List ByteArray))) (v1 : Int) (v2 : List ((List ByteArray))) (v3 : Int) (v4 : Int) : runC slices_Concat_string_string.C (slices_Concat_string_string.O N) N slices_Concat_string_string.c116 116 (mkSt [(0, .one (.sl false 22 v0)), (3, .one (.int .i64 v1)), (9, .one (.sl false 22 v2)), (10, .one (.int .i64 v3)), (11, .one (.int .i64 v4))] [] : St D0) ((fun up => (onN (fun s => slices_Concat_string_string.C.tidy 58 s ((onN Kn58 up) .normal)) (onN Kn58 up))) (blockK 0 (onN (fun s => slices_Concat_string_string.C.tidy 14 s (fun s' => runC slices_Concat_string_string.C (slices_Concat_string_string.O N) N (.seq slices_Concat_string_string.c30 (.seq (.seq slices_Concat_string_string.c124 (.block 2 (.loop H500))) slices_Concat_string_string.c63)) 15 s' slices_Concat_string_string.K0)) slices_Concat_string_string.K0))) = slices_Concat_string_string.o1 N v0 v1 v2 v3 v4 ((fun w0 w1 w2 w3 w4 => Kn58 (mkSt [(0, .one (.sl false 22 w0)), (3, .one (.int .i64 w1)), (9, .one (.sl false 22 w2)), (10, .one (.int .i64 w3)), (11, .one (.int .i64 w4))] [] : St D0))) ((fun w0 w1 w2 w3 => iter (loopF slices_Concat_string_string.C (slices_Concat_string_string.O N) N H500 250) N (mkSt [(6, .one (.sl true 9 w0)), (25, .one (.sl false 22 w1)), (26, .one (.int .i64 w2)), (27, .one (.int .i64 w3))] [] : St D0) (blockK 2 (onN (fun s => slices_Concat_string_string.C.tidy 62 s (fun s' => runC slices_Concat_string_string.C (slices_Concat_string_string.O N) N slices_Concat_string_string.c63 63 s' slices_Concat_string_string.K0)) slices_Concat_string_string.K0)))) := by kernel_rfl
noncomputable def slices_Concat_string_string.d1 (N : Nat) (v0 : List ((List ByteArray))) (v1 : Int) (v2 : List ((List ByteArray))) (v3 : Int) (v4 : Int) (c1 : (List ((List ByteArray))) → Int → (List ((List ByteArray))) → Int → Int → Option slices_Concat_string_string.R) : Option slices_Concat_string_string.R := slices_Concat_string_string.o1 N v0 v1 v2 v3 v4 c1 ((fun w0 w1 w2 w3 => slices_Concat_string_string.l2 N N w0 w1 w2 w3))
theorem slices_Concat_string_string.d1.run (N : Nat) (Kn58 : St D0 → Option slices_Concat_string_string.R) (v0 : List ((List ByteArray))) (v1 : Int) (v2 : List ((List ByteArray))) (v3 : Int) (v4 : Int) : runC slices_Concat_string_string.C (slices_Concat_string_string.O N) N slices_Concat_string_string.c116 116 (mkSt [(0, .one (.sl false 22 v0)), (3, .one (.int .i64 v1)), (9, .one (.sl false 22 v2)), (10, .one (.int .i64 v3)), (11, .one (.int .i64 v4))] [] : St D0) (slices_Concat_string_string.K116 N Kn58) = slices_Concat_string_string.d1 N v0 v1 v2 v3 v4 ((fun w0 w1 w2 w3 w4 => Kn58 (mkSt [(0, .one (.sl false 22 w0)), (3, .one (.int .i64 w1)), (9, .one (.sl false 22 w2)), (10, .one (.int .i64 w3)), (11, .one (.int .i64 w4))] [] : St D0))) := by
  unfold slices_Concat_string_string.d1; exact (slices_Concat_string_string.o1.run N Kn58 slices_Concat_string_string.c500 v0 v1 v2 v3 v4).trans (congr (congr rfl rfl) (funext fun w0 => funext fun w1 => funext fun w2 => funext fun w3 => (slices_Concat_string_string.loop250 N N) w0 w1 w2 w3))
noncomputable def slices_Concat_string_string.K58 (N : Nat) : Ex → St D0 → Option slices_Concat_string_string.R := (blockK 0 (onN (fun s => slices_Concat_string_string.C.tidy 14 s (fun s' => runC slices_Concat_string_string.C (slices_Concat_string_string.O N) N slices_Concat_string_string.c15 15 s' slices_Concat_string_string.K0)) slices_Concat_string_string.K0))
noncomputable def slices_Concat_string_string.l1 (N : Nat) : Nat → (List ((List ByteArray))) → Int → (List ((List ByteArray))) → Int → Int → Option slices_Concat_string_string.R
  | 0, _, _, _, _, _ => none
  | n + 1, v0, v1, v2, v3, v4 => slices_Concat_string_string.d1 N v0 v1 v2 v3 v4 ((fun w0 w1 w2 w3 w4 => slices_Concat_string_string.l1 N n w0 w1 w2 w3 w4))
theorem slices_Concat_string_string.loop58 (N : Nat) : ∀ n, (∀ (v0 : List ((List ByteArray))) (v1 : Int) (v2 : List ((List ByteArray))) (v3 : Int) (v4 : Int), iter (loopF slices_Concat_string_string.C (slices_Concat_string_string.O N) N slices_Concat_string_string.c116 58) n (mkSt [(0, .one (.sl false 22 v0)), (3, .one (.int .i64 v1)), (9, .one (.sl false 22 v2)), (10, .one (.int .i64 v3)), (11, .one (.int .i64 v4))] [] : St D0) (slices_Concat_string_string.K58 N) = slices_Concat_string_string.l1 N n v0 v1 v2 v3 v4)
  | 0 => (fun v0 v1 v2 v3 v4 => rfl)
  | n + 1 => (fun v0 v1 v2 v3 v4 => (slices_Concat_string_string.d1.run N (fun s => iter (loopF slices_Concat_string_string.C (slices_Concat_string_string.O N) N slices_Concat_string_string.c116 58) n s (slices_Concat_string_string.K58 N)) v0 v1 v2 v3 v4).trans (show _ = slices_Concat_string_string.d1 N v0 v1 v2 v3 v4 ((fun w0 w1 w2 w3 w4 => slices_Concat_string_string.l1 N n w0 w1 w2 w3 w4)) from (congr rfl (funext fun w0 => funext fun w1 => funext fun w2 => funext fun w3 => funext fun w4 => (slices_Concat_string_string.loop58 N n) w0 w1 w2 w3 w4))))
noncomputable def slices_Concat_string_string.o0 (N : Nat) (a0 : List ((List ByteArray))) (c1 : (List ((List ByteArray))) → Int → (List ((List ByteArray))) → Int → Int → Option slices_Concat_string_string.R) : Option slices_Concat_string_string.R :=
 c1 a0 0 a0 (a0.length : Int) 0
theorem slices_Concat_string_string.o0.run (N : Nat) (H116 : Code) (a0 : List ((List ByteArray))) : runC slices_Concat_string_string.C (slices_Concat_string_string.O N) N (.seq slices_Concat_string_string.c2 (.seq slices_Concat_string_string.c6 (.seq (.seq slices_Concat_string_string.c28 (.block 0 (.loop H116))) slices_Concat_string_string.c15))) 1 (st0 [.one (.sl false 22 a0)] [] : St D0) slices_Concat_string_string.K0 = slices_Concat_string_string.o0 N a0 ((fun w0 w1 w2 w3 w4 => iter (loopF slices_Concat_string_string.C (slices_Concat_string_string.O N) N H116 58) N (mkSt [(0, .one (.sl false 22 w0)), (3, .one (.int .i64 w1)), (9, .one (.sl false 22 w2)), (10, .one (.int .i64 w3)), (11, .one (.int .i64 w4))] [] : St D0) (blockK 0 (onN (fun s => slices_Concat_string_string.C.tidy 14 s (fun s' => runC slices_Concat_string_string.C (slices_Concat_string_string.O N) N slices_Concat_string_string.c15 15 s' slices_Concat_string_string.K0)) slices_Concat_string_string.K0)))) := by kernel_rfl
noncomputable def slices_Concat_string_string.g (N : Nat) (a0 : List ((List ByteArray))) : Option slices_Concat_string_string.R := slices_Concat_string_string.o0 N a0 ((fun w0 w1 w2 w3 w4 => slices_Concat_string_string.l1 N N w0 w1 w2 w3 w4))
theorem slices_Concat_string_string.c1_0 : slices_Concat_string_string.c1 = (.seq slices_Concat_string_string.c2 (.seq slices_Concat_string_string.c6 (.seq (.seq slices_Concat_string_string.c28 (.block 0 (.loop slices_Concat_string_string.c116))) slices_Concat_string_string.c15))) := by kernel_rfl
theorem slices_Concat_string_string.g.run (N : Nat) (a0 : List ((List ByteArray))) : runC slices_Concat_string_string.C (slices_Concat_string_string.O N) N slices_Concat_string_string.c1 1 (st0 [.one (.sl false 22 a0)] [] : St D0) slices_Concat_string_string.K0 = slices_Concat_string_string.g N a0 := by
  rw [slices_Concat_string_string.c1_0]; unfold slices_Concat_string_string.g; exact (slices_Concat_string_string.o0.run N slices_Concat_string_string.c116 a0).trans (congr rfl (funext fun w0 => funext fun w1 => funext fun w2 => funext fun w3 => funext fun w4 => (slices_Concat_string_string.loop58 N N) w0 w1 w2 w3 w4))
theorem slices_Concat_string_string.good (N : Nat) (a0 : List ((List ByteArray))) (r : slices_Concat_string_string.R) (h : slices_Concat_string_string.g N a0 = some r) : Go.PM.Good Go.Proofs.Tryd.prog T0 48 [.one (.sl false 22 a0)] [] (slices_Concat_string_string.sig.ret r) (slices_Concat_string_string.sig.bs r) :=
  good_fn tabOk0 mixed0 slices_Concat_string_string.sig (slices_Concat_string_string.E N) Go.Proofs.Tryd.func48 (by kernel_rfl) (by kernel_rfl) 504373101 0 0 [(58, [0, 3, 9, 10, 11], []), (250, [6, 25, 26, 27], [])] 4303978496 false [] [(false, [.own 9])] (by kernel_rfl) rfl rfl ((slices_Concat_string_string.g.run N a0).trans h)
noncomputable def slices_Concat_string_string.ent (N : Nat) : Ent Go.Proofs.Tryd.prog T0 := mkEnt 48 [(false, [.ro 22])] slices_Concat_string_string.sig (fun t => slices_Concat_string_string.g N t) (fun t r h => slices_Concat_string_string.good N t r h)
end Go.Proofs.YtpmipkbfohcjiaaDoor.M

namespace Go.Proofs.YtpmipkbfohcjiaaDoor.M
open Go Go.PM Go.Proofs.YtpmipkbfohcjiaaDoor.P
set_option linter.unusedVariables false
set_option maxRecDepth 100000
/-! ### impl_TurnTune -/
abbrev impl_TurnTune.R : Type := List ByteArray × Bool
abbrev impl_TurnTune.sig : Sig := ⟨[(false, 1), (false, 1)], [], [.sl false 9, .int .i64], [(false, 1), (false, 1)], [], [.sl true 9, .bool]⟩
noncomputable def impl_TurnTune.C : Cfg D0 := ⟨Go.Proofs.Tryd.prog, T0, 65587, 0, 25, 0, [(12, [0, 1, 16], [])], 3542080, false, []⟩
noncomputable def impl_TurnTune.E (N : Nat) : List (Ent Go.Proofs.Tryd.prog T0) := [impl_IsTune.ent N, impl_within.ent N, slices_Concat_string_string.ent N]
noncomputable def impl_TurnTune.O (N : Nat) : Orc D0 impl_TurnTune.R := orcOf (impl_TurnTune.E N)
noncomputable def impl_TurnTune.K0 : Ex → St D0 → Option impl_TurnTune.R := exitK impl_TurnTune.C Go.Proofs.Tryd.f22.results.toList [(false, [.own 9]), (false, [.any])] (decOut impl_TurnTune.sig)
noncomputable def impl_TurnTune.c1 : Code := codeAt (Go.Proofs.Tryd.f22.body.getD .skip) []
noncomputable def impl_TurnTune.c2 : Code := codeAt (Go.Proofs.Tryd.f22.body.getD .skip) [false]
noncomputable def impl_TurnTune.c7 : Code := codeAt (Go.Proofs.Tryd.f22.body.getD .skip) [true, true]
noncomputable def impl_TurnTune.c12 : Code := codeAt (Go.Proofs.Tryd.f22.body.getD .skip) [true, false, false]
noncomputable def impl_TurnTune.c13 : Code := codeAt (Go.Proofs.Tryd.f22.body.getD .skip) [true, false, true]
noncomputable def impl_TurnTune.K13 (N : Nat) : Ex → St D0 → Option impl_TurnTune.R := (onN (fun s => impl_TurnTune.C.tidy 6 s (fun s' => runC impl_TurnTune.C (impl_TurnTune.O N) N impl_TurnTune.c7 7 s' impl_TurnTune.K0)) impl_TurnTune.K0)
noncomputable def impl_TurnTune.o1 (N : Nat) (v0 : List ByteArray) (v1 : Int) (v2 : Bool) : Option impl_TurnTune.R :=
 bif v2 then
  some (([] : List ByteArray), false)
 else
 bif (decide (0 ≤ (v0.length : Int))) then
  bif (decide ((v0.length : Int) ≤ (v0.length : Int))) then
   bif (decide (0 ≤ v1)) then
    bif (decide (v1 ≤ (v0.length : Int))) then
     bif (decide (0 ≤ v1)) then
      bif (decide (v1 ≤ (v0.length : Int))) then
       bif (decide (0 ≤ v1)) then
        (slices_Concat_string_string.g N ([((v0.take ((v0.length : Int) : Int).toNat).drop (v1 : Int).toNat), ((v0.take (v1 : Int).toNat).drop (0 : Int).toNat)] : List (List ByteArray))).bind fun r1 =>
        some (r1, true)
       else
       none
      else
      none
     else
     none
    else
    none
   else
   none
  else
  none
 else
 none
theorem impl_TurnTune.o1.run (N : Nat) (v0 : List ByteArray) (v1 : Int) (v2 : Bool) : runC impl_TurnTune.C (impl_TurnTune.O N) N impl_TurnTune.c13 13 (mkSt [(0, .one (.sl false 9 v0)), (1, .one (.int .i64 v1)), (16, .one (.bool v2))] [] : St D0) (onN (fun s => impl_TurnTune.C.tidy 6 s (fun s' => runC impl_TurnTune.C (impl_TurnTune.O N) N impl_TurnTune.c7 7 s' impl_TurnTune.K0)) impl_TurnTune.K0) = impl_TurnTune.o1 N v0 v1 v2 := by kernel_rfl
noncomputable def impl_TurnTune.d1 (N : Nat) (v0 : List ByteArray) (v1 : Int) (v2 : Bool) : Option impl_TurnTune.R := impl_TurnTune.o1 N v0 v1 v2
theorem impl_TurnTune.d1.run (N : Nat) (v0 : List ByteArray) (v1 : Int) (v2 : Bool) : runC impl_TurnTune.C (impl_TurnTune.O N) N impl_TurnTune.c13 13 (mkSt [(0, .one (.sl false 9 v0)), (1, .one (.int .i64 v1)), (16, .one (.bool v2))] [] : St D0) (impl_TurnTune.K13 N) = impl_TurnTune.d1 N v0 v1 v2 := by
  exact (impl_TurnTune.o1.run N v0 v1 v2).trans rfl
noncomputable def impl_TurnTune.o0 (N : Nat) (a0 : List ByteArray) (a1 : Int) (c1 : (List ByteArray) → Int → Bool → Option impl_TurnTune.R) : Option impl_TurnTune.R :=
 (impl_IsTune.g N a0).bind fun r1 =>
 bif (!r1) then
  c1 a0 a1 true
 else
 (impl_within.g N a1 0 (w64 ((a0.length : Int) - 1))).bind fun r2 =>
 c1 a0 a1 (!r2)
theorem impl_TurnTune.o0.run (N : Nat) (H13 : Code) (a0 : List ByteArray) (a1 : Int) : runC impl_TurnTune.C (impl_TurnTune.O N) N (.seq impl_TurnTune.c2 (.seq (.seq impl_TurnTune.c12 H13) impl_TurnTune.c7)) 1 (st0 [.one (.sl false 9 a0), .one (.int .i64 a1)] [] : St D0) impl_TurnTune.K0 = impl_TurnTune.o0 N a0 a1 ((fun w0 w1 w2 => runC impl_TurnTune.C (impl_TurnTune.O N) N H13 13 (mkSt [(0, .one (.sl false 9 w0)), (1, .one (.int .i64 w1)), (16, .one (.bool w2))] [] : St D0) (onN (fun s => impl_TurnTune.C.tidy 6 s (fun s' => runC impl_TurnTune.C (impl_TurnTune.O N) N impl_TurnTune.c7 7 s' impl_TurnTune.K0)) impl_TurnTune.K0))) := by kernel_rfl
noncomputable def impl_TurnTune.B6 (N : Nat) : St D0 → Option impl_TurnTune.R := fun s' => runC impl_TurnTune.C (impl_TurnTune.O N) N impl_TurnTune.c13 13 s' (impl_TurnTune.K13 N)
noncomputable def impl_TurnTune.g (N : Nat) (a0 : List ByteArray) (a1 : Int) : Option impl_TurnTune.R := impl_TurnTune.o0 N a0 a1 ((fun w0 w1 w2 => impl_TurnTune.d1 N w0 w1 w2))
theorem impl_TurnTune.c1_0 : impl_TurnTune.c1 = (.seq impl_TurnTune.c2 (.seq (.seq impl_TurnTune.c12 impl_TurnTune.c13) impl_TurnTune.c7)) := by kernel_rfl
theorem impl_TurnTune.g.run (N : Nat) (a0 : List ByteArray) (a1 : Int) : runC impl_TurnTune.C (impl_TurnTune.O N) N impl_TurnTune.c1 1 (st0 [.one (.sl false 9 a0), .one (.int .i64 a1)] [] : St D0) impl_TurnTune.K0 = impl_TurnTune.g N a0 a1 := by
  rw [impl_TurnTune.c1_0]; unfold impl_TurnTune.g; exact (impl_TurnTune.o0.run N impl_TurnTune.c13 a0 a1).trans (congr rfl (funext fun w0 => funext fun w1 => funext fun w2 => impl_TurnTune.d1.run N w0 w1 w2))
theorem impl_TurnTune.good (N : Nat) (a0 : List ByteArray) (a1 : Int) (r : impl_TurnTune.R) (h : impl_TurnTune.g N a0 a1 = some r) : Go.PM.Good Go.Proofs.Tryd.prog T0 22 [.one (.sl false 9 a0), .one (.int .i64 a1)] [] (impl_TurnTune.sig.ret r) (impl_TurnTune.sig.bs r) :=
  good_fn tabOk0 mixed0 impl_TurnTune.sig (impl_TurnTune.E N) Go.Proofs.Tryd.func22 (by kernel_rfl) (by kernel_rfl) 65587 0 0 [(12, [0, 1, 16], [])] 3542080 false [] [(false, [.own 9]), (false, [.any])] (by kernel_rfl) rfl rfl ((impl_TurnTune.g.run N a0 a1).trans h)
noncomputable def impl_TurnTune.ent (N : Nat) : Ent Go.Proofs.Tryd.prog T0 := mkEnt 22 [(false, [.ro 9]), (false, [.any])] impl_TurnTune.sig (fun t => impl_TurnTune.g N t.1 t.2) (fun t r h => impl_TurnTune.good N t.1 t.2 r h)
end Go.Proofs.YtpmipkbfohcjiaaDoor.M

namespace Go.Proofs.YtpmipkbfohcjiaaDoor.M
open Go Go.PM Go.Proofs.YtpmipkbfohcjiaaDoor.P
set_option linter.unusedVariables false
set_option maxRecDepth 100000
/-! ### spec_l1OwnS -/
abbrev spec_l1OwnS.R : Type := List ByteArray
abbrev spec_l1OwnS.sig : Sig := ⟨[(false, 1)], [], [.sl false 9], [(false, 1)], [], [.sl true 9]⟩
noncomputable def spec_l1OwnS.C : Cfg D0 := ⟨Go.Proofs.Tryd.prog, T0, 5, 0, 6, 0, [], 16, false, []⟩
noncomputable def spec_l1OwnS.E (N : Nat) : List (Ent Go.Proofs.Tryd.prog T0) := []
noncomputable def spec_l1OwnS.O (N : Nat) : Orc D0 spec_l1OwnS.R := orcOf (spec_l1OwnS.E N)
noncomputable def spec_l1OwnS.K0 : Ex → St D0 → Option spec_l1OwnS.R := exitK spec_l1OwnS.C Go.Proofs.Tryd.f49.results.toList [(false, [.own 9])] (decOut spec_l1OwnS.sig)
noncomputable def spec_l1OwnS.c1 : Code := codeAt (Go.Proofs.Tryd.f49.body.getD .skip) []
noncomputable def spec_l1OwnS.o0 (N : Nat) (a0 : List ByteArray) : Option spec_l1OwnS.R :=
 bif (Nat.blt (([] : List ByteArray).length + a0.length) 8796093022208) then
  some ((([] : List ByteArray) ++ a0))
 else
 none
theorem spec_l1OwnS.o0.run (N : Nat) (a0 : List ByteArray) : runC spec_l1OwnS.C (spec_l1OwnS.O N) N spec_l1OwnS.c1 1 (st0 [.one (.sl false 9 a0)] [] : St D0) spec_l1OwnS.K0 = spec_l1OwnS.o0 N a0 := by kernel_rfl
noncomputable def spec_l1OwnS.g (N : Nat) (a0 : List ByteArray) : Option spec_l1OwnS.R := spec_l1OwnS.o0 N a0
theorem spec_l1OwnS.g.run (N : Nat) (a0 : List ByteArray) : runC spec_l1OwnS.C (spec_l1OwnS.O N) N spec_l1OwnS.c1 1 (st0 [.one (.sl false 9 a0)] [] : St D0) spec_l1OwnS.K0 = spec_l1OwnS.g N a0 := by
  exact (spec_l1OwnS.o0.run N a0).trans rfl
theorem spec_l1OwnS.good (N : Nat) (a0 : List ByteArray) (r : spec_l1OwnS.R) (h : spec_l1OwnS.g N a0 = some r) : Go.PM.Good Go.Proofs.Tryd.prog T0 49 [.one (.sl false 9 a0)] [] (spec_l1OwnS.sig.ret r) (spec_l1OwnS.sig.bs r) :=
  good_fn tabOk0 mixed0 spec_l1OwnS.sig (spec_l1OwnS.E N) Go.Proofs.Tryd.func49 (by kernel_rfl) (by kernel_rfl) 5 0 0 [] 16 false [] [(false, [.own 9])] (by kernel_rfl) rfl rfl ((spec_l1OwnS.g.run N a0).trans h)
noncomputable def spec_l1OwnS.ent (N : Nat) : Ent Go.Proofs.Tryd.prog T0 := mkEnt 49 [(false, [.ro 9])] spec_l1OwnS.sig (fun t => spec_l1OwnS.g N t) (fun t r h => spec_l1OwnS.good N t r h)
end Go.Proofs.YtpmipkbfohcjiaaDoor.M

namespace Go.Proofs.YtpmipkbfohcjiaaDoor.M
open Go Go.PM Go.Proofs.YtpmipkbfohcjiaaDoor.P
set_option linter.unusedVariables false
set_option maxRecDepth 100000
/-! ### spec_TurnTune -/
abbrev spec_TurnTune.R : Type := List ByteArray × Bool
abbrev spec_TurnTune.sig : Sig := ⟨[(false, 1), (false, 1)], [], [.sl false 9, .int .i64], [(false, 1), (false, 1)], [], [.sl true 9, .bool]⟩
noncomputable def spec_TurnTune.C : Cfg D0 := ⟨Go.Proofs.Tryd.prog, T0, 65587, 0, 25, 0, [(12, [0, 1, 16], [])], 6687808, false, []⟩
noncomputable def spec_TurnTune.E (N : Nat) : List (Ent Go.Proofs.Tryd.prog T0) := [spec_beTune.ent N, spec_l1In.ent N, spec_l1OwnS.ent N]
noncomputable def spec_TurnTune.O (N : Nat) : Orc D0 spec_TurnTune.R := orcOf (spec_TurnTune.E N)
noncomputable def spec_TurnTune.K0 : Ex → St D0 → Option spec_TurnTune.R := exitK spec_TurnTune.C Go.Proofs.Tryd.f23.results.toList [(false, [.own 9]), (false, [.any])] (decOut spec_TurnTune.sig)
noncomputable def spec_TurnTune.c1 : Code := codeAt (Go.Proofs.Tryd.f23.body.getD .skip) []
noncomputable def spec_TurnTune.c2 : Code := codeAt (Go.Proofs.Tryd.f23.body.getD .skip) [false]
noncomputable def spec_TurnTune.c7 : Code := codeAt (Go.Proofs.Tryd.f23.body.getD .skip) [true, true]
noncomputable def spec_TurnTune.c12 : Code := codeAt (Go.Proofs.Tryd.f23.body.getD .skip) [true, false, false]
noncomputable def spec_TurnTune.c13 : Code := codeAt (Go.Proofs.Tryd.f23.body.getD .skip) [true, false, true]
noncomputable def spec_TurnTune.K13 (N : Nat) : Ex → St D0 → Option spec_TurnTune.R := (onN (fun s => spec_TurnTune.C.tidy 6 s (fun s' => runC spec_TurnTune.C (spec_TurnTune.O N) N spec_TurnTune.c7 7 s' spec_TurnTune.K0)) spec_TurnTune.K0)
noncomputable def spec_TurnTune.o1 (N : Nat) (v0 : List ByteArray) (v1 : Int) (v2 : Bool) : Option spec_TurnTune.R :=
 bif v2 then
  some (([] : List ByteArray), false)
 else
 bif (decide (0 ≤ (v0.length : Int))) then
  bif (decide ((v0.length : Int) ≤ (v0.length : Int))) then
   bif (decide (0 ≤ v1)) then
    bif (decide (v1 ≤ (v0.length : Int))) then
     (spec_l1OwnS.g N ((v0.take ((v0.length : Int) : Int).toNat).drop (v1 : Int).toNat)).bind fun r1 =>
     bif (decide (0 ≤ v1)) then
      bif (decide (v1 ≤ (v0.length : Int))) then
       bif (decide (0 ≤ v1)) then
        bif (Nat.blt (r1.length + ((v0.take (v1 : Int).toNat).drop (0 : Int).toNat).length) 8796093022208) then
         some ((r1 ++ ((v0.take (v1 : Int).toNat).drop (0 : Int).toNat)), true)
        else
        none
       else
       none
      else
      none
     else
     none
    else
    none
   else
   none
  else
  none
 else
 none
theorem spec_TurnTune.o1.run (N : Nat) (v0 : List ByteArray) (v1 : Int) (v2 : Bool) : runC spec_TurnTune.C (spec_TurnTune.O N) N spec_TurnTune.c13 13 (mkSt [(0, .one (.sl false 9 v0)), (1, .one (.int .i64 v1)), (16, .one (.bool v2))] [] : St D0) (onN (fun s => spec_TurnTune.C.tidy 6 s (fun s' => runC spec_TurnTune.C (spec_TurnTune.O N) N spec_TurnTune.c7 7 s' spec_TurnTune.K0)) spec_TurnTune.K0) = spec_TurnTune.o1 N v0 v1 v2 := by kernel_rfl
noncomputable def spec_TurnTune.d1 (N : Nat) (v0 : List ByteArray) (v1 : Int) (v2 : Bool) : Option spec_TurnTune.R := spec_TurnTune.o1 N v0 v1 v2
theorem spec_TurnTune.d1.run (N : Nat) (v0 : List ByteArray) (v1 : Int) (v2 : Bool) : runC spec_TurnTune.C (spec_TurnTune.O N) N spec_TurnTune.c13 13 (mkSt [(0, .one (.sl false 9 v0)), (1, .one (.int .i64 v1)), (16, .one (.bool v2))] [] : St D0) (spec_TurnTune.K13 N) = spec_TurnTune.d1 N v0 v1 v2 := by
  exact (spec_TurnTune.o1.run N v0 v1 v2).trans rfl
noncomputable def spec_TurnTune.o0 (N : Nat) (a0 : List ByteArray) (a1 : Int) (c1 : (List ByteArray) → Int → Bool → Option spec_TurnTune.R) : Option spec_TurnTune.R :=
 (spec_beTune.g N a0).bind fun r1 =>
 bif (!r1) then
  c1 a0 a1 true
 else
 (spec_l1In.g N a1 0 (w64 ((a0.length : Int) - 1))).bind fun r2 =>
 c1 a0 a1 (!r2)
theorem spec_TurnTune.o0.run (N : Nat) (H13 : Code) (a0 : List ByteArray) (a1 : Int) : runC spec_TurnTune.C (spec_TurnTune.O N) N (.seq spec_TurnTune.c2 (.seq (.seq spec_TurnTune.c12 H13) spec_TurnTune.c7)) 1 (st0 [.one (.sl false 9 a0), .one (.int .i64 a1)] [] : St D0) spec_TurnTune.K0 = spec_TurnTune.o0 N a0 a1 ((fun w0 w1 w2 => runC spec_TurnTune.C (spec_TurnTune.O N) N H13 13 (mkSt [(0, .one (.sl false 9 w0)), (1, .one (.int .i64 w1)), (16, .one (.bool w2))] [] : St D0) (onN (fun s => spec_TurnTune.C.tidy 6 s (fun s' => runC spec_TurnTune.C (spec_TurnTune.O N) N spec_TurnTune.c7 7 s' spec_TurnTune.K0)) spec_TurnTune.K0))) := by kernel_rfl
noncomputable def spec_TurnTune.B6 (N : Nat) : St D0 → Option spec_TurnTune.R := fun s' => runC spec_TurnTune.C (spec_TurnTune.O N) N spec_TurnTune.c13 13 s' (spec_TurnTune.K13 N)
noncomputable def spec_TurnTune.g (N : Nat) (a0 : List ByteArray) (a1 : Int) : Option spec_TurnTune.R := spec_TurnTune.o0 N a0 a1 ((fun w0 w1 w2 => spec_TurnTune.d1 N w0 w1 w2))
theorem spec_TurnTune.c1_0 : spec_TurnTune.c1 = (.seq spec_TurnTune.c2 (.seq (.seq spec_TurnTune.c12 spec_TurnTune.c13) spec_TurnTune.c7)) := by kernel_rfl
theorem spec_TurnTune.g.run (N : Nat) (a0 : List ByteArray) (a1 : Int) : runC spec_TurnTune.C (spec_TurnTune.O N) N spec_TurnTune.c1 1 (st0 [.one (.sl false 9 a0), .one (.int .i64 a1)] [] : St D0) spec_TurnTune.K0 = spec_TurnTune.g N a0 a1 := by
  rw [spec_TurnTune.c1_0]; unfold spec_TurnTune.g; exact (spec_TurnTune.o0.run N spec_TurnTune.c13 a0 a1).trans (congr rfl (funext fun w0 => funext fun w1 => funext fun w2 => spec_TurnTune.d1.run N w0 w1 w2))
theorem spec_TurnTune.good (N : Nat) (a0 : List ByteArray) (a1 : Int) (r : spec_TurnTune.R) (h : spec_TurnTune.g N a0 a1 = some r) : Go.PM.Good Go.Proofs.Tryd.prog T0 23 [.one (.sl false 9 a0), .one (.int .i64 a1)] [] (spec_TurnTune.sig.ret r) (spec_TurnTune.sig.bs r) :=
  good_fn tabOk0 mixed0 spec_TurnTune.sig (spec_TurnTune.E N) Go.Proofs.Tryd.func23 (by kernel_rfl) (by kernel_rfl) 65587 0 0 [(12, [0, 1, 16], [])] 6687808 false [] [(false, [.own 9]), (false, [.any])] (by kernel_rfl) rfl rfl ((spec_TurnTune.g.run N a0 a1).trans h)
noncomputable def spec_TurnTune.ent (N : Nat) : Ent Go.Proofs.Tryd.prog T0 := mkEnt 23 [(false, [.ro 9]), (false, [.any])] spec_TurnTune.sig (fun t => spec_TurnTune.g N t.1 t.2) (fun t r h => spec_TurnTune.good N t.1 t.2 r h)
end Go.Proofs.YtpmipkbfohcjiaaDoor.M

namespace Go.Proofs.YtpmipkbfohcjiaaDoor.M
open Go Go.PM Go.Proofs.YtpmipkbfohcjiaaDoor.P
set_option linter.unusedVariables false
set_option maxRecDepth 100000
/-! ### impl_ParseTune -/
abbrev impl_ParseTune.R : Type := List ByteArray × Bool
abbrev impl_ParseTune.sig : Sig := ⟨[(false, 1)], [], [.str], [(false, 1), (false, 1)], [], [.sl true 9, .bool]⟩
noncomputable def impl_ParseTune.C : Cfg D0 := ⟨Go.Proofs.Tryd.prog, T0, 541, 0, 11, 0, [], 160, false, []⟩
noncomputable def impl_ParseTune.E (N : Nat) : List (Ent Go.Proofs.Tryd.prog T0) := [strings_Split.ent N, impl_IsTune.ent N]
noncomputable def impl_ParseTune.O (N : Nat) : Orc D0 impl_ParseTune.R := orcOf (impl_ParseTune.E N)
noncomputable def impl_ParseTune.K0 : Ex → St D0 → Option impl_ParseTune.R := exitK impl_ParseTune.C Go.Proofs.Tryd.f19.results.toList [(false, [.own 9]), (false, [.any])] (decOut impl_ParseTune.sig)
noncomputable def impl_ParseTune.c1 : Code := codeAt (Go.Proofs.Tryd.f19.body.getD .skip) []
noncomputable def impl_ParseTune.o0 (N : Nat) (a0 : ByteArray) : Option impl_ParseTune.R :=
 (strings_Split.g N a0 (⟨#[47]⟩ : ByteArray)).bind fun r1 =>
 (impl_IsTune.g N r1).bind fun r2 =>
 bif (!r2) then
  some (([] : List ByteArray), false)
 else
 some (r1, true)
theorem impl_ParseTune.o0.run (N : Nat) (a0 : ByteArray) : runC impl_ParseTune.C (impl_ParseTune.O N) N impl_ParseTune.c1 1 (st0 [.one (.str a0)] [] : St D0) impl_ParseTune.K0 = impl_ParseTune.o0 N a0 := by kernel_rfl
noncomputable def impl_ParseTune.g (N : Nat) (a0 : ByteArray) : Option impl_ParseTune.R := impl_ParseTune.o0 N a0
theorem impl_ParseTune.g.run (N : Nat) (a0 : ByteArray) : runC impl_ParseTune.C (impl_ParseTune.O N) N impl_ParseTune.c1 1 (st0 [.one (.str a0)] [] : St D0) impl_ParseTune.K0 = impl_ParseTune.g N a0 := by
  exact (impl_ParseTune.o0.run N a0).trans rfl
theorem impl_ParseTune.good (N : Nat) (a0 : ByteArray) (r : impl_ParseTune.R) (h : impl_ParseTune.g N a0 = some r) : Go.PM.Good Go.Proofs.Tryd.prog T0 19 [.one (.str a0)] [] (impl_ParseTune.sig.ret r) (impl_ParseTune.sig.bs r) :=
  good_fn tabOk0 mixed0 impl_ParseTune.sig (impl_ParseTune.E N) Go.Proofs.Tryd.func19 (by kernel_rfl) (by kernel_rfl) 541 0 0 [] 160 false [] [(false, [.own 9]), (false, [.any])] (by kernel_rfl) rfl rfl ((impl_ParseTune.g.run N a0).trans h)
noncomputable def impl_ParseTune.ent (N : Nat) : Ent Go.Proofs.Tryd.prog T0 := mkEnt 19 [(false, [.any])] impl_ParseTune.sig (fun t => impl_ParseTune.g N t) (fun t r h => impl_ParseTune.good N t r h)
end Go.Proofs.YtpmipkbfohcjiaaDoor.M

namespace Go.Proofs.YtpmipkbfohcjiaaDoor.M
open Go Go.PM Go.Proofs.YtpmipkbfohcjiaaDoor.P
set_option linter.unusedVariables false
set_option maxRecDepth 100000
/-! ### spec_ParseTune -/
abbrev spec_ParseTune.R : Type := List ByteArray × Bool
abbrev spec_ParseTune.sig : Sig := ⟨[(false, 1)], [], [.str], [(false, 1), (false, 1)], [], [.sl true 9, .bool]⟩
noncomputable def spec_ParseTune.C : Cfg D0 := ⟨Go.Proofs.Tryd.prog, T0, 4109, 0, 15, 0, [(12, [0, 12], [])], 8464, false, []⟩
noncomputable def spec_ParseTune.E (N : Nat) : List (Ent Go.Proofs.Tryd.prog T0) := [spec_l1Split.ent N, spec_beTune.ent N]
noncomputable def spec_ParseTune.O (N : Nat) : Orc D0 spec_ParseTune.R := orcOf (spec_ParseTune.E N)
noncomputable def spec_ParseTune.K0 : Ex → St D0 → Option spec_ParseTune.R := exitK spec_ParseTune.C Go.Proofs.Tryd.f24.results.toList [(false, [.own 9]), (false, [.any])] (decOut spec_ParseTune.sig)
noncomputable def spec_ParseTune.c1 : Code := codeAt (Go.Proofs.Tryd.f24.body.getD .skip) []
noncomputable def spec_ParseTune.c2 : Code := codeAt (Go.Proofs.Tryd.f24.body.getD .skip) [false]
noncomputable def spec_ParseTune.c7 : Code := codeAt (Go.Proofs.Tryd.f24.body.getD .skip) [true, true]
noncomputable def spec_ParseTune.c12 : Code := codeAt (Go.Proofs.Tryd.f24.body.getD .skip) [true, false, false]
noncomputable def spec_ParseTune.c13 : Code := codeAt (Go.Proofs.Tryd.f24.body.getD .skip) [true, false, true]
noncomputable def spec_ParseTune.K13 (N : Nat) : Ex → St D0 → Option spec_ParseTune.R := (onN (fun s => spec_ParseTune.C.tidy 6 s (fun s' => runC spec_ParseTune.C (spec_ParseTune.O N) N spec_ParseTune.c7 7 s' spec_ParseTune.K0)) spec_ParseTune.K0)
noncomputable def spec_ParseTune.o1 (N : Nat) (v0 : ByteArray) (v1 : Bool) : Option spec_ParseTune.R :=
 bif v1 then
  some (([] : List ByteArray), false)
 else
 (spec_l1Split.g N v0 47).bind fun r1 =>
 some (r1, true)
theorem spec_ParseTune.o1.run (N : Nat) (v0 : ByteArray) (v1 : Bool) : runC spec_ParseTune.C (spec_ParseTune.O N) N spec_ParseTune.c13 13 (mkSt [(0, .one (.str v0)), (12, .one (.bool v1))] [] : St D0) (onN (fun s => spec_ParseTune.C.tidy 6 s (fun s' => runC spec_ParseTune.C (spec_ParseTune.O N) N spec_ParseTune.c7 7 s' spec_ParseTune.K0)) spec_ParseTune.K0) = spec_ParseTune.o1 N v0 v1 := by kernel_rfl
noncomputable def spec_ParseTune.d1 (N : Nat) (v0 : ByteArray) (v1 : Bool) : Option spec_ParseTune.R := spec_ParseTune.o1 N v0 v1
theorem spec_ParseTune.d1.run (N : Nat) (v0 : ByteArray) (v1 : Bool) : runC spec_ParseTune.C (spec_ParseTune.O N) N spec_ParseTune.c13 13 (mkSt [(0, .one (.str v0)), (12, .one (.bool v1))] [] : St D0) (spec_ParseTune.K13 N) = spec_ParseTune.d1 N v0 v1 := by
  exact (spec_ParseTune.o1.run N v0 v1).trans rfl
noncomputable def spec_ParseTune.o0 (N : Nat) (a0 : ByteArray) (c1 : ByteArray → Bool → Option spec_ParseTune.R) : Option spec_ParseTune.R :=
 bif (decide ((a0.size : Int) > 120)) then
  c1 a0 true
 else
 (spec_l1Split.g N a0 47).bind fun r1 =>
 (spec_beTune.g N r1).bind fun r2 =>
 c1 a0 (!r2)
theorem spec_ParseTune.o0.run (N : Nat) (H13 : Code) (a0 : ByteArray) : runC spec_ParseTune.C (spec_ParseTune.O N) N (.seq spec_ParseTune.c2 (.seq (.seq spec_ParseTune.c12 H13) spec_ParseTune.c7)) 1 (st0 [.one (.str a0)] [] : St D0) spec_ParseTune.K0 = spec_ParseTune.o0 N a0 ((fun w0 w1 => runC spec_ParseTune.C (spec_ParseTune.O N) N H13 13 (mkSt [(0, .one (.str w0)), (12, .one (.bool w1))] [] : St D0) (onN (fun s => spec_ParseTune.C.tidy 6 s (fun s' => runC spec_ParseTune.C (spec_ParseTune.O N) N spec_ParseTune.c7 7 s' spec_ParseTune.K0)) spec_ParseTune.K0))) := by kernel_rfl
noncomputable def spec_ParseTune.B6 (N : Nat) : St D0 → Option spec_ParseTune.R := fun s' => runC spec_ParseTune.C (spec_ParseTune.O N) N spec_ParseTune.c13 13 s' (spec_ParseTune.K13 N)
noncomputable def spec_ParseTune.g (N : Nat) (a0 : ByteArray) : Option spec_ParseTune.R := spec_ParseTune.o0 N a0 ((fun w0 w1 => spec_ParseTune.d1 N w0 w1))
theorem spec_ParseTune.c1_0 : spec_ParseTune.c1 = (.seq spec_ParseTune.c2 (.seq (.seq spec_ParseTune.c12 spec_ParseTune.c13) spec_ParseTune.c7)) := by kernel_rfl
theorem spec_ParseTune.g.run (N : Nat) (a0 : ByteArray) : runC spec_ParseTune.C (spec_ParseTune.O N) N spec_ParseTune.c1 1 (st0 [.one (.str a0)] [] : St D0) spec_ParseTune.K0 = spec_ParseTune.g N a0 := by
  rw [spec_ParseTune.c1_0]; unfold spec_ParseTune.g; exact (spec_ParseTune.o0.run N spec_ParseTune.c13 a0).trans (congr rfl (funext fun w0 => funext fun w1 => spec_ParseTune.d1.run N w0 w1))
theorem spec_ParseTune.good (N : Nat) (a0 : ByteArray) (r : spec_ParseTune.R) (h : spec_ParseTune.g N a0 = some r) : Go.PM.Good Go.Proofs.Tryd.prog T0 24 [.one (.str a0)] [] (spec_ParseTune.sig.ret r) (spec_ParseTune.sig.bs r) :=
  good_fn tabOk0 mixed0 spec_ParseTune.sig (spec_ParseTune.E N) Go.Proofs.Tryd.func24 (by kernel_rfl) (by kernel_rfl) 4109 0 0 [(12, [0, 12], [])] 8464 false [] [(false, [.own 9]), (false, [.any])] (by kernel_rfl) rfl rfl ((spec_ParseTune.g.run N a0).trans h)
noncomputable def spec_ParseTune.ent (N : Nat) : Ent Go.Proofs.Tryd.prog T0 := mkEnt 24 [(false, [.any])] spec_ParseTune.sig (fun t => spec_ParseTune.g N t) (fun t r h => spec_ParseTune.good N t r h)
end Go.Proofs.YtpmipkbfohcjiaaDoor.M

namespace Go.Proofs.YtpmipkbfohcjiaaDoor.M
open Go Go.PM Go.Proofs.YtpmipkbfohcjiaaDoor.P
set_option linter.unusedVariables false
set_option maxRecDepth 100000
/-! ### spec_l1Cur_next -/
abbrev spec_l1Cur_next.R : Type := Int × List Int × Int × Int
abbrev spec_l1Cur_next.sig : Sig := ⟨[(false, 1)], [(67, 3)], [.ptr 0 0, .sl false 5, .int .i64, .int .u64], [(false, 1)], [(67, 3)], [.int .i64, .sl false 5, .int .i64, .int .u64]⟩
noncomputable def spec_l1Cur_next.C : Cfg D0 := ⟨Go.Proofs.Tryd.prog, T0, 9007199254749197, 0, 62, 1, [(14, [0, 3], [0])], 36328151978361104, false, []⟩
noncomputable def spec_l1Cur_next.E (N : Nat) : List (Ent Go.Proofs.Tryd.prog T0) := []
noncomputable def spec_l1Cur_next.O (N : Nat) : Orc D0 spec_l1Cur_next.R := orcOf (spec_l1Cur_next.E N)
noncomputable def spec_l1Cur_next.K0 : Ex → St D0 → Option spec_l1Cur_next.R := exitK spec_l1Cur_next.C Go.Proofs.Tryd.f67.results.toList [(false, [.any])] (decOut spec_l1Cur_next.sig)
noncomputable def spec_l1Cur_next.c1 : Code := codeAt (Go.Proofs.Tryd.f67.body.getD .skip) []
noncomputable def spec_l1Cur_next.c2 : Code := codeAt (Go.Proofs.Tryd.f67.body.getD .skip) [false]
noncomputable def spec_l1Cur_next.c6 : Code := codeAt (Go.Proofs.Tryd.f67.body.getD .skip) [true, false]
noncomputable def spec_l1Cur_next.c14 : Code := codeAt (Go.Proofs.Tryd.f67.body.getD .skip) [true, true, false]
noncomputable def spec_l1Cur_next.c15 : Code := codeAt (Go.Proofs.Tryd.f67.body.getD .skip) [true, true, true]
noncomputable def spec_l1Cur_next.K15 (N : Nat) : Ex → St D0 → Option spec_l1Cur_next.R := spec_l1Cur_next.K0
noncomputable def spec_l1Cur_next.o1 (N : Nat) (v0 : Int) (v1 : List Int) (v2 : Int) (v3 : Int) : Option spec_l1Cur_next.R :=
 bif (decide ((w64 (v2 + 1)) ≤ (v1.length : Int))) then
  some (v0, v1, (w64 (v2 + 1)), ((IntKind.wrap .u64) (((IntKind.wrap .u64) (((IntKind.wrap .u64) (v3 * 6364136223846793005)) + ((IntKind.wrap .u64) v0))) + 1442695040888963407)))
 else
 some ((w64 (andK .u64 (shrK .u64 ((IntKind.wrap .u64) (((IntKind.wrap .u64) (((IntKind.wrap .u64) (v3 * 6364136223846793005)) + ((IntKind.wrap .u64) v0))) + 1442695040888963407)) 40) 255)), v1, (w64 (v2 + 1)), ((IntKind.wrap .u64) (((IntKind.wrap .u64) (((IntKind.wrap .u64) (v3 * 6364136223846793005)) + ((IntKind.wrap .u64) v0))) + 1442695040888963407)))
theorem spec_l1Cur_next.o1.run (N : Nat) (v0 : Int) (v1 : List Int) (v2 : Int) (v3 : Int) : runC spec_l1Cur_next.C (spec_l1Cur_next.O N) N spec_l1Cur_next.c15 15 (mkSt [(0, .one (.ptr 0 0)), (3, .one (.int .i64 v0))] [(0, some (67, [.sl false 5 v1, .int .i64 v2, .int .u64 v3]))] : St D0) spec_l1Cur_next.K0 = spec_l1Cur_next.o1 N v0 v1 v2 v3 := by kernel_rfl
noncomputable def spec_l1Cur_next.d1 (N : Nat) (v0 : Int) (v1 : List Int) (v2 : Int) (v3 : Int) : Option spec_l1Cur_next.R := spec_l1Cur_next.o1 N v0 v1 v2 v3
theorem spec_l1Cur_next.d1.run (N : Nat) (v0 : Int) (v1 : List Int) (v2 : Int) (v3 : Int) : runC spec_l1Cur_next.C (spec_l1Cur_next.O N) N spec_l1Cur_next.c15 15 (mkSt [(0, .one (.ptr 0 0)), (3, .one (.int .i64 v0))] [(0, some (67, [.sl false 5 v1, .int .i64 v2, .int .u64 v3]))] : St D0) (spec_l1Cur_next.K15 N) = spec_l1Cur_next.d1 N v0 v1 v2 v3 := by
  exact (spec_l1Cur_next.o1.run N v0 v1 v2 v3).trans rfl
noncomputable def spec_l1Cur_next.o0 (N : Nat) (b0_0 : List Int) (b0_1 : Int) (b0_2 : Int) (c1 : Int → (List Int) → Int → Int → Option spec_l1Cur_next.R) : Option spec_l1Cur_next.R :=
 bif (decide (b0_1 < (b0_0.length : Int))) then
  bif (decide (0 ≤ b0_1)) then
   bif (decide (b0_1 < (b0_0.length : Int))) then
    (b0_0[(b0_1 : Int).toNat]?).bind fun x1 =>
    c1 (w64 x1) b0_0 b0_1 b0_2
   else
   none
  else
  none
 else
 c1 0 b0_0 b0_1 b0_2
theorem spec_l1Cur_next.o0.run (N : Nat) (H15 : Code) (b0_0 : List Int) (b0_1 : Int) (b0_2 : Int) : runC spec_l1Cur_next.C (spec_l1Cur_next.O N) N (.seq spec_l1Cur_next.c2 (.seq spec_l1Cur_next.c6 (.seq spec_l1Cur_next.c14 H15))) 1 (st0 [.one (.ptr 0 0)] [(67, [.sl false 5 b0_0, .int .i64 b0_1, .int .u64 b0_2])] : St D0) spec_l1Cur_next.K0 = spec_l1Cur_next.o0 N b0_0 b0_1 b0_2 ((fun w0 w1 w2 w3 => runC spec_l1Cur_next.C (spec_l1Cur_next.O N) N H15 15 (mkSt [(0, .one (.ptr 0 0)), (3, .one (.int .i64 w0))] [(0, some (67, [.sl false 5 w1, .int .i64 w2, .int .u64 w3]))] : St D0) spec_l1Cur_next.K0)) := by kernel_rfl
noncomputable def spec_l1Cur_next.B7 (N : Nat) : St D0 → Option spec_l1Cur_next.R := fun s' => runC spec_l1Cur_next.C (spec_l1Cur_next.O N) N spec_l1Cur_next.c15 15 s' (spec_l1Cur_next.K15 N)
noncomputable def spec_l1Cur_next.g (N : Nat) (b0_0 : List Int) (b0_1 : Int) (b0_2 : Int) : Option spec_l1Cur_next.R := spec_l1Cur_next.o0 N b0_0 b0_1 b0_2 ((fun w0 w1 w2 w3 => spec_l1Cur_next.d1 N w0 w1 w2 w3))
theorem spec_l1Cur_next.c1_0 : spec_l1Cur_next.c1 = (.seq spec_l1Cur_next.c2 (.seq spec_l1Cur_next.c6 (.seq spec_l1Cur_next.c14 spec_l1Cur_next.c15))) := by kernel_rfl
theorem spec_l1Cur_next.g.run (N : Nat) (b0_0 : List Int) (b0_1 : Int) (b0_2 : Int) : runC spec_l1Cur_next.C (spec_l1Cur_next.O N) N spec_l1Cur_next.c1 1 (st0 [.one (.ptr 0 0)] [(67, [.sl false 5 b0_0, .int .i64 b0_1, .int .u64 b0_2])] : St D0) spec_l1Cur_next.K0 = spec_l1Cur_next.g N b0_0 b0_1 b0_2 := by
  rw [spec_l1Cur_next.c1_0]; unfold spec_l1Cur_next.g; exact (spec_l1Cur_next.o0.run N spec_l1Cur_next.c15 b0_0 b0_1 b0_2).trans (congr rfl (funext fun w0 => funext fun w1 => funext fun w2 => funext fun w3 => spec_l1Cur_next.d1.run N w0 w1 w2 w3))
theorem spec_l1Cur_next.good (N : Nat) (b0_0 : List Int) (b0_1 : Int) (b0_2 : Int) (r : spec_l1Cur_next.R) (h : spec_l1Cur_next.g N b0_0 b0_1 b0_2 = some r) : Go.PM.Good Go.Proofs.Tryd.prog T0 67 [.one (.ptr 0 0)] [(67, [.sl false 5 b0_0, .int .i64 b0_1, .int .u64 b0_2])] (spec_l1Cur_next.sig.ret r) (spec_l1Cur_next.sig.bs r) :=
  good_fn tabOk0 mixed0 spec_l1Cur_next.sig (spec_l1Cur_next.E N) Go.Proofs.Tryd.func67 (by kernel_rfl) (by kernel_rfl) 9007199254749197 0 1 [(14, [0, 3], [0])] 36328151978361104 false [] [(false, [.any])] (by kernel_rfl) rfl rfl ((spec_l1Cur_next.g.run N b0_0 b0_1 b0_2).trans h)
noncomputable def spec_l1Cur_next.ent (N : Nat) : Ent Go.Proofs.Tryd.prog T0 := mkEnt 67 [(false, [.any])] spec_l1Cur_next.sig (fun t => spec_l1Cur_next.g N t.2.1 t.2.2.1 t.2.2.2) (fun t r h => spec_l1Cur_next.good N t.2.1 t.2.2.1 t.2.2.2 r h)
end Go.Proofs.YtpmipkbfohcjiaaDoor.M
