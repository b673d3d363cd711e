/- What the program's functions compute, walked by the machine (part 1). No conditions but those stated. -/
import Derived.Test.YtpmipkbfohcjiaaPm3
import Derived.Test.YtpmipkbfohcjiaaProg
import Derived.Test.YtpmipkbfohcjiaaShelf
namespace Go.Proofs.Ytpmipkbfohcjiaa.M
open Go Go.PM
set_option linter.unusedVariables false
set_option maxRecDepth 100000
end Go.Proofs.Ytpmipkbfohcjiaa.M
namespace Go.Proofs.Ytpmipkbfohcjiaa.P
end Go.Proofs.Ytpmipkbfohcjiaa.P
namespace Go.Proofs.Ytpmipkbfohcjiaa.M
open Go Go.PM Go.Proofs.Ytpmipkbfohcjiaa.P
abbrev D0 : TypeId → Type
  | 3 => Int
  | 5 => Int
  | 9 => ByteArray
  | _ => Unit
def T0 : Tab D0 where
  size := fun e => match e with
    | 3 => 1
    | 5 => 1
    | 9 => 1
    | _ => 0
  out := fun e x => match e, x with
    | 3, x => [.int .i64 x]
    | 5, x => [.int .u8 x]
    | 9, x => [.str x]
    | _, _ => []
  inn := fun e ls => match e, ls with
    | 3, [.int .i64 x0] => some x0
    | 5, [.int .u8 x0] => some x0
    | 9, [.str x0] => some x0
    | _, _ => none
  kd := fun e => match e with
    | 3 => [13]
    | 5 => [14]
    | 9 => [2]
    | _ => []
theorem tabOk0 : TabOk T0 where
  out_len := by
    intro e x
    simp only [T0]
    split <;> first | rfl | (split <;> first | rfl | (rename_i h _ _ _ _; exact absurd HEq.rfl (fun h' => h _ rfl h')) | simp_all)
  kd_ok := by
    intro e x
    simp only [T0]
    split <;> first | rfl | (split <;> first | rfl | (rename_i h _ _ _ _; exact absurd HEq.rfl (fun h' => h _ rfl h')) | simp_all)
  inn_ok := by
    intro e ls x h C blk vs hF
    simp only [T0] at h
    split at h <;> first | (cases h; done) | (simp only [Option.some.injEq] at h; subst h; exact tab_inn hF rfl) | (split at h <;> first | (cases h; done) | (rename_i he; simp only [Option.some.injEq] at h; subst h; subst he; exact tab_inn_sl rfl hF))
theorem mixed0 : Go.Proofs.Try.prog.follows .mixedOrders = true := by kernel_rfl
end Go.Proofs.Ytpmipkbfohcjiaa.M

namespace Go.Proofs.Ytpmipkbfohcjiaa.M
open Go Go.PM Go.Proofs.Ytpmipkbfohcjiaa.P
set_option linter.unusedVariables false
set_option maxRecDepth 100000
/-! ### impl_within -/
abbrev impl_within.R : Type := Bool
abbrev impl_within.sig : Sig := ⟨[(false, 1), (false, 1), (false, 1)], [], [.int .i64, .int .i64, .int .i64], [(false, 1)], [], [.bool]⟩
noncomputable def impl_within.C : Cfg D0 := ⟨Go.Proofs.Try.prog, T0, 71, 0, 15, 0, [], 6528, false, []⟩
noncomputable def impl_within.E (N : Nat) : List (Ent Go.Proofs.Try.prog T0) := []
noncomputable def impl_within.O (N : Nat) : Orc D0 impl_within.R := orcOf (impl_within.E N)
noncomputable def impl_within.K0 : Ex → St D0 → Option impl_within.R := exitK impl_within.C Go.Proofs.Try.f47.results.toList [(false, [.any])] (decOut impl_within.sig)
noncomputable def impl_within.c1 : Code := codeAt (Go.Proofs.Try.f47.body.getD .skip) []
noncomputable def impl_within.o0 (N : Nat) (a0 : Int) (a1 : Int) (a2 : Int) : Option impl_within.R :=
 bif (decide (a0 ≥ a1)) then
  some ((decide (a0 ≤ a2)))
 else
 some (false)
theorem impl_within.o0.run (N : Nat) (a0 : Int) (a1 : Int) (a2 : Int) : runC impl_within.C (impl_within.O N) N impl_within.c1 1 (st0 [.one (.int .i64 a0), .one (.int .i64 a1), .one (.int .i64 a2)] [] : St D0) impl_within.K0 = impl_within.o0 N a0 a1 a2 := by kernel_rfl
noncomputable def impl_within.g (N : Nat) (a0 : Int) (a1 : Int) (a2 : Int) : Option impl_within.R := impl_within.o0 N a0 a1 a2
theorem impl_within.g.run (N : Nat) (a0 : Int) (a1 : Int) (a2 : Int) : runC impl_within.C (impl_within.O N) N impl_within.c1 1 (st0 [.one (.int .i64 a0), .one (.int .i64 a1), .one (.int .i64 a2)] [] : St D0) impl_within.K0 = impl_within.g N a0 a1 a2 := by
  exact (impl_within.o0.run N a0 a1 a2).trans rfl
theorem impl_within.good (N : Nat) (a0 : Int) (a1 : Int) (a2 : Int) (r : impl_within.R) (h : impl_within.g N a0 a1 a2 = some r) : Go.PM.Good Go.Proofs.Try.prog T0 47 [.one (.int .i64 a0), .one (.int .i64 a1), .one (.int .i64 a2)] [] (impl_within.sig.ret r) (impl_within.sig.bs r) :=
  good_fn tabOk0 mixed0 impl_within.sig (impl_within.E N) Go.Proofs.Try.func47 (by kernel_rfl) (by kernel_rfl) 71 0 0 [] 6528 false [] [(false, [.any])] (by kernel_rfl) rfl rfl ((impl_within.g.run N a0 a1 a2).trans h)
noncomputable def impl_within.ent (N : Nat) : Ent Go.Proofs.Try.prog T0 := mkEnt 47 [(false, [.any]), (false, [.any]), (false, [.any])] impl_within.sig (fun t => impl_within.g N t.1 t.2.1 t.2.2) (fun t r h => impl_within.good N t.1 t.2.1 t.2.2 r h)
end Go.Proofs.Ytpmipkbfohcjiaa.M

namespace Go.Proofs.Ytpmipkbfohcjiaa.M
open Go Go.PM Go.Proofs.Ytpmipkbfohcjiaa.P
set_option linter.unusedVariables false
set_option maxRecDepth 100000
/-! ### spec_l1In -/
abbrev spec_l1In.R : Type := Bool
abbrev spec_l1In.sig : Sig := ⟨[(false, 1), (false, 1), (false, 1)], [], [.int .i64, .int .i64, .int .i64], [(false, 1)], [], [.bool]⟩
noncomputable def spec_l1In.C : Cfg D0 := ⟨Go.Proofs.Try.prog, T0, 71, 0, 15, 0, [], 6528, false, []⟩
noncomputable def spec_l1In.E (N : Nat) : List (Ent Go.Proofs.Try.prog T0) := []
noncomputable def spec_l1In.O (N : Nat) : Orc D0 spec_l1In.R := orcOf (spec_l1In.E N)
noncomputable def spec_l1In.K0 : Ex → St D0 → Option spec_l1In.R := exitK spec_l1In.C Go.Proofs.Try.f60.results.toList [(false, [.any])] (decOut spec_l1In.sig)
noncomputable def spec_l1In.c1 : Code := codeAt (Go.Proofs.Try.f60.body.getD .skip) []
noncomputable def spec_l1In.o0 (N : Nat) (a0 : Int) (a1 : Int) (a2 : Int) : Option spec_l1In.R :=
 bif (decide (a0 ≥ a1)) then
  some ((decide (a0 ≤ a2)))
 else
 some (false)
theorem spec_l1In.o0.run (N : Nat) (a0 : Int) (a1 : Int) (a2 : Int) : runC spec_l1In.C (spec_l1In.O N) N spec_l1In.c1 1 (st0 [.one (.int .i64 a0), .one (.int .i64 a1), .one (.int .i64 a2)] [] : St D0) spec_l1In.K0 = spec_l1In.o0 N a0 a1 a2 := by kernel_rfl
noncomputable def spec_l1In.g (N : Nat) (a0 : Int) (a1 : Int) (a2 : Int) : Option spec_l1In.R := spec_l1In.o0 N a0 a1 a2
theorem spec_l1In.g.run (N : Nat) (a0 : Int) (a1 : Int) (a2 : Int) : runC spec_l1In.C (spec_l1In.O N) N spec_l1In.c1 1 (st0 [.one (.int .i64 a0), .one (.int .i64 a1), .one (.int .i64 a2)] [] : St D0) spec_l1In.K0 = spec_l1In.g N a0 a1 a2 := by
  exact (spec_l1In.o0.run N a0 a1 a2).trans rfl
theorem spec_l1In.good (N : Nat) (a0 : Int) (a1 : Int) (a2 : Int) (r : spec_l1In.R) (h : spec_l1In.g N a0 a1 a2 = some r) : Go.PM.Good Go.Proofs.Try.prog T0 60 [.one (.int .i64 a0), .one (.int .i64 a1), .one (.int .i64 a2)] [] (spec_l1In.sig.ret r) (spec_l1In.sig.bs r) :=
  good_fn tabOk0 mixed0 spec_l1In.sig (spec_l1In.E N) Go.Proofs.Try.func60 (by kernel_rfl) (by kernel_rfl) 71 0 0 [] 6528 false [] [(false, [.any])] (by kernel_rfl) rfl rfl ((spec_l1In.g.run N a0 a1 a2).trans h)
noncomputable def spec_l1In.ent (N : Nat) : Ent Go.Proofs.Try.prog T0 := mkEnt 60 [(false, [.any]), (false, [.any]), (false, [.any])] spec_l1In.sig (fun t => spec_l1In.g N t.1 t.2.1 t.2.2) (fun t r h => spec_l1In.good N t.1 t.2.1 t.2.2 r h)
end Go.Proofs.Ytpmipkbfohcjiaa.M

namespace Go.Proofs.Ytpmipkbfohcjiaa.M
open Go Go.PM Go.Proofs.Ytpmipkbfohcjiaa.P
set_option linter.unusedVariables false
set_option maxRecDepth 100000
/-! ### laws_kSame -/
abbrev laws_kSame.R : Type := Bool
abbrev laws_kSame.sig : Sig := ⟨[(false, 1), (false, 1)], [], [.sl false 3, .sl false 3], [(false, 1)], [], [.bool]⟩
noncomputable def laws_kSame.C : Cfg D0 := ⟨Go.Proofs.Try.prog, T0, 16806963, 0, 26, 0, [(58, [0, 1, 12, 13], [])], 3344704, false, []⟩
noncomputable def laws_kSame.E (N : Nat) : List (Ent Go.Proofs.Try.prog T0) := []
noncomputable def laws_kSame.O (N : Nat) : Orc D0 laws_kSame.R := orcOf (laws_kSame.E N)
noncomputable def laws_kSame.K0 : Ex → St D0 → Option laws_kSame.R := exitK laws_kSame.C Go.Proofs.Try.f19.results.toList [(false, [.any])] (decOut laws_kSame.sig)
noncomputable def laws_kSame.c1 : Code := codeAt (Go.Proofs.Try.f19.body.getD .skip) []
noncomputable def laws_kSame.c2 : Code := codeAt (Go.Proofs.Try.f19.body.getD .skip) [false]
noncomputable def laws_kSame.c6 : Code := codeAt (Go.Proofs.Try.f19.body.getD .skip) [true, false]
noncomputable def laws_kSame.c15 : Code := codeAt (Go.Proofs.Try.f19.body.getD .skip) [true, true, true]
noncomputable def laws_kSame.c28 : Code := codeAt (Go.Proofs.Try.f19.body.getD .skip) [true, true, false, false]
noncomputable def laws_kSame.c116 : Code := codeAt (Go.Proofs.Try.f19.body.getD .skip) [true, true, false, true, false, false]
noncomputable def laws_kSame.K116 (N : Nat) (Kn58 : St D0 → Option laws_kSame.R) : Ex → St D0 → Option laws_kSame.R := (onN (fun s => laws_kSame.C.tidy 58 s ((onN Kn58 (blockK 0 (onN (fun s => laws_kSame.C.tidy 14 s (fun s' => runC laws_kSame.C (laws_kSame.O N) N laws_kSame.c15 15 s' laws_kSame.K0)) laws_kSame.K0))) .normal)) (onN Kn58 (blockK 0 (onN (fun s => laws_kSame.C.tidy 14 s (fun s' => runC laws_kSame.C (laws_kSame.O N) N laws_kSame.c15 15 s' laws_kSame.K0)) laws_kSame.K0))))
noncomputable def laws_kSame.o1 (N : Nat) (v0 : List Int) (v1 : List Int) (v2 : Int) (v3 : Int) (c1 : (List Int) → (List Int) → Int → Int → Option laws_kSame.R) : Option laws_kSame.R :=
 bif (decide (v3 < v2)) then
  bif (decide (0 ≤ v3)) then
   bif (decide (v3 < (v0.length : Int))) then
    (v0[(v3 : Int).toNat]?).bind fun x1 =>
    bif (decide (0 ≤ v3)) then
     bif (decide (v3 < (v1.length : Int))) then
      (v1[(v3 : Int).toNat]?).bind fun x2 =>
      bif (x1 != x2) then
       some (false)
      else
      c1 v0 v1 v2 (w64 (v3 + 1))
     else
     none
    else
    none
   else
   none
  else
  none
 else
 some (true)
theorem laws_kSame.o1.run (N : Nat) (Kn58 : St D0 → Option laws_kSame.R) (v0 : List Int) (v1 : List Int) (v2 : Int) (v3 : Int) : runC laws_kSame.C (laws_kSame.O N) N laws_kSame.c116 116 (mkSt [(0, .one (.sl false 3 v0)), (1, .one (.sl false 3 v1)), (12, .one (.int .i64 v2)), (13, .one (.int .i64 v3))] [] : St D0) (onN (fun s => laws_kSame.C.tidy 58 s ((onN Kn58 (blockK 0 (onN (fun s => laws_kSame.C.tidy 14 s (fun s' => runC laws_kSame.C (laws_kSame.O N) N laws_kSame.c15 15 s' laws_kSame.K0)) laws_kSame.K0))) .normal)) (onN Kn58 (blockK 0 (onN (fun s => laws_kSame.C.tidy 14 s (fun s' => runC laws_kSame.C (laws_kSame.O N) N laws_kSame.c15 15 s' laws_kSame.K0)) laws_kSame.K0)))) = laws_kSame.o1 N v0 v1 v2 v3 ((fun w0 w1 w2 w3 => Kn58 (mkSt [(0, .one (.sl false 3 w0)), (1, .one (.sl false 3 w1)), (12, .one (.int .i64 w2)), (13, .one (.int .i64 w3))] [] : St D0))) := by kernel_rfl
noncomputable def laws_kSame.d1 (N : Nat) (v0 : List Int) (v1 : List Int) (v2 : Int) (v3 : Int) (c1 : (List Int) → (List Int) → Int → Int → Option laws_kSame.R) : Option laws_kSame.R := laws_kSame.o1 N v0 v1 v2 v3 c1
theorem laws_kSame.d1.run (N : Nat) (Kn58 : St D0 → Option laws_kSame.R) (v0 : List Int) (v1 : List Int) (v2 : Int) (v3 : Int) : runC laws_kSame.C (laws_kSame.O N) N laws_kSame.c116 116 (mkSt [(0, .one (.sl false 3 v0)), (1, .one (.sl false 3 v1)), (12, .one (.int .i64 v2)), (13, .one (.int .i64 v3))] [] : St D0) (laws_kSame.K116 N Kn58) = laws_kSame.d1 N v0 v1 v2 v3 ((fun w0 w1 w2 w3 => Kn58 (mkSt [(0, .one (.sl false 3 w0)), (1, .one (.sl false 3 w1)), (12, .one (.int .i64 w2)), (13, .one (.int .i64 w3))] [] : St D0))) := by
  exact (laws_kSame.o1.run N Kn58 v0 v1 v2 v3).trans rfl
noncomputable def laws_kSame.K58 (N : Nat) : Ex → St D0 → Option laws_kSame.R := (blockK 0 (onN (fun s => laws_kSame.C.tidy 14 s (fun s' => runC laws_kSame.C (laws_kSame.O N) N laws_kSame.c15 15 s' laws_kSame.K0)) laws_kSame.K0))
noncomputable def laws_kSame.l1 (N : Nat) : Nat → (List Int) → (List Int) → Int → Int → Option laws_kSame.R
  | 0, _, _, _, _ => none
  | n + 1, v0, v1, v2, v3 => laws_kSame.d1 N v0 v1 v2 v3 ((fun w0 w1 w2 w3 => laws_kSame.l1 N n w0 w1 w2 w3))
theorem laws_kSame.loop58 (N : Nat) : ∀ n, (∀ (v0 : List Int) (v1 : List Int) (v2 : Int) (v3 : Int), iter (loopF laws_kSame.C (laws_kSame.O N) N laws_kSame.c116 58) n (mkSt [(0, .one (.sl false 3 v0)), (1, .one (.sl false 3 v1)), (12, .one (.int .i64 v2)), (13, .one (.int .i64 v3))] [] : St D0) (laws_kSame.K58 N) = laws_kSame.l1 N n v0 v1 v2 v3)
  | 0 => (fun v0 v1 v2 v3 => rfl)
  | n + 1 => (fun v0 v1 v2 v3 => (laws_kSame.d1.run N (fun s => iter (loopF laws_kSame.C (laws_kSame.O N) N laws_kSame.c116 58) n s (laws_kSame.K58 N)) v0 v1 v2 v3).trans (show _ = laws_kSame.d1 N v0 v1 v2 v3 ((fun w0 w1 w2 w3 => laws_kSame.l1 N n w0 w1 w2 w3)) from (congr rfl (funext fun w0 => funext fun w1 => funext fun w2 => funext fun w3 => (laws_kSame.loop58 N n) w0 w1 w2 w3))))
noncomputable def laws_kSame.o0 (N : Nat) (a0 : List Int) (a1 : List Int) (c1 : (List Int) → (List Int) → Int → Int → Option laws_kSame.R) : Option laws_kSame.R :=
 bif ((a0.length : Int) != (a1.length : Int)) then
  some (false)
 else
 c1 a0 a1 (a0.length : Int) 0
theorem laws_kSame.o0.run (N : Nat) (H116 : Code) (a0 : List Int) (a1 : List Int) : runC laws_kSame.C (laws_kSame.O N) N (.seq laws_kSame.c2 (.seq laws_kSame.c6 (.seq (.seq laws_kSame.c28 (.block 0 (.loop H116))) laws_kSame.c15))) 1 (st0 [.one (.sl false 3 a0), .one (.sl false 3 a1)] [] : St D0) laws_kSame.K0 = laws_kSame.o0 N a0 a1 ((fun w0 w1 w2 w3 => iter (loopF laws_kSame.C (laws_kSame.O N) N H116 58) N (mkSt [(0, .one (.sl false 3 w0)), (1, .one (.sl false 3 w1)), (12, .one (.int .i64 w2)), (13, .one (.int .i64 w3))] [] : St D0) (blockK 0 (onN (fun s => laws_kSame.C.tidy 14 s (fun s' => runC laws_kSame.C (laws_kSame.O N) N laws_kSame.c15 15 s' laws_kSame.K0)) laws_kSame.K0)))) := by kernel_rfl
noncomputable def laws_kSame.g (N : Nat) (a0 : List Int) (a1 : List Int) : Option laws_kSame.R := laws_kSame.o0 N a0 a1 ((fun w0 w1 w2 w3 => laws_kSame.l1 N N w0 w1 w2 w3))
theorem laws_kSame.c1_0 : laws_kSame.c1 = (.seq laws_kSame.c2 (.seq laws_kSame.c6 (.seq (.seq laws_kSame.c28 (.block 0 (.loop laws_kSame.c116))) laws_kSame.c15))) := by kernel_rfl
theorem laws_kSame.g.run (N : Nat) (a0 : List Int) (a1 : List Int) : runC laws_kSame.C (laws_kSame.O N) N laws_kSame.c1 1 (st0 [.one (.sl false 3 a0), .one (.sl false 3 a1)] [] : St D0) laws_kSame.K0 = laws_kSame.g N a0 a1 := by
  rw [laws_kSame.c1_0]; unfold laws_kSame.g; exact (laws_kSame.o0.run N laws_kSame.c116 a0 a1).trans (congr rfl (funext fun w0 => funext fun w1 => funext fun w2 => funext fun w3 => (laws_kSame.loop58 N N) w0 w1 w2 w3))
theorem laws_kSame.good (N : Nat) (a0 : List Int) (a1 : List Int) (r : laws_kSame.R) (h : laws_kSame.g N a0 a1 = some r) : Go.PM.Good Go.Proofs.Try.prog T0 19 [.one (.sl false 3 a0), .one (.sl false 3 a1)] [] (laws_kSame.sig.ret r) (laws_kSame.sig.bs r) :=
  good_fn tabOk0 mixed0 laws_kSame.sig (laws_kSame.E N) Go.Proofs.Try.func19 (by kernel_rfl) (by kernel_rfl) 16806963 0 0 [(58, [0, 1, 12, 13], [])] 3344704 false [] [(false, [.any])] (by kernel_rfl) rfl rfl ((laws_kSame.g.run N a0 a1).trans h)
noncomputable def laws_kSame.ent (N : Nat) : Ent Go.Proofs.Try.prog T0 := mkEnt 19 [(false, [.ro 3]), (false, [.ro 3])] laws_kSame.sig (fun t => laws_kSame.g N t.1 t.2) (fun t r h => laws_kSame.good N t.1 t.2 r h)
end Go.Proofs.Ytpmipkbfohcjiaa.M

namespace Go.Proofs.Ytpmipkbfohcjiaa.M
open Go Go.PM Go.Proofs.Ytpmipkbfohcjiaa.P
set_option linter.unusedVariables false
set_option maxRecDepth 100000
/-! ### impl_isPhrase -/
abbrev impl_isPhrase.R : Type := Bool
abbrev impl_isPhrase.sig : Sig := ⟨[(false, 1)], [], [.str], [(false, 1)], [], [.bool]⟩
noncomputable def impl_isPhrase.C : Cfg D0 := ⟨Go.Proofs.Try.prog, T0, 262381, 0, 23, 0, [(26, [0, 5, 6], []), (3378, [0, 5, 6, 18], [])], 1099280, false, []⟩
noncomputable def impl_isPhrase.E (N : Nat) : List (Ent Go.Proofs.Try.prog T0) := [impl_within.ent N]
noncomputable def impl_isPhrase.O (N : Nat) : Orc D0 impl_isPhrase.R := orcOf (impl_isPhrase.E N)
noncomputable def impl_isPhrase.K0 : Ex → St D0 → Option impl_isPhrase.R := exitK impl_isPhrase.C Go.Proofs.Try.f50.results.toList [(false, [.any])] (decOut impl_isPhrase.sig)
noncomputable def impl_isPhrase.c1 : Code := codeAt (Go.Proofs.Try.f50.body.getD .skip) []
noncomputable def impl_isPhrase.c2 : Code := codeAt (Go.Proofs.Try.f50.body.getD .skip) [false]
noncomputable def impl_isPhrase.c7 : Code := codeAt (Go.Proofs.Try.f50.body.getD .skip) [true, true]
noncomputable def impl_isPhrase.c12 : Code := codeAt (Go.Proofs.Try.f50.body.getD .skip) [true, false, false]
noncomputable def impl_isPhrase.c52 : Code := codeAt (Go.Proofs.Try.f50.body.getD .skip) [true, false, true, false, false]
noncomputable def impl_isPhrase.c104 : Code := codeAt (Go.Proofs.Try.f50.body.getD .skip) [true, false, true, false, false, false]
noncomputable def impl_isPhrase.c210 : Code := codeAt (Go.Proofs.Try.f50.body.getD .skip) [true, false, true, false, false, true, false]
noncomputable def impl_isPhrase.c423 : Code := codeAt (Go.Proofs.Try.f50.body.getD .skip) [true, false, true, false, false, true, true, true]
noncomputable def impl_isPhrase.c1688 : Code := codeAt (Go.Proofs.Try.f50.body.getD .skip) [true, false, true, false, false, true, true, false, false, false]
noncomputable def impl_isPhrase.c3378 : Code := codeAt (Go.Proofs.Try.f50.body.getD .skip) [true, false, true, false, false, true, true, false, false, true, false]
noncomputable def impl_isPhrase.c3379 : Code := codeAt (Go.Proofs.Try.f50.body.getD .skip) [true, false, true, false, false, true, true, false, false, true, true]
noncomputable def impl_isPhrase.K3379 (N : Nat) (Kn26 : St D0 → Option impl_isPhrase.R) : Ex → St D0 → Option impl_isPhrase.R := (blockK 1 (onN (fun s => impl_isPhrase.C.tidy 422 s (fun s' => runC impl_isPhrase.C (impl_isPhrase.O N) N impl_isPhrase.c423 423 s' (onN (fun s => impl_isPhrase.C.tidy 26 s ((onN Kn26 (blockK 0 (onN (fun s => impl_isPhrase.C.tidy 6 s (fun s' => runC impl_isPhrase.C (impl_isPhrase.O N) N impl_isPhrase.c7 7 s' impl_isPhrase.K0)) impl_isPhrase.K0))) .normal)) (onN Kn26 (blockK 0 (onN (fun s => impl_isPhrase.C.tidy 6 s (fun s' => runC impl_isPhrase.C (impl_isPhrase.O N) N impl_isPhrase.c7 7 s' impl_isPhrase.K0)) impl_isPhrase.K0)))))) (onN (fun s => impl_isPhrase.C.tidy 26 s ((onN Kn26 (blockK 0 (onN (fun s => impl_isPhrase.C.tidy 6 s (fun s' => runC impl_isPhrase.C (impl_isPhrase.O N) N impl_isPhrase.c7 7 s' impl_isPhrase.K0)) impl_isPhrase.K0))) .normal)) (onN Kn26 (blockK 0 (onN (fun s => impl_isPhrase.C.tidy 6 s (fun s' => runC impl_isPhrase.C (impl_isPhrase.O N) N impl_isPhrase.c7 7 s' impl_isPhrase.K0)) impl_isPhrase.K0))))))
noncomputable def impl_isPhrase.o2 (N : Nat) (v0 : ByteArray) (v1 : Int) (v2 : Int) (v3 : Bool) (c1 : ByteArray → Int → Int → Option impl_isPhrase.R) : Option impl_isPhrase.R :=
 bif v3 then
  some (false)
 else
 c1 v0 v1 (w64 (v2 + 1))
theorem impl_isPhrase.o2.run (N : Nat) (Kn26 : St D0 → Option impl_isPhrase.R) (v0 : ByteArray) (v1 : Int) (v2 : Int) (v3 : Bool) : runC impl_isPhrase.C (impl_isPhrase.O N) N impl_isPhrase.c3379 3379 (mkSt [(0, .one (.str v0)), (5, .one (.int .i64 v1)), (6, .one (.int .i64 v2)), (18, .one (.bool v3))] [] : St D0) (blockK 1 (onN (fun s => impl_isPhrase.C.tidy 422 s (fun s' => runC impl_isPhrase.C (impl_isPhrase.O N) N impl_isPhrase.c423 423 s' (onN (fun s => impl_isPhrase.C.tidy 26 s ((onN Kn26 (blockK 0 (onN (fun s => impl_isPhrase.C.tidy 6 s (fun s' => runC impl_isPhrase.C (impl_isPhrase.O N) N impl_isPhrase.c7 7 s' impl_isPhrase.K0)) impl_isPhrase.K0))) .normal)) (onN Kn26 (blockK 0 (onN (fun s => impl_isPhrase.C.tidy 6 s (fun s' => runC impl_isPhrase.C (impl_isPhrase.O N) N impl_isPhrase.c7 7 s' impl_isPhrase.K0)) impl_isPhrase.K0)))))) (onN (fun s => impl_isPhrase.C.tidy 26 s ((onN Kn26 (blockK 0 (onN (fun s => impl_isPhrase.C.tidy 6 s (fun s' => runC impl_isPhrase.C (impl_isPhrase.O N) N impl_isPhrase.c7 7 s' impl_isPhrase.K0)) impl_isPhrase.K0))) .normal)) (onN Kn26 (blockK 0 (onN (fun s => impl_isPhrase.C.tidy 6 s (fun s' => runC impl_isPhrase.C (impl_isPhrase.O N) N impl_isPhrase.c7 7 s' impl_isPhrase.K0)) impl_isPhrase.K0)))))) = impl_isPhrase.o2 N v0 v1 v2 v3 ((fun w0 w1 w2 => Kn26 (mkSt [(0, .one (.str w0)), (5, .one (.int .i64 w1)), (6, .one (.int .i64 w2))] [] : St D0))) := by kernel_rfl
noncomputable def impl_isPhrase.d2 (N : Nat) (v0 : ByteArray) (v1 : Int) (v2 : Int) (v3 : Bool) (c1 : ByteArray → Int → Int → Option impl_isPhrase.R) : Option impl_isPhrase.R := impl_isPhrase.o2 N v0 v1 v2 v3 c1
theorem impl_isPhrase.d2.run (N : Nat) (Kn26 : St D0 → Option impl_isPhrase.R) (v0 : ByteArray) (v1 : Int) (v2 : Int) (v3 : Bool) : runC impl_isPhrase.C (impl_isPhrase.O N) N impl_isPhrase.c3379 3379 (mkSt [(0, .one (.str v0)), (5, .one (.int .i64 v1)), (6, .one (.int .i64 v2)), (18, .one (.bool v3))] [] : St D0) (impl_isPhrase.K3379 N Kn26) = impl_isPhrase.d2 N v0 v1 v2 v3 ((fun w0 w1 w2 => Kn26 (mkSt [(0, .one (.str w0)), (5, .one (.int .i64 w1)), (6, .one (.int .i64 w2))] [] : St D0))) := by
  exact (impl_isPhrase.o2.run N Kn26 v0 v1 v2 v3).trans rfl
noncomputable def impl_isPhrase.K52 (N : Nat) (Kn26 : St D0 → Option impl_isPhrase.R) : Ex → St D0 → Option impl_isPhrase.R := (onN (fun s => impl_isPhrase.C.tidy 26 s ((onN Kn26 (blockK 0 (onN (fun s => impl_isPhrase.C.tidy 6 s (fun s' => runC impl_isPhrase.C (impl_isPhrase.O N) N impl_isPhrase.c7 7 s' impl_isPhrase.K0)) impl_isPhrase.K0))) .normal)) (onN Kn26 (blockK 0 (onN (fun s => impl_isPhrase.C.tidy 6 s (fun s' => runC impl_isPhrase.C (impl_isPhrase.O N) N impl_isPhrase.c7 7 s' impl_isPhrase.K0)) impl_isPhrase.K0))))
noncomputable def impl_isPhrase.o1 (N : Nat) (v0 : ByteArray) (v1 : Int) (v2 : Int) (c2 : ByteArray → Int → Int → Bool → Option impl_isPhrase.R) : Option impl_isPhrase.R :=
 bif (decide (v2 < v1)) then
  bif (decide (0 ≤ v2)) then
   bif (decide (v2 < (v0.size : Int))) then
    bif (decide ((bt v0 v2) < 49)) then
     c2 v0 v1 v2 true
    else
    bif (decide (0 ≤ v2)) then
     bif (decide (v2 < (v0.size : Int))) then
      c2 v0 v1 v2 (decide ((bt v0 v2) > 56))
     else
     none
    else
    none
   else
   none
  else
  none
 else
 (impl_within.g N (v0.size : Int) 1 8).bind fun r1 =>
 some (r1)
theorem impl_isPhrase.o1.run (N : Nat) (Kn26 : St D0 → Option impl_isPhrase.R) (H3379 : Code) (v0 : ByteArray) (v1 : Int) (v2 : Int) : runC impl_isPhrase.C (impl_isPhrase.O N) N (.seq impl_isPhrase.c104 (.seq impl_isPhrase.c210 (.seq (.block 1 (.seq impl_isPhrase.c1688 (.seq impl_isPhrase.c3378 H3379))) impl_isPhrase.c423))) 52 (mkSt [(0, .one (.str v0)), (5, .one (.int .i64 v1)), (6, .one (.int .i64 v2))] [] : St D0) (onN (fun s => impl_isPhrase.C.tidy 26 s ((onN Kn26 (blockK 0 (onN (fun s => impl_isPhrase.C.tidy 6 s (fun s' => runC impl_isPhrase.C (impl_isPhrase.O N) N impl_isPhrase.c7 7 s' impl_isPhrase.K0)) impl_isPhrase.K0))) .normal)) (onN Kn26 (blockK 0 (onN (fun s => impl_isPhrase.C.tidy 6 s (fun s' => runC impl_isPhrase.C (impl_isPhrase.O N) N impl_isPhrase.c7 7 s' impl_isPhrase.K0)) impl_isPhrase.K0)))) = impl_isPhrase.o1 N v0 v1 v2 ((fun w0 w1 w2 w3 => runC impl_isPhrase.C (impl_isPhrase.O N) N H3379 3379 (mkSt [(0, .one (.str w0)), (5, .one (.int .i64 w1)), (6, .one (.int .i64 w2)), (18, .one (.bool w3))] [] : St D0) (blockK 1 (onN (fun s => impl_isPhrase.C.tidy 422 s (fun s' => runC impl_isPhrase.C (impl_isPhrase.O N) N impl_isPhrase.c423 423 s' (onN (fun s => impl_isPhrase.C.tidy 26 s ((onN Kn26 (blockK 0 (onN (fun s => impl_isPhrase.C.tidy 6 s (fun s' => runC impl_isPhrase.C (impl_isPhrase.O N) N impl_isPhrase.c7 7 s' impl_isPhrase.K0)) impl_isPhrase.K0))) .normal)) (onN Kn26 (blockK 0 (onN (fun s => impl_isPhrase.C.tidy 6 s (fun s' => runC impl_isPhrase.C (impl_isPhrase.O N) N impl_isPhrase.c7 7 s' impl_isPhrase.K0)) impl_isPhrase.K0)))))) (onN (fun s => impl_isPhrase.C.tidy 26 s ((onN Kn26 (blockK 0 (onN (fun s => impl_isPhrase.C.tidy 6 s (fun s' => runC impl_isPhrase.C (impl_isPhrase.O N) N impl_isPhrase.c7 7 s' impl_isPhrase.K0)) impl_isPhrase.K0))) .normal)) (onN Kn26 (blockK 0 (onN (fun s => impl_isPhrase.C.tidy 6 s (fun s' => runC impl_isPhrase.C (impl_isPhrase.O N) N impl_isPhrase.c7 7 s' impl_isPhrase.K0)) impl_isPhrase.K0)))))))) := by kernel_rfl
noncomputable def impl_isPhrase.B1689 (N : Nat) (Kn26 : St D0 → Option impl_isPhrase.R) : St D0 → Option impl_isPhrase.R := fun s' => runC impl_isPhrase.C (impl_isPhrase.O N) N impl_isPhrase.c3379 3379 s' (impl_isPhrase.K3379 N Kn26)
noncomputable def impl_isPhrase.d1 (N : Nat) (v0 : ByteArray) (v1 : Int) (v2 : Int) (c1 : ByteArray → Int → Int → Option impl_isPhrase.R) : Option impl_isPhrase.R := impl_isPhrase.o1 N v0 v1 v2 ((fun w0 w1 w2 w3 => impl_isPhrase.d2 N w0 w1 w2 w3 c1))
theorem impl_isPhrase.c52_1 : impl_isPhrase.c52 = (.seq impl_isPhrase.c104 (.seq impl_isPhrase.c210 (.seq (.block 1 (.seq impl_isPhrase.c1688 (.seq impl_isPhrase.c3378 impl_isPhrase.c3379))) impl_isPhrase.c423))) := by kernel_rfl
theorem impl_isPhrase.d1.run (N : Nat) (Kn26 : St D0 → Option impl_isPhrase.R) (v0 : ByteArray) (v1 : Int) (v2 : Int) : runC impl_isPhrase.C (impl_isPhrase.O N) N impl_isPhrase.c52 52 (mkSt [(0, .one (.str v0)), (5, .one (.int .i64 v1)), (6, .one (.int .i64 v2))] [] : St D0) (impl_isPhrase.K52 N Kn26) = impl_isPhrase.d1 N v0 v1 v2 ((fun w0 w1 w2 => Kn26 (mkSt [(0, .one (.str w0)), (5, .one (.int .i64 w1)), (6, .one (.int .i64 w2))] [] : St D0))) := by
  rw [impl_isPhrase.c52_1]; unfold impl_isPhrase.d1; exact (impl_isPhrase.o1.run N Kn26 impl_isPhrase.c3379 v0 v1 v2).trans (congr rfl (funext fun w0 => funext fun w1 => funext fun w2 => funext fun w3 => impl_isPhrase.d2.run N Kn26 w0 w1 w2 w3))
noncomputable def impl_isPhrase.K26 (N : Nat) : Ex → St D0 → Option impl_isPhrase.R := (blockK 0 (onN (fun s => impl_isPhrase.C.tidy 6 s (fun s' => runC impl_isPhrase.C (impl_isPhrase.O N) N impl_isPhrase.c7 7 s' impl_isPhrase.K0)) impl_isPhrase.K0))
noncomputable def impl_isPhrase.l1 (N : Nat) : Nat → ByteArray → Int → Int → Option impl_isPhrase.R
  | 0, _, _, _ => none
  | n + 1, v0, v1, v2 => impl_isPhrase.d1 N v0 v1 v2 ((fun w0 w1 w2 => impl_isPhrase.l1 N n w0 w1 w2))
theorem impl_isPhrase.loop26 (N : Nat) : ∀ n, (∀ (v0 : ByteArray) (v1 : Int) (v2 : Int), iter (loopF impl_isPhrase.C (impl_isPhrase.O N) N impl_isPhrase.c52 26) n (mkSt [(0, .one (.str v0)), (5, .one (.int .i64 v1)), (6, .one (.int .i64 v2))] [] : St D0) (impl_isPhrase.K26 N) = impl_isPhrase.l1 N n v0 v1 v2)
  | 0 => (fun v0 v1 v2 => rfl)
  | n + 1 => (fun v0 v1 v2 => (impl_isPhrase.d1.run N (fun s => iter (loopF impl_isPhrase.C (impl_isPhrase.O N) N impl_isPhrase.c52 26) n s (impl_isPhrase.K26 N)) v0 v1 v2).trans (show _ = impl_isPhrase.d1 N v0 v1 v2 ((fun w0 w1 w2 => impl_isPhrase.l1 N n w0 w1 w2)) from (congr rfl (funext fun w0 => funext fun w1 => funext fun w2 => (impl_isPhrase.loop26 N n) w0 w1 w2))))
noncomputable def impl_isPhrase.o0 (N : Nat) (a0 : ByteArray) (c1 : ByteArray → Int → Int → Option impl_isPhrase.R) : Option impl_isPhrase.R :=
 c1 a0 (a0.size : Int) 0
theorem impl_isPhrase.o0.run (N : Nat) (H52 : Code) (a0 : ByteArray) : runC impl_isPhrase.C (impl_isPhrase.O N) N (.seq impl_isPhrase.c2 (.seq (.seq impl_isPhrase.c12 (.block 0 (.loop H52))) impl_isPhrase.c7)) 1 (st0 [.one (.str a0)] [] : St D0) impl_isPhrase.K0 = impl_isPhrase.o0 N a0 ((fun w0 w1 w2 => iter (loopF impl_isPhrase.C (impl_isPhrase.O N) N H52 26) N (mkSt [(0, .one (.str w0)), (5, .one (.int .i64 w1)), (6, .one (.int .i64 w2))] [] : St D0) (blockK 0 (onN (fun s => impl_isPhrase.C.tidy 6 s (fun s' => runC impl_isPhrase.C (impl_isPhrase.O N) N impl_isPhrase.c7 7 s' impl_isPhrase.K0)) impl_isPhrase.K0)))) := by kernel_rfl
noncomputable def impl_isPhrase.g (N : Nat) (a0 : ByteArray) : Option impl_isPhrase.R := impl_isPhrase.o0 N a0 ((fun w0 w1 w2 => impl_isPhrase.l1 N N w0 w1 w2))
theorem impl_isPhrase.c1_0 : impl_isPhrase.c1 = (.seq impl_isPhrase.c2 (.seq (.seq impl_isPhrase.c12 (.block 0 (.loop impl_isPhrase.c52))) impl_isPhrase.c7)) := by kernel_rfl
theorem impl_isPhrase.g.run (N : Nat) (a0 : ByteArray) : runC impl_isPhrase.C (impl_isPhrase.O N) N impl_isPhrase.c1 1 (st0 [.one (.str a0)] [] : St D0) impl_isPhrase.K0 = impl_isPhrase.g N a0 := by
  rw [impl_isPhrase.c1_0]; unfold impl_isPhrase.g; exact (impl_isPhrase.o0.run N impl_isPhrase.c52 a0).trans (congr rfl (funext fun w0 => funext fun w1 => funext fun w2 => (impl_isPhrase.loop26 N N) w0 w1 w2))
theorem impl_isPhrase.good (N : Nat) (a0 : ByteArray) (r : impl_isPhrase.R) (h : impl_isPhrase.g N a0 = some r) : Go.PM.Good Go.Proofs.Try.prog T0 50 [.one (.str a0)] [] (impl_isPhrase.sig.ret r) (impl_isPhrase.sig.bs r) :=
  good_fn tabOk0 mixed0 impl_isPhrase.sig (impl_isPhrase.E N) Go.Proofs.Try.func50 (by kernel_rfl) (by kernel_rfl) 262381 0 0 [(26, [0, 5, 6], []), (3378, [0, 5, 6, 18], [])] 1099280 false [] [(false, [.any])] (by kernel_rfl) rfl rfl ((impl_isPhrase.g.run N a0).trans h)
noncomputable def impl_isPhrase.ent (N : Nat) : Ent Go.Proofs.Try.prog T0 := mkEnt 50 [(false, [.any])] impl_isPhrase.sig (fun t => impl_isPhrase.g N t) (fun t r h => impl_isPhrase.good N t r h)
end Go.Proofs.Ytpmipkbfohcjiaa.M

namespace Go.Proofs.Ytpmipkbfohcjiaa.M
open Go Go.PM Go.Proofs.Ytpmipkbfohcjiaa.P
set_option linter.unusedVariables false
set_option maxRecDepth 100000
/-! ### impl_IsTune_1 -/
abbrev impl_IsTune_1.R : Type := Bool
abbrev impl_IsTune_1.sig : Sig := ⟨[(false, 1)], [], [.str], [(false, 1)], [], [.bool]⟩
noncomputable def impl_IsTune_1.C : Cfg D0 := ⟨Go.Proofs.Try.prog, T0, 5, 0, 6, 0, [], 8, false, []⟩
noncomputable def impl_IsTune_1.E (N : Nat) : List (Ent Go.Proofs.Try.prog T0) := [impl_isPhrase.ent N]
noncomputable def impl_IsTune_1.O (N : Nat) : Orc D0 impl_IsTune_1.R := orcOf (impl_IsTune_1.E N)
noncomputable def impl_IsTune_1.K0 : Ex → St D0 → Option impl_IsTune_1.R := exitK impl_IsTune_1.C Go.Proofs.Try.f49.results.toList [(false, [.any])] (decOut impl_IsTune_1.sig)
noncomputable def impl_IsTune_1.c1 : Code := codeAt (Go.Proofs.Try.f49.body.getD .skip) []
noncomputable def impl_IsTune_1.o0 (N : Nat) (a0 : ByteArray) : Option impl_IsTune_1.R :=
 (impl_isPhrase.g N a0).bind fun r1 =>
 some ((!r1))
theorem impl_IsTune_1.o0.run (N : Nat) (a0 : ByteArray) : runC impl_IsTune_1.C (impl_IsTune_1.O N) N impl_IsTune_1.c1 1 (st0 [.one (.str a0)] [] : St D0) impl_IsTune_1.K0 = impl_IsTune_1.o0 N a0 := by kernel_rfl
noncomputable def impl_IsTune_1.g (N : Nat) (a0 : ByteArray) : Option impl_IsTune_1.R := impl_IsTune_1.o0 N a0
theorem impl_IsTune_1.g.run (N : Nat) (a0 : ByteArray) : runC impl_IsTune_1.C (impl_IsTune_1.O N) N impl_IsTune_1.c1 1 (st0 [.one (.str a0)] [] : St D0) impl_IsTune_1.K0 = impl_IsTune_1.g N a0 := by
  exact (impl_IsTune_1.o0.run N a0).trans rfl
theorem impl_IsTune_1.good (N : Nat) (a0 : ByteArray) (r : impl_IsTune_1.R) (h : impl_IsTune_1.g N a0 = some r) : Go.PM.Good Go.Proofs.Try.prog T0 49 [.one (.str a0)] [] (impl_IsTune_1.sig.ret r) (impl_IsTune_1.sig.bs r) :=
  good_fn tabOk0 mixed0 impl_IsTune_1.sig (impl_IsTune_1.E N) Go.Proofs.Try.func49 (by kernel_rfl) (by kernel_rfl) 5 0 0 [] 8 false [] [(false, [.any])] (by kernel_rfl) rfl rfl ((impl_IsTune_1.g.run N a0).trans h)
noncomputable def impl_IsTune_1.ent (N : Nat) : Ent Go.Proofs.Try.prog T0 := mkEnt 49 [(false, [.any])] impl_IsTune_1.sig (fun t => impl_IsTune_1.g N t) (fun t r h => impl_IsTune_1.good N t r h)
end Go.Proofs.Ytpmipkbfohcjiaa.M

namespace Go.Proofs.Ytpmipkbfohcjiaa.M
open Go Go.PM Go.Proofs.Ytpmipkbfohcjiaa.P
set_option linter.unusedVariables false
set_option maxRecDepth 100000
/-! ### slices_IndexFunc_string_string -/
abbrev slices_IndexFunc_string_string.R : Type := Int
abbrev slices_IndexFunc_string_string.sig : Sig := ⟨[(false, 1), (false, 1)], [], [.sl false 9, .fn 49 []], [(false, 1)], [], [.int .i64]⟩
noncomputable def slices_IndexFunc_string_string.C : Cfg D0 := ⟨Go.Proofs.Try.prog, T0, 66483, 0, 19, 0, [(26, [0, 1, 7, 8], [])], 14400, false, []⟩
noncomputable def slices_IndexFunc_string_string.E (N : Nat) : List (Ent Go.Proofs.Try.prog T0) := [impl_IsTune_1.ent N]
noncomputable def slices_IndexFunc_string_string.O (N : Nat) : Orc D0 slices_IndexFunc_string_string.R := orcOf (slices_IndexFunc_string_string.E N)
noncomputable def slices_IndexFunc_string_string.K0 : Ex → St D0 → Option slices_IndexFunc_string_string.R := exitK slices_IndexFunc_string_string.C Go.Proofs.Try.f64.results.toList [(false, [.any])] (decOut slices_IndexFunc_string_string.sig)
noncomputable def slices_IndexFunc_string_string.c1 : Code := codeAt (Go.Proofs.Try.f64.body.getD .skip) []
noncomputable def slices_IndexFunc_string_string.c2 : Code := codeAt (Go.Proofs.Try.f64.body.getD .skip) [false]
noncomputable def slices_IndexFunc_string_string.c7 : Code := codeAt (Go.Proofs.Try.f64.body.getD .skip) [true, true]
noncomputable def slices_IndexFunc_string_string.c12 : Code := codeAt (Go.Proofs.Try.f64.body.getD .skip) [true, false, false]
noncomputable def slices_IndexFunc_string_string.c52 : Code := codeAt (Go.Proofs.Try.f64.body.getD .skip) [true, false, true, false, false]
noncomputable def slices_IndexFunc_string_string.K52 (N : Nat) (Kn26 : St D0 → Option slices_IndexFunc_string_string.R) : Ex → St D0 → Option slices_IndexFunc_string_string.R := (onN (fun s => slices_IndexFunc_string_string.C.tidy 26 s ((onN Kn26 (blockK 0 (onN (fun s => slices_IndexFunc_string_string.C.tidy 6 s (fun s' => runC slices_IndexFunc_string_string.C (slices_IndexFunc_string_string.O N) N slices_IndexFunc_string_string.c7 7 s' slices_IndexFunc_string_string.K0)) slices_IndexFunc_string_string.K0))) .normal)) (onN Kn26 (blockK 0 (onN (fun s => slices_IndexFunc_string_string.C.tidy 6 s (fun s' => runC slices_IndexFunc_string_string.C (slices_IndexFunc_string_string.O N) N slices_IndexFunc_string_string.c7 7 s' slices_IndexFunc_string_string.K0)) slices_IndexFunc_string_string.K0))))
noncomputable def slices_IndexFunc_string_string.o1 (N : Nat) (v0 : List ByteArray) (v1 : Int) (v2 : Int) (c1 : (List ByteArray) → Int → Int → Option slices_IndexFunc_string_string.R) : Option slices_IndexFunc_string_string.R :=
 bif (decide (v2 < v1)) then
  bif (decide (0 ≤ v2)) then
   bif (decide (v2 < (v0.length : Int))) then
    (v0[(v2 : Int).toNat]?).bind fun x1 =>
    (impl_IsTune_1.g N x1).bind fun r2 =>
    bif r2 then
     some (v2)
    else
    c1 v0 v1 (w64 (v2 + 1))
   else
   none
  else
  none
 else
 some ((-1))
theorem slices_IndexFunc_string_string.o1.run (N : Nat) (Kn26 : St D0 → Option slices_IndexFunc_string_string.R) (v0 : List ByteArray) (v1 : Int) (v2 : Int) : runC slices_IndexFunc_string_string.C (slices_IndexFunc_string_string.O N) N slices_IndexFunc_string_string.c52 52 (mkSt [(0, .one (.sl false 9 v0)), (1, .one (.fn 49 [])), (7, .one (.int .i64 v1)), (8, .one (.int .i64 v2))] [] : St D0) (onN (fun s => slices_IndexFunc_string_string.C.tidy 26 s ((onN Kn26 (blockK 0 (onN (fun s => slices_IndexFunc_string_string.C.tidy 6 s (fun s' => runC slices_IndexFunc_string_string.C (slices_IndexFunc_string_string.O N) N slices_IndexFunc_string_string.c7 7 s' slices_IndexFunc_string_string.K0)) slices_IndexFunc_string_string.K0))) .normal)) (onN Kn26 (blockK 0 (onN (fun s => slices_IndexFunc_string_string.C.tidy 6 s (fun s' => runC slices_IndexFunc_string_string.C (slices_IndexFunc_string_string.O N) N slices_IndexFunc_string_string.c7 7 s' slices_IndexFunc_string_string.K0)) slices_IndexFunc_string_string.K0)))) = slices_IndexFunc_string_string.o1 N v0 v1 v2 ((fun w0 w1 w2 => Kn26 (mkSt [(0, .one (.sl false 9 w0)), (1, .one (.fn 49 [])), (7, .one (.int .i64 w1)), (8, .one (.int .i64 w2))] [] : St D0))) := by kernel_rfl
noncomputable def slices_IndexFunc_string_string.d1 (N : Nat) (v0 : List ByteArray) (v1 : Int) (v2 : Int) (c1 : (List ByteArray) → Int → Int → Option slices_IndexFunc_string_string.R) : Option slices_IndexFunc_string_string.R := slices_IndexFunc_string_string.o1 N v0 v1 v2 c1
theorem slices_IndexFunc_string_string.d1.run (N : Nat) (Kn26 : St D0 → Option slices_IndexFunc_string_string.R) (v0 : List ByteArray) (v1 : Int) (v2 : Int) : runC slices_IndexFunc_string_string.C (slices_IndexFunc_string_string.O N) N slices_IndexFunc_string_string.c52 52 (mkSt [(0, .one (.sl false 9 v0)), (1, .one (.fn 49 [])), (7, .one (.int .i64 v1)), (8, .one (.int .i64 v2))] [] : St D0) (slices_IndexFunc_string_string.K52 N Kn26) = slices_IndexFunc_string_string.d1 N v0 v1 v2 ((fun w0 w1 w2 => Kn26 (mkSt [(0, .one (.sl false 9 w0)), (1, .one (.fn 49 [])), (7, .one (.int .i64 w1)), (8, .one (.int .i64 w2))] [] : St D0))) := by
  exact (slices_IndexFunc_string_string.o1.run N Kn26 v0 v1 v2).trans rfl
noncomputable def slices_IndexFunc_string_string.K26 (N : Nat) : Ex → St D0 → Option slices_IndexFunc_string_string.R := (blockK 0 (onN (fun s => slices_IndexFunc_string_string.C.tidy 6 s (fun s' => runC slices_IndexFunc_string_string.C (slices_IndexFunc_string_string.O N) N slices_IndexFunc_string_string.c7 7 s' slices_IndexFunc_string_string.K0)) slices_IndexFunc_string_string.K0))
noncomputable def slices_IndexFunc_string_string.l1 (N : Nat) : Nat → (List ByteArray) → Int → Int → Option slices_IndexFunc_string_string.R
  | 0, _, _, _ => none
  | n + 1, v0, v1, v2 => slices_IndexFunc_string_string.d1 N v0 v1 v2 ((fun w0 w1 w2 => slices_IndexFunc_string_string.l1 N n w0 w1 w2))
theorem slices_IndexFunc_string_string.loop26 (N : Nat) : ∀ n, (∀ (v0 : List ByteArray) (v1 : Int) (v2 : Int), iter (loopF slices_IndexFunc_string_string.C (slices_IndexFunc_string_string.O N) N slices_IndexFunc_string_string.c52 26) n (mkSt [(0, .one (.sl false 9 v0)), (1, .one (.fn 49 [])), (7, .one (.int .i64 v1)), (8, .one (.int .i64 v2))] [] : St D0) (slices_IndexFunc_string_string.K26 N) = slices_IndexFunc_string_string.l1 N n v0 v1 v2)
  | 0 => (fun v0 v1 v2 => rfl)
  | n + 1 => (fun v0 v1 v2 => (slices_IndexFunc_string_string.d1.run N (fun s => iter (loopF slices_IndexFunc_string_string.C (slices_IndexFunc_string_string.O N) N slices_IndexFunc_string_string.c52 26) n s (slices_IndexFunc_string_string.K26 N)) v0 v1 v2).trans (show _ = slices_IndexFunc_string_string.d1 N v0 v1 v2 ((fun w0 w1 w2 => slices_IndexFunc_string_string.l1 N n w0 w1 w2)) from (congr rfl (funext fun w0 => funext fun w1 => funext fun w2 => (slices_IndexFunc_string_string.loop26 N n) w0 w1 w2))))
noncomputable def slices_IndexFunc_string_string.o0 (N : Nat) (a0 : List ByteArray) (c1 : (List ByteArray) → Int → Int → Option slices_IndexFunc_string_string.R) : Option slices_IndexFunc_string_string.R :=
 c1 a0 (a0.length : Int) 0
theorem slices_IndexFunc_string_string.o0.run (N : Nat) (H52 : Code) (a0 : List ByteArray) : runC slices_IndexFunc_string_string.C (slices_IndexFunc_string_string.O N) N (.seq slices_IndexFunc_string_string.c2 (.seq (.seq slices_IndexFunc_string_string.c12 (.block 0 (.loop H52))) slices_IndexFunc_string_string.c7)) 1 (st0 [.one (.sl false 9 a0), .one (.fn 49 [])] [] : St D0) slices_IndexFunc_string_string.K0 = slices_IndexFunc_string_string.o0 N a0 ((fun w0 w1 w2 => iter (loopF slices_IndexFunc_string_string.C (slices_IndexFunc_string_string.O N) N H52 26) N (mkSt [(0, .one (.sl false 9 w0)), (1, .one (.fn 49 [])), (7, .one (.int .i64 w1)), (8, .one (.int .i64 w2))] [] : St D0) (blockK 0 (onN (fun s => slices_IndexFunc_string_string.C.tidy 6 s (fun s' => runC slices_IndexFunc_string_string.C (slices_IndexFunc_string_string.O N) N slices_IndexFunc_string_string.c7 7 s' slices_IndexFunc_string_string.K0)) slices_IndexFunc_string_string.K0)))) := by kernel_rfl
noncomputable def slices_IndexFunc_string_string.g (N : Nat) (a0 : List ByteArray) : Option slices_IndexFunc_string_string.R := slices_IndexFunc_string_string.o0 N a0 ((fun w0 w1 w2 => slices_IndexFunc_string_string.l1 N N w0 w1 w2))
theorem slices_IndexFunc_string_string.c1_0 : slices_IndexFunc_string_string.c1 = (.seq slices_IndexFunc_string_string.c2 (.seq (.seq slices_IndexFunc_string_string.c12 (.block 0 (.loop slices_IndexFunc_string_string.c52))) slices_IndexFunc_string_string.c7)) := by kernel_rfl
theorem slices_IndexFunc_string_string.g.run (N : Nat) (a0 : List ByteArray) : runC slices_IndexFunc_string_string.C (slices_IndexFunc_string_string.O N) N slices_IndexFunc_string_string.c1 1 (st0 [.one (.sl false 9 a0), .one (.fn 49 [])] [] : St D0) slices_IndexFunc_string_string.K0 = slices_IndexFunc_string_string.g N a0 := by
  rw [slices_IndexFunc_string_string.c1_0]; unfold slices_IndexFunc_string_string.g; exact (slices_IndexFunc_string_string.o0.run N slices_IndexFunc_string_string.c52 a0).trans (congr rfl (funext fun w0 => funext fun w1 => funext fun w2 => (slices_IndexFunc_string_string.loop26 N N) w0 w1 w2))
theorem slices_IndexFunc_string_string.good (N : Nat) (a0 : List ByteArray) (r : slices_IndexFunc_string_string.R) (h : slices_IndexFunc_string_string.g N a0 = some r) : Go.PM.Good Go.Proofs.Try.prog T0 64 [.one (.sl false 9 a0), .one (.fn 49 [])] [] (slices_IndexFunc_string_string.sig.ret r) (slices_IndexFunc_string_string.sig.bs r) :=
  good_fn tabOk0 mixed0 slices_IndexFunc_string_string.sig (slices_IndexFunc_string_string.E N) Go.Proofs.Try.func64 (by kernel_rfl) (by kernel_rfl) 66483 0 0 [(26, [0, 1, 7, 8], [])] 14400 false [] [(false, [.any])] (by kernel_rfl) rfl rfl ((slices_IndexFunc_string_string.g.run N a0).trans h)
noncomputable def slices_IndexFunc_string_string.ent (N : Nat) : Ent Go.Proofs.Try.prog T0 := mkEnt 64 [(false, [.ro 9]), (false, [.any])] slices_IndexFunc_string_string.sig (fun t => slices_IndexFunc_string_string.g N t.1) (fun t r h => slices_IndexFunc_string_string.good N t.1 r h)
end Go.Proofs.Ytpmipkbfohcjiaa.M

namespace Go.Proofs.Ytpmipkbfohcjiaa.M
open Go Go.PM Go.Proofs.Ytpmipkbfohcjiaa.P
set_option linter.unusedVariables false
set_option maxRecDepth 100000
/-! ### slices_ContainsFunc_string_string -/
abbrev slices_ContainsFunc_string_string.R : Type := Bool
abbrev slices_ContainsFunc_string_string.sig : Sig := ⟨[(false, 1), (false, 1)], [], [.sl false 9, .fn 49 []], [(false, 1)], [], [.bool]⟩
noncomputable def slices_ContainsFunc_string_string.C : Cfg D0 := ⟨Go.Proofs.Try.prog, T0, 19, 0, 9, 0, [], 96, false, []⟩
noncomputable def slices_ContainsFunc_string_string.E (N : Nat) : List (Ent Go.Proofs.Try.prog T0) := [slices_IndexFunc_string_string.ent N]
noncomputable def slices_ContainsFunc_string_string.O (N : Nat) : Orc D0 slices_ContainsFunc_string_string.R := orcOf (slices_ContainsFunc_string_string.E N)
noncomputable def slices_ContainsFunc_string_string.K0 : Ex → St D0 → Option slices_ContainsFunc_string_string.R := exitK slices_ContainsFunc_string_string.C Go.Proofs.Try.f48.results.toList [(false, [.any])] (decOut slices_ContainsFunc_string_string.sig)
noncomputable def slices_ContainsFunc_string_string.c1 : Code := codeAt (Go.Proofs.Try.f48.body.getD .skip) []
noncomputable def slices_ContainsFunc_string_string.o0 (N : Nat) (a0 : List ByteArray) : Option slices_ContainsFunc_string_string.R :=
 (slices_IndexFunc_string_string.g N a0).bind fun r1 =>
 some ((decide (r1 ≥ 0)))
theorem slices_ContainsFunc_string_string.o0.run (N : Nat) (a0 : List ByteArray) : runC slices_ContainsFunc_string_string.C (slices_ContainsFunc_string_string.O N) N slices_ContainsFunc_string_string.c1 1 (st0 [.one (.sl false 9 a0), .one (.fn 49 [])] [] : St D0) slices_ContainsFunc_string_string.K0 = slices_ContainsFunc_string_string.o0 N a0 := by kernel_rfl
noncomputable def slices_ContainsFunc_string_string.g (N : Nat) (a0 : List ByteArray) : Option slices_ContainsFunc_string_string.R := slices_ContainsFunc_string_string.o0 N a0
theorem slices_ContainsFunc_string_string.g.run (N : Nat) (a0 : List ByteArray) : runC slices_ContainsFunc_string_string.C (slices_ContainsFunc_string_string.O N) N slices_ContainsFunc_string_string.c1 1 (st0 [.one (.sl false 9 a0), .one (.fn 49 [])] [] : St D0) slices_ContainsFunc_string_string.K0 = slices_ContainsFunc_string_string.g N a0 := by
  exact (slices_ContainsFunc_string_string.o0.run N a0).trans rfl
theorem slices_ContainsFunc_string_string.good (N : Nat) (a0 : List ByteArray) (r : slices_ContainsFunc_string_string.R) (h : slices_ContainsFunc_string_string.g N a0 = some r) : Go.PM.Good Go.Proofs.Try.prog T0 48 [.one (.sl false 9 a0), .one (.fn 49 [])] [] (slices_ContainsFunc_string_string.sig.ret r) (slices_ContainsFunc_string_string.sig.bs r) :=
  good_fn tabOk0 mixed0 slices_ContainsFunc_string_string.sig (slices_ContainsFunc_string_string.E N) Go.Proofs.Try.func48 (by kernel_rfl) (by kernel_rfl) 19 0 0 [] 96 false [] [(false, [.any])] (by kernel_rfl) rfl rfl ((slices_ContainsFunc_string_string.g.run N a0).trans h)
noncomputable def slices_ContainsFunc_string_string.ent (N : Nat) : Ent Go.Proofs.Try.prog T0 := mkEnt 48 [(false, [.ro 9]), (false, [.any])] slices_ContainsFunc_string_string.sig (fun t => slices_ContainsFunc_string_string.g N t.1) (fun t r h => slices_ContainsFunc_string_string.good N t.1 r h)
end Go.Proofs.Ytpmipkbfohcjiaa.M

namespace Go.Proofs.Ytpmipkbfohcjiaa.M
open Go Go.PM Go.Proofs.Ytpmipkbfohcjiaa.P
set_option linter.unusedVariables false
set_option maxRecDepth 100000
/-! ### impl_IsTune -/
abbrev impl_IsTune.R : Type := Bool
abbrev impl_IsTune.sig : Sig := ⟨[(false, 1)], [], [.sl false 9], [(false, 1)], [], [.bool]⟩
noncomputable def impl_IsTune.C : Cfg D0 := ⟨Go.Proofs.Try.prog, T0, 5, 0, 11, 0, [], 136, false, []⟩
noncomputable def impl_IsTune.E (N : Nat) : List (Ent Go.Proofs.Try.prog T0) := [impl_within.ent N, slices_ContainsFunc_string_string.ent N]
noncomputable def impl_IsTune.O (N : Nat) : Orc D0 impl_IsTune.R := orcOf (impl_IsTune.E N)
noncomputable def impl_IsTune.K0 : Ex → St D0 → Option impl_IsTune.R := exitK impl_IsTune.C Go.Proofs.Try.f21.results.toList [(false, [.any])] (decOut impl_IsTune.sig)
noncomputable def impl_IsTune.c1 : Code := codeAt (Go.Proofs.Try.f21.body.getD .skip) []
noncomputable def impl_IsTune.o0 (N : Nat) (a0 : List ByteArray) : Option impl_IsTune.R :=
 (impl_within.g N (a0.length : Int) 1 12).bind fun r1 =>
 bif r1 then
  (slices_ContainsFunc_string_string.g N a0).bind fun r2 =>
  some ((!r2))
 else
 some (false)
theorem impl_IsTune.o0.run (N : Nat) (a0 : List ByteArray) : runC impl_IsTune.C (impl_IsTune.O N) N impl_IsTune.c1 1 (st0 [.one (.sl false 9 a0)] [] : St D0) impl_IsTune.K0 = impl_IsTune.o0 N a0 := by kernel_rfl
noncomputable def impl_IsTune.g (N : Nat) (a0 : List ByteArray) : Option impl_IsTune.R := impl_IsTune.o0 N a0
theorem impl_IsTune.g.run (N : Nat) (a0 : List ByteArray) : runC impl_IsTune.C (impl_IsTune.O N) N impl_IsTune.c1 1 (st0 [.one (.sl false 9 a0)] [] : St D0) impl_IsTune.K0 = impl_IsTune.g N a0 := by
  exact (impl_IsTune.o0.run N a0).trans rfl
theorem impl_IsTune.good (N : Nat) (a0 : List ByteArray) (r : impl_IsTune.R) (h : impl_IsTune.g N a0 = some r) : Go.PM.Good Go.Proofs.Try.prog T0 21 [.one (.sl false 9 a0)] [] (impl_IsTune.sig.ret r) (impl_IsTune.sig.bs r) :=
  good_fn tabOk0 mixed0 impl_IsTune.sig (impl_IsTune.E N) Go.Proofs.Try.func21 (by kernel_rfl) (by kernel_rfl) 5 0 0 [] 136 false [] [(false, [.any])] (by kernel_rfl) rfl rfl ((impl_IsTune.g.run N a0).trans h)
noncomputable def impl_IsTune.ent (N : Nat) : Ent Go.Proofs.Try.prog T0 := mkEnt 21 [(false, [.ro 9])] impl_IsTune.sig (fun t => impl_IsTune.g N t) (fun t r h => impl_IsTune.good N t r h)
end Go.Proofs.Ytpmipkbfohcjiaa.M

namespace Go.Proofs.Ytpmipkbfohcjiaa.M
open Go Go.PM Go.Proofs.Ytpmipkbfohcjiaa.P
set_option linter.unusedVariables false
set_option maxRecDepth 100000
/-! ### spec_beTune -/
abbrev spec_beTune.R : Type := Bool
abbrev spec_beTune.sig : Sig := ⟨[(false, 1)], [], [.sl false 9], [(false, 1)], [], [.bool]⟩
noncomputable def spec_beTune.C : Cfg D0 := ⟨Go.Proofs.Try.prog, T0, 34368667189, 0, 37, 0, [(58, [10, 11, 12], []), (29902, [4, 5, 10, 11, 12], []), (956872, [4, 5, 10, 11, 12, 35], [])], 6663766080, false, []⟩
noncomputable def spec_beTune.E (N : Nat) : List (Ent Go.Proofs.Try.prog T0) := [spec_l1In.ent N]
noncomputable def spec_beTune.O (N : Nat) : Orc D0 spec_beTune.R := orcOf (spec_beTune.E N)
noncomputable def spec_beTune.K0 : Ex → St D0 → Option spec_beTune.R := exitK spec_beTune.C Go.Proofs.Try.f43.results.toList [(false, [.any])] (decOut spec_beTune.sig)
noncomputable def spec_beTune.c1 : Code := codeAt (Go.Proofs.Try.f43.body.getD .skip) []
noncomputable def spec_beTune.c2 : Code := codeAt (Go.Proofs.Try.f43.body.getD .skip) [false]
noncomputable def spec_beTune.c6 : Code := codeAt (Go.Proofs.Try.f43.body.getD .skip) [true, false]
noncomputable def spec_beTune.c15 : Code := codeAt (Go.Proofs.Try.f43.body.getD .skip) [true, true, true]
noncomputable def spec_beTune.c28 : Code := codeAt (Go.Proofs.Try.f43.body.getD .skip) [true, true, false, false]
noncomputable def spec_beTune.c116 : Code := codeAt (Go.Proofs.Try.f43.body.getD .skip) [true, true, false, true, false, false]
noncomputable def spec_beTune.c232 : Code := codeAt (Go.Proofs.Try.f43.body.getD .skip) [true, true, false, true, false, false, false]
noncomputable def spec_beTune.c466 : Code := codeAt (Go.Proofs.Try.f43.body.getD .skip) [true, true, false, true, false, false, true, false]
noncomputable def spec_beTune.c935 : Code := codeAt (Go.Proofs.Try.f43.body.getD .skip) [true, true, false, true, false, false, true, true, true]
noncomputable def spec_beTune.c3736 : Code := codeAt (Go.Proofs.Try.f43.body.getD .skip) [true, true, false, true, false, false, true, true, false, false, false]
noncomputable def spec_beTune.c7474 : Code := codeAt (Go.Proofs.Try.f43.body.getD .skip) [true, true, false, true, false, false, true, true, false, false, true, false]
noncomputable def spec_beTune.c14950 : Code := codeAt (Go.Proofs.Try.f43.body.getD .skip) [true, true, false, true, false, false, true, true, false, false, true, true, false]
noncomputable def spec_beTune.c59804 : Code := codeAt (Go.Proofs.Try.f43.body.getD .skip) [true, true, false, true, false, false, true, true, false, false, true, true, true, false, false]
noncomputable def spec_beTune.c119608 : Code := codeAt (Go.Proofs.Try.f43.body.getD .skip) [true, true, false, true, false, false, true, true, false, false, true, true, true, false, false, false]
noncomputable def spec_beTune.c239219 : Code := codeAt (Go.Proofs.Try.f43.body.getD .skip) [true, true, false, true, false, false, true, true, false, false, true, true, true, false, false, true, true]
noncomputable def spec_beTune.c956872 : Code := codeAt (Go.Proofs.Try.f43.body.getD .skip) [true, true, false, true, false, false, true, true, false, false, true, true, true, false, false, true, false, false, false]
noncomputable def spec_beTune.c956873 : Code := codeAt (Go.Proofs.Try.f43.body.getD .skip) [true, true, false, true, false, false, true, true, false, false, true, true, true, false, false, true, false, false, true]
noncomputable def spec_beTune.K956873 (N : Nat) (Kn58 : St D0 → Option spec_beTune.R) (Kn29902 : St D0 → Option spec_beTune.R) : Ex → St D0 → Option spec_beTune.R := (blockK 3 (onN (fun s => spec_beTune.C.tidy 239218 s (fun s' => runC spec_beTune.C (spec_beTune.O N) N spec_beTune.c239219 239219 s' (onN (fun s => spec_beTune.C.tidy 29902 s ((onN Kn29902 (blockK 2 (blockK 1 (onN (fun s => spec_beTune.C.tidy 934 s (fun s' => runC spec_beTune.C (spec_beTune.O N) N spec_beTune.c935 935 s' (onN (fun s => spec_beTune.C.tidy 58 s ((onN Kn58 (blockK 0 (onN (fun s => spec_beTune.C.tidy 14 s (fun s' => runC spec_beTune.C (spec_beTune.O N) N spec_beTune.c15 15 s' spec_beTune.K0)) spec_beTune.K0))) .normal)) (onN Kn58 (blockK 0 (onN (fun s => spec_beTune.C.tidy 14 s (fun s' => runC spec_beTune.C (spec_beTune.O N) N spec_beTune.c15 15 s' spec_beTune.K0)) spec_beTune.K0)))))) (onN (fun s => spec_beTune.C.tidy 58 s ((onN Kn58 (blockK 0 (onN (fun s => spec_beTune.C.tidy 14 s (fun s' => runC spec_beTune.C (spec_beTune.O N) N spec_beTune.c15 15 s' spec_beTune.K0)) spec_beTune.K0))) .normal)) (onN Kn58 (blockK 0 (onN (fun s => spec_beTune.C.tidy 14 s (fun s' => runC spec_beTune.C (spec_beTune.O N) N spec_beTune.c15 15 s' spec_beTune.K0)) spec_beTune.K0)))))))) .normal)) (onN Kn29902 (blockK 2 (blockK 1 (onN (fun s => spec_beTune.C.tidy 934 s (fun s' => runC spec_beTune.C (spec_beTune.O N) N spec_beTune.c935 935 s' (onN (fun s => spec_beTune.C.tidy 58 s ((onN Kn58 (blockK 0 (onN (fun s => spec_beTune.C.tidy 14 s (fun s' => runC spec_beTune.C (spec_beTune.O N) N spec_beTune.c15 15 s' spec_beTune.K0)) spec_beTune.K0))) .normal)) (onN Kn58 (blockK 0 (onN (fun s => spec_beTune.C.tidy 14 s (fun s' => runC spec_beTune.C (spec_beTune.O N) N spec_beTune.c15 15 s' spec_beTune.K0)) spec_beTune.K0)))))) (onN (fun s => spec_beTune.C.tidy 58 s ((onN Kn58 (blockK 0 (onN (fun s => spec_beTune.C.tidy 14 s (fun s' => runC spec_beTune.C (spec_beTune.O N) N spec_beTune.c15 15 s' spec_beTune.K0)) spec_beTune.K0))) .normal)) (onN Kn58 (blockK 0 (onN (fun s => spec_beTune.C.tidy 14 s (fun s' => runC spec_beTune.C (spec_beTune.O N) N spec_beTune.c15 15 s' spec_beTune.K0)) spec_beTune.K0))))))))))) (onN (fun s => spec_beTune.C.tidy 29902 s ((onN Kn29902 (blockK 2 (blockK 1 (onN (fun s => spec_beTune.C.tidy 934 s (fun s' => runC spec_beTune.C (spec_beTune.O N) N spec_beTune.c935 935 s' (onN (fun s => spec_beTune.C.tidy 58 s ((onN Kn58 (blockK 0 (onN (fun s => spec_beTune.C.tidy 14 s (fun s' => runC spec_beTune.C (spec_beTune.O N) N spec_beTune.c15 15 s' spec_beTune.K0)) spec_beTune.K0))) .normal)) (onN Kn58 (blockK 0 (onN (fun s => spec_beTune.C.tidy 14 s (fun s' => runC spec_beTune.C (spec_beTune.O N) N spec_beTune.c15 15 s' spec_beTune.K0)) spec_beTune.K0)))))) (onN (fun s => spec_beTune.C.tidy 58 s ((onN Kn58 (blockK 0 (onN (fun s => spec_beTune.C.tidy 14 s (fun s' => runC spec_beTune.C (spec_beTune.O N) N spec_beTune.c15 15 s' spec_beTune.K0)) spec_beTune.K0))) .normal)) (onN Kn58 (blockK 0 (onN (fun s => spec_beTune.C.tidy 14 s (fun s' => runC spec_beTune.C (spec_beTune.O N) N spec_beTune.c15 15 s' spec_beTune.K0)) spec_beTune.K0)))))))) .normal)) (onN Kn29902 (blockK 2 (blockK 1 (onN (fun s => spec_beTune.C.tidy 934 s (fun s' => runC spec_beTune.C (spec_beTune.O N) N spec_beTune.c935 935 s' (onN (fun s => spec_beTune.C.tidy 58 s ((onN Kn58 (blockK 0 (onN (fun s => spec_beTune.C.tidy 14 s (fun s' => runC spec_beTune.C (spec_beTune.O N) N spec_beTune.c15 15 s' spec_beTune.K0)) spec_beTune.K0))) .normal)) (onN Kn58 (blockK 0 (onN (fun s => spec_beTune.C.tidy 14 s (fun s' => runC spec_beTune.C (spec_beTune.O N) N spec_beTune.c15 15 s' spec_beTune.K0)) spec_beTune.K0)))))) (onN (fun s => spec_beTune.C.tidy 58 s ((onN Kn58 (blockK 0 (onN (fun s => spec_beTune.C.tidy 14 s (fun s' => runC spec_beTune.C (spec_beTune.O N) N spec_beTune.c15 15 s' spec_beTune.K0)) spec_beTune.K0))) .normal)) (onN Kn58 (blockK 0 (onN (fun s => spec_beTune.C.tidy 14 s (fun s' => runC spec_beTune.C (spec_beTune.O N) N spec_beTune.c15 15 s' spec_beTune.K0)) spec_beTune.K0)))))))))))
noncomputable def spec_beTune.o3 (N : Nat) (v0 : ByteArray) (v1 : Int) (v2 : List ByteArray) (v3 : Int) (v4 : Int) (v5 : Bool) (c2 : ByteArray → Int → (List ByteArray) → Int → Int → Option spec_beTune.R) : Option spec_beTune.R :=
 bif v5 then
  some (false)
 else
 c2 v0 (w64 (v1 + 1)) v2 v3 v4
theorem spec_beTune.o3.run (N : Nat) (Kn58 : St D0 → Option spec_beTune.R) (Kn29902 : St D0 → Option spec_beTune.R) (v0 : ByteArray) (v1 : Int) (v2 : List ByteArray) (v3 : Int) (v4 : Int) (v5 : Bool) : runC spec_beTune.C (spec_beTune.O N) N spec_beTune.c956873 956873 (mkSt [(4, .one (.str v0)), (5, .one (.int .i64 v1)), (10, .one (.sl false 9 v2)), (11, .one (.int .i64 v3)), (12, .one (.int .i64 v4)), (35, .one (.bool v5))] [] : St D0) (blockK 3 (onN (fun s => spec_beTune.C.tidy 239218 s (fun s' => runC spec_beTune.C (spec_beTune.O N) N spec_beTune.c239219 239219 s' (onN (fun s => spec_beTune.C.tidy 29902 s ((onN Kn29902 (blockK 2 (blockK 1 (onN (fun s => spec_beTune.C.tidy 934 s (fun s' => runC spec_beTune.C (spec_beTune.O N) N spec_beTune.c935 935 s' (onN (fun s => spec_beTune.C.tidy 58 s ((onN Kn58 (blockK 0 (onN (fun s => spec_beTune.C.tidy 14 s (fun s' => runC spec_beTune.C (spec_beTune.O N) N spec_beTune.c15 15 s' spec_beTune.K0)) spec_beTune.K0))) .normal)) (onN Kn58 (blockK 0 (onN (fun s => spec_beTune.C.tidy 14 s (fun s' => runC spec_beTune.C (spec_beTune.O N) N spec_beTune.c15 15 s' spec_beTune.K0)) spec_beTune.K0)))))) (onN (fun s => spec_beTune.C.tidy 58 s ((onN Kn58 (blockK 0 (onN (fun s => spec_beTune.C.tidy 14 s (fun s' => runC spec_beTune.C (spec_beTune.O N) N spec_beTune.c15 15 s' spec_beTune.K0)) spec_beTune.K0))) .normal)) (onN Kn58 (blockK 0 (onN (fun s => spec_beTune.C.tidy 14 s (fun s' => runC spec_beTune.C (spec_beTune.O N) N spec_beTune.c15 15 s' spec_beTune.K0)) spec_beTune.K0)))))))) .normal)) (onN Kn29902 (blockK 2 (blockK 1 (onN (fun s => spec_beTune.C.tidy 934 s (fun s' => runC spec_beTune.C (spec_beTune.O N) N spec_beTune.c935 935 s' (onN (fun s => spec_beTune.C.tidy 58 s ((onN Kn58 (blockK 0 (onN (fun s => spec_beTune.C.tidy 14 s (fun s' => runC spec_beTune.C (spec_beTune.O N) N spec_beTune.c15 15 s' spec_beTune.K0)) spec_beTune.K0))) .normal)) (onN Kn58 (blockK 0 (onN (fun s => spec_beTune.C.tidy 14 s (fun s' => runC spec_beTune.C (spec_beTune.O N) N spec_beTune.c15 15 s' spec_beTune.K0)) spec_beTune.K0)))))) (onN (fun s => spec_beTune.C.tidy 58 s ((onN Kn58 (blockK 0 (onN (fun s => spec_beTune.C.tidy 14 s (fun s' => runC spec_beTune.C (spec_beTune.O N) N spec_beTune.c15 15 s' spec_beTune.K0)) spec_beTune.K0))) .normal)) (onN Kn58 (blockK 0 (onN (fun s => spec_beTune.C.tidy 14 s (fun s' => runC spec_beTune.C (spec_beTune.O N) N spec_beTune.c15 15 s' spec_beTune.K0)) spec_beTune.K0))))))))))) (onN (fun s => spec_beTune.C.tidy 29902 s ((onN Kn29902 (blockK 2 (blockK 1 (onN (fun s => spec_beTune.C.tidy 934 s (fun s' => runC spec_beTune.C (spec_beTune.O N) N spec_beTune.c935 935 s' (onN (fun s => spec_beTune.C.tidy 58 s ((onN Kn58 (blockK 0 (onN (fun s => spec_beTune.C.tidy 14 s (fun s' => runC spec_beTune.C (spec_beTune.O N) N spec_beTune.c15 15 s' spec_beTune.K0)) spec_beTune.K0))) .normal)) (onN Kn58 (blockK 0 (onN (fun s => spec_beTune.C.tidy 14 s (fun s' => runC spec_beTune.C (spec_beTune.O N) N spec_beTune.c15 15 s' spec_beTune.K0)) spec_beTune.K0)))))) (onN (fun s => spec_beTune.C.tidy 58 s ((onN Kn58 (blockK 0 (onN (fun s => spec_beTune.C.tidy 14 s (fun s' => runC spec_beTune.C (spec_beTune.O N) N spec_beTune.c15 15 s' spec_beTune.K0)) spec_beTune.K0))) .normal)) (onN Kn58 (blockK 0 (onN (fun s => spec_beTune.C.tidy 14 s (fun s' => runC spec_beTune.C (spec_beTune.O N) N spec_beTune.c15 15 s' spec_beTune.K0)) spec_beTune.K0)))))))) .normal)) (onN Kn29902 (blockK 2 (blockK 1 (onN (fun s => spec_beTune.C.tidy 934 s (fun s' => runC spec_beTune.C (spec_beTune.O N) N spec_beTune.c935 935 s' (onN (fun s => spec_beTune.C.tidy 58 s ((onN Kn58 (blockK 0 (onN (fun s => spec_beTune.C.tidy 14 s (fun s' => runC spec_beTune.C (spec_beTune.O N) N spec_beTune.c15 15 s' spec_beTune.K0)) spec_beTune.K0))) .normal)) (onN Kn58 (blockK 0 (onN (fun s => spec_beTune.C.tidy 14 s (fun s' => runC spec_beTune.C (spec_beTune.O N) N spec_beTune.c15 15 s' spec_beTune.K0)) spec_beTune.K0)))))) (onN (fun s => spec_beTune.C.tidy 58 s ((onN Kn58 (blockK 0 (onN (fun s => spec_beTune.C.tidy 14 s (fun s' => runC spec_beTune.C (spec_beTune.O N) N spec_beTune.c15 15 s' spec_beTune.K0)) spec_beTune.K0))) .normal)) (onN Kn58 (blockK 0 (onN (fun s => spec_beTune.C.tidy 14 s (fun s' => runC spec_beTune.C (spec_beTune.O N) N spec_beTune.c15 15 s' spec_beTune.K0)) spec_beTune.K0))))))))))) = spec_beTune.o3 N v0 v1 v2 v3 v4 v5 ((fun w0 w1 w2 w3 w4 => Kn29902 (mkSt [(4, .one (.str w0)), (5, .one (.int .i64 w1)), (10, .one (.sl false 9 w2)), (11, .one (.int .i64 w3)), (12, .one (.int .i64 w4))] [] : St D0))) := by kernel_rfl
noncomputable def spec_beTune.d3 (N : Nat) (v0 : ByteArray) (v1 : Int) (v2 : List ByteArray) (v3 : Int) (v4 : Int) (v5 : Bool) (c2 : ByteArray → Int → (List ByteArray) → Int → Int → Option spec_beTune.R) : Option spec_beTune.R := spec_beTune.o3 N v0 v1 v2 v3 v4 v5 c2
theorem spec_beTune.d3.run (N : Nat) (Kn58 : St D0 → Option spec_beTune.R) (Kn29902 : St D0 → Option spec_beTune.R) (v0 : ByteArray) (v1 : Int) (v2 : List ByteArray) (v3 : Int) (v4 : Int) (v5 : Bool) : runC spec_beTune.C (spec_beTune.O N) N spec_beTune.c956873 956873 (mkSt [(4, .one (.str v0)), (5, .one (.int .i64 v1)), (10, .one (.sl false 9 v2)), (11, .one (.int .i64 v3)), (12, .one (.int .i64 v4)), (35, .one (.bool v5))] [] : St D0) (spec_beTune.K956873 N Kn58 Kn29902) = spec_beTune.d3 N v0 v1 v2 v3 v4 v5 ((fun w0 w1 w2 w3 w4 => Kn29902 (mkSt [(4, .one (.str w0)), (5, .one (.int .i64 w1)), (10, .one (.sl false 9 w2)), (11, .one (.int .i64 w3)), (12, .one (.int .i64 w4))] [] : St D0))) := by
  exact (spec_beTune.o3.run N Kn58 Kn29902 v0 v1 v2 v3 v4 v5).trans rfl
noncomputable def spec_beTune.K59804 (N : Nat) (Kn58 : St D0 → Option spec_beTune.R) (Kn29902 : St D0 → Option spec_beTune.R) : Ex → St D0 → Option spec_beTune.R := (onN (fun s => spec_beTune.C.tidy 29902 s ((onN Kn29902 (blockK 2 (blockK 1 (onN (fun s => spec_beTune.C.tidy 934 s (fun s' => runC spec_beTune.C (spec_beTune.O N) N spec_beTune.c935 935 s' (onN (fun s => spec_beTune.C.tidy 58 s ((onN Kn58 (blockK 0 (onN (fun s => spec_beTune.C.tidy 14 s (fun s' => runC spec_beTune.C (spec_beTune.O N) N spec_beTune.c15 15 s' spec_beTune.K0)) spec_beTune.K0))) .normal)) (onN Kn58 (blockK 0 (onN (fun s => spec_beTune.C.tidy 14 s (fun s' => runC spec_beTune.C (spec_beTune.O N) N spec_beTune.c15 15 s' spec_beTune.K0)) spec_beTune.K0)))))) (onN (fun s => spec_beTune.C.tidy 58 s ((onN Kn58 (blockK 0 (onN (fun s => spec_beTune.C.tidy 14 s (fun s' => runC spec_beTune.C (spec_beTune.O N) N spec_beTune.c15 15 s' spec_beTune.K0)) spec_beTune.K0))) .normal)) (onN Kn58 (blockK 0 (onN (fun s => spec_beTune.C.tidy 14 s (fun s' => runC spec_beTune.C (spec_beTune.O N) N spec_beTune.c15 15 s' spec_beTune.K0)) spec_beTune.K0)))))))) .normal)) (onN Kn29902 (blockK 2 (blockK 1 (onN (fun s => spec_beTune.C.tidy 934 s (fun s' => runC spec_beTune.C (spec_beTune.O N) N spec_beTune.c935 935 s' (onN (fun s => spec_beTune.C.tidy 58 s ((onN Kn58 (blockK 0 (onN (fun s => spec_beTune.C.tidy 14 s (fun s' => runC spec_beTune.C (spec_beTune.O N) N spec_beTune.c15 15 s' spec_beTune.K0)) spec_beTune.K0))) .normal)) (onN Kn58 (blockK 0 (onN (fun s => spec_beTune.C.tidy 14 s (fun s' => runC spec_beTune.C (spec_beTune.O N) N spec_beTune.c15 15 s' spec_beTune.K0)) spec_beTune.K0)))))) (onN (fun s => spec_beTune.C.tidy 58 s ((onN Kn58 (blockK 0 (onN (fun s => spec_beTune.C.tidy 14 s (fun s' => runC spec_beTune.C (spec_beTune.O N) N spec_beTune.c15 15 s' spec_beTune.K0)) spec_beTune.K0))) .normal)) (onN Kn58 (blockK 0 (onN (fun s => spec_beTune.C.tidy 14 s (fun s' => runC spec_beTune.C (spec_beTune.O N) N spec_beTune.c15 15 s' spec_beTune.K0)) spec_beTune.K0)))))))))
noncomputable def spec_beTune.o2 (N : Nat) (v0 : ByteArray) (v1 : Int) (v2 : List ByteArray) (v3 : Int) (v4 : Int) (c3 : ByteArray → Int → (List ByteArray) → Int → Int → Bool → Option spec_beTune.R) (c1 : (List ByteArray) → Int → Int → Option spec_beTune.R) : Option spec_beTune.R :=
 bif (decide (v1 < (v0.size : Int))) then
  bif (decide (0 ≤ v1)) then
   bif (decide (v1 < (v0.size : Int))) then
    bif (decide ((bt v0 v1) < 49)) then
     c3 v0 v1 v2 v3 v4 true
    else
    bif (decide (0 ≤ v1)) then
     bif (decide (v1 < (v0.size : Int))) then
      c3 v0 v1 v2 v3 v4 (decide ((bt v0 v1) > 56))
     else
     none
    else
    none
   else
   none
  else
  none
 else
 c1 v2 v3 (w64 (v4 + 1))
theorem spec_beTune.o2.run (N : Nat) (Kn58 : St D0 → Option spec_beTune.R) (Kn29902 : St D0 → Option spec_beTune.R) (H956873 : Code) (v0 : ByteArray) (v1 : Int) (v2 : List ByteArray) (v3 : Int) (v4 : Int) : runC spec_beTune.C (spec_beTune.O N) N (.seq spec_beTune.c119608 (.seq (.block 3 (.seq spec_beTune.c956872 H956873)) spec_beTune.c239219)) 59804 (mkSt [(4, .one (.str v0)), (5, .one (.int .i64 v1)), (10, .one (.sl false 9 v2)), (11, .one (.int .i64 v3)), (12, .one (.int .i64 v4))] [] : St D0) (onN (fun s => spec_beTune.C.tidy 29902 s ((onN Kn29902 (blockK 2 (blockK 1 (onN (fun s => spec_beTune.C.tidy 934 s (fun s' => runC spec_beTune.C (spec_beTune.O N) N spec_beTune.c935 935 s' (onN (fun s => spec_beTune.C.tidy 58 s ((onN Kn58 (blockK 0 (onN (fun s => spec_beTune.C.tidy 14 s (fun s' => runC spec_beTune.C (spec_beTune.O N) N spec_beTune.c15 15 s' spec_beTune.K0)) spec_beTune.K0))) .normal)) (onN Kn58 (blockK 0 (onN (fun s => spec_beTune.C.tidy 14 s (fun s' => runC spec_beTune.C (spec_beTune.O N) N spec_beTune.c15 15 s' spec_beTune.K0)) spec_beTune.K0)))))) (onN (fun s => spec_beTune.C.tidy 58 s ((onN Kn58 (blockK 0 (onN (fun s => spec_beTune.C.tidy 14 s (fun s' => runC spec_beTune.C (spec_beTune.O N) N spec_beTune.c15 15 s' spec_beTune.K0)) spec_beTune.K0))) .normal)) (onN Kn58 (blockK 0 (onN (fun s => spec_beTune.C.tidy 14 s (fun s' => runC spec_beTune.C (spec_beTune.O N) N spec_beTune.c15 15 s' spec_beTune.K0)) spec_beTune.K0)))))))) .normal)) (onN Kn29902 (blockK 2 (blockK 1 (onN (fun s => spec_beTune.C.tidy 934 s (fun s' => runC spec_beTune.C (spec_beTune.O N) N spec_beTune.c935 935 s' (onN (fun s => spec_beTune.C.tidy 58 s ((onN Kn58 (blockK 0 (onN (fun s => spec_beTune.C.tidy 14 s (fun s' => runC spec_beTune.C (spec_beTune.O N) N spec_beTune.c15 15 s' spec_beTune.K0)) spec_beTune.K0))) .normal)) (onN Kn58 (blockK 0 (onN (fun s => spec_beTune.C.tidy 14 s (fun s' => runC spec_beTune.C (spec_beTune.O N) N spec_beTune.c15 15 s' spec_beTune.K0)) spec_beTune.K0)))))) (onN (fun s => spec_beTune.C.tidy 58 s ((onN Kn58 (blockK 0 (onN (fun s => spec_beTune.C.tidy 14 s (fun s' => runC spec_beTune.C (spec_beTune.O N) N spec_beTune.c15 15 s' spec_beTune.K0)) spec_beTune.K0))) .normal)) (onN Kn58 (blockK 0 (onN (fun s => spec_beTune.C.tidy 14 s (fun s' => runC spec_beTune.C (spec_beTune.O N) N spec_beTune.c15 15 s' spec_beTune.K0)) spec_beTune.K0))))))))) = spec_beTune.o2 N v0 v1 v2 v3 v4 ((fun w0 w1 w2 w3 w4 w5 => runC spec_beTune.C (spec_beTune.O N) N H956873 956873 (mkSt [(4, .one (.str w0)), (5, .one (.int .i64 w1)), (10, .one (.sl false 9 w2)), (11, .one (.int .i64 w3)), (12, .one (.int .i64 w4)), (35, .one (.bool w5))] [] : St D0) (blockK 3 (onN (fun s => spec_beTune.C.tidy 239218 s (fun s' => runC spec_beTune.C (spec_beTune.O N) N spec_beTune.c239219 239219 s' (onN (fun s => spec_beTune.C.tidy 29902 s ((onN Kn29902 (blockK 2 (blockK 1 (onN (fun s => spec_beTune.C.tidy 934 s (fun s' => runC spec_beTune.C (spec_beTune.O N) N spec_beTune.c935 935 s' (onN (fun s => spec_beTune.C.tidy 58 s ((onN Kn58 (blockK 0 (onN (fun s => spec_beTune.C.tidy 14 s (fun s' => runC spec_beTune.C (spec_beTune.O N) N spec_beTune.c15 15 s' spec_beTune.K0)) spec_beTune.K0))) .normal)) (onN Kn58 (blockK 0 (onN (fun s => spec_beTune.C.tidy 14 s (fun s' => runC spec_beTune.C (spec_beTune.O N) N spec_beTune.c15 15 s' spec_beTune.K0)) spec_beTune.K0)))))) (onN (fun s => spec_beTune.C.tidy 58 s ((onN Kn58 (blockK 0 (onN (fun s => spec_beTune.C.tidy 14 s (fun s' => runC spec_beTune.C (spec_beTune.O N) N spec_beTune.c15 15 s' spec_beTune.K0)) spec_beTune.K0))) .normal)) (onN Kn58 (blockK 0 (onN (fun s => spec_beTune.C.tidy 14 s (fun s' => runC spec_beTune.C (spec_beTune.O N) N spec_beTune.c15 15 s' spec_beTune.K0)) spec_beTune.K0)))))))) .normal)) (onN Kn29902 (blockK 2 (blockK 1 (onN (fun s => spec_beTune.C.tidy 934 s (fun s' => runC spec_beTune.C (spec_beTune.O N) N spec_beTune.c935 935 s' (onN (fun s => spec_beTune.C.tidy 58 s ((onN Kn58 (blockK 0 (onN (fun s => spec_beTune.C.tidy 14 s (fun s' => runC spec_beTune.C (spec_beTune.O N) N spec_beTune.c15 15 s' spec_beTune.K0)) spec_beTune.K0))) .normal)) (onN Kn58 (blockK 0 (onN (fun s => spec_beTune.C.tidy 14 s (fun s' => runC spec_beTune.C (spec_beTune.O N) N spec_beTune.c15 15 s' spec_beTune.K0)) spec_beTune.K0)))))) (onN (fun s => spec_beTune.C.tidy 58 s ((onN Kn58 (blockK 0 (onN (fun s => spec_beTune.C.tidy 14 s (fun s' => runC spec_beTune.C (spec_beTune.O N) N spec_beTune.c15 15 s' spec_beTune.K0)) spec_beTune.K0))) .normal)) (onN Kn58 (blockK 0 (onN (fun s => spec_beTune.C.tidy 14 s (fun s' => runC spec_beTune.C (spec_beTune.O N) N spec_beTune.c15 15 s' spec_beTune.K0)) spec_beTune.K0))))))))))) (onN (fun s => spec_beTune.C.tidy 29902 s ((onN Kn29902 (blockK 2 (blockK 1 (onN (fun s => spec_beTune.C.tidy 934 s (fun s' => runC spec_beTune.C (spec_beTune.O N) N spec_beTune.c935 935 s' (onN (fun s => spec_beTune.C.tidy 58 s ((onN Kn58 (blockK 0 (onN (fun s => spec_beTune.C.tidy 14 s (fun s' => runC spec_beTune.C (spec_beTune.O N) N spec_beTune.c15 15 s' spec_beTune.K0)) spec_beTune.K0))) .normal)) (onN Kn58 (blockK 0 (onN (fun s => spec_beTune.C.tidy 14 s (fun s' => runC spec_beTune.C (spec_beTune.O N) N spec_beTune.c15 15 s' spec_beTune.K0)) spec_beTune.K0)))))) (onN (fun s => spec_beTune.C.tidy 58 s ((onN Kn58 (blockK 0 (onN (fun s => spec_beTune.C.tidy 14 s (fun s' => runC spec_beTune.C (spec_beTune.O N) N spec_beTune.c15 15 s' spec_beTune.K0)) spec_beTune.K0))) .normal)) (onN Kn58 (blockK 0 (onN (fun s => spec_beTune.C.tidy 14 s (fun s' => runC spec_beTune.C (spec_beTune.O N) N spec_beTune.c15 15 s' spec_beTune.K0)) spec_beTune.K0)))))))) .normal)) (onN Kn29902 (blockK 2 (blockK 1 (onN (fun s => spec_beTune.C.tidy 934 s (fun s' => runC spec_beTune.C (spec_beTune.O N) N spec_beTune.c935 935 s' (onN (fun s => spec_beTune.C.tidy 58 s ((onN Kn58 (blockK 0 (onN (fun s => spec_beTune.C.tidy 14 s (fun s' => runC spec_beTune.C (spec_beTune.O N) N spec_beTune.c15 15 s' spec_beTune.K0)) spec_beTune.K0))) .normal)) (onN Kn58 (blockK 0 (onN (fun s => spec_beTune.C.tidy 14 s (fun s' => runC spec_beTune.C (spec_beTune.O N) N spec_beTune.c15 15 s' spec_beTune.K0)) spec_beTune.K0)))))) (onN (fun s => spec_beTune.C.tidy 58 s ((onN Kn58 (blockK 0 (onN (fun s => spec_beTune.C.tidy 14 s (fun s' => runC spec_beTune.C (spec_beTune.O N) N spec_beTune.c15 15 s' spec_beTune.K0)) spec_beTune.K0))) .normal)) (onN Kn58 (blockK 0 (onN (fun s => spec_beTune.C.tidy 14 s (fun s' => runC spec_beTune.C (spec_beTune.O N) N spec_beTune.c15 15 s' spec_beTune.K0)) spec_beTune.K0))))))))))))) ((fun w0 w1 w2 => Kn58 (mkSt [(10, .one (.sl false 9 w0)), (11, .one (.int .i64 w1)), (12, .one (.int .i64 w2))] [] : St D0))) := by kernel_rfl
noncomputable def spec_beTune.B478436 (N : Nat) (Kn58 : St D0 → Option spec_beTune.R) (Kn29902 : St D0 → Option spec_beTune.R) : St D0 → Option spec_beTune.R := fun s' => runC spec_beTune.C (spec_beTune.O N) N spec_beTune.c956873 956873 s' (spec_beTune.K956873 N Kn58 Kn29902)
noncomputable def spec_beTune.d2 (N : Nat) (v0 : ByteArray) (v1 : Int) (v2 : List ByteArray) (v3 : Int) (v4 : Int) (c1 : (List ByteArray) → Int → Int → Option spec_beTune.R) (c2 : ByteArray → Int → (List ByteArray) → Int → Int → Option spec_beTune.R) : Option spec_beTune.R := spec_beTune.o2 N v0 v1 v2 v3 v4 ((fun w0 w1 w2 w3 w4 w5 => spec_beTune.d3 N w0 w1 w2 w3 w4 w5 c2)) c1
theorem spec_beTune.c59804_2 : spec_beTune.c59804 = (.seq spec_beTune.c119608 (.seq (.block 3 (.seq spec_beTune.c956872 spec_beTune.c956873)) spec_beTune.c239219)) := by kernel_rfl
theorem spec_beTune.d2.run (N : Nat) (Kn58 : St D0 → Option spec_beTune.R) (Kn29902 : St D0 → Option spec_beTune.R) (v0 : ByteArray) (v1 : Int) (v2 : List ByteArray) (v3 : Int) (v4 : Int) : runC spec_beTune.C (spec_beTune.O N) N spec_beTune.c59804 59804 (mkSt [(4, .one (.str v0)), (5, .one (.int .i64 v1)), (10, .one (.sl false 9 v2)), (11, .one (.int .i64 v3)), (12, .one (.int .i64 v4))] [] : St D0) (spec_beTune.K59804 N Kn58 Kn29902) = spec_beTune.d2 N v0 v1 v2 v3 v4 ((fun w0 w1 w2 => Kn58 (mkSt [(10, .one (.sl false 9 w0)), (11, .one (.int .i64 w1)), (12, .one (.int .i64 w2))] [] : St D0))) ((fun w0 w1 w2 w3 w4 => Kn29902 (mkSt [(4, .one (.str w0)), (5, .one (.int .i64 w1)), (10, .one (.sl false 9 w2)), (11, .one (.int .i64 w3)), (12, .one (.int .i64 w4))] [] : St D0))) := by
  rw [spec_beTune.c59804_2]; unfold spec_beTune.d2; exact (spec_beTune.o2.run N Kn58 Kn29902 spec_beTune.c956873 v0 v1 v2 v3 v4).trans (congr (congr rfl (funext fun w0 => funext fun w1 => funext fun w2 => funext fun w3 => funext fun w4 => funext fun w5 => spec_beTune.d3.run N Kn58 Kn29902 w0 w1 w2 w3 w4 w5)) rfl)
noncomputable def spec_beTune.K29902 (N : Nat) (Kn58 : St D0 → Option spec_beTune.R) : Ex → St D0 → Option spec_beTune.R := (blockK 2 (blockK 1 (onN (fun s => spec_beTune.C.tidy 934 s (fun s' => runC spec_beTune.C (spec_beTune.O N) N spec_beTune.c935 935 s' (onN (fun s => spec_beTune.C.tidy 58 s ((onN Kn58 (blockK 0 (onN (fun s => spec_beTune.C.tidy 14 s (fun s' => runC spec_beTune.C (spec_beTune.O N) N spec_beTune.c15 15 s' spec_beTune.K0)) spec_beTune.K0))) .normal)) (onN Kn58 (blockK 0 (onN (fun s => spec_beTune.C.tidy 14 s (fun s' => runC spec_beTune.C (spec_beTune.O N) N spec_beTune.c15 15 s' spec_beTune.K0)) spec_beTune.K0)))))) (onN (fun s => spec_beTune.C.tidy 58 s ((onN Kn58 (blockK 0 (onN (fun s => spec_beTune.C.tidy 14 s (fun s' => runC spec_beTune.C (spec_beTune.O N) N spec_beTune.c15 15 s' spec_beTune.K0)) spec_beTune.K0))) .normal)) (onN Kn58 (blockK 0 (onN (fun s => spec_beTune.C.tidy 14 s (fun s' => runC spec_beTune.C (spec_beTune.O N) N spec_beTune.c15 15 s' spec_beTune.K0)) spec_beTune.K0)))))))
noncomputable def spec_beTune.l2 (N : Nat) : Nat → ByteArray → Int → (List ByteArray) → Int → Int → ((List ByteArray) → Int → Int → Option spec_beTune.R) → Option spec_beTune.R
  | 0, _, _, _, _, _, _ => none
  | n + 1, v0, v1, v2, v3, v4, c1 => spec_beTune.d2 N v0 v1 v2 v3 v4 c1 ((fun w0 w1 w2 w3 w4 => spec_beTune.l2 N n w0 w1 w2 w3 w4 c1))
theorem spec_beTune.loop29902 (N : Nat) (Kn58 : St D0 → Option spec_beTune.R) : ∀ n, (∀ (v0 : ByteArray) (v1 : Int) (v2 : List ByteArray) (v3 : Int) (v4 : Int), iter (loopF spec_beTune.C (spec_beTune.O N) N spec_beTune.c59804 29902) n (mkSt [(4, .one (.str v0)), (5, .one (.int .i64 v1)), (10, .one (.sl false 9 v2)), (11, .one (.int .i64 v3)), (12, .one (.int .i64 v4))] [] : St D0) (spec_beTune.K29902 N Kn58) = spec_beTune.l2 N n v0 v1 v2 v3 v4 ((fun w0 w1 w2 => Kn58 (mkSt [(10, .one (.sl false 9 w0)), (11, .one (.int .i64 w1)), (12, .one (.int .i64 w2))] [] : St D0))))
  | 0 => (fun v0 v1 v2 v3 v4 => rfl)
  | n + 1 => (fun v0 v1 v2 v3 v4 => (spec_beTune.d2.run N Kn58 (fun s => iter (loopF spec_beTune.C (spec_beTune.O N) N spec_beTune.c59804 29902) n s (spec_beTune.K29902 N Kn58)) v0 v1 v2 v3 v4).trans (show _ = spec_beTune.d2 N v0 v1 v2 v3 v4 ((fun w0 w1 w2 => Kn58 (mkSt [(10, .one (.sl false 9 w0)), (11, .one (.int .i64 w1)), (12, .one (.int .i64 w2))] [] : St D0))) ((fun w0 w1 w2 w3 w4 => spec_beTune.l2 N n w0 w1 w2 w3 w4 ((fun w0 w1 w2 => Kn58 (mkSt [(10, .one (.sl false 9 w0)), (11, .one (.int .i64 w1)), (12, .one (.int .i64 w2))] [] : St D0))))) from (congr (congr rfl rfl) (funext fun w0 => funext fun w1 => funext fun w2 => funext fun w3 => funext fun w4 => (spec_beTune.loop29902 N Kn58 n) w0 w1 w2 w3 w4))))
noncomputable def spec_beTune.K116 (N : Nat) (Kn58 : St D0 → Option spec_beTune.R) : Ex → St D0 → Option spec_beTune.R := (onN (fun s => spec_beTune.C.tidy 58 s ((onN Kn58 (blockK 0 (onN (fun s => spec_beTune.C.tidy 14 s (fun s' => runC spec_beTune.C (spec_beTune.O N) N spec_beTune.c15 15 s' spec_beTune.K0)) spec_beTune.K0))) .normal)) (onN Kn58 (blockK 0 (onN (fun s => spec_beTune.C.tidy 14 s (fun s' => runC spec_beTune.C (spec_beTune.O N) N spec_beTune.c15 15 s' spec_beTune.K0)) spec_beTune.K0))))
noncomputable def spec_beTune.o1 (N : Nat) (v0 : List ByteArray) (v1 : Int) (v2 : Int) (c2 : ByteArray → Int → (List ByteArray) → Int → Int → Option spec_beTune.R) : Option spec_beTune.R :=
 bif (decide (v2 < v1)) then
  bif (decide (0 ≤ v2)) then
   bif (decide (v2 < (v0.length : Int))) then
    (v0[(v2 : Int).toNat]?).bind fun x1 =>
    (spec_l1In.g N (x1.size : Int) 1 8).bind fun r2 =>
    bif (!r2) then
     some (false)
    else
    c2 x1 0 v0 v1 v2
   else
   none
  else
  none
 else
 some (true)
theorem spec_beTune.o1.run (N : Nat) (Kn58 : St D0 → Option spec_beTune.R) (H59804 : Code) (v0 : List ByteArray) (v1 : Int) (v2 : Int) : runC spec_beTune.C (spec_beTune.O N) N (.seq spec_beTune.c232 (.seq spec_beTune.c466 (.seq (.block 1 (.seq spec_beTune.c3736 (.seq spec_beTune.c7474 (.seq spec_beTune.c14950 (.block 2 (.loop H59804)))))) spec_beTune.c935))) 116 (mkSt [(10, .one (.sl false 9 v0)), (11, .one (.int .i64 v1)), (12, .one (.int .i64 v2))] [] : St D0) (onN (fun s => spec_beTune.C.tidy 58 s ((onN Kn58 (blockK 0 (onN (fun s => spec_beTune.C.tidy 14 s (fun s' => runC spec_beTune.C (spec_beTune.O N) N spec_beTune.c15 15 s' spec_beTune.K0)) spec_beTune.K0))) .normal)) (onN Kn58 (blockK 0 (onN (fun s => spec_beTune.C.tidy 14 s (fun s' => runC spec_beTune.C (spec_beTune.O N) N spec_beTune.c15 15 s' spec_beTune.K0)) spec_beTune.K0)))) = spec_beTune.o1 N v0 v1 v2 ((fun w0 w1 w2 w3 w4 => iter (loopF spec_beTune.C (spec_beTune.O N) N H59804 29902) N (mkSt [(4, .one (.str w0)), (5, .one (.int .i64 w1)), (10, .one (.sl false 9 w2)), (11, .one (.int .i64 w3)), (12, .one (.int .i64 w4))] [] : St D0) (blockK 2 (blockK 1 (onN (fun s => spec_beTune.C.tidy 934 s (fun s' => runC spec_beTune.C (spec_beTune.O N) N spec_beTune.c935 935 s' (onN (fun s => spec_beTune.C.tidy 58 s ((onN Kn58 (blockK 0 (onN (fun s => spec_beTune.C.tidy 14 s (fun s' => runC spec_beTune.C (spec_beTune.O N) N spec_beTune.c15 15 s' spec_beTune.K0)) spec_beTune.K0))) .normal)) (onN Kn58 (blockK 0 (onN (fun s => spec_beTune.C.tidy 14 s (fun s' => runC spec_beTune.C (spec_beTune.O N) N spec_beTune.c15 15 s' spec_beTune.K0)) spec_beTune.K0)))))) (onN (fun s => spec_beTune.C.tidy 58 s ((onN Kn58 (blockK 0 (onN (fun s => spec_beTune.C.tidy 14 s (fun s' => runC spec_beTune.C (spec_beTune.O N) N spec_beTune.c15 15 s' spec_beTune.K0)) spec_beTune.K0))) .normal)) (onN Kn58 (blockK 0 (onN (fun s => spec_beTune.C.tidy 14 s (fun s' => runC spec_beTune.C (spec_beTune.O N) N spec_beTune.c15 15 s' spec_beTune.K0)) spec_beTune.K0))))))))) := by kernel_rfl
noncomputable def spec_beTune.d1 (N : Nat) (v0 : List ByteArray) (v1 : Int) (v2 : Int) (c1 : (List ByteArray) → Int → Int → Option spec_beTune.R) : Option spec_beTune.R := spec_beTune.o1 N v0 v1 v2 ((fun w0 w1 w2 w3 w4 => spec_beTune.l2 N N w0 w1 w2 w3 w4 c1))
theorem spec_beTune.c116_1 : spec_beTune.c116 = (.seq spec_beTune.c232 (.seq spec_beTune.c466 (.seq (.block 1 (.seq spec_beTune.c3736 (.seq spec_beTune.c7474 (.seq spec_beTune.c14950 (.block 2 (.loop spec_beTune.c59804)))))) spec_beTune.c935))) := by kernel_rfl
theorem spec_beTune.d1.run (N : Nat) (Kn58 : St D0 → Option spec_beTune.R) (v0 : List ByteArray) (v1 : Int) (v2 : Int) : runC spec_beTune.C (spec_beTune.O N) N spec_beTune.c116 116 (mkSt [(10, .one (.sl false 9 v0)), (11, .one (.int .i64 v1)), (12, .one (.int .i64 v2))] [] : St D0) (spec_beTune.K116 N Kn58) = spec_beTune.d1 N v0 v1 v2 ((fun w0 w1 w2 => Kn58 (mkSt [(10, .one (.sl false 9 w0)), (11, .one (.int .i64 w1)), (12, .one (.int .i64 w2))] [] : St D0))) := by
  rw [spec_beTune.c116_1]; unfold spec_beTune.d1; exact (spec_beTune.o1.run N Kn58 spec_beTune.c59804 v0 v1 v2).trans (congr rfl (funext fun w0 => funext fun w1 => funext fun w2 => funext fun w3 => funext fun w4 => (spec_beTune.loop29902 N Kn58 N) w0 w1 w2 w3 w4))
noncomputable def spec_beTune.K58 (N : Nat) : Ex → St D0 → Option spec_beTune.R := (blockK 0 (onN (fun s => spec_beTune.C.tidy 14 s (fun s' => runC spec_beTune.C (spec_beTune.O N) N spec_beTune.c15 15 s' spec_beTune.K0)) spec_beTune.K0))
noncomputable def spec_beTune.l1 (N : Nat) : Nat → (List ByteArray) → Int → Int → Option spec_beTune.R
  | 0, _, _, _ => none
  | n + 1, v0, v1, v2 => spec_beTune.d1 N v0 v1 v2 ((fun w0 w1 w2 => spec_beTune.l1 N n w0 w1 w2))
theorem spec_beTune.loop58 (N : Nat) : ∀ n, (∀ (v0 : List ByteArray) (v1 : Int) (v2 : Int), iter (loopF spec_beTune.C (spec_beTune.O N) N spec_beTune.c116 58) n (mkSt [(10, .one (.sl false 9 v0)), (11, .one (.int .i64 v1)), (12, .one (.int .i64 v2))] [] : St D0) (spec_beTune.K58 N) = spec_beTune.l1 N n v0 v1 v2)
  | 0 => (fun v0 v1 v2 => rfl)
  | n + 1 => (fun v0 v1 v2 => (spec_beTune.d1.run N (fun s => iter (loopF spec_beTune.C (spec_beTune.O N) N spec_beTune.c116 58) n s (spec_beTune.K58 N)) v0 v1 v2).trans (show _ = spec_beTune.d1 N v0 v1 v2 ((fun w0 w1 w2 => spec_beTune.l1 N n w0 w1 w2)) from (congr rfl (funext fun w0 => funext fun w1 => funext fun w2 => (spec_beTune.loop58 N n) w0 w1 w2))))
noncomputable def spec_beTune.o0 (N : Nat) (a0 : List ByteArray) (c1 : (List ByteArray) → Int → Int → Option spec_beTune.R) : Option spec_beTune.R :=
 (spec_l1In.g N (a0.length : Int) 1 12).bind fun r1 =>
 bif (!r1) then
  some (false)
 else
 c1 a0 (a0.length : Int) 0
theorem spec_beTune.o0.run (N : Nat) (H116 : Code) (a0 : List ByteArray) : runC spec_beTune.C (spec_beTune.O N) N (.seq spec_beTune.c2 (.seq spec_beTune.c6 (.seq (.seq spec_beTune.c28 (.block 0 (.loop H116))) spec_beTune.c15))) 1 (st0 [.one (.sl false 9 a0)] [] : St D0) spec_beTune.K0 = spec_beTune.o0 N a0 ((fun w0 w1 w2 => iter (loopF spec_beTune.C (spec_beTune.O N) N H116 58) N (mkSt [(10, .one (.sl false 9 w0)), (11, .one (.int .i64 w1)), (12, .one (.int .i64 w2))] [] : St D0) (blockK 0 (onN (fun s => spec_beTune.C.tidy 14 s (fun s' => runC spec_beTune.C (spec_beTune.O N) N spec_beTune.c15 15 s' spec_beTune.K0)) spec_beTune.K0)))) := by kernel_rfl
noncomputable def spec_beTune.g (N : Nat) (a0 : List ByteArray) : Option spec_beTune.R := spec_beTune.o0 N a0 ((fun w0 w1 w2 => spec_beTune.l1 N N w0 w1 w2))
theorem spec_beTune.c1_0 : spec_beTune.c1 = (.seq spec_beTune.c2 (.seq spec_beTune.c6 (.seq (.seq spec_beTune.c28 (.block 0 (.loop spec_beTune.c116))) spec_beTune.c15))) := by kernel_rfl
theorem spec_beTune.g.run (N : Nat) (a0 : List ByteArray) : runC spec_beTune.C (spec_beTune.O N) N spec_beTune.c1 1 (st0 [.one (.sl false 9 a0)] [] : St D0) spec_beTune.K0 = spec_beTune.g N a0 := by
  rw [spec_beTune.c1_0]; unfold spec_beTune.g; exact (spec_beTune.o0.run N spec_beTune.c116 a0).trans (congr rfl (funext fun w0 => funext fun w1 => funext fun w2 => (spec_beTune.loop58 N N) w0 w1 w2))
theorem spec_beTune.good (N : Nat) (a0 : List ByteArray) (r : spec_beTune.R) (h : spec_beTune.g N a0 = some r) : Go.PM.Good Go.Proofs.Try.prog T0 43 [.one (.sl false 9 a0)] [] (spec_beTune.sig.ret r) (spec_beTune.sig.bs r) :=
  good_fn tabOk0 mixed0 spec_beTune.sig (spec_beTune.E N) Go.Proofs.Try.func43 (by kernel_rfl) (by kernel_rfl) 34368667189 0 0 [(58, [10, 11, 12], []), (29902, [4, 5, 10, 11, 12], []), (956872, [4, 5, 10, 11, 12, 35], [])] 6663766080 false [] [(false, [.any])] (by kernel_rfl) rfl rfl ((spec_beTune.g.run N a0).trans h)
noncomputable def spec_beTune.ent (N : Nat) : Ent Go.Proofs.Try.prog T0 := mkEnt 43 [(false, [.ro 9])] spec_beTune.sig (fun t => spec_beTune.g N t) (fun t r h => spec_beTune.good N t r h)
end Go.Proofs.Ytpmipkbfohcjiaa.M

namespace Go.Proofs.Ytpmipkbfohcjiaa.M
open Go Go.PM Go.Proofs.Ytpmipkbfohcjiaa.P
set_option linter.unusedVariables false
set_option maxRecDepth 100000
/-! ### spec_IsTune -/
abbrev spec_IsTune.R : Type := Bool
abbrev spec_IsTune.sig : Sig := ⟨[(false, 1)], [], [.sl false 9], [(false, 1)], [], [.bool]⟩
noncomputable def spec_IsTune.C : Cfg D0 := ⟨Go.Proofs.Try.prog, T0, 5, 0, 5, 0, [], 8, false, []⟩
noncomputable def spec_IsTune.E (N : Nat) : List (Ent Go.Proofs.Try.prog T0) := [spec_beTune.ent N]
noncomputable def spec_IsTune.O (N : Nat) : Orc D0 spec_IsTune.R := orcOf (spec_IsTune.E N)
noncomputable def spec_IsTune.K0 : Ex → St D0 → Option spec_IsTune.R := exitK spec_IsTune.C Go.Proofs.Try.f22.results.toList [(false, [.any])] (decOut spec_IsTune.sig)
noncomputable def spec_IsTune.c1 : Code := codeAt (Go.Proofs.Try.f22.body.getD .skip) []
noncomputable def spec_IsTune.o0 (N : Nat) (a0 : List ByteArray) : Option spec_IsTune.R :=
 (spec_beTune.g N a0).bind fun r1 =>
 some (r1)
theorem spec_IsTune.o0.run (N : Nat) (a0 : List ByteArray) : runC spec_IsTune.C (spec_IsTune.O N) N spec_IsTune.c1 1 (st0 [.one (.sl false 9 a0)] [] : St D0) spec_IsTune.K0 = spec_IsTune.o0 N a0 := by kernel_rfl
noncomputable def spec_IsTune.g (N : Nat) (a0 : List ByteArray) : Option spec_IsTune.R := spec_IsTune.o0 N a0
theorem spec_IsTune.g.run (N : Nat) (a0 : List ByteArray) : runC spec_IsTune.C (spec_IsTune.O N) N spec_IsTune.c1 1 (st0 [.one (.sl false 9 a0)] [] : St D0) spec_IsTune.K0 = spec_IsTune.g N a0 := by
  exact (spec_IsTune.o0.run N a0).trans rfl
theorem spec_IsTune.good (N : Nat) (a0 : List ByteArray) (r : spec_IsTune.R) (h : spec_IsTune.g N a0 = some r) : Go.PM.Good Go.Proofs.Try.prog T0 22 [.one (.sl false 9 a0)] [] (spec_IsTune.sig.ret r) (spec_IsTune.sig.bs r) :=
  good_fn tabOk0 mixed0 spec_IsTune.sig (spec_IsTune.E N) Go.Proofs.Try.func22 (by kernel_rfl) (by kernel_rfl) 5 0 0 [] 8 false [] [(false, [.any])] (by kernel_rfl) rfl rfl ((spec_IsTune.g.run N a0).trans h)
noncomputable def spec_IsTune.ent (N : Nat) : Ent Go.Proofs.Try.prog T0 := mkEnt 22 [(false, [.ro 9])] spec_IsTune.sig (fun t => spec_IsTune.g N t) (fun t r h => spec_IsTune.good N t r h)
end Go.Proofs.Ytpmipkbfohcjiaa.M

namespace Go.Proofs.Ytpmipkbfohcjiaa.M
open Go Go.PM Go.Proofs.Ytpmipkbfohcjiaa.P
set_option linter.unusedVariables false
set_option maxRecDepth 100000
/-! ### impl_isQuarter -/
abbrev impl_isQuarter.R : Type := Bool
abbrev impl_isQuarter.sig : Sig := ⟨[(false, 1), (false, 1)], [], [.sl false 9, .int .i64], [(false, 1)], [], [.bool]⟩
noncomputable def impl_isQuarter.C : Cfg D0 := ⟨Go.Proofs.Try.prog, T0, 19, 0, 11, 0, [], 288, false, []⟩
noncomputable def impl_isQuarter.E (N : Nat) : List (Ent Go.Proofs.Try.prog T0) := [impl_IsTune.ent N, impl_within.ent N]
noncomputable def impl_isQuarter.O (N : Nat) : Orc D0 impl_isQuarter.R := orcOf (impl_isQuarter.E N)
noncomputable def impl_isQuarter.K0 : Ex → St D0 → Option impl_isQuarter.R := exitK impl_isQuarter.C Go.Proofs.Try.f31.results.toList [(false, [.any])] (decOut impl_isQuarter.sig)
noncomputable def impl_isQuarter.c1 : Code := codeAt (Go.Proofs.Try.f31.body.getD .skip) []
noncomputable def impl_isQuarter.o0 (N : Nat) (a0 : List ByteArray) (a1 : Int) : Option impl_isQuarter.R :=
 (impl_IsTune.g N a0).bind fun r1 =>
 bif r1 then
  (impl_within.g N a1 0 1000000).bind fun r2 =>
  some (r2)
 else
 some (false)
theorem impl_isQuarter.o0.run (N : Nat) (a0 : List ByteArray) (a1 : Int) : runC impl_isQuarter.C (impl_isQuarter.O N) N impl_isQuarter.c1 1 (st0 [.one (.sl false 9 a0), .one (.int .i64 a1)] [] : St D0) impl_isQuarter.K0 = impl_isQuarter.o0 N a0 a1 := by kernel_rfl
noncomputable def impl_isQuarter.g (N : Nat) (a0 : List ByteArray) (a1 : Int) : Option impl_isQuarter.R := impl_isQuarter.o0 N a0 a1
theorem impl_isQuarter.g.run (N : Nat) (a0 : List ByteArray) (a1 : Int) : runC impl_isQuarter.C (impl_isQuarter.O N) N impl_isQuarter.c1 1 (st0 [.one (.sl false 9 a0), .one (.int .i64 a1)] [] : St D0) impl_isQuarter.K0 = impl_isQuarter.g N a0 a1 := by
  exact (impl_isQuarter.o0.run N a0 a1).trans rfl
theorem impl_isQuarter.good (N : Nat) (a0 : List ByteArray) (a1 : Int) (r : impl_isQuarter.R) (h : impl_isQuarter.g N a0 a1 = some r) : Go.PM.Good Go.Proofs.Try.prog T0 31 [.one (.sl false 9 a0), .one (.int .i64 a1)] [] (impl_isQuarter.sig.ret r) (impl_isQuarter.sig.bs r) :=
  good_fn tabOk0 mixed0 impl_isQuarter.sig (impl_isQuarter.E N) Go.Proofs.Try.func31 (by kernel_rfl) (by kernel_rfl) 19 0 0 [] 288 false [] [(false, [.any])] (by kernel_rfl) rfl rfl ((impl_isQuarter.g.run N a0 a1).trans h)
noncomputable def impl_isQuarter.ent (N : Nat) : Ent Go.Proofs.Try.prog T0 := mkEnt 31 [(false, [.ro 9]), (false, [.any])] impl_isQuarter.sig (fun t => impl_isQuarter.g N t.1 t.2) (fun t r h => impl_isQuarter.good N t.1 t.2 r h)
end Go.Proofs.Ytpmipkbfohcjiaa.M

namespace Go.Proofs.Ytpmipkbfohcjiaa.M
open Go Go.PM Go.Proofs.Ytpmipkbfohcjiaa.P
set_option linter.unusedVariables false
set_option maxRecDepth 100000
/-! ### spec_beAsked -/
abbrev spec_beAsked.R : Type := Bool
abbrev spec_beAsked.sig : Sig := ⟨[(false, 1), (false, 1)], [], [.sl false 9, .int .i64], [(false, 1)], [], [.bool]⟩
noncomputable def spec_beAsked.C : Cfg D0 := ⟨Go.Proofs.Try.prog, T0, 19, 0, 11, 0, [], 288, false, []⟩
noncomputable def spec_beAsked.E (N : Nat) : List (Ent Go.Proofs.Try.prog T0) := [spec_beTune.ent N, spec_l1In.ent N]
noncomputable def spec_beAsked.O (N : Nat) : Orc D0 spec_beAsked.R := orcOf (spec_beAsked.E N)
noncomputable def spec_beAsked.K0 : Ex → St D0 → Option spec_beAsked.R := exitK spec_beAsked.C Go.Proofs.Try.f33.results.toList [(false, [.any])] (decOut spec_beAsked.sig)
noncomputable def spec_beAsked.c1 : Code := codeAt (Go.Proofs.Try.f33.body.getD .skip) []
noncomputable def spec_beAsked.o0 (N : Nat) (a0 : List ByteArray) (a1 : Int) : Option spec_beAsked.R :=
 (spec_beTune.g N a0).bind fun r1 =>
 bif r1 then
  (spec_l1In.g N a1 0 1000000).bind fun r2 =>
  some (r2)
 else
 some (false)
theorem spec_beAsked.o0.run (N : Nat) (a0 : List ByteArray) (a1 : Int) : runC spec_beAsked.C (spec_beAsked.O N) N spec_beAsked.c1 1 (st0 [.one (.sl false 9 a0), .one (.int .i64 a1)] [] : St D0) spec_beAsked.K0 = spec_beAsked.o0 N a0 a1 := by kernel_rfl
noncomputable def spec_beAsked.g (N : Nat) (a0 : List ByteArray) (a1 : Int) : Option spec_beAsked.R := spec_beAsked.o0 N a0 a1
theorem spec_beAsked.g.run (N : Nat) (a0 : List ByteArray) (a1 : Int) : runC spec_beAsked.C (spec_beAsked.O N) N spec_beAsked.c1 1 (st0 [.one (.sl false 9 a0), .one (.int .i64 a1)] [] : St D0) spec_beAsked.K0 = spec_beAsked.g N a0 a1 := by
  exact (spec_beAsked.o0.run N a0 a1).trans rfl
theorem spec_beAsked.good (N : Nat) (a0 : List ByteArray) (a1 : Int) (r : spec_beAsked.R) (h : spec_beAsked.g N a0 a1 = some r) : Go.PM.Good Go.Proofs.Try.prog T0 33 [.one (.sl false 9 a0), .one (.int .i64 a1)] [] (spec_beAsked.sig.ret r) (spec_beAsked.sig.bs r) :=
  good_fn tabOk0 mixed0 spec_beAsked.sig (spec_beAsked.E N) Go.Proofs.Try.func33 (by kernel_rfl) (by kernel_rfl) 19 0 0 [] 288 false [] [(false, [.any])] (by kernel_rfl) rfl rfl ((spec_beAsked.g.run N a0 a1).trans h)
noncomputable def spec_beAsked.ent (N : Nat) : Ent Go.Proofs.Try.prog T0 := mkEnt 33 [(false, [.ro 9]), (false, [.any])] spec_beAsked.sig (fun t => spec_beAsked.g N t.1 t.2) (fun t r h => spec_beAsked.good N t.1 t.2 r h)
end Go.Proofs.Ytpmipkbfohcjiaa.M

namespace Go.Proofs.Ytpmipkbfohcjiaa.M
open Go Go.PM Go.Proofs.Ytpmipkbfohcjiaa.P
set_option linter.unusedVariables false
set_option maxRecDepth 100000
/-! ### impl_isBell -/
abbrev impl_isBell.R : Type := Bool
abbrev impl_isBell.sig : Sig := ⟨[(false, 1)], [], [.int .i64], [(false, 1)], [], [.bool]⟩
noncomputable def impl_isBell.C : Cfg D0 := ⟨Go.Proofs.Try.prog, T0, 5, 0, 5, 0, [], 8, false, []⟩
noncomputable def impl_isBell.E (N : Nat) : List (Ent Go.Proofs.Try.prog T0) := [impl_within.ent N]
noncomputable def impl_isBell.O (N : Nat) : Orc D0 impl_isBell.R := orcOf (impl_isBell.E N)
noncomputable def impl_isBell.K0 : Ex → St D0 → Option impl_isBell.R := exitK impl_isBell.C Go.Proofs.Try.f51.results.toList [(false, [.any])] (decOut impl_isBell.sig)
noncomputable def impl_isBell.c1 : Code := codeAt (Go.Proofs.Try.f51.body.getD .skip) []
noncomputable def impl_isBell.o0 (N : Nat) (a0 : Int) : Option impl_isBell.R :=
 (impl_within.g N a0 1 8).bind fun r1 =>
 some (r1)
theorem impl_isBell.o0.run (N : Nat) (a0 : Int) : runC impl_isBell.C (impl_isBell.O N) N impl_isBell.c1 1 (st0 [.one (.int .i64 a0)] [] : St D0) impl_isBell.K0 = impl_isBell.o0 N a0 := by kernel_rfl
noncomputable def impl_isBell.g (N : Nat) (a0 : Int) : Option impl_isBell.R := impl_isBell.o0 N a0
theorem impl_isBell.g.run (N : Nat) (a0 : Int) : runC impl_isBell.C (impl_isBell.O N) N impl_isBell.c1 1 (st0 [.one (.int .i64 a0)] [] : St D0) impl_isBell.K0 = impl_isBell.g N a0 := by
  exact (impl_isBell.o0.run N a0).trans rfl
theorem impl_isBell.good (N : Nat) (a0 : Int) (r : impl_isBell.R) (h : impl_isBell.g N a0 = some r) : Go.PM.Good Go.Proofs.Try.prog T0 51 [.one (.int .i64 a0)] [] (impl_isBell.sig.ret r) (impl_isBell.sig.bs r) :=
  good_fn tabOk0 mixed0 impl_isBell.sig (impl_isBell.E N) Go.Proofs.Try.func51 (by kernel_rfl) (by kernel_rfl) 5 0 0 [] 8 false [] [(false, [.any])] (by kernel_rfl) rfl rfl ((impl_isBell.g.run N a0).trans h)
noncomputable def impl_isBell.ent (N : Nat) : Ent Go.Proofs.Try.prog T0 := mkEnt 51 [(false, [.any])] impl_isBell.sig (fun t => impl_isBell.g N t) (fun t r h => impl_isBell.good N t r h)
end Go.Proofs.Ytpmipkbfohcjiaa.M

namespace Go.Proofs.Ytpmipkbfohcjiaa.M
open Go Go.PM Go.Proofs.Ytpmipkbfohcjiaa.P
set_option linter.unusedVariables false
set_option maxRecDepth 100000
/-! ### spec_beIs -/
abbrev spec_beIs.R : Type := Bool
abbrev spec_beIs.sig : Sig := ⟨[(false, 1)], [], [.int .i64], [(false, 1)], [], [.bool]⟩
noncomputable def spec_beIs.C : Cfg D0 := ⟨Go.Proofs.Try.prog, T0, 5, 0, 5, 0, [], 8, false, []⟩
noncomputable def spec_beIs.E (N : Nat) : List (Ent Go.Proofs.Try.prog T0) := [spec_l1In.ent N]
noncomputable def spec_beIs.O (N : Nat) : Orc D0 spec_beIs.R := orcOf (spec_beIs.E N)
noncomputable def spec_beIs.K0 : Ex → St D0 → Option spec_beIs.R := exitK spec_beIs.C Go.Proofs.Try.f57.results.toList [(false, [.any])] (decOut spec_beIs.sig)
noncomputable def spec_beIs.c1 : Code := codeAt (Go.Proofs.Try.f57.body.getD .skip) []
noncomputable def spec_beIs.o0 (N : Nat) (a0 : Int) : Option spec_beIs.R :=
 (spec_l1In.g N a0 1 8).bind fun r1 =>
 some (r1)
theorem spec_beIs.o0.run (N : Nat) (a0 : Int) : runC spec_beIs.C (spec_beIs.O N) N spec_beIs.c1 1 (st0 [.one (.int .i64 a0)] [] : St D0) spec_beIs.K0 = spec_beIs.o0 N a0 := by kernel_rfl
noncomputable def spec_beIs.g (N : Nat) (a0 : Int) : Option spec_beIs.R := spec_beIs.o0 N a0
theorem spec_beIs.g.run (N : Nat) (a0 : Int) : runC spec_beIs.C (spec_beIs.O N) N spec_beIs.c1 1 (st0 [.one (.int .i64 a0)] [] : St D0) spec_beIs.K0 = spec_beIs.g N a0 := by
  exact (spec_beIs.o0.run N a0).trans rfl
theorem spec_beIs.good (N : Nat) (a0 : Int) (r : spec_beIs.R) (h : spec_beIs.g N a0 = some r) : Go.PM.Good Go.Proofs.Try.prog T0 57 [.one (.int .i64 a0)] [] (spec_beIs.sig.ret r) (spec_beIs.sig.bs r) :=
  good_fn tabOk0 mixed0 spec_beIs.sig (spec_beIs.E N) Go.Proofs.Try.func57 (by kernel_rfl) (by kernel_rfl) 5 0 0 [] 8 false [] [(false, [.any])] (by kernel_rfl) rfl rfl ((spec_beIs.g.run N a0).trans h)
noncomputable def spec_beIs.ent (N : Nat) : Ent Go.Proofs.Try.prog T0 := mkEnt 57 [(false, [.any])] spec_beIs.sig (fun t => spec_beIs.g N t) (fun t r h => spec_beIs.good N t r h)
end Go.Proofs.Ytpmipkbfohcjiaa.M

namespace Go.Proofs.Ytpmipkbfohcjiaa.M
open Go Go.PM Go.Proofs.Ytpmipkbfohcjiaa.P
set_option linter.unusedVariables false
set_option maxRecDepth 100000
/-! ### impl_played -/
abbrev impl_played.R : Type := Int
abbrev impl_played.sig : Sig := ⟨[(false, 1)], [], [.int .i64], [(false, 1)], [], [.int .i64]⟩
noncomputable def impl_played.C : Cfg D0 := ⟨Go.Proofs.Try.prog, T0, 13, 0, 15, 0, [], 1616, false, []⟩
noncomputable def impl_played.E (N : Nat) : List (Ent Go.Proofs.Try.prog T0) := []
noncomputable def impl_played.O (N : Nat) : Orc D0 impl_played.R := orcOf (impl_played.E N)
noncomputable def impl_played.K0 : Ex → St D0 → Option impl_played.R := exitK impl_played.C Go.Proofs.Try.f37.results.toList [(false, [.any])] (decOut impl_played.sig)
noncomputable def impl_played.c1 : Code := codeAt (Go.Proofs.Try.f37.body.getD .skip) []
noncomputable def impl_played.o0 (N : Nat) (a0 : Int) : Option impl_played.R :=
 some ((w64 ((w64 ((w64 (Int.tdiv a0 4)) * 10)) + (w64 (Int.tdiv (w64 ((Int.tmod a0 4) * (w64 ((Int.tmod a0 4) + 1)))) 2)))))
theorem impl_played.o0.run (N : Nat) (a0 : Int) : runC impl_played.C (impl_played.O N) N impl_played.c1 1 (st0 [.one (.int .i64 a0)] [] : St D0) impl_played.K0 = impl_played.o0 N a0 := by kernel_rfl
noncomputable def impl_played.g (N : Nat) (a0 : Int) : Option impl_played.R := impl_played.o0 N a0
theorem impl_played.g.run (N : Nat) (a0 : Int) : runC impl_played.C (impl_played.O N) N impl_played.c1 1 (st0 [.one (.int .i64 a0)] [] : St D0) impl_played.K0 = impl_played.g N a0 := by
  exact (impl_played.o0.run N a0).trans rfl
theorem impl_played.good (N : Nat) (a0 : Int) (r : impl_played.R) (h : impl_played.g N a0 = some r) : Go.PM.Good Go.Proofs.Try.prog T0 37 [.one (.int .i64 a0)] [] (impl_played.sig.ret r) (impl_played.sig.bs r) :=
  good_fn tabOk0 mixed0 impl_played.sig (impl_played.E N) Go.Proofs.Try.func37 (by kernel_rfl) (by kernel_rfl) 13 0 0 [] 1616 false [] [(false, [.any])] (by kernel_rfl) rfl rfl ((impl_played.g.run N a0).trans h)
noncomputable def impl_played.ent (N : Nat) : Ent Go.Proofs.Try.prog T0 := mkEnt 37 [(false, [.any])] impl_played.sig (fun t => impl_played.g N t) (fun t r h => impl_played.good N t r h)
end Go.Proofs.Ytpmipkbfohcjiaa.M

namespace Go.Proofs.Ytpmipkbfohcjiaa.M
open Go Go.PM Go.Proofs.Ytpmipkbfohcjiaa.P
set_option linter.unusedVariables false
set_option maxRecDepth 100000
/-! ### spec_beBefore -/
abbrev spec_beBefore.R : Type := Int
abbrev spec_beBefore.sig : Sig := ⟨[(false, 1)], [], [.int .i64], [(false, 1)], [], [.int .i64]⟩
noncomputable def spec_beBefore.C : Cfg D0 := ⟨Go.Proofs.Try.prog, T0, 13, 0, 15, 0, [], 1616, false, []⟩
noncomputable def spec_beBefore.E (N : Nat) : List (Ent Go.Proofs.Try.prog T0) := []
noncomputable def spec_beBefore.O (N : Nat) : Orc D0 spec_beBefore.R := orcOf (spec_beBefore.E N)
noncomputable def spec_beBefore.K0 : Ex → St D0 → Option spec_beBefore.R := exitK spec_beBefore.C Go.Proofs.Try.f38.results.toList [(false, [.any])] (decOut spec_beBefore.sig)
noncomputable def spec_beBefore.c1 : Code := codeAt (Go.Proofs.Try.f38.body.getD .skip) []
noncomputable def spec_beBefore.o0 (N : Nat) (a0 : Int) : Option spec_beBefore.R :=
 some ((w64 ((w64 ((w64 (Int.tdiv a0 4)) * 10)) + (w64 (Int.tdiv (w64 ((Int.tmod a0 4) * (w64 ((Int.tmod a0 4) + 1)))) 2)))))
theorem spec_beBefore.o0.run (N : Nat) (a0 : Int) : runC spec_beBefore.C (spec_beBefore.O N) N spec_beBefore.c1 1 (st0 [.one (.int .i64 a0)] [] : St D0) spec_beBefore.K0 = spec_beBefore.o0 N a0 := by kernel_rfl
noncomputable def spec_beBefore.g (N : Nat) (a0 : Int) : Option spec_beBefore.R := spec_beBefore.o0 N a0
theorem spec_beBefore.g.run (N : Nat) (a0 : Int) : runC spec_beBefore.C (spec_beBefore.O N) N spec_beBefore.c1 1 (st0 [.one (.int .i64 a0)] [] : St D0) spec_beBefore.K0 = spec_beBefore.g N a0 := by
  exact (spec_beBefore.o0.run N a0).trans rfl
theorem spec_beBefore.good (N : Nat) (a0 : Int) (r : spec_beBefore.R) (h : spec_beBefore.g N a0 = some r) : Go.PM.Good Go.Proofs.Try.prog T0 38 [.one (.int .i64 a0)] [] (spec_beBefore.sig.ret r) (spec_beBefore.sig.bs r) :=
  good_fn tabOk0 mixed0 spec_beBefore.sig (spec_beBefore.E N) Go.Proofs.Try.func38 (by kernel_rfl) (by kernel_rfl) 13 0 0 [] 1616 false [] [(false, [.any])] (by kernel_rfl) rfl rfl ((spec_beBefore.g.run N a0).trans h)
noncomputable def spec_beBefore.ent (N : Nat) : Ent Go.Proofs.Try.prog T0 := mkEnt 38 [(false, [.any])] spec_beBefore.sig (fun t => spec_beBefore.g N t) (fun t r h => spec_beBefore.good N t r h)
end Go.Proofs.Ytpmipkbfohcjiaa.M

namespace Go.Proofs.Ytpmipkbfohcjiaa.M
open Go Go.PM Go.Proofs.Ytpmipkbfohcjiaa.P
set_option linter.unusedVariables false
set_option maxRecDepth 100000
/-! ### impl_phrases -/
abbrev impl_phrases.R : Type := List Int
abbrev impl_phrases.sig : Sig := ⟨[(false, 1), (false, 1)], [], [.sl false 9, .int .i64], [(false, 1)], [], [.sl true 3]⟩
noncomputable def impl_phrases.C : Cfg D0 := ⟨Go.Proofs.Try.prog, T0, 16499, 0, 25, 0, [(58, [0, 1, 5, 6], [])], 822528, false, []⟩
noncomputable def impl_phrases.E (N : Nat) : List (Ent Go.Proofs.Try.prog T0) := [impl_played.ent N]
noncomputable def impl_phrases.O (N : Nat) : Orc D0 impl_phrases.R := orcOf (impl_phrases.E N)
noncomputable def impl_phrases.K0 : Ex → St D0 → Option impl_phrases.R := exitK impl_phrases.C Go.Proofs.Try.f35.results.toList [(false, [.own 3])] (decOut impl_phrases.sig)
noncomputable def impl_phrases.c1 : Code := codeAt (Go.Proofs.Try.f35.body.getD .skip) []
noncomputable def impl_phrases.c2 : Code := codeAt (Go.Proofs.Try.f35.body.getD .skip) [false]
noncomputable def impl_phrases.c6 : Code := codeAt (Go.Proofs.Try.f35.body.getD .skip) [true, false]
noncomputable def impl_phrases.c15 : Code := codeAt (Go.Proofs.Try.f35.body.getD .skip) [true, true, true]
noncomputable def impl_phrases.c28 : Code := codeAt (Go.Proofs.Try.f35.body.getD .skip) [true, true, false, false]
noncomputable def impl_phrases.c116 : Code := codeAt (Go.Proofs.Try.f35.body.getD .skip) [true, true, false, true, false, false]
noncomputable def impl_phrases.K116 (N : Nat) (Kn58 : St D0 → Option impl_phrases.R) : Ex → St D0 → Option impl_phrases.R := (onN (fun s => impl_phrases.C.tidy 58 s ((onN Kn58 (blockK 0 (onN (fun s => impl_phrases.C.tidy 14 s (fun s' => runC impl_phrases.C (impl_phrases.O N) N impl_phrases.c15 15 s' impl_phrases.K0)) impl_phrases.K0))) .normal)) (onN Kn58 (blockK 0 (onN (fun s => impl_phrases.C.tidy 14 s (fun s' => runC impl_phrases.C (impl_phrases.O N) N impl_phrases.c15 15 s' impl_phrases.K0)) impl_phrases.K0))))
noncomputable def impl_phrases.o1 (N : Nat) (v0 : List ByteArray) (v1 : Int) (v2 : List Int) (v3 : Int) (c1 : (List ByteArray) → Int → (List Int) → Int → Option impl_phrases.R) : Option impl_phrases.R :=
 (impl_played.g N (w64 (v1 + 1))).bind fun r1 =>
 bif (decide (v3 < r1)) then
  bif ((v0.length : Int) == 0) then
   none
  else
  bif (Nat.blt (v2.length + ([(Int.tmod v3 (v0.length : Int))] : List Int).length) 17592186044416) then
   c1 v0 v1 (v2 ++ ([(Int.tmod v3 (v0.length : Int))] : List Int)) (w64 (v3 + 1))
  else
  none
 else
 some (v2)
theorem impl_phrases.o1.run (N : Nat) (Kn58 : St D0 → Option impl_phrases.R) (v0 : List ByteArray) (v1 : Int) (v2 : List Int) (v3 : Int) : runC impl_phrases.C (impl_phrases.O N) N impl_phrases.c116 116 (mkSt [(0, .one (.sl false 9 v0)), (1, .one (.int .i64 v1)), (5, .one (.sl true 3 v2)), (6, .one (.int .i64 v3))] [] : St D0) (onN (fun s => impl_phrases.C.tidy 58 s ((onN Kn58 (blockK 0 (onN (fun s => impl_phrases.C.tidy 14 s (fun s' => runC impl_phrases.C (impl_phrases.O N) N impl_phrases.c15 15 s' impl_phrases.K0)) impl_phrases.K0))) .normal)) (onN Kn58 (blockK 0 (onN (fun s => impl_phrases.C.tidy 14 s (fun s' => runC impl_phrases.C (impl_phrases.O N) N impl_phrases.c15 15 s' impl_phrases.K0)) impl_phrases.K0)))) = impl_phrases.o1 N v0 v1 v2 v3 ((fun w0 w1 w2 w3 => Kn58 (mkSt [(0, .one (.sl false 9 w0)), (1, .one (.int .i64 w1)), (5, .one (.sl true 3 w2)), (6, .one (.int .i64 w3))] [] : St D0))) := by kernel_rfl
noncomputable def impl_phrases.d1 (N : Nat) (v0 : List ByteArray) (v1 : Int) (v2 : List Int) (v3 : Int) (c1 : (List ByteArray) → Int → (List Int) → Int → Option impl_phrases.R) : Option impl_phrases.R := impl_phrases.o1 N v0 v1 v2 v3 c1
theorem impl_phrases.d1.run (N : Nat) (Kn58 : St D0 → Option impl_phrases.R) (v0 : List ByteArray) (v1 : Int) (v2 : List Int) (v3 : Int) : runC impl_phrases.C (impl_phrases.O N) N impl_phrases.c116 116 (mkSt [(0, .one (.sl false 9 v0)), (1, .one (.int .i64 v1)), (5, .one (.sl true 3 v2)), (6, .one (.int .i64 v3))] [] : St D0) (impl_phrases.K116 N Kn58) = impl_phrases.d1 N v0 v1 v2 v3 ((fun w0 w1 w2 w3 => Kn58 (mkSt [(0, .one (.sl false 9 w0)), (1, .one (.int .i64 w1)), (5, .one (.sl true 3 w2)), (6, .one (.int .i64 w3))] [] : St D0))) := by
  exact (impl_phrases.o1.run N Kn58 v0 v1 v2 v3).trans rfl
noncomputable def impl_phrases.K58 (N : Nat) : Ex → St D0 → Option impl_phrases.R := (blockK 0 (onN (fun s => impl_phrases.C.tidy 14 s (fun s' => runC impl_phrases.C (impl_phrases.O N) N impl_phrases.c15 15 s' impl_phrases.K0)) impl_phrases.K0))
noncomputable def impl_phrases.l1 (N : Nat) : Nat → (List ByteArray) → Int → (List Int) → Int → Option impl_phrases.R
  | 0, _, _, _, _ => none
  | n + 1, v0, v1, v2, v3 => impl_phrases.d1 N v0 v1 v2 v3 ((fun w0 w1 w2 w3 => impl_phrases.l1 N n w0 w1 w2 w3))
theorem impl_phrases.loop58 (N : Nat) : ∀ n, (∀ (v0 : List ByteArray) (v1 : Int) (v2 : List Int) (v3 : Int), iter (loopF impl_phrases.C (impl_phrases.O N) N impl_phrases.c116 58) n (mkSt [(0, .one (.sl false 9 v0)), (1, .one (.int .i64 v1)), (5, .one (.sl true 3 v2)), (6, .one (.int .i64 v3))] [] : St D0) (impl_phrases.K58 N) = impl_phrases.l1 N n v0 v1 v2 v3)
  | 0 => (fun v0 v1 v2 v3 => rfl)
  | n + 1 => (fun v0 v1 v2 v3 => (impl_phrases.d1.run N (fun s => iter (loopF impl_phrases.C (impl_phrases.O N) N impl_phrases.c116 58) n s (impl_phrases.K58 N)) v0 v1 v2 v3).trans (show _ = impl_phrases.d1 N v0 v1 v2 v3 ((fun w0 w1 w2 w3 => impl_phrases.l1 N n w0 w1 w2 w3)) from (congr rfl (funext fun w0 => funext fun w1 => funext fun w2 => funext fun w3 => (impl_phrases.loop58 N n) w0 w1 w2 w3))))
noncomputable def impl_phrases.o0 (N : Nat) (a0 : List ByteArray) (a1 : Int) (c1 : (List ByteArray) → Int → (List Int) → Int → Option impl_phrases.R) : Option impl_phrases.R :=
 (impl_played.g N a1).bind fun r1 =>
 c1 a0 a1 ([] : List Int) r1
theorem impl_phrases.o0.run (N : Nat) (H116 : Code) (a0 : List ByteArray) (a1 : Int) : runC impl_phrases.C (impl_phrases.O N) N (.seq impl_phrases.c2 (.seq impl_phrases.c6 (.seq (.seq impl_phrases.c28 (.block 0 (.loop H116))) impl_phrases.c15))) 1 (st0 [.one (.sl false 9 a0), .one (.int .i64 a1)] [] : St D0) impl_phrases.K0 = impl_phrases.o0 N a0 a1 ((fun w0 w1 w2 w3 => iter (loopF impl_phrases.C (impl_phrases.O N) N H116 58) N (mkSt [(0, .one (.sl false 9 w0)), (1, .one (.int .i64 w1)), (5, .one (.sl true 3 w2)), (6, .one (.int .i64 w3))] [] : St D0) (blockK 0 (onN (fun s => impl_phrases.C.tidy 14 s (fun s' => runC impl_phrases.C (impl_phrases.O N) N impl_phrases.c15 15 s' impl_phrases.K0)) impl_phrases.K0)))) := by kernel_rfl
noncomputable def impl_phrases.g (N : Nat) (a0 : List ByteArray) (a1 : Int) : Option impl_phrases.R := impl_phrases.o0 N a0 a1 ((fun w0 w1 w2 w3 => impl_phrases.l1 N N w0 w1 w2 w3))
theorem impl_phrases.c1_0 : impl_phrases.c1 = (.seq impl_phrases.c2 (.seq impl_phrases.c6 (.seq (.seq impl_phrases.c28 (.block 0 (.loop impl_phrases.c116))) impl_phrases.c15))) := by kernel_rfl
theorem impl_phrases.g.run (N : Nat) (a0 : List ByteArray) (a1 : Int) : runC impl_phrases.C (impl_phrases.O N) N impl_phrases.c1 1 (st0 [.one (.sl false 9 a0), .one (.int .i64 a1)] [] : St D0) impl_phrases.K0 = impl_phrases.g N a0 a1 := by
  rw [impl_phrases.c1_0]; unfold impl_phrases.g; exact (impl_phrases.o0.run N impl_phrases.c116 a0 a1).trans (congr rfl (funext fun w0 => funext fun w1 => funext fun w2 => funext fun w3 => (impl_phrases.loop58 N N) w0 w1 w2 w3))
theorem impl_phrases.good (N : Nat) (a0 : List ByteArray) (a1 : Int) (r : impl_phrases.R) (h : impl_phrases.g N a0 a1 = some r) : Go.PM.Good Go.Proofs.Try.prog T0 35 [.one (.sl false 9 a0), .one (.int .i64 a1)] [] (impl_phrases.sig.ret r) (impl_phrases.sig.bs r) :=
  good_fn tabOk0 mixed0 impl_phrases.sig (impl_phrases.E N) Go.Proofs.Try.func35 (by kernel_rfl) (by kernel_rfl) 16499 0 0 [(58, [0, 1, 5, 6], [])] 822528 false [] [(false, [.own 3])] (by kernel_rfl) rfl rfl ((impl_phrases.g.run N a0 a1).trans h)
noncomputable def impl_phrases.ent (N : Nat) : Ent Go.Proofs.Try.prog T0 := mkEnt 35 [(false, [.ro 9]), (false, [.any])] impl_phrases.sig (fun t => impl_phrases.g N t.1 t.2) (fun t r h => impl_phrases.good N t.1 t.2 r h)
end Go.Proofs.Ytpmipkbfohcjiaa.M

namespace Go.Proofs.Ytpmipkbfohcjiaa.M
open Go Go.PM Go.Proofs.Ytpmipkbfohcjiaa.P
set_option linter.unusedVariables false
set_option maxRecDepth 100000
/-! ### spec_bePlays -/
abbrev spec_bePlays.R : Type := List Int
abbrev spec_bePlays.sig : Sig := ⟨[(false, 1), (false, 1)], [], [.sl false 9, .int .i64], [(false, 1)], [], [.sl true 3]⟩
noncomputable def spec_bePlays.C : Cfg D0 := ⟨Go.Proofs.Try.prog, T0, 1139, 0, 24, 0, [(58, [0, 1, 5, 6], [])], 346496, false, []⟩
noncomputable def spec_bePlays.E (N : Nat) : List (Ent Go.Proofs.Try.prog T0) := [spec_beBefore.ent N]
noncomputable def spec_bePlays.O (N : Nat) : Orc D0 spec_bePlays.R := orcOf (spec_bePlays.E N)
noncomputable def spec_bePlays.K0 : Ex → St D0 → Option spec_bePlays.R := exitK spec_bePlays.C Go.Proofs.Try.f36.results.toList [(false, [.own 3])] (decOut spec_bePlays.sig)
noncomputable def spec_bePlays.c1 : Code := codeAt (Go.Proofs.Try.f36.body.getD .skip) []
noncomputable def spec_bePlays.c2 : Code := codeAt (Go.Proofs.Try.f36.body.getD .skip) [false]
noncomputable def spec_bePlays.c6 : Code := codeAt (Go.Proofs.Try.f36.body.getD .skip) [true, false]
noncomputable def spec_bePlays.c15 : Code := codeAt (Go.Proofs.Try.f36.body.getD .skip) [true, true, true]
noncomputable def spec_bePlays.c28 : Code := codeAt (Go.Proofs.Try.f36.body.getD .skip) [true, true, false, false]
noncomputable def spec_bePlays.c116 : Code := codeAt (Go.Proofs.Try.f36.body.getD .skip) [true, true, false, true, false, false]
noncomputable def spec_bePlays.K116 (N : Nat) (Kn58 : St D0 → Option spec_bePlays.R) : Ex → St D0 → Option spec_bePlays.R := (onN (fun s => spec_bePlays.C.tidy 58 s ((onN Kn58 (blockK 0 (onN (fun s => spec_bePlays.C.tidy 14 s (fun s' => runC spec_bePlays.C (spec_bePlays.O N) N spec_bePlays.c15 15 s' spec_bePlays.K0)) spec_bePlays.K0))) .normal)) (onN Kn58 (blockK 0 (onN (fun s => spec_bePlays.C.tidy 14 s (fun s' => runC spec_bePlays.C (spec_bePlays.O N) N spec_bePlays.c15 15 s' spec_bePlays.K0)) spec_bePlays.K0))))
noncomputable def spec_bePlays.o1 (N : Nat) (v0 : List ByteArray) (v1 : Int) (v2 : Int) (c2 : (List ByteArray) → Int → (List Int) → Int → Option spec_bePlays.R) : Option spec_bePlays.R :=
 bif (decide (v2 ≤ (Int.tmod v1 4))) then
  (spec_beBefore.g N v1).bind fun r1 =>
  bif ((v0.length : Int) == 0) then
   none
  else
  bif (Nat.blt (([] : List Int).length + ([(Int.tmod (w64 (r1 + v2)) (v0.length : Int))] : List Int).length) 17592186044416) then
   c2 v0 v1 (([] : List Int) ++ ([(Int.tmod (w64 (r1 + v2)) (v0.length : Int))] : List Int)) (w64 (v2 + 1))
  else
  none
 else
 some (([] : List Int))
theorem spec_bePlays.o1.run (N : Nat) (Kn58 : St D0 → Option spec_bePlays.R) (v0 : List ByteArray) (v1 : Int) (v2 : Int) : runC spec_bePlays.C (spec_bePlays.O N) N spec_bePlays.c116 116 (mkSt [(0, .one (.sl false 9 v0)), (1, .one (.int .i64 v1)), (5, .one (.nl)), (6, .one (.int .i64 v2))] [] : St D0) (onN (fun s => spec_bePlays.C.tidy 58 s ((onN Kn58 (blockK 0 (onN (fun s => spec_bePlays.C.tidy 14 s (fun s' => runC spec_bePlays.C (spec_bePlays.O N) N spec_bePlays.c15 15 s' spec_bePlays.K0)) spec_bePlays.K0))) .normal)) (onN Kn58 (blockK 0 (onN (fun s => spec_bePlays.C.tidy 14 s (fun s' => runC spec_bePlays.C (spec_bePlays.O N) N spec_bePlays.c15 15 s' spec_bePlays.K0)) spec_bePlays.K0)))) = spec_bePlays.o1 N v0 v1 v2 ((fun w0 w1 w2 w3 => Kn58 (mkSt [(0, .one (.sl false 9 w0)), (1, .one (.int .i64 w1)), (5, .one (.sl true 3 w2)), (6, .one (.int .i64 w3))] [] : St D0))) := by kernel_rfl
noncomputable def spec_bePlays.d1 (N : Nat) (v0 : List ByteArray) (v1 : Int) (v2 : Int) (c2 : (List ByteArray) → Int → (List Int) → Int → Option spec_bePlays.R) : Option spec_bePlays.R := spec_bePlays.o1 N v0 v1 v2 c2
theorem spec_bePlays.d1.run (N : Nat) (Kn58 : St D0 → Option spec_bePlays.R) (v0 : List ByteArray) (v1 : Int) (v2 : Int) : runC spec_bePlays.C (spec_bePlays.O N) N spec_bePlays.c116 116 (mkSt [(0, .one (.sl false 9 v0)), (1, .one (.int .i64 v1)), (5, .one (.nl)), (6, .one (.int .i64 v2))] [] : St D0) (spec_bePlays.K116 N Kn58) = spec_bePlays.d1 N v0 v1 v2 ((fun w0 w1 w2 w3 => Kn58 (mkSt [(0, .one (.sl false 9 w0)), (1, .one (.int .i64 w1)), (5, .one (.sl true 3 w2)), (6, .one (.int .i64 w3))] [] : St D0))) := by
  exact (spec_bePlays.o1.run N Kn58 v0 v1 v2).trans rfl
noncomputable def spec_bePlays.o2 (N : Nat) (v0 : List ByteArray) (v1 : Int) (v2 : List Int) (v3 : Int) (c2 : (List ByteArray) → Int → (List Int) → Int → Option spec_bePlays.R) : Option spec_bePlays.R :=
 bif (decide (v3 ≤ (Int.tmod v1 4))) then
  (spec_beBefore.g N v1).bind fun r1 =>
  bif ((v0.length : Int) == 0) then
   none
  else
  bif (Nat.blt (v2.length + ([(Int.tmod (w64 (r1 + v3)) (v0.length : Int))] : List Int).length) 17592186044416) then
   c2 v0 v1 (v2 ++ ([(Int.tmod (w64 (r1 + v3)) (v0.length : Int))] : List Int)) (w64 (v3 + 1))
  else
  none
 else
 some (v2)
theorem spec_bePlays.o2.run (N : Nat) (Kn58 : St D0 → Option spec_bePlays.R) (v0 : List ByteArray) (v1 : Int) (v2 : List Int) (v3 : Int) : runC spec_bePlays.C (spec_bePlays.O N) N spec_bePlays.c116 116 (mkSt [(0, .one (.sl false 9 v0)), (1, .one (.int .i64 v1)), (5, .one (.sl true 3 v2)), (6, .one (.int .i64 v3))] [] : St D0) (onN (fun s => spec_bePlays.C.tidy 58 s ((onN Kn58 (blockK 0 (onN (fun s => spec_bePlays.C.tidy 14 s (fun s' => runC spec_bePlays.C (spec_bePlays.O N) N spec_bePlays.c15 15 s' spec_bePlays.K0)) spec_bePlays.K0))) .normal)) (onN Kn58 (blockK 0 (onN (fun s => spec_bePlays.C.tidy 14 s (fun s' => runC spec_bePlays.C (spec_bePlays.O N) N spec_bePlays.c15 15 s' spec_bePlays.K0)) spec_bePlays.K0)))) = spec_bePlays.o2 N v0 v1 v2 v3 ((fun w0 w1 w2 w3 => Kn58 (mkSt [(0, .one (.sl false 9 w0)), (1, .one (.int .i64 w1)), (5, .one (.sl true 3 w2)), (6, .one (.int .i64 w3))] [] : St D0))) := by kernel_rfl
noncomputable def spec_bePlays.d2 (N : Nat) (v0 : List ByteArray) (v1 : Int) (v2 : List Int) (v3 : Int) (c2 : (List ByteArray) → Int → (List Int) → Int → Option spec_bePlays.R) : Option spec_bePlays.R := spec_bePlays.o2 N v0 v1 v2 v3 c2
theorem spec_bePlays.d2.run (N : Nat) (Kn58 : St D0 → Option spec_bePlays.R) (v0 : List ByteArray) (v1 : Int) (v2 : List Int) (v3 : Int) : runC spec_bePlays.C (spec_bePlays.O N) N spec_bePlays.c116 116 (mkSt [(0, .one (.sl false 9 v0)), (1, .one (.int .i64 v1)), (5, .one (.sl true 3 v2)), (6, .one (.int .i64 v3))] [] : St D0) (spec_bePlays.K116 N Kn58) = spec_bePlays.d2 N v0 v1 v2 v3 ((fun w0 w1 w2 w3 => Kn58 (mkSt [(0, .one (.sl false 9 w0)), (1, .one (.int .i64 w1)), (5, .one (.sl true 3 w2)), (6, .one (.int .i64 w3))] [] : St D0))) := by
  exact (spec_bePlays.o2.run N Kn58 v0 v1 v2 v3).trans rfl
noncomputable def spec_bePlays.K58 (N : Nat) : Ex → St D0 → Option spec_bePlays.R := (blockK 0 (onN (fun s => spec_bePlays.C.tidy 14 s (fun s' => runC spec_bePlays.C (spec_bePlays.O N) N spec_bePlays.c15 15 s' spec_bePlays.K0)) spec_bePlays.K0))
mutual
noncomputable def spec_bePlays.l1 (N : Nat) : Nat → (List ByteArray) → Int → Int → Option spec_bePlays.R
  | 0, _, _, _ => none
  | n + 1, v0, v1, v2 => spec_bePlays.d1 N v0 v1 v2 ((fun w0 w1 w2 w3 => spec_bePlays.l2 N n w0 w1 w2 w3))
noncomputable def spec_bePlays.l2 (N : Nat) : Nat → (List ByteArray) → Int → (List Int) → Int → Option spec_bePlays.R
  | 0, _, _, _, _ => none
  | n + 1, v0, v1, v2, v3 => spec_bePlays.d2 N v0 v1 v2 v3 ((fun w0 w1 w2 w3 => spec_bePlays.l2 N n w0 w1 w2 w3))
end
theorem spec_bePlays.loop58 (N : Nat) : ∀ n, (∀ (v0 : List ByteArray) (v1 : Int) (v2 : Int), iter (loopF spec_bePlays.C (spec_bePlays.O N) N spec_bePlays.c116 58) n (mkSt [(0, .one (.sl false 9 v0)), (1, .one (.int .i64 v1)), (5, .one (.nl)), (6, .one (.int .i64 v2))] [] : St D0) (spec_bePlays.K58 N) = spec_bePlays.l1 N n v0 v1 v2) ∧ (∀ (v0 : List ByteArray) (v1 : Int) (v2 : List Int) (v3 : Int), iter (loopF spec_bePlays.C (spec_bePlays.O N) N spec_bePlays.c116 58) n (mkSt [(0, .one (.sl false 9 v0)), (1, .one (.int .i64 v1)), (5, .one (.sl true 3 v2)), (6, .one (.int .i64 v3))] [] : St D0) (spec_bePlays.K58 N) = spec_bePlays.l2 N n v0 v1 v2 v3)
  | 0 => ⟨(fun v0 v1 v2 => rfl), (fun v0 v1 v2 v3 => rfl)⟩
  | n + 1 => ⟨(fun v0 v1 v2 => (spec_bePlays.d1.run N (fun s => iter (loopF spec_bePlays.C (spec_bePlays.O N) N spec_bePlays.c116 58) n s (spec_bePlays.K58 N)) v0 v1 v2).trans (show _ = spec_bePlays.d1 N v0 v1 v2 ((fun w0 w1 w2 w3 => spec_bePlays.l2 N n w0 w1 w2 w3)) from (congr rfl (funext fun w0 => funext fun w1 => funext fun w2 => funext fun w3 => (spec_bePlays.loop58 N n).2 w0 w1 w2 w3)))), (fun v0 v1 v2 v3 => (spec_bePlays.d2.run N (fun s => iter (loopF spec_bePlays.C (spec_bePlays.O N) N spec_bePlays.c116 58) n s (spec_bePlays.K58 N)) v0 v1 v2 v3).trans (show _ = spec_bePlays.d2 N v0 v1 v2 v3 ((fun w0 w1 w2 w3 => spec_bePlays.l2 N n w0 w1 w2 w3)) from (congr rfl (funext fun w0 => funext fun w1 => funext fun w2 => funext fun w3 => (spec_bePlays.loop58 N n).2 w0 w1 w2 w3))))⟩
noncomputable def spec_bePlays.o0 (N : Nat) (a0 : List ByteArray) (a1 : Int) (c1 : (List ByteArray) → Int → Int → Option spec_bePlays.R) : Option spec_bePlays.R :=
 c1 a0 a1 0
theorem spec_bePlays.o0.run (N : Nat) (H116 : Code) (a0 : List ByteArray) (a1 : Int) : runC spec_bePlays.C (spec_bePlays.O N) N (.seq spec_bePlays.c2 (.seq spec_bePlays.c6 (.seq (.seq spec_bePlays.c28 (.block 0 (.loop H116))) spec_bePlays.c15))) 1 (st0 [.one (.sl false 9 a0), .one (.int .i64 a1)] [] : St D0) spec_bePlays.K0 = spec_bePlays.o0 N a0 a1 ((fun w0 w1 w2 => iter (loopF spec_bePlays.C (spec_bePlays.O N) N H116 58) N (mkSt [(0, .one (.sl false 9 w0)), (1, .one (.int .i64 w1)), (5, .one (.nl)), (6, .one (.int .i64 w2))] [] : St D0) (blockK 0 (onN (fun s => spec_bePlays.C.tidy 14 s (fun s' => runC spec_bePlays.C (spec_bePlays.O N) N spec_bePlays.c15 15 s' spec_bePlays.K0)) spec_bePlays.K0)))) := by kernel_rfl
noncomputable def spec_bePlays.g (N : Nat) (a0 : List ByteArray) (a1 : Int) : Option spec_bePlays.R := spec_bePlays.o0 N a0 a1 ((fun w0 w1 w2 => spec_bePlays.l1 N N w0 w1 w2))
theorem spec_bePlays.c1_0 : spec_bePlays.c1 = (.seq spec_bePlays.c2 (.seq spec_bePlays.c6 (.seq (.seq spec_bePlays.c28 (.block 0 (.loop spec_bePlays.c116))) spec_bePlays.c15))) := by kernel_rfl
theorem spec_bePlays.g.run (N : Nat) (a0 : List ByteArray) (a1 : Int) : runC spec_bePlays.C (spec_bePlays.O N) N spec_bePlays.c1 1 (st0 [.one (.sl false 9 a0), .one (.int .i64 a1)] [] : St D0) spec_bePlays.K0 = spec_bePlays.g N a0 a1 := by
  rw [spec_bePlays.c1_0]; unfold spec_bePlays.g; exact (spec_bePlays.o0.run N spec_bePlays.c116 a0 a1).trans (congr rfl (funext fun w0 => funext fun w1 => funext fun w2 => (spec_bePlays.loop58 N N).1 w0 w1 w2))
theorem spec_bePlays.good (N : Nat) (a0 : List ByteArray) (a1 : Int) (r : spec_bePlays.R) (h : spec_bePlays.g N a0 a1 = some r) : Go.PM.Good Go.Proofs.Try.prog T0 36 [.one (.sl false 9 a0), .one (.int .i64 a1)] [] (spec_bePlays.sig.ret r) (spec_bePlays.sig.bs r) :=
  good_fn tabOk0 mixed0 spec_bePlays.sig (spec_bePlays.E N) Go.Proofs.Try.func36 (by kernel_rfl) (by kernel_rfl) 1139 0 0 [(58, [0, 1, 5, 6], [])] 346496 false [] [(false, [.own 3])] (by kernel_rfl) rfl rfl ((spec_bePlays.g.run N a0 a1).trans h)
noncomputable def spec_bePlays.ent (N : Nat) : Ent Go.Proofs.Try.prog T0 := mkEnt 36 [(false, [.ro 9]), (false, [.any])] spec_bePlays.sig (fun t => spec_bePlays.g N t.1 t.2) (fun t r h => spec_bePlays.good N t.1 t.2 r h)
end Go.Proofs.Ytpmipkbfohcjiaa.M

namespace Go.Proofs.Ytpmipkbfohcjiaa.M
open Go Go.PM Go.Proofs.Ytpmipkbfohcjiaa.P
set_option linter.unusedVariables false
set_option maxRecDepth 100000
/-! ### impl_notes -/
abbrev impl_notes.R : Type := ByteArray
abbrev impl_notes.sig : Sig := ⟨[(false, 1), (false, 1)], [], [.sl false 9, .int .i64], [(false, 1)], [], [.str]⟩
noncomputable def impl_notes.C : Cfg D0 := ⟨Go.Proofs.Try.prog, T0, 15539, 0, 24, 0, [(58, [0, 5, 10, 11, 12], [])], 459520, false, []⟩
noncomputable def impl_notes.E (N : Nat) : List (Ent Go.Proofs.Try.prog T0) := [impl_phrases.ent N]
noncomputable def impl_notes.O (N : Nat) : Orc D0 impl_notes.R := orcOf (impl_notes.E N)
noncomputable def impl_notes.K0 : Ex → St D0 → Option impl_notes.R := exitK impl_notes.C Go.Proofs.Try.f32.results.toList [(false, [.any])] (decOut impl_notes.sig)
noncomputable def impl_notes.c1 : Code := codeAt (Go.Proofs.Try.f32.body.getD .skip) []
noncomputable def impl_notes.c2 : Code := codeAt (Go.Proofs.Try.f32.body.getD .skip) [false]
noncomputable def impl_notes.c6 : Code := codeAt (Go.Proofs.Try.f32.body.getD .skip) [true, false]
noncomputable def impl_notes.c15 : Code := codeAt (Go.Proofs.Try.f32.body.getD .skip) [true, true, true]
noncomputable def impl_notes.c28 : Code := codeAt (Go.Proofs.Try.f32.body.getD .skip) [true, true, false, false]
noncomputable def impl_notes.c116 : Code := codeAt (Go.Proofs.Try.f32.body.getD .skip) [true, true, false, true, false, false]
noncomputable def impl_notes.K116 (N : Nat) (Kn58 : St D0 → Option impl_notes.R) : Ex → St D0 → Option impl_notes.R := (onN (fun s => impl_notes.C.tidy 58 s ((onN Kn58 (blockK 0 (onN (fun s => impl_notes.C.tidy 14 s (fun s' => runC impl_notes.C (impl_notes.O N) N impl_notes.c15 15 s' impl_notes.K0)) impl_notes.K0))) .normal)) (onN Kn58 (blockK 0 (onN (fun s => impl_notes.C.tidy 14 s (fun s' => runC impl_notes.C (impl_notes.O N) N impl_notes.c15 15 s' impl_notes.K0)) impl_notes.K0))))
noncomputable def impl_notes.o1 (N : Nat) (v0 : List ByteArray) (v1 : ByteArray) (v2 : List Int) (v3 : Int) (v4 : Int) (c1 : (List ByteArray) → ByteArray → (List Int) → Int → Int → Option impl_notes.R) : Option impl_notes.R :=
 bif (decide (v4 < v3)) then
  bif (decide (0 ≤ v4)) then
   bif (decide (v4 < (v2.length : Int))) then
    (v2[(v4 : Int).toNat]?).bind fun x1 =>
    bif (decide (0 ≤ x1)) then
     bif (decide (x1 < (v0.length : Int))) then
      (v0[(x1 : Int).toNat]?).bind fun x2 =>
      bif (Nat.ble (v1.size + x2.size) 9223372036854775807) then
       c1 v0 (v1 ++ x2) v2 v3 (w64 (v4 + 1))
      else
      none
     else
     none
    else
    none
   else
   none
  else
  none
 else
 some (v1)
theorem impl_notes.o1.run (N : Nat) (Kn58 : St D0 → Option impl_notes.R) (v0 : List ByteArray) (v1 : ByteArray) (v2 : List Int) (v3 : Int) (v4 : Int) : runC impl_notes.C (impl_notes.O N) N impl_notes.c116 116 (mkSt [(0, .one (.sl false 9 v0)), (5, .one (.str v1)), (10, .one (.sl true 3 v2)), (11, .one (.int .i64 v3)), (12, .one (.int .i64 v4))] [] : St D0) (onN (fun s => impl_notes.C.tidy 58 s ((onN Kn58 (blockK 0 (onN (fun s => impl_notes.C.tidy 14 s (fun s' => runC impl_notes.C (impl_notes.O N) N impl_notes.c15 15 s' impl_notes.K0)) impl_notes.K0))) .normal)) (onN Kn58 (blockK 0 (onN (fun s => impl_notes.C.tidy 14 s (fun s' => runC impl_notes.C (impl_notes.O N) N impl_notes.c15 15 s' impl_notes.K0)) impl_notes.K0)))) = impl_notes.o1 N v0 v1 v2 v3 v4 ((fun w0 w1 w2 w3 w4 => Kn58 (mkSt [(0, .one (.sl false 9 w0)), (5, .one (.str w1)), (10, .one (.sl true 3 w2)), (11, .one (.int .i64 w3)), (12, .one (.int .i64 w4))] [] : St D0))) := by kernel_rfl
noncomputable def impl_notes.d1 (N : Nat) (v0 : List ByteArray) (v1 : ByteArray) (v2 : List Int) (v3 : Int) (v4 : Int) (c1 : (List ByteArray) → ByteArray → (List Int) → Int → Int → Option impl_notes.R) : Option impl_notes.R := impl_notes.o1 N v0 v1 v2 v3 v4 c1
theorem impl_notes.d1.run (N : Nat) (Kn58 : St D0 → Option impl_notes.R) (v0 : List ByteArray) (v1 : ByteArray) (v2 : List Int) (v3 : Int) (v4 : Int) : runC impl_notes.C (impl_notes.O N) N impl_notes.c116 116 (mkSt [(0, .one (.sl false 9 v0)), (5, .one (.str v1)), (10, .one (.sl true 3 v2)), (11, .one (.int .i64 v3)), (12, .one (.int .i64 v4))] [] : St D0) (impl_notes.K116 N Kn58) = impl_notes.d1 N v0 v1 v2 v3 v4 ((fun w0 w1 w2 w3 w4 => Kn58 (mkSt [(0, .one (.sl false 9 w0)), (5, .one (.str w1)), (10, .one (.sl true 3 w2)), (11, .one (.int .i64 w3)), (12, .one (.int .i64 w4))] [] : St D0))) := by
  exact (impl_notes.o1.run N Kn58 v0 v1 v2 v3 v4).trans rfl
noncomputable def impl_notes.K58 (N : Nat) : Ex → St D0 → Option impl_notes.R := (blockK 0 (onN (fun s => impl_notes.C.tidy 14 s (fun s' => runC impl_notes.C (impl_notes.O N) N impl_notes.c15 15 s' impl_notes.K0)) impl_notes.K0))
noncomputable def impl_notes.l1 (N : Nat) : Nat → (List ByteArray) → ByteArray → (List Int) → Int → Int → Option impl_notes.R
  | 0, _, _, _, _, _ => none
  | n + 1, v0, v1, v2, v3, v4 => impl_notes.d1 N v0 v1 v2 v3 v4 ((fun w0 w1 w2 w3 w4 => impl_notes.l1 N n w0 w1 w2 w3 w4))
theorem impl_notes.loop58 (N : Nat) : ∀ n, (∀ (v0 : List ByteArray) (v1 : ByteArray) (v2 : List Int) (v3 : Int) (v4 : Int), iter (loopF impl_notes.C (impl_notes.O N) N impl_notes.c116 58) n (mkSt [(0, .one (.sl false 9 v0)), (5, .one (.str v1)), (10, .one (.sl true 3 v2)), (11, .one (.int .i64 v3)), (12, .one (.int .i64 v4))] [] : St D0) (impl_notes.K58 N) = impl_notes.l1 N n v0 v1 v2 v3 v4)
  | 0 => (fun v0 v1 v2 v3 v4 => rfl)
  | n + 1 => (fun v0 v1 v2 v3 v4 => (impl_notes.d1.run N (fun s => iter (loopF impl_notes.C (impl_notes.O N) N impl_notes.c116 58) n s (impl_notes.K58 N)) v0 v1 v2 v3 v4).trans (show _ = impl_notes.d1 N v0 v1 v2 v3 v4 ((fun w0 w1 w2 w3 w4 => impl_notes.l1 N n w0 w1 w2 w3 w4)) from (congr rfl (funext fun w0 => funext fun w1 => funext fun w2 => funext fun w3 => funext fun w4 => (impl_notes.loop58 N n) w0 w1 w2 w3 w4))))
noncomputable def impl_notes.o0 (N : Nat) (a0 : List ByteArray) (a1 : Int) (c1 : (List ByteArray) → ByteArray → (List Int) → Int → Int → Option impl_notes.R) : Option impl_notes.R :=
 (impl_phrases.g N a0 a1).bind fun r1 =>
 c1 a0 (⟨#[]⟩ : ByteArray) r1 (r1.length : Int) 0
theorem impl_notes.o0.run (N : Nat) (H116 : Code) (a0 : List ByteArray) (a1 : Int) : runC impl_notes.C (impl_notes.O N) N (.seq impl_notes.c2 (.seq impl_notes.c6 (.seq (.seq impl_notes.c28 (.block 0 (.loop H116))) impl_notes.c15))) 1 (st0 [.one (.sl false 9 a0), .one (.int .i64 a1)] [] : St D0) impl_notes.K0 = impl_notes.o0 N a0 a1 ((fun w0 w1 w2 w3 w4 => iter (loopF impl_notes.C (impl_notes.O N) N H116 58) N (mkSt [(0, .one (.sl false 9 w0)), (5, .one (.str w1)), (10, .one (.sl true 3 w2)), (11, .one (.int .i64 w3)), (12, .one (.int .i64 w4))] [] : St D0) (blockK 0 (onN (fun s => impl_notes.C.tidy 14 s (fun s' => runC impl_notes.C (impl_notes.O N) N impl_notes.c15 15 s' impl_notes.K0)) impl_notes.K0)))) := by kernel_rfl
noncomputable def impl_notes.g (N : Nat) (a0 : List ByteArray) (a1 : Int) : Option impl_notes.R := impl_notes.o0 N a0 a1 ((fun w0 w1 w2 w3 w4 => impl_notes.l1 N N w0 w1 w2 w3 w4))
theorem impl_notes.c1_0 : impl_notes.c1 = (.seq impl_notes.c2 (.seq impl_notes.c6 (.seq (.seq impl_notes.c28 (.block 0 (.loop impl_notes.c116))) impl_notes.c15))) := by kernel_rfl
theorem impl_notes.g.run (N : Nat) (a0 : List ByteArray) (a1 : Int) : runC impl_notes.C (impl_notes.O N) N impl_notes.c1 1 (st0 [.one (.sl false 9 a0), .one (.int .i64 a1)] [] : St D0) impl_notes.K0 = impl_notes.g N a0 a1 := by
  rw [impl_notes.c1_0]; unfold impl_notes.g; exact (impl_notes.o0.run N impl_notes.c116 a0 a1).trans (congr rfl (funext fun w0 => funext fun w1 => funext fun w2 => funext fun w3 => funext fun w4 => (impl_notes.loop58 N N) w0 w1 w2 w3 w4))
theorem impl_notes.good (N : Nat) (a0 : List ByteArray) (a1 : Int) (r : impl_notes.R) (h : impl_notes.g N a0 a1 = some r) : Go.PM.Good Go.Proofs.Try.prog T0 32 [.one (.sl false 9 a0), .one (.int .i64 a1)] [] (impl_notes.sig.ret r) (impl_notes.sig.bs r) :=
  good_fn tabOk0 mixed0 impl_notes.sig (impl_notes.E N) Go.Proofs.Try.func32 (by kernel_rfl) (by kernel_rfl) 15539 0 0 [(58, [0, 5, 10, 11, 12], [])] 459520 false [] [(false, [.any])] (by kernel_rfl) rfl rfl ((impl_notes.g.run N a0 a1).trans h)
noncomputable def impl_notes.ent (N : Nat) : Ent Go.Proofs.Try.prog T0 := mkEnt 32 [(false, [.ro 9]), (false, [.any])] impl_notes.sig (fun t => impl_notes.g N t.1 t.2) (fun t r h => impl_notes.good N t.1 t.2 r h)
end Go.Proofs.Ytpmipkbfohcjiaa.M

namespace Go.Proofs.Ytpmipkbfohcjiaa.M
open Go Go.PM Go.Proofs.Ytpmipkbfohcjiaa.P
set_option linter.unusedVariables false
set_option maxRecDepth 100000
/-! ### spec_beNotes -/
abbrev spec_beNotes.R : Type := ByteArray
abbrev spec_beNotes.sig : Sig := ⟨[(false, 1), (false, 1)], [], [.sl false 9, .int .i64], [(false, 1)], [], [.str]⟩
noncomputable def spec_beNotes.C : Cfg D0 := ⟨Go.Proofs.Try.prog, T0, 15539, 0, 24, 0, [(58, [0, 5, 10, 11, 12], [])], 459520, false, []⟩
noncomputable def spec_beNotes.E (N : Nat) : List (Ent Go.Proofs.Try.prog T0) := [spec_bePlays.ent N]
noncomputable def spec_beNotes.O (N : Nat) : Orc D0 spec_beNotes.R := orcOf (spec_beNotes.E N)
noncomputable def spec_beNotes.K0 : Ex → St D0 → Option spec_beNotes.R := exitK spec_beNotes.C Go.Proofs.Try.f34.results.toList [(false, [.any])] (decOut spec_beNotes.sig)
noncomputable def spec_beNotes.c1 : Code := codeAt (Go.Proofs.Try.f34.body.getD .skip) []
noncomputable def spec_beNotes.c2 : Code := codeAt (Go.Proofs.Try.f34.body.getD .skip) [false]
noncomputable def spec_beNotes.c6 : Code := codeAt (Go.Proofs.Try.f34.body.getD .skip) [true, false]
noncomputable def spec_beNotes.c15 : Code := codeAt (Go.Proofs.Try.f34.body.getD .skip) [true, true, true]
noncomputable def spec_beNotes.c28 : Code := codeAt (Go.Proofs.Try.f34.body.getD .skip) [true, true, false, false]
noncomputable def spec_beNotes.c116 : Code := codeAt (Go.Proofs.Try.f34.body.getD .skip) [true, true, false, true, false, false]
noncomputable def spec_beNotes.K116 (N : Nat) (Kn58 : St D0 → Option spec_beNotes.R) : Ex → St D0 → Option spec_beNotes.R := (onN (fun s => spec_beNotes.C.tidy 58 s ((onN Kn58 (blockK 0 (onN (fun s => spec_beNotes.C.tidy 14 s (fun s' => runC spec_beNotes.C (spec_beNotes.O N) N spec_beNotes.c15 15 s' spec_beNotes.K0)) spec_beNotes.K0))) .normal)) (onN Kn58 (blockK 0 (onN (fun s => spec_beNotes.C.tidy 14 s (fun s' => runC spec_beNotes.C (spec_beNotes.O N) N spec_beNotes.c15 15 s' spec_beNotes.K0)) spec_beNotes.K0))))
noncomputable def spec_beNotes.o1 (N : Nat) (v0 : List ByteArray) (v1 : ByteArray) (v2 : List Int) (v3 : Int) (v4 : Int) (c1 : (List ByteArray) → ByteArray → (List Int) → Int → Int → Option spec_beNotes.R) : Option spec_beNotes.R :=
 bif (decide (v4 < v3)) then
  bif (decide (0 ≤ v4)) then
   bif (decide (v4 < (v2.length : Int))) then
    (v2[(v4 : Int).toNat]?).bind fun x1 =>
    bif (decide (0 ≤ x1)) then
     bif (decide (x1 < (v0.length : Int))) then
      (v0[(x1 : Int).toNat]?).bind fun x2 =>
      bif (Nat.ble (v1.size + x2.size) 9223372036854775807) then
       c1 v0 (v1 ++ x2) v2 v3 (w64 (v4 + 1))
      else
      none
     else
     none
    else
    none
   else
   none
  else
  none
 else
 some (v1)
theorem spec_beNotes.o1.run (N : Nat) (Kn58 : St D0 → Option spec_beNotes.R) (v0 : List ByteArray) (v1 : ByteArray) (v2 : List Int) (v3 : Int) (v4 : Int) : runC spec_beNotes.C (spec_beNotes.O N) N spec_beNotes.c116 116 (mkSt [(0, .one (.sl false 9 v0)), (5, .one (.str v1)), (10, .one (.sl true 3 v2)), (11, .one (.int .i64 v3)), (12, .one (.int .i64 v4))] [] : St D0) (onN (fun s => spec_beNotes.C.tidy 58 s ((onN Kn58 (blockK 0 (onN (fun s => spec_beNotes.C.tidy 14 s (fun s' => runC spec_beNotes.C (spec_beNotes.O N) N spec_beNotes.c15 15 s' spec_beNotes.K0)) spec_beNotes.K0))) .normal)) (onN Kn58 (blockK 0 (onN (fun s => spec_beNotes.C.tidy 14 s (fun s' => runC spec_beNotes.C (spec_beNotes.O N) N spec_beNotes.c15 15 s' spec_beNotes.K0)) spec_beNotes.K0)))) = spec_beNotes.o1 N v0 v1 v2 v3 v4 ((fun w0 w1 w2 w3 w4 => Kn58 (mkSt [(0, .one (.sl false 9 w0)), (5, .one (.str w1)), (10, .one (.sl true 3 w2)), (11, .one (.int .i64 w3)), (12, .one (.int .i64 w4))] [] : St D0))) := by kernel_rfl
noncomputable def spec_beNotes.d1 (N : Nat) (v0 : List ByteArray) (v1 : ByteArray) (v2 : List Int) (v3 : Int) (v4 : Int) (c1 : (List ByteArray) → ByteArray → (List Int) → Int → Int → Option spec_beNotes.R) : Option spec_beNotes.R := spec_beNotes.o1 N v0 v1 v2 v3 v4 c1
theorem spec_beNotes.d1.run (N : Nat) (Kn58 : St D0 → Option spec_beNotes.R) (v0 : List ByteArray) (v1 : ByteArray) (v2 : List Int) (v3 : Int) (v4 : Int) : runC spec_beNotes.C (spec_beNotes.O N) N spec_beNotes.c116 116 (mkSt [(0, .one (.sl false 9 v0)), (5, .one (.str v1)), (10, .one (.sl true 3 v2)), (11, .one (.int .i64 v3)), (12, .one (.int .i64 v4))] [] : St D0) (spec_beNotes.K116 N Kn58) = spec_beNotes.d1 N v0 v1 v2 v3 v4 ((fun w0 w1 w2 w3 w4 => Kn58 (mkSt [(0, .one (.sl false 9 w0)), (5, .one (.str w1)), (10, .one (.sl true 3 w2)), (11, .one (.int .i64 w3)), (12, .one (.int .i64 w4))] [] : St D0))) := by
  exact (spec_beNotes.o1.run N Kn58 v0 v1 v2 v3 v4).trans rfl
noncomputable def spec_beNotes.K58 (N : Nat) : Ex → St D0 → Option spec_beNotes.R := (blockK 0 (onN (fun s => spec_beNotes.C.tidy 14 s (fun s' => runC spec_beNotes.C (spec_beNotes.O N) N spec_beNotes.c15 15 s' spec_beNotes.K0)) spec_beNotes.K0))
noncomputable def spec_beNotes.l1 (N : Nat) : Nat → (List ByteArray) → ByteArray → (List Int) → Int → Int → Option spec_beNotes.R
  | 0, _, _, _, _, _ => none
  | n + 1, v0, v1, v2, v3, v4 => spec_beNotes.d1 N v0 v1 v2 v3 v4 ((fun w0 w1 w2 w3 w4 => spec_beNotes.l1 N n w0 w1 w2 w3 w4))
theorem spec_beNotes.loop58 (N : Nat) : ∀ n, (∀ (v0 : List ByteArray) (v1 : ByteArray) (v2 : List Int) (v3 : Int) (v4 : Int), iter (loopF spec_beNotes.C (spec_beNotes.O N) N spec_beNotes.c116 58) n (mkSt [(0, .one (.sl false 9 v0)), (5, .one (.str v1)), (10, .one (.sl true 3 v2)), (11, .one (.int .i64 v3)), (12, .one (.int .i64 v4))] [] : St D0) (spec_beNotes.K58 N) = spec_beNotes.l1 N n v0 v1 v2 v3 v4)
  | 0 => (fun v0 v1 v2 v3 v4 => rfl)
  | n + 1 => (fun v0 v1 v2 v3 v4 => (spec_beNotes.d1.run N (fun s => iter (loopF spec_beNotes.C (spec_beNotes.O N) N spec_beNotes.c116 58) n s (spec_beNotes.K58 N)) v0 v1 v2 v3 v4).trans (show _ = spec_beNotes.d1 N v0 v1 v2 v3 v4 ((fun w0 w1 w2 w3 w4 => spec_beNotes.l1 N n w0 w1 w2 w3 w4)) from (congr rfl (funext fun w0 => funext fun w1 => funext fun w2 => funext fun w3 => funext fun w4 => (spec_beNotes.loop58 N n) w0 w1 w2 w3 w4))))
noncomputable def spec_beNotes.o0 (N : Nat) (a0 : List ByteArray) (a1 : Int) (c1 : (List ByteArray) → ByteArray → (List Int) → Int → Int → Option spec_beNotes.R) : Option spec_beNotes.R :=
 (spec_bePlays.g N a0 a1).bind fun r1 =>
 c1 a0 (⟨#[]⟩ : ByteArray) r1 (r1.length : Int) 0
theorem spec_beNotes.o0.run (N : Nat) (H116 : Code) (a0 : List ByteArray) (a1 : Int) : runC spec_beNotes.C (spec_beNotes.O N) N (.seq spec_beNotes.c2 (.seq spec_beNotes.c6 (.seq (.seq spec_beNotes.c28 (.block 0 (.loop H116))) spec_beNotes.c15))) 1 (st0 [.one (.sl false 9 a0), .one (.int .i64 a1)] [] : St D0) spec_beNotes.K0 = spec_beNotes.o0 N a0 a1 ((fun w0 w1 w2 w3 w4 => iter (loopF spec_beNotes.C (spec_beNotes.O N) N H116 58) N (mkSt [(0, .one (.sl false 9 w0)), (5, .one (.str w1)), (10, .one (.sl true 3 w2)), (11, .one (.int .i64 w3)), (12, .one (.int .i64 w4))] [] : St D0) (blockK 0 (onN (fun s => spec_beNotes.C.tidy 14 s (fun s' => runC spec_beNotes.C (spec_beNotes.O N) N spec_beNotes.c15 15 s' spec_beNotes.K0)) spec_beNotes.K0)))) := by kernel_rfl
noncomputable def spec_beNotes.g (N : Nat) (a0 : List ByteArray) (a1 : Int) : Option spec_beNotes.R := spec_beNotes.o0 N a0 a1 ((fun w0 w1 w2 w3 w4 => spec_beNotes.l1 N N w0 w1 w2 w3 w4))
theorem spec_beNotes.c1_0 : spec_beNotes.c1 = (.seq spec_beNotes.c2 (.seq spec_beNotes.c6 (.seq (.seq spec_beNotes.c28 (.block 0 (.loop spec_beNotes.c116))) spec_beNotes.c15))) := by kernel_rfl
theorem spec_beNotes.g.run (N : Nat) (a0 : List ByteArray) (a1 : Int) : runC spec_beNotes.C (spec_beNotes.O N) N spec_beNotes.c1 1 (st0 [.one (.sl false 9 a0), .one (.int .i64 a1)] [] : St D0) spec_beNotes.K0 = spec_beNotes.g N a0 a1 := by
  rw [spec_beNotes.c1_0]; unfold spec_beNotes.g; exact (spec_beNotes.o0.run N spec_beNotes.c116 a0 a1).trans (congr rfl (funext fun w0 => funext fun w1 => funext fun w2 => funext fun w3 => funext fun w4 => (spec_beNotes.loop58 N N) w0 w1 w2 w3 w4))
theorem spec_beNotes.good (N : Nat) (a0 : List ByteArray) (a1 : Int) (r : spec_beNotes.R) (h : spec_beNotes.g N a0 a1 = some r) : Go.PM.Good Go.Proofs.Try.prog T0 34 [.one (.sl false 9 a0), .one (.int .i64 a1)] [] (spec_beNotes.sig.ret r) (spec_beNotes.sig.bs r) :=
  good_fn tabOk0 mixed0 spec_beNotes.sig (spec_beNotes.E N) Go.Proofs.Try.func34 (by kernel_rfl) (by kernel_rfl) 15539 0 0 [(58, [0, 5, 10, 11, 12], [])] 459520 false [] [(false, [.any])] (by kernel_rfl) rfl rfl ((spec_beNotes.g.run N a0 a1).trans h)
noncomputable def spec_beNotes.ent (N : Nat) : Ent Go.Proofs.Try.prog T0 := mkEnt 34 [(false, [.ro 9]), (false, [.any])] spec_beNotes.sig (fun t => spec_beNotes.g N t.1 t.2) (fun t r h => spec_beNotes.good N t.1 t.2 r h)
end Go.Proofs.Ytpmipkbfohcjiaa.M

namespace Go.Proofs.Ytpmipkbfohcjiaa.M
open Go Go.PM Go.Proofs.Ytpmipkbfohcjiaa.P
set_option linter.unusedVariables false
set_option maxRecDepth 100000
/-! ### impl_gcd -/
abbrev impl_gcd.R : Type := Int
abbrev impl_gcd.sig : Sig := ⟨[(false, 1), (false, 1)], [], [.int .i64, .int .i64], [(false, 1)], [], [.int .i64]⟩
noncomputable def impl_gcd.C : Cfg D0 := ⟨Go.Proofs.Try.prog, T0, 83, 0, 15, 0, [(12, [0, 1], [])], 6944, false, []⟩
noncomputable def impl_gcd.E (N : Nat) : List (Ent Go.Proofs.Try.prog T0) := []
noncomputable def impl_gcd.O (N : Nat) : Orc D0 impl_gcd.R := orcOf (impl_gcd.E N)
noncomputable def impl_gcd.K0 : Ex → St D0 → Option impl_gcd.R := exitK impl_gcd.C Go.Proofs.Try.f61.results.toList [(false, [.any])] (decOut impl_gcd.sig)
noncomputable def impl_gcd.c1 : Code := codeAt (Go.Proofs.Try.f61.body.getD .skip) []
noncomputable def impl_gcd.c2 : Code := codeAt (Go.Proofs.Try.f61.body.getD .skip) [false]
noncomputable def impl_gcd.c7 : Code := codeAt (Go.Proofs.Try.f61.body.getD .skip) [true, true]
noncomputable def impl_gcd.c24 : Code := codeAt (Go.Proofs.Try.f61.body.getD .skip) [true, false, false, false]
noncomputable def impl_gcd.K24 (N : Nat) (Kn12 : St D0 → Option impl_gcd.R) : Ex → St D0 → Option impl_gcd.R := (onN (fun s => impl_gcd.C.tidy 12 s ((onN Kn12 (blockK 0 (onN (fun s => impl_gcd.C.tidy 6 s (fun s' => runC impl_gcd.C (impl_gcd.O N) N impl_gcd.c7 7 s' impl_gcd.K0)) impl_gcd.K0))) .normal)) (onN Kn12 (blockK 0 (onN (fun s => impl_gcd.C.tidy 6 s (fun s' => runC impl_gcd.C (impl_gcd.O N) N impl_gcd.c7 7 s' impl_gcd.K0)) impl_gcd.K0))))
noncomputable def impl_gcd.o1 (N : Nat) (v0 : Int) (v1 : Int) (c1 : Int → Int → Option impl_gcd.R) : Option impl_gcd.R :=
 bif (v1 != 0) then
  bif (v1 == 0) then
   none
  else
  c1 v1 (Int.tmod v0 v1)
 else
 some ((if (w64 (0 - v0)) > v0 then (w64 (0 - v0)) else v0))
theorem impl_gcd.o1.run (N : Nat) (Kn12 : St D0 → Option impl_gcd.R) (v0 : Int) (v1 : Int) : runC impl_gcd.C (impl_gcd.O N) N impl_gcd.c24 24 (mkSt [(0, .one (.int .i64 v0)), (1, .one (.int .i64 v1))] [] : St D0) (onN (fun s => impl_gcd.C.tidy 12 s ((onN Kn12 (blockK 0 (onN (fun s => impl_gcd.C.tidy 6 s (fun s' => runC impl_gcd.C (impl_gcd.O N) N impl_gcd.c7 7 s' impl_gcd.K0)) impl_gcd.K0))) .normal)) (onN Kn12 (blockK 0 (onN (fun s => impl_gcd.C.tidy 6 s (fun s' => runC impl_gcd.C (impl_gcd.O N) N impl_gcd.c7 7 s' impl_gcd.K0)) impl_gcd.K0)))) = impl_gcd.o1 N v0 v1 ((fun w0 w1 => Kn12 (mkSt [(0, .one (.int .i64 w0)), (1, .one (.int .i64 w1))] [] : St D0))) := by kernel_rfl
noncomputable def impl_gcd.d1 (N : Nat) (v0 : Int) (v1 : Int) (c1 : Int → Int → Option impl_gcd.R) : Option impl_gcd.R := impl_gcd.o1 N v0 v1 c1
theorem impl_gcd.d1.run (N : Nat) (Kn12 : St D0 → Option impl_gcd.R) (v0 : Int) (v1 : Int) : runC impl_gcd.C (impl_gcd.O N) N impl_gcd.c24 24 (mkSt [(0, .one (.int .i64 v0)), (1, .one (.int .i64 v1))] [] : St D0) (impl_gcd.K24 N Kn12) = impl_gcd.d1 N v0 v1 ((fun w0 w1 => Kn12 (mkSt [(0, .one (.int .i64 w0)), (1, .one (.int .i64 w1))] [] : St D0))) := by
  exact (impl_gcd.o1.run N Kn12 v0 v1).trans rfl
noncomputable def impl_gcd.K12 (N : Nat) : Ex → St D0 → Option impl_gcd.R := (blockK 0 (onN (fun s => impl_gcd.C.tidy 6 s (fun s' => runC impl_gcd.C (impl_gcd.O N) N impl_gcd.c7 7 s' impl_gcd.K0)) impl_gcd.K0))
noncomputable def impl_gcd.l1 (N : Nat) : Nat → Int → Int → Option impl_gcd.R
  | 0, _, _ => none
  | n + 1, v0, v1 => impl_gcd.d1 N v0 v1 ((fun w0 w1 => impl_gcd.l1 N n w0 w1))
theorem impl_gcd.loop12 (N : Nat) : ∀ n, (∀ (v0 : Int) (v1 : Int), iter (loopF impl_gcd.C (impl_gcd.O N) N impl_gcd.c24 12) n (mkSt [(0, .one (.int .i64 v0)), (1, .one (.int .i64 v1))] [] : St D0) (impl_gcd.K12 N) = impl_gcd.l1 N n v0 v1)
  | 0 => (fun v0 v1 => rfl)
  | n + 1 => (fun v0 v1 => (impl_gcd.d1.run N (fun s => iter (loopF impl_gcd.C (impl_gcd.O N) N impl_gcd.c24 12) n s (impl_gcd.K12 N)) v0 v1).trans (show _ = impl_gcd.d1 N v0 v1 ((fun w0 w1 => impl_gcd.l1 N n w0 w1)) from (congr rfl (funext fun w0 => funext fun w1 => (impl_gcd.loop12 N n) w0 w1))))
noncomputable def impl_gcd.o0 (N : Nat) (a0 : Int) (a1 : Int) (c1 : Int → Int → Option impl_gcd.R) : Option impl_gcd.R :=
 c1 a0 a1
theorem impl_gcd.o0.run (N : Nat) (H24 : Code) (a0 : Int) (a1 : Int) : runC impl_gcd.C (impl_gcd.O N) N (.seq impl_gcd.c2 (.seq (.block 0 (.loop H24)) impl_gcd.c7)) 1 (st0 [.one (.int .i64 a0), .one (.int .i64 a1)] [] : St D0) impl_gcd.K0 = impl_gcd.o0 N a0 a1 ((fun w0 w1 => iter (loopF impl_gcd.C (impl_gcd.O N) N H24 12) N (mkSt [(0, .one (.int .i64 w0)), (1, .one (.int .i64 w1))] [] : St D0) (blockK 0 (onN (fun s => impl_gcd.C.tidy 6 s (fun s' => runC impl_gcd.C (impl_gcd.O N) N impl_gcd.c7 7 s' impl_gcd.K0)) impl_gcd.K0)))) := by kernel_rfl
noncomputable def impl_gcd.g (N : Nat) (a0 : Int) (a1 : Int) : Option impl_gcd.R := impl_gcd.o0 N a0 a1 ((fun w0 w1 => impl_gcd.l1 N N w0 w1))
theorem impl_gcd.c1_0 : impl_gcd.c1 = (.seq impl_gcd.c2 (.seq (.block 0 (.loop impl_gcd.c24)) impl_gcd.c7)) := by kernel_rfl
theorem impl_gcd.g.run (N : Nat) (a0 : Int) (a1 : Int) : runC impl_gcd.C (impl_gcd.O N) N impl_gcd.c1 1 (st0 [.one (.int .i64 a0), .one (.int .i64 a1)] [] : St D0) impl_gcd.K0 = impl_gcd.g N a0 a1 := by
  rw [impl_gcd.c1_0]; unfold impl_gcd.g; exact (impl_gcd.o0.run N impl_gcd.c24 a0 a1).trans (congr rfl (funext fun w0 => funext fun w1 => (impl_gcd.loop12 N N) w0 w1))
theorem impl_gcd.good (N : Nat) (a0 : Int) (a1 : Int) (r : impl_gcd.R) (h : impl_gcd.g N a0 a1 = some r) : Go.PM.Good Go.Proofs.Try.prog T0 61 [.one (.int .i64 a0), .one (.int .i64 a1)] [] (impl_gcd.sig.ret r) (impl_gcd.sig.bs r) :=
  good_fn tabOk0 mixed0 impl_gcd.sig (impl_gcd.E N) Go.Proofs.Try.func61 (by kernel_rfl) (by kernel_rfl) 83 0 0 [(12, [0, 1], [])] 6944 false [] [(false, [.any])] (by kernel_rfl) rfl rfl ((impl_gcd.g.run N a0 a1).trans h)
noncomputable def impl_gcd.ent (N : Nat) : Ent Go.Proofs.Try.prog T0 := mkEnt 61 [(false, [.any]), (false, [.any])] impl_gcd.sig (fun t => impl_gcd.g N t.1 t.2) (fun t r h => impl_gcd.good N t.1 t.2 r h)
end Go.Proofs.Ytpmipkbfohcjiaa.M

namespace Go.Proofs.Ytpmipkbfohcjiaa.M
open Go Go.PM Go.Proofs.Ytpmipkbfohcjiaa.P
set_option linter.unusedVariables false
set_option maxRecDepth 100000
/-! ### impl_hours -/
abbrev impl_hours.R : Type := Int
abbrev impl_hours.sig : Sig := ⟨[(false, 1)], [], [.sl false 9], [(false, 1)], [], [.int .i64]⟩
noncomputable def impl_hours.C : Cfg D0 := ⟨Go.Proofs.Try.prog, T0, 5, 0, 9, 0, [], 40, false, []⟩
noncomputable def impl_hours.E (N : Nat) : List (Ent Go.Proofs.Try.prog T0) := [impl_gcd.ent N]
noncomputable def impl_hours.O (N : Nat) : Orc D0 impl_hours.R := orcOf (impl_hours.E N)
noncomputable def impl_hours.K0 : Ex → St D0 → Option impl_hours.R := exitK impl_hours.C Go.Proofs.Try.f42.results.toList [(false, [.any])] (decOut impl_hours.sig)
noncomputable def impl_hours.c1 : Code := codeAt (Go.Proofs.Try.f42.body.getD .skip) []
noncomputable def impl_hours.o0 (N : Nat) (a0 : List ByteArray) : Option impl_hours.R :=
 (impl_gcd.g N (a0.length : Int) 10).bind fun r1 =>
 bif (r1 == 0) then
  none
 else
 some ((w64 (Int.tdiv (a0.length : Int) r1)))
theorem impl_hours.o0.run (N : Nat) (a0 : List ByteArray) : runC impl_hours.C (impl_hours.O N) N impl_hours.c1 1 (st0 [.one (.sl false 9 a0)] [] : St D0) impl_hours.K0 = impl_hours.o0 N a0 := by kernel_rfl
noncomputable def impl_hours.g (N : Nat) (a0 : List ByteArray) : Option impl_hours.R := impl_hours.o0 N a0
theorem impl_hours.g.run (N : Nat) (a0 : List ByteArray) : runC impl_hours.C (impl_hours.O N) N impl_hours.c1 1 (st0 [.one (.sl false 9 a0)] [] : St D0) impl_hours.K0 = impl_hours.g N a0 := by
  exact (impl_hours.o0.run N a0).trans rfl
theorem impl_hours.good (N : Nat) (a0 : List ByteArray) (r : impl_hours.R) (h : impl_hours.g N a0 = some r) : Go.PM.Good Go.Proofs.Try.prog T0 42 [.one (.sl false 9 a0)] [] (impl_hours.sig.ret r) (impl_hours.sig.bs r) :=
  good_fn tabOk0 mixed0 impl_hours.sig (impl_hours.E N) Go.Proofs.Try.func42 (by kernel_rfl) (by kernel_rfl) 5 0 0 [] 40 false [] [(false, [.any])] (by kernel_rfl) rfl rfl ((impl_hours.g.run N a0).trans h)
noncomputable def impl_hours.ent (N : Nat) : Ent Go.Proofs.Try.prog T0 := mkEnt 42 [(false, [.ro 9])] impl_hours.sig (fun t => impl_hours.g N t) (fun t r h => impl_hours.good N t r h)
end Go.Proofs.Ytpmipkbfohcjiaa.M

namespace Go.Proofs.Ytpmipkbfohcjiaa.M
open Go Go.PM Go.Proofs.Ytpmipkbfohcjiaa.P
set_option linter.unusedVariables false
set_option maxRecDepth 100000
/-! ### spec_diCommon -/
abbrev spec_diCommon.R : Type := Int
abbrev spec_diCommon.sig : Sig := ⟨[(false, 1), (false, 1)], [], [.int .i64, .int .i64], [(false, 1)], [], [.int .i64]⟩
noncomputable def spec_diCommon.C : Cfg D0 := ⟨Go.Proofs.Try.prog, T0, 83, 0, 12, 0, [(12, [0, 1], [])], 800, false, []⟩
noncomputable def spec_diCommon.E (N : Nat) : List (Ent Go.Proofs.Try.prog T0) := []
noncomputable def spec_diCommon.O (N : Nat) : Orc D0 spec_diCommon.R := orcOf (spec_diCommon.E N)
noncomputable def spec_diCommon.K0 : Ex → St D0 → Option spec_diCommon.R := exitK spec_diCommon.C Go.Proofs.Try.f62.results.toList [(false, [.any])] (decOut spec_diCommon.sig)
noncomputable def spec_diCommon.c1 : Code := codeAt (Go.Proofs.Try.f62.body.getD .skip) []
noncomputable def spec_diCommon.c2 : Code := codeAt (Go.Proofs.Try.f62.body.getD .skip) [false]
noncomputable def spec_diCommon.c7 : Code := codeAt (Go.Proofs.Try.f62.body.getD .skip) [true, true]
noncomputable def spec_diCommon.c24 : Code := codeAt (Go.Proofs.Try.f62.body.getD .skip) [true, false, false, false]
noncomputable def spec_diCommon.K24 (N : Nat) (Kn12 : St D0 → Option spec_diCommon.R) : Ex → St D0 → Option spec_diCommon.R := (onN (fun s => spec_diCommon.C.tidy 12 s ((onN Kn12 (blockK 0 (onN (fun s => spec_diCommon.C.tidy 6 s (fun s' => runC spec_diCommon.C (spec_diCommon.O N) N spec_diCommon.c7 7 s' spec_diCommon.K0)) spec_diCommon.K0))) .normal)) (onN Kn12 (blockK 0 (onN (fun s => spec_diCommon.C.tidy 6 s (fun s' => runC spec_diCommon.C (spec_diCommon.O N) N spec_diCommon.c7 7 s' spec_diCommon.K0)) spec_diCommon.K0))))
noncomputable def spec_diCommon.o1 (N : Nat) (v0 : Int) (v1 : Int) (c1 : Int → Int → Option spec_diCommon.R) : Option spec_diCommon.R :=
 bif (decide (v1 > 0)) then
  bif (v1 == 0) then
   none
  else
  c1 v1 (Int.tmod v0 v1)
 else
 some (v0)
theorem spec_diCommon.o1.run (N : Nat) (Kn12 : St D0 → Option spec_diCommon.R) (v0 : Int) (v1 : Int) : runC spec_diCommon.C (spec_diCommon.O N) N spec_diCommon.c24 24 (mkSt [(0, .one (.int .i64 v0)), (1, .one (.int .i64 v1))] [] : St D0) (onN (fun s => spec_diCommon.C.tidy 12 s ((onN Kn12 (blockK 0 (onN (fun s => spec_diCommon.C.tidy 6 s (fun s' => runC spec_diCommon.C (spec_diCommon.O N) N spec_diCommon.c7 7 s' spec_diCommon.K0)) spec_diCommon.K0))) .normal)) (onN Kn12 (blockK 0 (onN (fun s => spec_diCommon.C.tidy 6 s (fun s' => runC spec_diCommon.C (spec_diCommon.O N) N spec_diCommon.c7 7 s' spec_diCommon.K0)) spec_diCommon.K0)))) = spec_diCommon.o1 N v0 v1 ((fun w0 w1 => Kn12 (mkSt [(0, .one (.int .i64 w0)), (1, .one (.int .i64 w1))] [] : St D0))) := by kernel_rfl
noncomputable def spec_diCommon.d1 (N : Nat) (v0 : Int) (v1 : Int) (c1 : Int → Int → Option spec_diCommon.R) : Option spec_diCommon.R := spec_diCommon.o1 N v0 v1 c1
theorem spec_diCommon.d1.run (N : Nat) (Kn12 : St D0 → Option spec_diCommon.R) (v0 : Int) (v1 : Int) : runC spec_diCommon.C (spec_diCommon.O N) N spec_diCommon.c24 24 (mkSt [(0, .one (.int .i64 v0)), (1, .one (.int .i64 v1))] [] : St D0) (spec_diCommon.K24 N Kn12) = spec_diCommon.d1 N v0 v1 ((fun w0 w1 => Kn12 (mkSt [(0, .one (.int .i64 w0)), (1, .one (.int .i64 w1))] [] : St D0))) := by
  exact (spec_diCommon.o1.run N Kn12 v0 v1).trans rfl
noncomputable def spec_diCommon.K12 (N : Nat) : Ex → St D0 → Option spec_diCommon.R := (blockK 0 (onN (fun s => spec_diCommon.C.tidy 6 s (fun s' => runC spec_diCommon.C (spec_diCommon.O N) N spec_diCommon.c7 7 s' spec_diCommon.K0)) spec_diCommon.K0))
noncomputable def spec_diCommon.l1 (N : Nat) : Nat → Int → Int → Option spec_diCommon.R
  | 0, _, _ => none
  | n + 1, v0, v1 => spec_diCommon.d1 N v0 v1 ((fun w0 w1 => spec_diCommon.l1 N n w0 w1))
theorem spec_diCommon.loop12 (N : Nat) : ∀ n, (∀ (v0 : Int) (v1 : Int), iter (loopF spec_diCommon.C (spec_diCommon.O N) N spec_diCommon.c24 12) n (mkSt [(0, .one (.int .i64 v0)), (1, .one (.int .i64 v1))] [] : St D0) (spec_diCommon.K12 N) = spec_diCommon.l1 N n v0 v1)
  | 0 => (fun v0 v1 => rfl)
  | n + 1 => (fun v0 v1 => (spec_diCommon.d1.run N (fun s => iter (loopF spec_diCommon.C (spec_diCommon.O N) N spec_diCommon.c24 12) n s (spec_diCommon.K12 N)) v0 v1).trans (show _ = spec_diCommon.d1 N v0 v1 ((fun w0 w1 => spec_diCommon.l1 N n w0 w1)) from (congr rfl (funext fun w0 => funext fun w1 => (spec_diCommon.loop12 N n) w0 w1))))
noncomputable def spec_diCommon.o0 (N : Nat) (a0 : Int) (a1 : Int) (c1 : Int → Int → Option spec_diCommon.R) : Option spec_diCommon.R :=
 c1 a0 a1
theorem spec_diCommon.o0.run (N : Nat) (H24 : Code) (a0 : Int) (a1 : Int) : runC spec_diCommon.C (spec_diCommon.O N) N (.seq spec_diCommon.c2 (.seq (.block 0 (.loop H24)) spec_diCommon.c7)) 1 (st0 [.one (.int .i64 a0), .one (.int .i64 a1)] [] : St D0) spec_diCommon.K0 = spec_diCommon.o0 N a0 a1 ((fun w0 w1 => iter (loopF spec_diCommon.C (spec_diCommon.O N) N H24 12) N (mkSt [(0, .one (.int .i64 w0)), (1, .one (.int .i64 w1))] [] : St D0) (blockK 0 (onN (fun s => spec_diCommon.C.tidy 6 s (fun s' => runC spec_diCommon.C (spec_diCommon.O N) N spec_diCommon.c7 7 s' spec_diCommon.K0)) spec_diCommon.K0)))) := by kernel_rfl
noncomputable def spec_diCommon.g (N : Nat) (a0 : Int) (a1 : Int) : Option spec_diCommon.R := spec_diCommon.o0 N a0 a1 ((fun w0 w1 => spec_diCommon.l1 N N w0 w1))
theorem spec_diCommon.c1_0 : spec_diCommon.c1 = (.seq spec_diCommon.c2 (.seq (.block 0 (.loop spec_diCommon.c24)) spec_diCommon.c7)) := by kernel_rfl
theorem spec_diCommon.g.run (N : Nat) (a0 : Int) (a1 : Int) : runC spec_diCommon.C (spec_diCommon.O N) N spec_diCommon.c1 1 (st0 [.one (.int .i64 a0), .one (.int .i64 a1)] [] : St D0) spec_diCommon.K0 = spec_diCommon.g N a0 a1 := by
  rw [spec_diCommon.c1_0]; unfold spec_diCommon.g; exact (spec_diCommon.o0.run N spec_diCommon.c24 a0 a1).trans (congr rfl (funext fun w0 => funext fun w1 => (spec_diCommon.loop12 N N) w0 w1))
theorem spec_diCommon.good (N : Nat) (a0 : Int) (a1 : Int) (r : spec_diCommon.R) (h : spec_diCommon.g N a0 a1 = some r) : Go.PM.Good Go.Proofs.Try.prog T0 62 [.one (.int .i64 a0), .one (.int .i64 a1)] [] (spec_diCommon.sig.ret r) (spec_diCommon.sig.bs r) :=
  good_fn tabOk0 mixed0 spec_diCommon.sig (spec_diCommon.E N) Go.Proofs.Try.func62 (by kernel_rfl) (by kernel_rfl) 83 0 0 [(12, [0, 1], [])] 800 false [] [(false, [.any])] (by kernel_rfl) rfl rfl ((spec_diCommon.g.run N a0 a1).trans h)
noncomputable def spec_diCommon.ent (N : Nat) : Ent Go.Proofs.Try.prog T0 := mkEnt 62 [(false, [.any]), (false, [.any])] spec_diCommon.sig (fun t => spec_diCommon.g N t.1 t.2) (fun t r h => spec_diCommon.good N t.1 t.2 r h)
end Go.Proofs.Ytpmipkbfohcjiaa.M

namespace Go.Proofs.Ytpmipkbfohcjiaa.M
open Go Go.PM Go.Proofs.Ytpmipkbfohcjiaa.P
set_option linter.unusedVariables false
set_option maxRecDepth 100000
/-! ### spec_beHours -/
abbrev spec_beHours.R : Type := Int
abbrev spec_beHours.sig : Sig := ⟨[(false, 1)], [], [.sl false 9], [(false, 1)], [], [.int .i64]⟩
noncomputable def spec_beHours.C : Cfg D0 := ⟨Go.Proofs.Try.prog, T0, 5, 0, 9, 0, [], 40, false, []⟩
noncomputable def spec_beHours.E (N : Nat) : List (Ent Go.Proofs.Try.prog T0) := [spec_diCommon.ent N]
noncomputable def spec_beHours.O (N : Nat) : Orc D0 spec_beHours.R := orcOf (spec_beHours.E N)
noncomputable def spec_beHours.K0 : Ex → St D0 → Option spec_beHours.R := exitK spec_beHours.C Go.Proofs.Try.f44.results.toList [(false, [.any])] (decOut spec_beHours.sig)
noncomputable def spec_beHours.c1 : Code := codeAt (Go.Proofs.Try.f44.body.getD .skip) []
noncomputable def spec_beHours.o0 (N : Nat) (a0 : List ByteArray) : Option spec_beHours.R :=
 (spec_diCommon.g N (a0.length : Int) 10).bind fun r1 =>
 bif (r1 == 0) then
  none
 else
 some ((w64 (Int.tdiv (a0.length : Int) r1)))
theorem spec_beHours.o0.run (N : Nat) (a0 : List ByteArray) : runC spec_beHours.C (spec_beHours.O N) N spec_beHours.c1 1 (st0 [.one (.sl false 9 a0)] [] : St D0) spec_beHours.K0 = spec_beHours.o0 N a0 := by kernel_rfl
noncomputable def spec_beHours.g (N : Nat) (a0 : List ByteArray) : Option spec_beHours.R := spec_beHours.o0 N a0
theorem spec_beHours.g.run (N : Nat) (a0 : List ByteArray) : runC spec_beHours.C (spec_beHours.O N) N spec_beHours.c1 1 (st0 [.one (.sl false 9 a0)] [] : St D0) spec_beHours.K0 = spec_beHours.g N a0 := by
  exact (spec_beHours.o0.run N a0).trans rfl
theorem spec_beHours.good (N : Nat) (a0 : List ByteArray) (r : spec_beHours.R) (h : spec_beHours.g N a0 = some r) : Go.PM.Good Go.Proofs.Try.prog T0 44 [.one (.sl false 9 a0)] [] (spec_beHours.sig.ret r) (spec_beHours.sig.bs r) :=
  good_fn tabOk0 mixed0 spec_beHours.sig (spec_beHours.E N) Go.Proofs.Try.func44 (by kernel_rfl) (by kernel_rfl) 5 0 0 [] 40 false [] [(false, [.any])] (by kernel_rfl) rfl rfl ((spec_beHours.g.run N a0).trans h)
noncomputable def spec_beHours.ent (N : Nat) : Ent Go.Proofs.Try.prog T0 := mkEnt 44 [(false, [.ro 9])] spec_beHours.sig (fun t => spec_beHours.g N t) (fun t r h => spec_beHours.good N t r h)
end Go.Proofs.Ytpmipkbfohcjiaa.M

namespace Go.Proofs.Ytpmipkbfohcjiaa.M
open Go Go.PM Go.Proofs.Ytpmipkbfohcjiaa.P
set_option linter.unusedVariables false
set_option maxRecDepth 100000
open Go.RowKit Go.Lib
/-! ### strings_Join -/
abbrev strings_Join.R : Type := ByteArray
abbrev strings_Join.sig : Sig := ⟨[(false, 1), (false, 1)], [], [.sl false 9, .str], [(false, 1)], [], [.str]⟩
noncomputable def strings_Join.g (N : Nat) (a0 : List ByteArray) (a1 : ByteArray) : Option strings_Join.R := bif decide ((Lib.join (a0.map (·.data.toList)) a1.data.toList).length ≤ 140737488355328 ∧ a0.length ≤ 140737488355328) then some ⟨(Lib.join (a0.map (·.data.toList)) a1.data.toList).toArray⟩ else none
theorem strings_Join.good (N : Nat) (a0 : List ByteArray) (a1 : ByteArray) (r : strings_Join.R) (h : strings_Join.g N a0 a1 = some r) : Go.PM.Good Go.Proofs.Try.prog T0 63 [.one (.sl false 9 a0), .one (.str a1)] [] (strings_Join.sig.ret r) (strings_Join.sig.bs r) := by
  unfold strings_Join.g at h
  obtain ⟨hc, h⟩ := bif_some h
  have hc := of_decide_eq_true hc
  cases Option.some.inj h
  refine good_flat ⟨_, Go.Proofs.Try.func63, by kernel_rfl, rfl⟩ _ (.str _) ?_
  intro w C blk vargs hsz hrep hag
  have e1 := rep_str (hrep 1)
  obtain ⟨A, cp, b, o, vals, e0, hcp, hA, hC, hR⟩ := inv_sl (T := T0) (e := 9) (xs := a0) (own := false) (hrep 0)
  have ev : vargs = #[.slice A a0.length cp, .string a1] := (args2 hsz).trans (by rw [e0, e1])
  rw [ev]
  cases a0 with
  | nil =>
    refine (Go.Proofs.Try.strings_Join_none A cp a1 w).mono ?_
    rintro e w' ⟨rfl, rfl⟩
    exact ⟨rfl, Below.refl _ _⟩
  | cons x xs =>
    have hA' := hA (by simp)
    subst hA'
    have hcell : ∀ (j : Nat) y, (x :: xs)[j]? = some y → w.cell? ⟨b, o + j, none⟩ = some (.string y) := by
      intro j y hj
      have h1 := hC j y 0 (.str y) hj rfl
      have h2 := hR j y 0 (.str y) hj rfl
      have h3 := hag _ _ _ h1
      rw [show vals j 0 = .string y from inv_str (C := C) (blk := blk) h2] at h3
      rw [← h3]
      show _ = w.cell? ⟨b, o + j * 1 + 0, none⟩
      rw [Nat.mul_one, Nat.add_zero]
    have hb : b < w.heap.size := World.block_lt_of_cell? w _ (hcell 0 x rfl)
    refine (Go.Proofs.Try.strings_Join b o cp (x :: xs) a1 w hcell hb hc.2 hcp hc.1).mono ?_
    rintro e w' ⟨rfl, hB⟩
    exact ⟨rfl, hB⟩
noncomputable def strings_Join.ent (N : Nat) : Ent Go.Proofs.Try.prog T0 := mkEnt 63 [(false, [.ro 9]), (false, [.any])] strings_Join.sig (fun t => strings_Join.g N t.1 t.2) (fun t r h => strings_Join.good N t.1 t.2 r h)
end Go.Proofs.Ytpmipkbfohcjiaa.M

namespace Go.Proofs.Ytpmipkbfohcjiaa.M
open Go Go.PM Go.Proofs.Ytpmipkbfohcjiaa.P
set_option linter.unusedVariables false
set_option maxRecDepth 100000
/-! ### impl_bellText -/
abbrev impl_bellText.R : Type := ByteArray
abbrev impl_bellText.sig : Sig := ⟨[(false, 1)], [], [.int .i64], [(false, 1)], [], [.str]⟩
noncomputable def impl_bellText.C : Cfg D0 := ⟨Go.Proofs.Try.prog, T0, 5, 0, 7, 0, [], 8, false, []⟩
noncomputable def impl_bellText.E (N : Nat) : List (Ent Go.Proofs.Try.prog T0) := []
noncomputable def impl_bellText.O (N : Nat) : Orc D0 impl_bellText.R := orcOf (impl_bellText.E N)
noncomputable def impl_bellText.K0 : Ex → St D0 → Option impl_bellText.R := exitK impl_bellText.C Go.Proofs.Try.f54.results.toList [(false, [.any])] (decOut impl_bellText.sig)
noncomputable def impl_bellText.c1 : Code := codeAt (Go.Proofs.Try.f54.body.getD .skip) []
noncomputable def impl_bellText.o0 (N : Nat) (a0 : Int) : Option impl_bellText.R :=
 some ((Utf8.encode ((IntKind.wrap .i32) (w64 (48 + a0)))))
theorem impl_bellText.o0.run (N : Nat) (a0 : Int) : runC impl_bellText.C (impl_bellText.O N) N impl_bellText.c1 1 (st0 [.one (.int .i64 a0)] [] : St D0) impl_bellText.K0 = impl_bellText.o0 N a0 := by kernel_rfl
noncomputable def impl_bellText.g (N : Nat) (a0 : Int) : Option impl_bellText.R := impl_bellText.o0 N a0
theorem impl_bellText.g.run (N : Nat) (a0 : Int) : runC impl_bellText.C (impl_bellText.O N) N impl_bellText.c1 1 (st0 [.one (.int .i64 a0)] [] : St D0) impl_bellText.K0 = impl_bellText.g N a0 := by
  exact (impl_bellText.o0.run N a0).trans rfl
theorem impl_bellText.good (N : Nat) (a0 : Int) (r : impl_bellText.R) (h : impl_bellText.g N a0 = some r) : Go.PM.Good Go.Proofs.Try.prog T0 54 [.one (.int .i64 a0)] [] (impl_bellText.sig.ret r) (impl_bellText.sig.bs r) :=
  good_fn tabOk0 mixed0 impl_bellText.sig (impl_bellText.E N) Go.Proofs.Try.func54 (by kernel_rfl) (by kernel_rfl) 5 0 0 [] 8 false [] [(false, [.any])] (by kernel_rfl) rfl rfl ((impl_bellText.g.run N a0).trans h)
noncomputable def impl_bellText.ent (N : Nat) : Ent Go.Proofs.Try.prog T0 := mkEnt 54 [(false, [.any])] impl_bellText.sig (fun t => impl_bellText.g N t) (fun t r h => impl_bellText.good N t r h)
end Go.Proofs.Ytpmipkbfohcjiaa.M

namespace Go.Proofs.Ytpmipkbfohcjiaa.M
open Go Go.PM Go.Proofs.Ytpmipkbfohcjiaa.P
set_option linter.unusedVariables false
set_option maxRecDepth 100000
open Go.RowKit Go.Lib
/-! ### strings_Contains -/
abbrev strings_Contains.R : Type := Bool
abbrev strings_Contains.sig : Sig := ⟨[(false, 1), (false, 1)], [], [.str, .str], [(false, 1)], [], [.bool]⟩
noncomputable def strings_Contains.g (N : Nat) (a0 a1 : ByteArray) : Option strings_Contains.R := match a1.data.toList with
  | [c] => some (decide (0 ≤ Lib.indexByte a0.data.toList c))
  | _ => none
theorem strings_Contains.good (N : Nat) (a0 a1 : ByteArray) (r : strings_Contains.R) (h : strings_Contains.g N a0 a1 = some r) : Go.PM.Good Go.Proofs.Try.prog T0 56 [.one (.str a0), .one (.str a1)] [] (strings_Contains.sig.ret r) (strings_Contains.sig.bs r) := by
  obtain ⟨⟨l⟩⟩ := a1
  match l, h with
  | [c], h =>
    cases Option.some.inj h
    refine good_flat ⟨_, Go.Proofs.Try.func56, by kernel_rfl, rfl⟩ _ (.bool _) ?_
    intro w C blk vargs hsz hrep hag
    have e0 := rep_str (hrep 0)
    have e1 := rep_str (hrep 1)
    have ev : vargs = #[.string a0, .string ⟨#[c]⟩] := (args2 hsz).trans (by rw [e0, e1])
    rw [ev]
    refine (Go.Proofs.Try.strings_Contains_one a0 c w).mono ?_
    rintro e w' ⟨rfl, rfl⟩
    exact ⟨rfl, Below.refl _ _⟩
noncomputable def strings_Contains.ent (N : Nat) : Ent Go.Proofs.Try.prog T0 := mkEnt 56 [(false, [.any]), (false, [.any])] strings_Contains.sig (fun t => strings_Contains.g N t.1 t.2) (fun t r h => strings_Contains.good N t.1 t.2 r h)
end Go.Proofs.Ytpmipkbfohcjiaa.M

namespace Go.Proofs.Ytpmipkbfohcjiaa.M
open Go Go.PM Go.Proofs.Ytpmipkbfohcjiaa.P
set_option linter.unusedVariables false
set_option maxRecDepth 100000
/-! ### impl_bells -/
abbrev impl_bells.R : Type := List Int
abbrev impl_bells.sig : Sig := ⟨[(false, 1)], [], [.sl false 9], [(false, 1)], [], [.sl true 3]⟩
noncomputable def impl_bells.C : Cfg D0 := ⟨Go.Proofs.Try.prog, T0, 16541, 0, 20, 0, [(58, [0, 3, 4], []), (466, [0, 3, 4], [])], 5440, false, []⟩
noncomputable def impl_bells.E (N : Nat) : List (Ent Go.Proofs.Try.prog T0) := [strings_Join.ent N, impl_bellText.ent N, strings_Contains.ent N]
noncomputable def impl_bells.O (N : Nat) : Orc D0 impl_bells.R := orcOf (impl_bells.E N)
noncomputable def impl_bells.K0 : Ex → St D0 → Option impl_bells.R := exitK impl_bells.C Go.Proofs.Try.f45.results.toList [(false, [.own 3])] (decOut impl_bells.sig)
noncomputable def impl_bells.c1 : Code := codeAt (Go.Proofs.Try.f45.body.getD .skip) []
noncomputable def impl_bells.c2 : Code := codeAt (Go.Proofs.Try.f45.body.getD .skip) [false]
noncomputable def impl_bells.c6 : Code := codeAt (Go.Proofs.Try.f45.body.getD .skip) [true, false]
noncomputable def impl_bells.c15 : Code := codeAt (Go.Proofs.Try.f45.body.getD .skip) [true, true, true]
noncomputable def impl_bells.c28 : Code := codeAt (Go.Proofs.Try.f45.body.getD .skip) [true, true, false, false]
noncomputable def impl_bells.c116 : Code := codeAt (Go.Proofs.Try.f45.body.getD .skip) [true, true, false, true, false, false]
noncomputable def impl_bells.c232 : Code := codeAt (Go.Proofs.Try.f45.body.getD .skip) [true, true, false, true, false, false, false]
noncomputable def impl_bells.c466 : Code := codeAt (Go.Proofs.Try.f45.body.getD .skip) [true, true, false, true, false, false, true, false]
noncomputable def impl_bells.c467 : Code := codeAt (Go.Proofs.Try.f45.body.getD .skip) [true, true, false, true, false, false, true, true]
noncomputable def impl_bells.K467 (N : Nat) (Kn58 : St D0 → Option impl_bells.R) : Ex → St D0 → Option impl_bells.R := (onN (fun s => impl_bells.C.tidy 58 s ((onN Kn58 (blockK 0 (onN (fun s => impl_bells.C.tidy 14 s (fun s' => runC impl_bells.C (impl_bells.O N) N impl_bells.c15 15 s' impl_bells.K0)) impl_bells.K0))) .normal)) (onN Kn58 (blockK 0 (onN (fun s => impl_bells.C.tidy 14 s (fun s' => runC impl_bells.C (impl_bells.O N) N impl_bells.c15 15 s' impl_bells.K0)) impl_bells.K0))))
noncomputable def impl_bells.o2 (N : Nat) (v0 : List ByteArray) (v1 : List Int) (v2 : Int) (c1 : (List ByteArray) → (List Int) → Int → Option impl_bells.R) : Option impl_bells.R :=
 c1 v0 v1 (w64 (v2 + 1))
theorem impl_bells.o2.run (N : Nat) (Kn58 : St D0 → Option impl_bells.R) (v0 : List ByteArray) (v1 : List Int) (v2 : Int) : runC impl_bells.C (impl_bells.O N) N impl_bells.c467 467 (mkSt [(0, .one (.sl false 9 v0)), (3, .one (.sl true 3 v1)), (4, .one (.int .i64 v2))] [] : St D0) (onN (fun s => impl_bells.C.tidy 58 s ((onN Kn58 (blockK 0 (onN (fun s => impl_bells.C.tidy 14 s (fun s' => runC impl_bells.C (impl_bells.O N) N impl_bells.c15 15 s' impl_bells.K0)) impl_bells.K0))) .normal)) (onN Kn58 (blockK 0 (onN (fun s => impl_bells.C.tidy 14 s (fun s' => runC impl_bells.C (impl_bells.O N) N impl_bells.c15 15 s' impl_bells.K0)) impl_bells.K0)))) = impl_bells.o2 N v0 v1 v2 ((fun w0 w1 w2 => Kn58 (mkSt [(0, .one (.sl false 9 w0)), (3, .one (.sl true 3 w1)), (4, .one (.int .i64 w2))] [] : St D0))) := by kernel_rfl
noncomputable def impl_bells.d2 (N : Nat) (v0 : List ByteArray) (v1 : List Int) (v2 : Int) (c1 : (List ByteArray) → (List Int) → Int → Option impl_bells.R) : Option impl_bells.R := impl_bells.o2 N v0 v1 v2 c1
theorem impl_bells.d2.run (N : Nat) (Kn58 : St D0 → Option impl_bells.R) (v0 : List ByteArray) (v1 : List Int) (v2 : Int) : runC impl_bells.C (impl_bells.O N) N impl_bells.c467 467 (mkSt [(0, .one (.sl false 9 v0)), (3, .one (.sl true 3 v1)), (4, .one (.int .i64 v2))] [] : St D0) (impl_bells.K467 N Kn58) = impl_bells.d2 N v0 v1 v2 ((fun w0 w1 w2 => Kn58 (mkSt [(0, .one (.sl false 9 w0)), (3, .one (.sl true 3 w1)), (4, .one (.int .i64 w2))] [] : St D0))) := by
  exact (impl_bells.o2.run N Kn58 v0 v1 v2).trans rfl
noncomputable def impl_bells.K116 (N : Nat) (Kn58 : St D0 → Option impl_bells.R) : Ex → St D0 → Option impl_bells.R := (onN (fun s => impl_bells.C.tidy 58 s ((onN Kn58 (blockK 0 (onN (fun s => impl_bells.C.tidy 14 s (fun s' => runC impl_bells.C (impl_bells.O N) N impl_bells.c15 15 s' impl_bells.K0)) impl_bells.K0))) .normal)) (onN Kn58 (blockK 0 (onN (fun s => impl_bells.C.tidy 14 s (fun s' => runC impl_bells.C (impl_bells.O N) N impl_bells.c15 15 s' impl_bells.K0)) impl_bells.K0))))
noncomputable def impl_bells.o1 (N : Nat) (v0 : List ByteArray) (v1 : List Int) (v2 : Int) (c2 : (List ByteArray) → (List Int) → Int → Option impl_bells.R) : Option impl_bells.R :=
 bif (decide (v2 ≤ 8)) then
  (strings_Join.g N v0 (⟨#[]⟩ : ByteArray)).bind fun r1 =>
  (impl_bellText.g N v2).bind fun r2 =>
  (strings_Contains.g N r1 r2).bind fun r3 =>
  bif r3 then
   bif (Nat.blt (v1.length + ([v2] : List Int).length) 17592186044416) then
    c2 v0 (v1 ++ ([v2] : List Int)) v2
   else
   none
  else
  c2 v0 v1 v2
 else
 some (v1)
theorem impl_bells.o1.run (N : Nat) (Kn58 : St D0 → Option impl_bells.R) (H467 : Code) (v0 : List ByteArray) (v1 : List Int) (v2 : Int) : runC impl_bells.C (impl_bells.O N) N (.seq impl_bells.c232 (.seq impl_bells.c466 H467)) 116 (mkSt [(0, .one (.sl false 9 v0)), (3, .one (.sl true 3 v1)), (4, .one (.int .i64 v2))] [] : St D0) (onN (fun s => impl_bells.C.tidy 58 s ((onN Kn58 (blockK 0 (onN (fun s => impl_bells.C.tidy 14 s (fun s' => runC impl_bells.C (impl_bells.O N) N impl_bells.c15 15 s' impl_bells.K0)) impl_bells.K0))) .normal)) (onN Kn58 (blockK 0 (onN (fun s => impl_bells.C.tidy 14 s (fun s' => runC impl_bells.C (impl_bells.O N) N impl_bells.c15 15 s' impl_bells.K0)) impl_bells.K0)))) = impl_bells.o1 N v0 v1 v2 ((fun w0 w1 w2 => runC impl_bells.C (impl_bells.O N) N H467 467 (mkSt [(0, .one (.sl false 9 w0)), (3, .one (.sl true 3 w1)), (4, .one (.int .i64 w2))] [] : St D0) (onN (fun s => impl_bells.C.tidy 58 s ((onN Kn58 (blockK 0 (onN (fun s => impl_bells.C.tidy 14 s (fun s' => runC impl_bells.C (impl_bells.O N) N impl_bells.c15 15 s' impl_bells.K0)) impl_bells.K0))) .normal)) (onN Kn58 (blockK 0 (onN (fun s => impl_bells.C.tidy 14 s (fun s' => runC impl_bells.C (impl_bells.O N) N impl_bells.c15 15 s' impl_bells.K0)) impl_bells.K0)))))) := by kernel_rfl
noncomputable def impl_bells.B233 (N : Nat) (Kn58 : St D0 → Option impl_bells.R) : St D0 → Option impl_bells.R := fun s' => runC impl_bells.C (impl_bells.O N) N impl_bells.c467 467 s' (impl_bells.K467 N Kn58)
noncomputable def impl_bells.d1 (N : Nat) (v0 : List ByteArray) (v1 : List Int) (v2 : Int) (c1 : (List ByteArray) → (List Int) → Int → Option impl_bells.R) : Option impl_bells.R := impl_bells.o1 N v0 v1 v2 ((fun w0 w1 w2 => impl_bells.d2 N w0 w1 w2 c1))
theorem impl_bells.c116_1 : impl_bells.c116 = (.seq impl_bells.c232 (.seq impl_bells.c466 impl_bells.c467)) := by kernel_rfl
theorem impl_bells.d1.run (N : Nat) (Kn58 : St D0 → Option impl_bells.R) (v0 : List ByteArray) (v1 : List Int) (v2 : Int) : runC impl_bells.C (impl_bells.O N) N impl_bells.c116 116 (mkSt [(0, .one (.sl false 9 v0)), (3, .one (.sl true 3 v1)), (4, .one (.int .i64 v2))] [] : St D0) (impl_bells.K116 N Kn58) = impl_bells.d1 N v0 v1 v2 ((fun w0 w1 w2 => Kn58 (mkSt [(0, .one (.sl false 9 w0)), (3, .one (.sl true 3 w1)), (4, .one (.int .i64 w2))] [] : St D0))) := by
  rw [impl_bells.c116_1]; unfold impl_bells.d1; exact (impl_bells.o1.run N Kn58 impl_bells.c467 v0 v1 v2).trans (congr rfl (funext fun w0 => funext fun w1 => funext fun w2 => impl_bells.d2.run N Kn58 w0 w1 w2))
noncomputable def impl_bells.K58 (N : Nat) : Ex → St D0 → Option impl_bells.R := (blockK 0 (onN (fun s => impl_bells.C.tidy 14 s (fun s' => runC impl_bells.C (impl_bells.O N) N impl_bells.c15 15 s' impl_bells.K0)) impl_bells.K0))
noncomputable def impl_bells.l1 (N : Nat) : Nat → (List ByteArray) → (List Int) → Int → Option impl_bells.R
  | 0, _, _, _ => none
  | n + 1, v0, v1, v2 => impl_bells.d1 N v0 v1 v2 ((fun w0 w1 w2 => impl_bells.l1 N n w0 w1 w2))
theorem impl_bells.loop58 (N : Nat) : ∀ n, (∀ (v0 : List ByteArray) (v1 : List Int) (v2 : Int), iter (loopF impl_bells.C (impl_bells.O N) N impl_bells.c116 58) n (mkSt [(0, .one (.sl false 9 v0)), (3, .one (.sl true 3 v1)), (4, .one (.int .i64 v2))] [] : St D0) (impl_bells.K58 N) = impl_bells.l1 N n v0 v1 v2)
  | 0 => (fun v0 v1 v2 => rfl)
  | n + 1 => (fun v0 v1 v2 => (impl_bells.d1.run N (fun s => iter (loopF impl_bells.C (impl_bells.O N) N impl_bells.c116 58) n s (impl_bells.K58 N)) v0 v1 v2).trans (show _ = impl_bells.d1 N v0 v1 v2 ((fun w0 w1 w2 => impl_bells.l1 N n w0 w1 w2)) from (congr rfl (funext fun w0 => funext fun w1 => funext fun w2 => (impl_bells.loop58 N n) w0 w1 w2))))
noncomputable def impl_bells.o0 (N : Nat) (a0 : List ByteArray) (c1 : (List ByteArray) → (List Int) → Int → Option impl_bells.R) : Option impl_bells.R :=
 c1 a0 ([] : List Int) 1
theorem impl_bells.o0.run (N : Nat) (H116 : Code) (a0 : List ByteArray) : runC impl_bells.C (impl_bells.O N) N (.seq impl_bells.c2 (.seq impl_bells.c6 (.seq (.seq impl_bells.c28 (.block 0 (.loop H116))) impl_bells.c15))) 1 (st0 [.one (.sl false 9 a0)] [] : St D0) impl_bells.K0 = impl_bells.o0 N a0 ((fun w0 w1 w2 => iter (loopF impl_bells.C (impl_bells.O N) N H116 58) N (mkSt [(0, .one (.sl false 9 w0)), (3, .one (.sl true 3 w1)), (4, .one (.int .i64 w2))] [] : St D0) (blockK 0 (onN (fun s => impl_bells.C.tidy 14 s (fun s' => runC impl_bells.C (impl_bells.O N) N impl_bells.c15 15 s' impl_bells.K0)) impl_bells.K0)))) := by kernel_rfl
noncomputable def impl_bells.g (N : Nat) (a0 : List ByteArray) : Option impl_bells.R := impl_bells.o0 N a0 ((fun w0 w1 w2 => impl_bells.l1 N N w0 w1 w2))
theorem impl_bells.c1_0 : impl_bells.c1 = (.seq impl_bells.c2 (.seq impl_bells.c6 (.seq (.seq impl_bells.c28 (.block 0 (.loop impl_bells.c116))) impl_bells.c15))) := by kernel_rfl
theorem impl_bells.g.run (N : Nat) (a0 : List ByteArray) : runC impl_bells.C (impl_bells.O N) N impl_bells.c1 1 (st0 [.one (.sl false 9 a0)] [] : St D0) impl_bells.K0 = impl_bells.g N a0 := by
  rw [impl_bells.c1_0]; unfold impl_bells.g; exact (impl_bells.o0.run N impl_bells.c116 a0).trans (congr rfl (funext fun w0 => funext fun w1 => funext fun w2 => (impl_bells.loop58 N N) w0 w1 w2))
theorem impl_bells.good (N : Nat) (a0 : List ByteArray) (r : impl_bells.R) (h : impl_bells.g N a0 = some r) : Go.PM.Good Go.Proofs.Try.prog T0 45 [.one (.sl false 9 a0)] [] (impl_bells.sig.ret r) (impl_bells.sig.bs r) :=
  good_fn tabOk0 mixed0 impl_bells.sig (impl_bells.E N) Go.Proofs.Try.func45 (by kernel_rfl) (by kernel_rfl) 16541 0 0 [(58, [0, 3, 4], []), (466, [0, 3, 4], [])] 5440 false [] [(false, [.own 3])] (by kernel_rfl) rfl rfl ((impl_bells.g.run N a0).trans h)
noncomputable def impl_bells.ent (N : Nat) : Ent Go.Proofs.Try.prog T0 := mkEnt 45 [(false, [.ro 9])] impl_bells.sig (fun t => impl_bells.g N t) (fun t r h => impl_bells.good N t r h)
end Go.Proofs.Ytpmipkbfohcjiaa.M

namespace Go.Proofs.Ytpmipkbfohcjiaa.M
open Go Go.PM Go.Proofs.Ytpmipkbfohcjiaa.P
set_option linter.unusedVariables false
set_option maxRecDepth 100000
/-! ### impl_BellsOf -/
abbrev impl_BellsOf.R : Type := List Int × Bool
abbrev impl_BellsOf.sig : Sig := ⟨[(false, 1)], [], [.sl false 9], [(false, 1), (false, 1)], [], [.sl true 3, .bool]⟩
noncomputable def impl_BellsOf.C : Cfg D0 := ⟨Go.Proofs.Try.prog, T0, 77, 0, 9, 0, [], 144, false, []⟩
noncomputable def impl_BellsOf.E (N : Nat) : List (Ent Go.Proofs.Try.prog T0) := [impl_IsTune.ent N, impl_bells.ent N]
noncomputable def impl_BellsOf.O (N : Nat) : Orc D0 impl_BellsOf.R := orcOf (impl_BellsOf.E N)
noncomputable def impl_BellsOf.K0 : Ex → St D0 → Option impl_BellsOf.R := exitK impl_BellsOf.C Go.Proofs.Try.f15.results.toList [(false, [.own 3]), (false, [.any])] (decOut impl_BellsOf.sig)
noncomputable def impl_BellsOf.c1 : Code := codeAt (Go.Proofs.Try.f15.body.getD .skip) []
noncomputable def impl_BellsOf.o0 (N : Nat) (a0 : List ByteArray) : Option impl_BellsOf.R :=
 (impl_IsTune.g N a0).bind fun r1 =>
 bif (!r1) then
  some (([] : List Int), false)
 else
 (impl_bells.g N a0).bind fun r2 =>
 some (r2, true)
theorem impl_BellsOf.o0.run (N : Nat) (a0 : List ByteArray) : runC impl_BellsOf.C (impl_BellsOf.O N) N impl_BellsOf.c1 1 (st0 [.one (.sl false 9 a0)] [] : St D0) impl_BellsOf.K0 = impl_BellsOf.o0 N a0 := by kernel_rfl
noncomputable def impl_BellsOf.g (N : Nat) (a0 : List ByteArray) : Option impl_BellsOf.R := impl_BellsOf.o0 N a0
theorem impl_BellsOf.g.run (N : Nat) (a0 : List ByteArray) : runC impl_BellsOf.C (impl_BellsOf.O N) N impl_BellsOf.c1 1 (st0 [.one (.sl false 9 a0)] [] : St D0) impl_BellsOf.K0 = impl_BellsOf.g N a0 := by
  exact (impl_BellsOf.o0.run N a0).trans rfl
theorem impl_BellsOf.good (N : Nat) (a0 : List ByteArray) (r : impl_BellsOf.R) (h : impl_BellsOf.g N a0 = some r) : Go.PM.Good Go.Proofs.Try.prog T0 15 [.one (.sl false 9 a0)] [] (impl_BellsOf.sig.ret r) (impl_BellsOf.sig.bs r) :=
  good_fn tabOk0 mixed0 impl_BellsOf.sig (impl_BellsOf.E N) Go.Proofs.Try.func15 (by kernel_rfl) (by kernel_rfl) 77 0 0 [] 144 false [] [(false, [.own 3]), (false, [.any])] (by kernel_rfl) rfl rfl ((impl_BellsOf.g.run N a0).trans h)
noncomputable def impl_BellsOf.ent (N : Nat) : Ent Go.Proofs.Try.prog T0 := mkEnt 15 [(false, [.ro 9])] impl_BellsOf.sig (fun t => impl_BellsOf.g N t) (fun t r h => impl_BellsOf.good N t r h)
end Go.Proofs.Ytpmipkbfohcjiaa.M

namespace Go.Proofs.Ytpmipkbfohcjiaa.M
open Go Go.PM Go.Proofs.Ytpmipkbfohcjiaa.P
set_option linter.unusedVariables false
set_option maxRecDepth 100000
/-! ### spec_beBell -/
abbrev spec_beBell.R : Type := Int
abbrev spec_beBell.sig : Sig := ⟨[(false, 1), (false, 1)], [], [.str, .int .i64], [(false, 1)], [], [.int .i64]⟩
noncomputable def spec_beBell.C : Cfg D0 := ⟨Go.Proofs.Try.prog, T0, 525427, 0, 23, 0, [(58, [0, 1, 5, 6], []), (466, [0, 1, 5, 6], [])], 1337728, false, []⟩
noncomputable def spec_beBell.E (N : Nat) : List (Ent Go.Proofs.Try.prog T0) := []
noncomputable def spec_beBell.O (N : Nat) : Orc D0 spec_beBell.R := orcOf (spec_beBell.E N)
noncomputable def spec_beBell.K0 : Ex → St D0 → Option spec_beBell.R := exitK spec_beBell.C Go.Proofs.Try.f46.results.toList [(false, [.any])] (decOut spec_beBell.sig)
noncomputable def spec_beBell.c1 : Code := codeAt (Go.Proofs.Try.f46.body.getD .skip) []
noncomputable def spec_beBell.c2 : Code := codeAt (Go.Proofs.Try.f46.body.getD .skip) [false]
noncomputable def spec_beBell.c6 : Code := codeAt (Go.Proofs.Try.f46.body.getD .skip) [true, false]
noncomputable def spec_beBell.c15 : Code := codeAt (Go.Proofs.Try.f46.body.getD .skip) [true, true, true]
noncomputable def spec_beBell.c28 : Code := codeAt (Go.Proofs.Try.f46.body.getD .skip) [true, true, false, false]
noncomputable def spec_beBell.c116 : Code := codeAt (Go.Proofs.Try.f46.body.getD .skip) [true, true, false, true, false, false]
noncomputable def spec_beBell.c232 : Code := codeAt (Go.Proofs.Try.f46.body.getD .skip) [true, true, false, true, false, false, false]
noncomputable def spec_beBell.c466 : Code := codeAt (Go.Proofs.Try.f46.body.getD .skip) [true, true, false, true, false, false, true, false]
noncomputable def spec_beBell.c467 : Code := codeAt (Go.Proofs.Try.f46.body.getD .skip) [true, true, false, true, false, false, true, true]
noncomputable def spec_beBell.K467 (N : Nat) (Kn58 : St D0 → Option spec_beBell.R) : Ex → St D0 → Option spec_beBell.R := (onN (fun s => spec_beBell.C.tidy 58 s ((onN Kn58 (blockK 0 (onN (fun s => spec_beBell.C.tidy 14 s (fun s' => runC spec_beBell.C (spec_beBell.O N) N spec_beBell.c15 15 s' spec_beBell.K0)) spec_beBell.K0))) .normal)) (onN Kn58 (blockK 0 (onN (fun s => spec_beBell.C.tidy 14 s (fun s' => runC spec_beBell.C (spec_beBell.O N) N spec_beBell.c15 15 s' spec_beBell.K0)) spec_beBell.K0))))
noncomputable def spec_beBell.o2 (N : Nat) (v0 : ByteArray) (v1 : Int) (v2 : Int) (v3 : Int) (c1 : ByteArray → Int → Int → Int → Option spec_beBell.R) : Option spec_beBell.R :=
 c1 v0 v1 v2 (w64 (v3 + 1))
theorem spec_beBell.o2.run (N : Nat) (Kn58 : St D0 → Option spec_beBell.R) (v0 : ByteArray) (v1 : Int) (v2 : Int) (v3 : Int) : runC spec_beBell.C (spec_beBell.O N) N spec_beBell.c467 467 (mkSt [(0, .one (.str v0)), (1, .one (.int .i64 v1)), (5, .one (.int .i64 v2)), (6, .one (.int .i64 v3))] [] : St D0) (onN (fun s => spec_beBell.C.tidy 58 s ((onN Kn58 (blockK 0 (onN (fun s => spec_beBell.C.tidy 14 s (fun s' => runC spec_beBell.C (spec_beBell.O N) N spec_beBell.c15 15 s' spec_beBell.K0)) spec_beBell.K0))) .normal)) (onN Kn58 (blockK 0 (onN (fun s => spec_beBell.C.tidy 14 s (fun s' => runC spec_beBell.C (spec_beBell.O N) N spec_beBell.c15 15 s' spec_beBell.K0)) spec_beBell.K0)))) = spec_beBell.o2 N v0 v1 v2 v3 ((fun w0 w1 w2 w3 => Kn58 (mkSt [(0, .one (.str w0)), (1, .one (.int .i64 w1)), (5, .one (.int .i64 w2)), (6, .one (.int .i64 w3))] [] : St D0))) := by kernel_rfl
noncomputable def spec_beBell.d2 (N : Nat) (v0 : ByteArray) (v1 : Int) (v2 : Int) (v3 : Int) (c1 : ByteArray → Int → Int → Int → Option spec_beBell.R) : Option spec_beBell.R := spec_beBell.o2 N v0 v1 v2 v3 c1
theorem spec_beBell.d2.run (N : Nat) (Kn58 : St D0 → Option spec_beBell.R) (v0 : ByteArray) (v1 : Int) (v2 : Int) (v3 : Int) : runC spec_beBell.C (spec_beBell.O N) N spec_beBell.c467 467 (mkSt [(0, .one (.str v0)), (1, .one (.int .i64 v1)), (5, .one (.int .i64 v2)), (6, .one (.int .i64 v3))] [] : St D0) (spec_beBell.K467 N Kn58) = spec_beBell.d2 N v0 v1 v2 v3 ((fun w0 w1 w2 w3 => Kn58 (mkSt [(0, .one (.str w0)), (1, .one (.int .i64 w1)), (5, .one (.int .i64 w2)), (6, .one (.int .i64 w3))] [] : St D0))) := by
  exact (spec_beBell.o2.run N Kn58 v0 v1 v2 v3).trans rfl
noncomputable def spec_beBell.K116 (N : Nat) (Kn58 : St D0 → Option spec_beBell.R) : Ex → St D0 → Option spec_beBell.R := (onN (fun s => spec_beBell.C.tidy 58 s ((onN Kn58 (blockK 0 (onN (fun s => spec_beBell.C.tidy 14 s (fun s' => runC spec_beBell.C (spec_beBell.O N) N spec_beBell.c15 15 s' spec_beBell.K0)) spec_beBell.K0))) .normal)) (onN Kn58 (blockK 0 (onN (fun s => spec_beBell.C.tidy 14 s (fun s' => runC spec_beBell.C (spec_beBell.O N) N spec_beBell.c15 15 s' spec_beBell.K0)) spec_beBell.K0))))
noncomputable def spec_beBell.o1 (N : Nat) (v0 : ByteArray) (v1 : Int) (v2 : Int) (v3 : Int) (c2 : ByteArray → Int → Int → Int → Option spec_beBell.R) : Option spec_beBell.R :=
 bif (decide (v3 < (v0.size : Int))) then
  bif (decide (0 ≤ v3)) then
   bif (decide (v3 < (v0.size : Int))) then
    bif ((w64 ((IntKind.wrap .u8) ((bt v0 v3) - 48))) == v1) then
     c2 v0 v1 (w64 (v2 + 1)) v3
    else
    c2 v0 v1 v2 v3
   else
   none
  else
  none
 else
 some (v2)
theorem spec_beBell.o1.run (N : Nat) (Kn58 : St D0 → Option spec_beBell.R) (H467 : Code) (v0 : ByteArray) (v1 : Int) (v2 : Int) (v3 : Int) : runC spec_beBell.C (spec_beBell.O N) N (.seq spec_beBell.c232 (.seq spec_beBell.c466 H467)) 116 (mkSt [(0, .one (.str v0)), (1, .one (.int .i64 v1)), (5, .one (.int .i64 v2)), (6, .one (.int .i64 v3))] [] : St D0) (onN (fun s => spec_beBell.C.tidy 58 s ((onN Kn58 (blockK 0 (onN (fun s => spec_beBell.C.tidy 14 s (fun s' => runC spec_beBell.C (spec_beBell.O N) N spec_beBell.c15 15 s' spec_beBell.K0)) spec_beBell.K0))) .normal)) (onN Kn58 (blockK 0 (onN (fun s => spec_beBell.C.tidy 14 s (fun s' => runC spec_beBell.C (spec_beBell.O N) N spec_beBell.c15 15 s' spec_beBell.K0)) spec_beBell.K0)))) = spec_beBell.o1 N v0 v1 v2 v3 ((fun w0 w1 w2 w3 => runC spec_beBell.C (spec_beBell.O N) N H467 467 (mkSt [(0, .one (.str w0)), (1, .one (.int .i64 w1)), (5, .one (.int .i64 w2)), (6, .one (.int .i64 w3))] [] : St D0) (onN (fun s => spec_beBell.C.tidy 58 s ((onN Kn58 (blockK 0 (onN (fun s => spec_beBell.C.tidy 14 s (fun s' => runC spec_beBell.C (spec_beBell.O N) N spec_beBell.c15 15 s' spec_beBell.K0)) spec_beBell.K0))) .normal)) (onN Kn58 (blockK 0 (onN (fun s => spec_beBell.C.tidy 14 s (fun s' => runC spec_beBell.C (spec_beBell.O N) N spec_beBell.c15 15 s' spec_beBell.K0)) spec_beBell.K0)))))) := by kernel_rfl
noncomputable def spec_beBell.B233 (N : Nat) (Kn58 : St D0 → Option spec_beBell.R) : St D0 → Option spec_beBell.R := fun s' => runC spec_beBell.C (spec_beBell.O N) N spec_beBell.c467 467 s' (spec_beBell.K467 N Kn58)
noncomputable def spec_beBell.d1 (N : Nat) (v0 : ByteArray) (v1 : Int) (v2 : Int) (v3 : Int) (c1 : ByteArray → Int → Int → Int → Option spec_beBell.R) : Option spec_beBell.R := spec_beBell.o1 N v0 v1 v2 v3 ((fun w0 w1 w2 w3 => spec_beBell.d2 N w0 w1 w2 w3 c1))
theorem spec_beBell.c116_1 : spec_beBell.c116 = (.seq spec_beBell.c232 (.seq spec_beBell.c466 spec_beBell.c467)) := by kernel_rfl
theorem spec_beBell.d1.run (N : Nat) (Kn58 : St D0 → Option spec_beBell.R) (v0 : ByteArray) (v1 : Int) (v2 : Int) (v3 : Int) : runC spec_beBell.C (spec_beBell.O N) N spec_beBell.c116 116 (mkSt [(0, .one (.str v0)), (1, .one (.int .i64 v1)), (5, .one (.int .i64 v2)), (6, .one (.int .i64 v3))] [] : St D0) (spec_beBell.K116 N Kn58) = spec_beBell.d1 N v0 v1 v2 v3 ((fun w0 w1 w2 w3 => Kn58 (mkSt [(0, .one (.str w0)), (1, .one (.int .i64 w1)), (5, .one (.int .i64 w2)), (6, .one (.int .i64 w3))] [] : St D0))) := by
  rw [spec_beBell.c116_1]; unfold spec_beBell.d1; exact (spec_beBell.o1.run N Kn58 spec_beBell.c467 v0 v1 v2 v3).trans (congr rfl (funext fun w0 => funext fun w1 => funext fun w2 => funext fun w3 => spec_beBell.d2.run N Kn58 w0 w1 w2 w3))
noncomputable def spec_beBell.K58 (N : Nat) : Ex → St D0 → Option spec_beBell.R := (blockK 0 (onN (fun s => spec_beBell.C.tidy 14 s (fun s' => runC spec_beBell.C (spec_beBell.O N) N spec_beBell.c15 15 s' spec_beBell.K0)) spec_beBell.K0))
noncomputable def spec_beBell.l1 (N : Nat) : Nat → ByteArray → Int → Int → Int → Option spec_beBell.R
  | 0, _, _, _, _ => none
  | n + 1, v0, v1, v2, v3 => spec_beBell.d1 N v0 v1 v2 v3 ((fun w0 w1 w2 w3 => spec_beBell.l1 N n w0 w1 w2 w3))
theorem spec_beBell.loop58 (N : Nat) : ∀ n, (∀ (v0 : ByteArray) (v1 : Int) (v2 : Int) (v3 : Int), iter (loopF spec_beBell.C (spec_beBell.O N) N spec_beBell.c116 58) n (mkSt [(0, .one (.str v0)), (1, .one (.int .i64 v1)), (5, .one (.int .i64 v2)), (6, .one (.int .i64 v3))] [] : St D0) (spec_beBell.K58 N) = spec_beBell.l1 N n v0 v1 v2 v3)
  | 0 => (fun v0 v1 v2 v3 => rfl)
  | n + 1 => (fun v0 v1 v2 v3 => (spec_beBell.d1.run N (fun s => iter (loopF spec_beBell.C (spec_beBell.O N) N spec_beBell.c116 58) n s (spec_beBell.K58 N)) v0 v1 v2 v3).trans (show _ = spec_beBell.d1 N v0 v1 v2 v3 ((fun w0 w1 w2 w3 => spec_beBell.l1 N n w0 w1 w2 w3)) from (congr rfl (funext fun w0 => funext fun w1 => funext fun w2 => funext fun w3 => (spec_beBell.loop58 N n) w0 w1 w2 w3))))
noncomputable def spec_beBell.o0 (N : Nat) (a0 : ByteArray) (a1 : Int) (c1 : ByteArray → Int → Int → Int → Option spec_beBell.R) : Option spec_beBell.R :=
 c1 a0 a1 0 0
theorem spec_beBell.o0.run (N : Nat) (H116 : Code) (a0 : ByteArray) (a1 : Int) : runC spec_beBell.C (spec_beBell.O N) N (.seq spec_beBell.c2 (.seq spec_beBell.c6 (.seq (.seq spec_beBell.c28 (.block 0 (.loop H116))) spec_beBell.c15))) 1 (st0 [.one (.str a0), .one (.int .i64 a1)] [] : St D0) spec_beBell.K0 = spec_beBell.o0 N a0 a1 ((fun w0 w1 w2 w3 => iter (loopF spec_beBell.C (spec_beBell.O N) N H116 58) N (mkSt [(0, .one (.str w0)), (1, .one (.int .i64 w1)), (5, .one (.int .i64 w2)), (6, .one (.int .i64 w3))] [] : St D0) (blockK 0 (onN (fun s => spec_beBell.C.tidy 14 s (fun s' => runC spec_beBell.C (spec_beBell.O N) N spec_beBell.c15 15 s' spec_beBell.K0)) spec_beBell.K0)))) := by kernel_rfl
noncomputable def spec_beBell.g (N : Nat) (a0 : ByteArray) (a1 : Int) : Option spec_beBell.R := spec_beBell.o0 N a0 a1 ((fun w0 w1 w2 w3 => spec_beBell.l1 N N w0 w1 w2 w3))
theorem spec_beBell.c1_0 : spec_beBell.c1 = (.seq spec_beBell.c2 (.seq spec_beBell.c6 (.seq (.seq spec_beBell.c28 (.block 0 (.loop spec_beBell.c116))) spec_beBell.c15))) := by kernel_rfl
theorem spec_beBell.g.run (N : Nat) (a0 : ByteArray) (a1 : Int) : runC spec_beBell.C (spec_beBell.O N) N spec_beBell.c1 1 (st0 [.one (.str a0), .one (.int .i64 a1)] [] : St D0) spec_beBell.K0 = spec_beBell.g N a0 a1 := by
  rw [spec_beBell.c1_0]; unfold spec_beBell.g; exact (spec_beBell.o0.run N spec_beBell.c116 a0 a1).trans (congr rfl (funext fun w0 => funext fun w1 => funext fun w2 => funext fun w3 => (spec_beBell.loop58 N N) w0 w1 w2 w3))
theorem spec_beBell.good (N : Nat) (a0 : ByteArray) (a1 : Int) (r : spec_beBell.R) (h : spec_beBell.g N a0 a1 = some r) : Go.PM.Good Go.Proofs.Try.prog T0 46 [.one (.str a0), .one (.int .i64 a1)] [] (spec_beBell.sig.ret r) (spec_beBell.sig.bs r) :=
  good_fn tabOk0 mixed0 spec_beBell.sig (spec_beBell.E N) Go.Proofs.Try.func46 (by kernel_rfl) (by kernel_rfl) 525427 0 0 [(58, [0, 1, 5, 6], []), (466, [0, 1, 5, 6], [])] 1337728 false [] [(false, [.any])] (by kernel_rfl) rfl rfl ((spec_beBell.g.run N a0 a1).trans h)
noncomputable def spec_beBell.ent (N : Nat) : Ent Go.Proofs.Try.prog T0 := mkEnt 46 [(false, [.any]), (false, [.any])] spec_beBell.sig (fun t => spec_beBell.g N t.1 t.2) (fun t r h => spec_beBell.good N t.1 t.2 r h)
end Go.Proofs.Ytpmipkbfohcjiaa.M

namespace Go.Proofs.Ytpmipkbfohcjiaa.M
open Go Go.PM Go.Proofs.Ytpmipkbfohcjiaa.P
set_option linter.unusedVariables false
set_option maxRecDepth 100000
/-! ### spec_BellsOf -/
abbrev spec_BellsOf.R : Type := List Int × Bool
abbrev spec_BellsOf.sig : Sig := ⟨[(false, 1)], [], [.sl false 9], [(false, 1), (false, 1)], [], [.sl true 3, .bool]⟩
noncomputable def spec_BellsOf.C : Cfg D0 := ⟨Go.Proofs.Try.prog, T0, 17274045, 0, 31, 0, [(122, [0, 4, 5], []), (978, [0, 4, 5], []), (7826, [0, 4, 5, 15, 16, 17], [])], 6301952, false, []⟩
noncomputable def spec_BellsOf.E (N : Nat) : List (Ent Go.Proofs.Try.prog T0) := [spec_beTune.ent N, spec_beBell.ent N]
noncomputable def spec_BellsOf.O (N : Nat) : Orc D0 spec_BellsOf.R := orcOf (spec_BellsOf.E N)
noncomputable def spec_BellsOf.K0 : Ex → St D0 → Option spec_BellsOf.R := exitK spec_BellsOf.C Go.Proofs.Try.f16.results.toList [(false, [.own 3]), (false, [.any])] (decOut spec_BellsOf.sig)
noncomputable def spec_BellsOf.c1 : Code := codeAt (Go.Proofs.Try.f16.body.getD .skip) []
noncomputable def spec_BellsOf.c2 : Code := codeAt (Go.Proofs.Try.f16.body.getD .skip) [false]
noncomputable def spec_BellsOf.c6 : Code := codeAt (Go.Proofs.Try.f16.body.getD .skip) [true, false]
noncomputable def spec_BellsOf.c14 : Code := codeAt (Go.Proofs.Try.f16.body.getD .skip) [true, true, false]
noncomputable def spec_BellsOf.c31 : Code := codeAt (Go.Proofs.Try.f16.body.getD .skip) [true, true, true, true]
noncomputable def spec_BellsOf.c60 : Code := codeAt (Go.Proofs.Try.f16.body.getD .skip) [true, true, true, false, false]
noncomputable def spec_BellsOf.c244 : Code := codeAt (Go.Proofs.Try.f16.body.getD .skip) [true, true, true, false, true, false, false]
noncomputable def spec_BellsOf.c488 : Code := codeAt (Go.Proofs.Try.f16.body.getD .skip) [true, true, true, false, true, false, false, false]
noncomputable def spec_BellsOf.c979 : Code := codeAt (Go.Proofs.Try.f16.body.getD .skip) [true, true, true, false, true, false, false, true, true]
noncomputable def spec_BellsOf.c3912 : Code := codeAt (Go.Proofs.Try.f16.body.getD .skip) [true, true, true, false, true, false, false, true, false, false, false]
noncomputable def spec_BellsOf.c15652 : Code := codeAt (Go.Proofs.Try.f16.body.getD .skip) [true, true, true, false, true, false, false, true, false, false, true, false, false]
noncomputable def spec_BellsOf.K979 (N : Nat) (Kn122 : St D0 → Option spec_BellsOf.R) : Ex → St D0 → Option spec_BellsOf.R := (onN (fun s => spec_BellsOf.C.tidy 122 s ((onN Kn122 (blockK 0 (onN (fun s => spec_BellsOf.C.tidy 30 s (fun s' => runC spec_BellsOf.C (spec_BellsOf.O N) N spec_BellsOf.c31 31 s' spec_BellsOf.K0)) spec_BellsOf.K0))) .normal)) (onN Kn122 (blockK 0 (onN (fun s => spec_BellsOf.C.tidy 30 s (fun s' => runC spec_BellsOf.C (spec_BellsOf.O N) N spec_BellsOf.c31 31 s' spec_BellsOf.K0)) spec_BellsOf.K0))))
noncomputable def spec_BellsOf.o3 (N : Nat) (v0 : List ByteArray) (v1 : List Int) (v2 : Int) (c5 : (List ByteArray) → (List Int) → Int → Option spec_BellsOf.R) : Option spec_BellsOf.R :=
 c5 v0 v1 (w64 (v2 + 1))
theorem spec_BellsOf.o3.run (N : Nat) (Kn122 : St D0 → Option spec_BellsOf.R) (v0 : List ByteArray) (v1 : List Int) (v2 : Int) : runC spec_BellsOf.C (spec_BellsOf.O N) N spec_BellsOf.c979 979 (mkSt [(0, .one (.sl false 9 v0)), (4, .one (.sl true 3 v1)), (5, .one (.int .i64 v2))] [] : St D0) (onN (fun s => spec_BellsOf.C.tidy 122 s ((onN Kn122 (blockK 0 (onN (fun s => spec_BellsOf.C.tidy 30 s (fun s' => runC spec_BellsOf.C (spec_BellsOf.O N) N spec_BellsOf.c31 31 s' spec_BellsOf.K0)) spec_BellsOf.K0))) .normal)) (onN Kn122 (blockK 0 (onN (fun s => spec_BellsOf.C.tidy 30 s (fun s' => runC spec_BellsOf.C (spec_BellsOf.O N) N spec_BellsOf.c31 31 s' spec_BellsOf.K0)) spec_BellsOf.K0)))) = spec_BellsOf.o3 N v0 v1 v2 ((fun w0 w1 w2 => Kn122 (mkSt [(0, .one (.sl false 9 w0)), (4, .one (.sl true 3 w1)), (5, .one (.int .i64 w2))] [] : St D0))) := by kernel_rfl
noncomputable def spec_BellsOf.d3 (N : Nat) (v0 : List ByteArray) (v1 : List Int) (v2 : Int) (c5 : (List ByteArray) → (List Int) → Int → Option spec_BellsOf.R) : Option spec_BellsOf.R := spec_BellsOf.o3 N v0 v1 v2 c5
theorem spec_BellsOf.d3.run (N : Nat) (Kn122 : St D0 → Option spec_BellsOf.R) (v0 : List ByteArray) (v1 : List Int) (v2 : Int) : runC spec_BellsOf.C (spec_BellsOf.O N) N spec_BellsOf.c979 979 (mkSt [(0, .one (.sl false 9 v0)), (4, .one (.sl true 3 v1)), (5, .one (.int .i64 v2))] [] : St D0) (spec_BellsOf.K979 N Kn122) = spec_BellsOf.d3 N v0 v1 v2 ((fun w0 w1 w2 => Kn122 (mkSt [(0, .one (.sl false 9 w0)), (4, .one (.sl true 3 w1)), (5, .one (.int .i64 w2))] [] : St D0))) := by
  exact (spec_BellsOf.o3.run N Kn122 v0 v1 v2).trans rfl
noncomputable def spec_BellsOf.o4 (N : Nat) (v0 : List ByteArray) (v1 : Int) (c1 : (List ByteArray) → Int → Option spec_BellsOf.R) : Option spec_BellsOf.R :=
 c1 v0 (w64 (v1 + 1))
theorem spec_BellsOf.o4.run (N : Nat) (Kn122 : St D0 → Option spec_BellsOf.R) (v0 : List ByteArray) (v1 : Int) : runC spec_BellsOf.C (spec_BellsOf.O N) N spec_BellsOf.c979 979 (mkSt [(0, .one (.sl false 9 v0)), (4, .one (.nl)), (5, .one (.int .i64 v1))] [] : St D0) (onN (fun s => spec_BellsOf.C.tidy 122 s ((onN Kn122 (blockK 0 (onN (fun s => spec_BellsOf.C.tidy 30 s (fun s' => runC spec_BellsOf.C (spec_BellsOf.O N) N spec_BellsOf.c31 31 s' spec_BellsOf.K0)) spec_BellsOf.K0))) .normal)) (onN Kn122 (blockK 0 (onN (fun s => spec_BellsOf.C.tidy 30 s (fun s' => runC spec_BellsOf.C (spec_BellsOf.O N) N spec_BellsOf.c31 31 s' spec_BellsOf.K0)) spec_BellsOf.K0)))) = spec_BellsOf.o4 N v0 v1 ((fun w0 w1 => Kn122 (mkSt [(0, .one (.sl false 9 w0)), (4, .one (.nl)), (5, .one (.int .i64 w1))] [] : St D0))) := by kernel_rfl
noncomputable def spec_BellsOf.d4 (N : Nat) (v0 : List ByteArray) (v1 : Int) (c1 : (List ByteArray) → Int → Option spec_BellsOf.R) : Option spec_BellsOf.R := spec_BellsOf.o4 N v0 v1 c1
theorem spec_BellsOf.d4.run (N : Nat) (Kn122 : St D0 → Option spec_BellsOf.R) (v0 : List ByteArray) (v1 : Int) : runC spec_BellsOf.C (spec_BellsOf.O N) N spec_BellsOf.c979 979 (mkSt [(0, .one (.sl false 9 v0)), (4, .one (.nl)), (5, .one (.int .i64 v1))] [] : St D0) (spec_BellsOf.K979 N Kn122) = spec_BellsOf.d4 N v0 v1 ((fun w0 w1 => Kn122 (mkSt [(0, .one (.sl false 9 w0)), (4, .one (.nl)), (5, .one (.int .i64 w1))] [] : St D0))) := by
  exact (spec_BellsOf.o4.run N Kn122 v0 v1).trans rfl
noncomputable def spec_BellsOf.B489 (N : Nat) (Kn122 : St D0 → Option spec_BellsOf.R) : St D0 → Option spec_BellsOf.R := fun s' => runC spec_BellsOf.C (spec_BellsOf.O N) N spec_BellsOf.c979 979 s' (spec_BellsOf.K979 N Kn122)
noncomputable def spec_BellsOf.K15652 (N : Nat) (Kn122 : St D0 → Option spec_BellsOf.R) (Kn7826 : St D0 → Option spec_BellsOf.R) : Ex → St D0 → Option spec_BellsOf.R := (onN (fun s => spec_BellsOf.C.tidy 7826 s ((onN Kn7826 (blockK 2 (blockK 1 (onN (fun s => spec_BellsOf.C.tidy 978 s (spec_BellsOf.B489 N Kn122)) (onN (fun s => spec_BellsOf.C.tidy 122 s ((onN Kn122 (blockK 0 (onN (fun s => spec_BellsOf.C.tidy 30 s (fun s' => runC spec_BellsOf.C (spec_BellsOf.O N) N spec_BellsOf.c31 31 s' spec_BellsOf.K0)) spec_BellsOf.K0))) .normal)) (onN Kn122 (blockK 0 (onN (fun s => spec_BellsOf.C.tidy 30 s (fun s' => runC spec_BellsOf.C (spec_BellsOf.O N) N spec_BellsOf.c31 31 s' spec_BellsOf.K0)) spec_BellsOf.K0)))))))) .normal)) (onN Kn7826 (blockK 2 (blockK 1 (onN (fun s => spec_BellsOf.C.tidy 978 s (spec_BellsOf.B489 N Kn122)) (onN (fun s => spec_BellsOf.C.tidy 122 s ((onN Kn122 (blockK 0 (onN (fun s => spec_BellsOf.C.tidy 30 s (fun s' => runC spec_BellsOf.C (spec_BellsOf.O N) N spec_BellsOf.c31 31 s' spec_BellsOf.K0)) spec_BellsOf.K0))) .normal)) (onN Kn122 (blockK 0 (onN (fun s => spec_BellsOf.C.tidy 30 s (fun s' => runC spec_BellsOf.C (spec_BellsOf.O N) N spec_BellsOf.c31 31 s' spec_BellsOf.K0)) spec_BellsOf.K0)))))))))
noncomputable def spec_BellsOf.o2 (N : Nat) (v0 : List ByteArray) (v1 : Int) (v2 : List ByteArray) (v3 : Int) (v4 : Int) (c3 : (List ByteArray) → (List Int) → Int → Option spec_BellsOf.R) (c2 : (List ByteArray) → Int → (List ByteArray) → Int → Int → Option spec_BellsOf.R) (c4 : (List ByteArray) → Int → Option spec_BellsOf.R) : Option spec_BellsOf.R :=
 bif (decide (v4 < v3)) then
  bif (decide (0 ≤ v4)) then
   bif (decide (v4 < (v2.length : Int))) then
    (v2[(v4 : Int).toNat]?).bind fun x1 =>
    (spec_beBell.g N x1 v1).bind fun r2 =>
    bif (decide (r2 > 0)) then
     bif (Nat.blt (([] : List Int).length + ([v1] : List Int).length) 17592186044416) then
      c3 v0 (([] : List Int) ++ ([v1] : List Int)) v1
     else
     none
    else
    c2 v0 v1 v2 v3 (w64 (v4 + 1))
   else
   none
  else
  none
 else
 c4 v0 v1
theorem spec_BellsOf.o2.run (N : Nat) (Kb489 : St D0 → Option spec_BellsOf.R) (Kn122 : St D0 → Option spec_BellsOf.R) (Kn7826 : St D0 → Option spec_BellsOf.R) (v0 : List ByteArray) (v1 : Int) (v2 : List ByteArray) (v3 : Int) (v4 : Int) : runC spec_BellsOf.C (spec_BellsOf.O N) N spec_BellsOf.c15652 15652 (mkSt [(0, .one (.sl false 9 v0)), (4, .one (.nl)), (5, .one (.int .i64 v1)), (15, .one (.sl false 9 v2)), (16, .one (.int .i64 v3)), (17, .one (.int .i64 v4))] [] : St D0) (onN (fun s => spec_BellsOf.C.tidy 7826 s ((onN Kn7826 (blockK 2 (blockK 1 (onN (fun s => spec_BellsOf.C.tidy 978 s Kb489) (onN (fun s => spec_BellsOf.C.tidy 122 s ((onN Kn122 (blockK 0 (onN (fun s => spec_BellsOf.C.tidy 30 s (fun s' => runC spec_BellsOf.C (spec_BellsOf.O N) N spec_BellsOf.c31 31 s' spec_BellsOf.K0)) spec_BellsOf.K0))) .normal)) (onN Kn122 (blockK 0 (onN (fun s => spec_BellsOf.C.tidy 30 s (fun s' => runC spec_BellsOf.C (spec_BellsOf.O N) N spec_BellsOf.c31 31 s' spec_BellsOf.K0)) spec_BellsOf.K0)))))))) .normal)) (onN Kn7826 (blockK 2 (blockK 1 (onN (fun s => spec_BellsOf.C.tidy 978 s Kb489) (onN (fun s => spec_BellsOf.C.tidy 122 s ((onN Kn122 (blockK 0 (onN (fun s => spec_BellsOf.C.tidy 30 s (fun s' => runC spec_BellsOf.C (spec_BellsOf.O N) N spec_BellsOf.c31 31 s' spec_BellsOf.K0)) spec_BellsOf.K0))) .normal)) (onN Kn122 (blockK 0 (onN (fun s => spec_BellsOf.C.tidy 30 s (fun s' => runC spec_BellsOf.C (spec_BellsOf.O N) N spec_BellsOf.c31 31 s' spec_BellsOf.K0)) spec_BellsOf.K0))))))))) = spec_BellsOf.o2 N v0 v1 v2 v3 v4 ((fun w0 w1 w2 => Kb489 (mkSt [(0, .one (.sl false 9 w0)), (4, .one (.sl true 3 w1)), (5, .one (.int .i64 w2))] [] : St D0))) ((fun w0 w1 w2 w3 w4 => Kn7826 (mkSt [(0, .one (.sl false 9 w0)), (4, .one (.nl)), (5, .one (.int .i64 w1)), (15, .one (.sl false 9 w2)), (16, .one (.int .i64 w3)), (17, .one (.int .i64 w4))] [] : St D0))) ((fun w0 w1 => Kb489 (mkSt [(0, .one (.sl false 9 w0)), (4, .one (.nl)), (5, .one (.int .i64 w1))] [] : St D0))) := by kernel_rfl
noncomputable def spec_BellsOf.d2 (N : Nat) (v0 : List ByteArray) (v1 : Int) (v2 : List ByteArray) (v3 : Int) (v4 : Int) (c1 : (List ByteArray) → Int → Option spec_BellsOf.R) (c2 : (List ByteArray) → Int → (List ByteArray) → Int → Int → Option spec_BellsOf.R) (c5 : (List ByteArray) → (List Int) → Int → Option spec_BellsOf.R) : Option spec_BellsOf.R := spec_BellsOf.o2 N v0 v1 v2 v3 v4 ((fun w0 w1 w2 => spec_BellsOf.d3 N w0 w1 w2 c5)) c2 ((fun w0 w1 => spec_BellsOf.d4 N w0 w1 c1))
theorem spec_BellsOf.d2.run (N : Nat) (Kn122 : St D0 → Option spec_BellsOf.R) (Kn7826 : St D0 → Option spec_BellsOf.R) (v0 : List ByteArray) (v1 : Int) (v2 : List ByteArray) (v3 : Int) (v4 : Int) : runC spec_BellsOf.C (spec_BellsOf.O N) N spec_BellsOf.c15652 15652 (mkSt [(0, .one (.sl false 9 v0)), (4, .one (.nl)), (5, .one (.int .i64 v1)), (15, .one (.sl false 9 v2)), (16, .one (.int .i64 v3)), (17, .one (.int .i64 v4))] [] : St D0) (spec_BellsOf.K15652 N Kn122 Kn7826) = spec_BellsOf.d2 N v0 v1 v2 v3 v4 ((fun w0 w1 => Kn122 (mkSt [(0, .one (.sl false 9 w0)), (4, .one (.nl)), (5, .one (.int .i64 w1))] [] : St D0))) ((fun w0 w1 w2 w3 w4 => Kn7826 (mkSt [(0, .one (.sl false 9 w0)), (4, .one (.nl)), (5, .one (.int .i64 w1)), (15, .one (.sl false 9 w2)), (16, .one (.int .i64 w3)), (17, .one (.int .i64 w4))] [] : St D0))) ((fun w0 w1 w2 => Kn122 (mkSt [(0, .one (.sl false 9 w0)), (4, .one (.sl true 3 w1)), (5, .one (.int .i64 w2))] [] : St D0))) := by
  unfold spec_BellsOf.d2; exact (spec_BellsOf.o2.run N (spec_BellsOf.B489 N Kn122) Kn122 Kn7826 v0 v1 v2 v3 v4).trans (congr (congr (congr rfl (funext fun w0 => funext fun w1 => funext fun w2 => spec_BellsOf.d3.run N Kn122 w0 w1 w2)) rfl) (funext fun w0 => funext fun w1 => spec_BellsOf.d4.run N Kn122 w0 w1))
noncomputable def spec_BellsOf.o6 (N : Nat) (v0 : List ByteArray) (v1 : List Int) (v2 : Int) (v3 : List ByteArray) (v4 : Int) (v5 : Int) (c3 : (List ByteArray) → (List Int) → Int → Option spec_BellsOf.R) (c6 : (List ByteArray) → (List Int) → Int → (List ByteArray) → Int → Int → Option spec_BellsOf.R) : Option spec_BellsOf.R :=
 bif (decide (v5 < v4)) then
  bif (decide (0 ≤ v5)) then
   bif (decide (v5 < (v3.length : Int))) then
    (v3[(v5 : Int).toNat]?).bind fun x1 =>
    (spec_beBell.g N x1 v2).bind fun r2 =>
    bif (decide (r2 > 0)) then
     bif (Nat.blt (v1.length + ([v2] : List Int).length) 17592186044416) then
      c3 v0 (v1 ++ ([v2] : List Int)) v2
     else
     none
    else
    c6 v0 v1 v2 v3 v4 (w64 (v5 + 1))
   else
   none
  else
  none
 else
 c3 v0 v1 v2
theorem spec_BellsOf.o6.run (N : Nat) (Kb489 : St D0 → Option spec_BellsOf.R) (Kn122 : St D0 → Option spec_BellsOf.R) (Kn7826 : St D0 → Option spec_BellsOf.R) (v0 : List ByteArray) (v1 : List Int) (v2 : Int) (v3 : List ByteArray) (v4 : Int) (v5 : Int) : runC spec_BellsOf.C (spec_BellsOf.O N) N spec_BellsOf.c15652 15652 (mkSt [(0, .one (.sl false 9 v0)), (4, .one (.sl true 3 v1)), (5, .one (.int .i64 v2)), (15, .one (.sl false 9 v3)), (16, .one (.int .i64 v4)), (17, .one (.int .i64 v5))] [] : St D0) (onN (fun s => spec_BellsOf.C.tidy 7826 s ((onN Kn7826 (blockK 2 (blockK 1 (onN (fun s => spec_BellsOf.C.tidy 978 s Kb489) (onN (fun s => spec_BellsOf.C.tidy 122 s ((onN Kn122 (blockK 0 (onN (fun s => spec_BellsOf.C.tidy 30 s (fun s' => runC spec_BellsOf.C (spec_BellsOf.O N) N spec_BellsOf.c31 31 s' spec_BellsOf.K0)) spec_BellsOf.K0))) .normal)) (onN Kn122 (blockK 0 (onN (fun s => spec_BellsOf.C.tidy 30 s (fun s' => runC spec_BellsOf.C (spec_BellsOf.O N) N spec_BellsOf.c31 31 s' spec_BellsOf.K0)) spec_BellsOf.K0)))))))) .normal)) (onN Kn7826 (blockK 2 (blockK 1 (onN (fun s => spec_BellsOf.C.tidy 978 s Kb489) (onN (fun s => spec_BellsOf.C.tidy 122 s ((onN Kn122 (blockK 0 (onN (fun s => spec_BellsOf.C.tidy 30 s (fun s' => runC spec_BellsOf.C (spec_BellsOf.O N) N spec_BellsOf.c31 31 s' spec_BellsOf.K0)) spec_BellsOf.K0))) .normal)) (onN Kn122 (blockK 0 (onN (fun s => spec_BellsOf.C.tidy 30 s (fun s' => runC spec_BellsOf.C (spec_BellsOf.O N) N spec_BellsOf.c31 31 s' spec_BellsOf.K0)) spec_BellsOf.K0))))))))) = spec_BellsOf.o6 N v0 v1 v2 v3 v4 v5 ((fun w0 w1 w2 => Kb489 (mkSt [(0, .one (.sl false 9 w0)), (4, .one (.sl true 3 w1)), (5, .one (.int .i64 w2))] [] : St D0))) ((fun w0 w1 w2 w3 w4 w5 => Kn7826 (mkSt [(0, .one (.sl false 9 w0)), (4, .one (.sl true 3 w1)), (5, .one (.int .i64 w2)), (15, .one (.sl false 9 w3)), (16, .one (.int .i64 w4)), (17, .one (.int .i64 w5))] [] : St D0))) := by kernel_rfl
noncomputable def spec_BellsOf.d6 (N : Nat) (v0 : List ByteArray) (v1 : List Int) (v2 : Int) (v3 : List ByteArray) (v4 : Int) (v5 : Int) (c5 : (List ByteArray) → (List Int) → Int → Option spec_BellsOf.R) (c6 : (List ByteArray) → (List Int) → Int → (List ByteArray) → Int → Int → Option spec_BellsOf.R) : Option spec_BellsOf.R := spec_BellsOf.o6 N v0 v1 v2 v3 v4 v5 ((fun w0 w1 w2 => spec_BellsOf.d3 N w0 w1 w2 c5)) c6
theorem spec_BellsOf.d6.run (N : Nat) (Kn122 : St D0 → Option spec_BellsOf.R) (Kn7826 : St D0 → Option spec_BellsOf.R) (v0 : List ByteArray) (v1 : List Int) (v2 : Int) (v3 : List ByteArray) (v4 : Int) (v5 : Int) : runC spec_BellsOf.C (spec_BellsOf.O N) N spec_BellsOf.c15652 15652 (mkSt [(0, .one (.sl false 9 v0)), (4, .one (.sl true 3 v1)), (5, .one (.int .i64 v2)), (15, .one (.sl false 9 v3)), (16, .one (.int .i64 v4)), (17, .one (.int .i64 v5))] [] : St D0) (spec_BellsOf.K15652 N Kn122 Kn7826) = spec_BellsOf.d6 N v0 v1 v2 v3 v4 v5 ((fun w0 w1 w2 => Kn122 (mkSt [(0, .one (.sl false 9 w0)), (4, .one (.sl true 3 w1)), (5, .one (.int .i64 w2))] [] : St D0))) ((fun w0 w1 w2 w3 w4 w5 => Kn7826 (mkSt [(0, .one (.sl false 9 w0)), (4, .one (.sl true 3 w1)), (5, .one (.int .i64 w2)), (15, .one (.sl false 9 w3)), (16, .one (.int .i64 w4)), (17, .one (.int .i64 w5))] [] : St D0))) := by
  unfold spec_BellsOf.d6; exact (spec_BellsOf.o6.run N (spec_BellsOf.B489 N Kn122) Kn122 Kn7826 v0 v1 v2 v3 v4 v5).trans (congr (congr rfl (funext fun w0 => funext fun w1 => funext fun w2 => spec_BellsOf.d3.run N Kn122 w0 w1 w2)) rfl)
noncomputable def spec_BellsOf.K7826 (N : Nat) (Kn122 : St D0 → Option spec_BellsOf.R) : Ex → St D0 → Option spec_BellsOf.R := (blockK 2 (blockK 1 (onN (fun s => spec_BellsOf.C.tidy 978 s (spec_BellsOf.B489 N Kn122)) (onN (fun s => spec_BellsOf.C.tidy 122 s ((onN Kn122 (blockK 0 (onN (fun s => spec_BellsOf.C.tidy 30 s (fun s' => runC spec_BellsOf.C (spec_BellsOf.O N) N spec_BellsOf.c31 31 s' spec_BellsOf.K0)) spec_BellsOf.K0))) .normal)) (onN Kn122 (blockK 0 (onN (fun s => spec_BellsOf.C.tidy 30 s (fun s' => runC spec_BellsOf.C (spec_BellsOf.O N) N spec_BellsOf.c31 31 s' spec_BellsOf.K0)) spec_BellsOf.K0)))))))
mutual
noncomputable def spec_BellsOf.l2 (N : Nat) : Nat → (List ByteArray) → Int → (List ByteArray) → Int → Int → ((List ByteArray) → Int → Option spec_BellsOf.R) → ((List ByteArray) → (List Int) → Int → Option spec_BellsOf.R) → Option spec_BellsOf.R
  | 0, _, _, _, _, _, _, _ => none
  | n + 1, v0, v1, v2, v3, v4, c1, c5 => spec_BellsOf.d2 N v0 v1 v2 v3 v4 c1 ((fun w0 w1 w2 w3 w4 => spec_BellsOf.l2 N n w0 w1 w2 w3 w4 c1 c5)) c5
noncomputable def spec_BellsOf.l6 (N : Nat) : Nat → (List ByteArray) → (List Int) → Int → (List ByteArray) → Int → Int → ((List ByteArray) → Int → Option spec_BellsOf.R) → ((List ByteArray) → (List Int) → Int → Option spec_BellsOf.R) → Option spec_BellsOf.R
  | 0, _, _, _, _, _, _, _, _ => none
  | n + 1, v0, v1, v2, v3, v4, v5, c1, c5 => spec_BellsOf.d6 N v0 v1 v2 v3 v4 v5 c5 ((fun w0 w1 w2 w3 w4 w5 => spec_BellsOf.l6 N n w0 w1 w2 w3 w4 w5 c1 c5))
end
theorem spec_BellsOf.loop7826 (N : Nat) (Kn122 : St D0 → Option spec_BellsOf.R) : ∀ n, (∀ (v0 : List ByteArray) (v1 : Int) (v2 : List ByteArray) (v3 : Int) (v4 : Int), iter (loopF spec_BellsOf.C (spec_BellsOf.O N) N spec_BellsOf.c15652 7826) n (mkSt [(0, .one (.sl false 9 v0)), (4, .one (.nl)), (5, .one (.int .i64 v1)), (15, .one (.sl false 9 v2)), (16, .one (.int .i64 v3)), (17, .one (.int .i64 v4))] [] : St D0) (spec_BellsOf.K7826 N Kn122) = spec_BellsOf.l2 N n v0 v1 v2 v3 v4 ((fun w0 w1 => Kn122 (mkSt [(0, .one (.sl false 9 w0)), (4, .one (.nl)), (5, .one (.int .i64 w1))] [] : St D0))) ((fun w0 w1 w2 => Kn122 (mkSt [(0, .one (.sl false 9 w0)), (4, .one (.sl true 3 w1)), (5, .one (.int .i64 w2))] [] : St D0)))) ∧ (∀ (v0 : List ByteArray) (v1 : List Int) (v2 : Int) (v3 : List ByteArray) (v4 : Int) (v5 : Int), iter (loopF spec_BellsOf.C (spec_BellsOf.O N) N spec_BellsOf.c15652 7826) n (mkSt [(0, .one (.sl false 9 v0)), (4, .one (.sl true 3 v1)), (5, .one (.int .i64 v2)), (15, .one (.sl false 9 v3)), (16, .one (.int .i64 v4)), (17, .one (.int .i64 v5))] [] : St D0) (spec_BellsOf.K7826 N Kn122) = spec_BellsOf.l6 N n v0 v1 v2 v3 v4 v5 ((fun w0 w1 => Kn122 (mkSt [(0, .one (.sl false 9 w0)), (4, .one (.nl)), (5, .one (.int .i64 w1))] [] : St D0))) ((fun w0 w1 w2 => Kn122 (mkSt [(0, .one (.sl false 9 w0)), (4, .one (.sl true 3 w1)), (5, .one (.int .i64 w2))] [] : St D0))))
  | 0 => ⟨(fun v0 v1 v2 v3 v4 => rfl), (fun v0 v1 v2 v3 v4 v5 => rfl)⟩
  | n + 1 => ⟨(fun v0 v1 v2 v3 v4 => (spec_BellsOf.d2.run N Kn122 (fun s => iter (loopF spec_BellsOf.C (spec_BellsOf.O N) N spec_BellsOf.c15652 7826) n s (spec_BellsOf.K7826 N Kn122)) v0 v1 v2 v3 v4).trans (show _ = spec_BellsOf.d2 N v0 v1 v2 v3 v4 ((fun w0 w1 => Kn122 (mkSt [(0, .one (.sl false 9 w0)), (4, .one (.nl)), (5, .one (.int .i64 w1))] [] : St D0))) ((fun w0 w1 w2 w3 w4 => spec_BellsOf.l2 N n w0 w1 w2 w3 w4 ((fun w0 w1 => Kn122 (mkSt [(0, .one (.sl false 9 w0)), (4, .one (.nl)), (5, .one (.int .i64 w1))] [] : St D0))) ((fun w0 w1 w2 => Kn122 (mkSt [(0, .one (.sl false 9 w0)), (4, .one (.sl true 3 w1)), (5, .one (.int .i64 w2))] [] : St D0))))) ((fun w0 w1 w2 => Kn122 (mkSt [(0, .one (.sl false 9 w0)), (4, .one (.sl true 3 w1)), (5, .one (.int .i64 w2))] [] : St D0))) from (congr (congr (congr rfl rfl) (funext fun w0 => funext fun w1 => funext fun w2 => funext fun w3 => funext fun w4 => (spec_BellsOf.loop7826 N Kn122 n).1 w0 w1 w2 w3 w4)) rfl))), (fun v0 v1 v2 v3 v4 v5 => (spec_BellsOf.d6.run N Kn122 (fun s => iter (loopF spec_BellsOf.C (spec_BellsOf.O N) N spec_BellsOf.c15652 7826) n s (spec_BellsOf.K7826 N Kn122)) v0 v1 v2 v3 v4 v5).trans (show _ = spec_BellsOf.d6 N v0 v1 v2 v3 v4 v5 ((fun w0 w1 w2 => Kn122 (mkSt [(0, .one (.sl false 9 w0)), (4, .one (.sl true 3 w1)), (5, .one (.int .i64 w2))] [] : St D0))) ((fun w0 w1 w2 w3 w4 w5 => spec_BellsOf.l6 N n w0 w1 w2 w3 w4 w5 ((fun w0 w1 => Kn122 (mkSt [(0, .one (.sl false 9 w0)), (4, .one (.nl)), (5, .one (.int .i64 w1))] [] : St D0))) ((fun w0 w1 w2 => Kn122 (mkSt [(0, .one (.sl false 9 w0)), (4, .one (.sl true 3 w1)), (5, .one (.int .i64 w2))] [] : St D0))))) from (congr (congr rfl rfl) (funext fun w0 => funext fun w1 => funext fun w2 => funext fun w3 => funext fun w4 => funext fun w5 => (spec_BellsOf.loop7826 N Kn122 n).2 w0 w1 w2 w3 w4 w5))))⟩
noncomputable def spec_BellsOf.K244 (N : Nat) (Kn122 : St D0 → Option spec_BellsOf.R) : Ex → St D0 → Option spec_BellsOf.R := (onN (fun s => spec_BellsOf.C.tidy 122 s ((onN Kn122 (blockK 0 (onN (fun s => spec_BellsOf.C.tidy 30 s (fun s' => runC spec_BellsOf.C (spec_BellsOf.O N) N spec_BellsOf.c31 31 s' spec_BellsOf.K0)) spec_BellsOf.K0))) .normal)) (onN Kn122 (blockK 0 (onN (fun s => spec_BellsOf.C.tidy 30 s (fun s' => runC spec_BellsOf.C (spec_BellsOf.O N) N spec_BellsOf.c31 31 s' spec_BellsOf.K0)) spec_BellsOf.K0))))
noncomputable def spec_BellsOf.o1 (N : Nat) (v0 : List ByteArray) (v1 : Int) (c2 : (List ByteArray) → Int → (List ByteArray) → Int → Int → Option spec_BellsOf.R) : Option spec_BellsOf.R :=
 bif (decide (v1 ≤ 8)) then
  c2 v0 v1 v0 (v0.length : Int) 0
 else
 some (([] : List Int), true)
theorem spec_BellsOf.o1.run (N : Nat) (Kn122 : St D0 → Option spec_BellsOf.R) (H15652 : Code) (v0 : List ByteArray) (v1 : Int) : runC spec_BellsOf.C (spec_BellsOf.O N) N (.seq spec_BellsOf.c488 (.seq (.block 1 (.seq spec_BellsOf.c3912 (.block 2 (.loop H15652)))) spec_BellsOf.c979)) 244 (mkSt [(0, .one (.sl false 9 v0)), (4, .one (.nl)), (5, .one (.int .i64 v1))] [] : St D0) (onN (fun s => spec_BellsOf.C.tidy 122 s ((onN Kn122 (blockK 0 (onN (fun s => spec_BellsOf.C.tidy 30 s (fun s' => runC spec_BellsOf.C (spec_BellsOf.O N) N spec_BellsOf.c31 31 s' spec_BellsOf.K0)) spec_BellsOf.K0))) .normal)) (onN Kn122 (blockK 0 (onN (fun s => spec_BellsOf.C.tidy 30 s (fun s' => runC spec_BellsOf.C (spec_BellsOf.O N) N spec_BellsOf.c31 31 s' spec_BellsOf.K0)) spec_BellsOf.K0)))) = spec_BellsOf.o1 N v0 v1 ((fun w0 w1 w2 w3 w4 => iter (loopF spec_BellsOf.C (spec_BellsOf.O N) N H15652 7826) N (mkSt [(0, .one (.sl false 9 w0)), (4, .one (.nl)), (5, .one (.int .i64 w1)), (15, .one (.sl false 9 w2)), (16, .one (.int .i64 w3)), (17, .one (.int .i64 w4))] [] : St D0) (blockK 2 (blockK 1 (onN (fun s => spec_BellsOf.C.tidy 978 s (fun s' => runC spec_BellsOf.C (spec_BellsOf.O N) N spec_BellsOf.c979 979 s' (onN (fun s => spec_BellsOf.C.tidy 122 s ((onN Kn122 (blockK 0 (onN (fun s => spec_BellsOf.C.tidy 30 s (fun s' => runC spec_BellsOf.C (spec_BellsOf.O N) N spec_BellsOf.c31 31 s' spec_BellsOf.K0)) spec_BellsOf.K0))) .normal)) (onN Kn122 (blockK 0 (onN (fun s => spec_BellsOf.C.tidy 30 s (fun s' => runC spec_BellsOf.C (spec_BellsOf.O N) N spec_BellsOf.c31 31 s' spec_BellsOf.K0)) spec_BellsOf.K0)))))) (onN (fun s => spec_BellsOf.C.tidy 122 s ((onN Kn122 (blockK 0 (onN (fun s => spec_BellsOf.C.tidy 30 s (fun s' => runC spec_BellsOf.C (spec_BellsOf.O N) N spec_BellsOf.c31 31 s' spec_BellsOf.K0)) spec_BellsOf.K0))) .normal)) (onN Kn122 (blockK 0 (onN (fun s => spec_BellsOf.C.tidy 30 s (fun s' => runC spec_BellsOf.C (spec_BellsOf.O N) N spec_BellsOf.c31 31 s' spec_BellsOf.K0)) spec_BellsOf.K0))))))))) := by kernel_rfl
noncomputable def spec_BellsOf.d1 (N : Nat) (v0 : List ByteArray) (v1 : Int) (c1 : (List ByteArray) → Int → Option spec_BellsOf.R) (c5 : (List ByteArray) → (List Int) → Int → Option spec_BellsOf.R) : Option spec_BellsOf.R := spec_BellsOf.o1 N v0 v1 ((fun w0 w1 w2 w3 w4 => spec_BellsOf.l2 N N w0 w1 w2 w3 w4 c1 c5))
theorem spec_BellsOf.c244_1 : spec_BellsOf.c244 = (.seq spec_BellsOf.c488 (.seq (.block 1 (.seq spec_BellsOf.c3912 (.block 2 (.loop spec_BellsOf.c15652)))) spec_BellsOf.c979)) := by kernel_rfl
theorem spec_BellsOf.d1.run (N : Nat) (Kn122 : St D0 → Option spec_BellsOf.R) (v0 : List ByteArray) (v1 : Int) : runC spec_BellsOf.C (spec_BellsOf.O N) N spec_BellsOf.c244 244 (mkSt [(0, .one (.sl false 9 v0)), (4, .one (.nl)), (5, .one (.int .i64 v1))] [] : St D0) (spec_BellsOf.K244 N Kn122) = spec_BellsOf.d1 N v0 v1 ((fun w0 w1 => Kn122 (mkSt [(0, .one (.sl false 9 w0)), (4, .one (.nl)), (5, .one (.int .i64 w1))] [] : St D0))) ((fun w0 w1 w2 => Kn122 (mkSt [(0, .one (.sl false 9 w0)), (4, .one (.sl true 3 w1)), (5, .one (.int .i64 w2))] [] : St D0))) := by
  rw [spec_BellsOf.c244_1]; unfold spec_BellsOf.d1; exact (spec_BellsOf.o1.run N Kn122 spec_BellsOf.c15652 v0 v1).trans (congr rfl (funext fun w0 => funext fun w1 => funext fun w2 => funext fun w3 => funext fun w4 => (spec_BellsOf.loop7826 N Kn122 N).1 w0 w1 w2 w3 w4))
noncomputable def spec_BellsOf.o5 (N : Nat) (v0 : List ByteArray) (v1 : List Int) (v2 : Int) (c6 : (List ByteArray) → (List Int) → Int → (List ByteArray) → Int → Int → Option spec_BellsOf.R) : Option spec_BellsOf.R :=
 bif (decide (v2 ≤ 8)) then
  c6 v0 v1 v2 v0 (v0.length : Int) 0
 else
 some (v1, true)
theorem spec_BellsOf.o5.run (N : Nat) (Kn122 : St D0 → Option spec_BellsOf.R) (H15652 : Code) (v0 : List ByteArray) (v1 : List Int) (v2 : Int) : runC spec_BellsOf.C (spec_BellsOf.O N) N (.seq spec_BellsOf.c488 (.seq (.block 1 (.seq spec_BellsOf.c3912 (.block 2 (.loop H15652)))) spec_BellsOf.c979)) 244 (mkSt [(0, .one (.sl false 9 v0)), (4, .one (.sl true 3 v1)), (5, .one (.int .i64 v2))] [] : St D0) (onN (fun s => spec_BellsOf.C.tidy 122 s ((onN Kn122 (blockK 0 (onN (fun s => spec_BellsOf.C.tidy 30 s (fun s' => runC spec_BellsOf.C (spec_BellsOf.O N) N spec_BellsOf.c31 31 s' spec_BellsOf.K0)) spec_BellsOf.K0))) .normal)) (onN Kn122 (blockK 0 (onN (fun s => spec_BellsOf.C.tidy 30 s (fun s' => runC spec_BellsOf.C (spec_BellsOf.O N) N spec_BellsOf.c31 31 s' spec_BellsOf.K0)) spec_BellsOf.K0)))) = spec_BellsOf.o5 N v0 v1 v2 ((fun w0 w1 w2 w3 w4 w5 => iter (loopF spec_BellsOf.C (spec_BellsOf.O N) N H15652 7826) N (mkSt [(0, .one (.sl false 9 w0)), (4, .one (.sl true 3 w1)), (5, .one (.int .i64 w2)), (15, .one (.sl false 9 w3)), (16, .one (.int .i64 w4)), (17, .one (.int .i64 w5))] [] : St D0) (blockK 2 (blockK 1 (onN (fun s => spec_BellsOf.C.tidy 978 s (fun s' => runC spec_BellsOf.C (spec_BellsOf.O N) N spec_BellsOf.c979 979 s' (onN (fun s => spec_BellsOf.C.tidy 122 s ((onN Kn122 (blockK 0 (onN (fun s => spec_BellsOf.C.tidy 30 s (fun s' => runC spec_BellsOf.C (spec_BellsOf.O N) N spec_BellsOf.c31 31 s' spec_BellsOf.K0)) spec_BellsOf.K0))) .normal)) (onN Kn122 (blockK 0 (onN (fun s => spec_BellsOf.C.tidy 30 s (fun s' => runC spec_BellsOf.C (spec_BellsOf.O N) N spec_BellsOf.c31 31 s' spec_BellsOf.K0)) spec_BellsOf.K0)))))) (onN (fun s => spec_BellsOf.C.tidy 122 s ((onN Kn122 (blockK 0 (onN (fun s => spec_BellsOf.C.tidy 30 s (fun s' => runC spec_BellsOf.C (spec_BellsOf.O N) N spec_BellsOf.c31 31 s' spec_BellsOf.K0)) spec_BellsOf.K0))) .normal)) (onN Kn122 (blockK 0 (onN (fun s => spec_BellsOf.C.tidy 30 s (fun s' => runC spec_BellsOf.C (spec_BellsOf.O N) N spec_BellsOf.c31 31 s' spec_BellsOf.K0)) spec_BellsOf.K0))))))))) := by kernel_rfl
noncomputable def spec_BellsOf.d5 (N : Nat) (v0 : List ByteArray) (v1 : List Int) (v2 : Int) (c1 : (List ByteArray) → Int → Option spec_BellsOf.R) (c5 : (List ByteArray) → (List Int) → Int → Option spec_BellsOf.R) : Option spec_BellsOf.R := spec_BellsOf.o5 N v0 v1 v2 ((fun w0 w1 w2 w3 w4 w5 => spec_BellsOf.l6 N N w0 w1 w2 w3 w4 w5 c1 c5))
theorem spec_BellsOf.c244_5 : spec_BellsOf.c244 = (.seq spec_BellsOf.c488 (.seq (.block 1 (.seq spec_BellsOf.c3912 (.block 2 (.loop spec_BellsOf.c15652)))) spec_BellsOf.c979)) := by kernel_rfl
theorem spec_BellsOf.d5.run (N : Nat) (Kn122 : St D0 → Option spec_BellsOf.R) (v0 : List ByteArray) (v1 : List Int) (v2 : Int) : runC spec_BellsOf.C (spec_BellsOf.O N) N spec_BellsOf.c244 244 (mkSt [(0, .one (.sl false 9 v0)), (4, .one (.sl true 3 v1)), (5, .one (.int .i64 v2))] [] : St D0) (spec_BellsOf.K244 N Kn122) = spec_BellsOf.d5 N v0 v1 v2 ((fun w0 w1 => Kn122 (mkSt [(0, .one (.sl false 9 w0)), (4, .one (.nl)), (5, .one (.int .i64 w1))] [] : St D0))) ((fun w0 w1 w2 => Kn122 (mkSt [(0, .one (.sl false 9 w0)), (4, .one (.sl true 3 w1)), (5, .one (.int .i64 w2))] [] : St D0))) := by
  rw [spec_BellsOf.c244_5]; unfold spec_BellsOf.d5; exact (spec_BellsOf.o5.run N Kn122 spec_BellsOf.c15652 v0 v1 v2).trans (congr rfl (funext fun w0 => funext fun w1 => funext fun w2 => funext fun w3 => funext fun w4 => funext fun w5 => (spec_BellsOf.loop7826 N Kn122 N).2 w0 w1 w2 w3 w4 w5))
noncomputable def spec_BellsOf.K122 (N : Nat) : Ex → St D0 → Option spec_BellsOf.R := (blockK 0 (onN (fun s => spec_BellsOf.C.tidy 30 s (fun s' => runC spec_BellsOf.C (spec_BellsOf.O N) N spec_BellsOf.c31 31 s' spec_BellsOf.K0)) spec_BellsOf.K0))
mutual
noncomputable def spec_BellsOf.l1 (N : Nat) : Nat → (List ByteArray) → Int → Option spec_BellsOf.R
  | 0, _, _ => none
  | n + 1, v0, v1 => spec_BellsOf.d1 N v0 v1 ((fun w0 w1 => spec_BellsOf.l1 N n w0 w1)) ((fun w0 w1 w2 => spec_BellsOf.l5 N n w0 w1 w2))
noncomputable def spec_BellsOf.l5 (N : Nat) : Nat → (List ByteArray) → (List Int) → Int → Option spec_BellsOf.R
  | 0, _, _, _ => none
  | n + 1, v0, v1, v2 => spec_BellsOf.d5 N v0 v1 v2 ((fun w0 w1 => spec_BellsOf.l1 N n w0 w1)) ((fun w0 w1 w2 => spec_BellsOf.l5 N n w0 w1 w2))
end
theorem spec_BellsOf.loop122 (N : Nat) : ∀ n, (∀ (v0 : List ByteArray) (v1 : Int), iter (loopF spec_BellsOf.C (spec_BellsOf.O N) N spec_BellsOf.c244 122) n (mkSt [(0, .one (.sl false 9 v0)), (4, .one (.nl)), (5, .one (.int .i64 v1))] [] : St D0) (spec_BellsOf.K122 N) = spec_BellsOf.l1 N n v0 v1) ∧ (∀ (v0 : List ByteArray) (v1 : List Int) (v2 : Int), iter (loopF spec_BellsOf.C (spec_BellsOf.O N) N spec_BellsOf.c244 122) n (mkSt [(0, .one (.sl false 9 v0)), (4, .one (.sl true 3 v1)), (5, .one (.int .i64 v2))] [] : St D0) (spec_BellsOf.K122 N) = spec_BellsOf.l5 N n v0 v1 v2)
  | 0 => ⟨(fun v0 v1 => rfl), (fun v0 v1 v2 => rfl)⟩
  | n + 1 => ⟨(fun v0 v1 => (spec_BellsOf.d1.run N (fun s => iter (loopF spec_BellsOf.C (spec_BellsOf.O N) N spec_BellsOf.c244 122) n s (spec_BellsOf.K122 N)) v0 v1).trans (show _ = spec_BellsOf.d1 N v0 v1 ((fun w0 w1 => spec_BellsOf.l1 N n w0 w1)) ((fun w0 w1 w2 => spec_BellsOf.l5 N n w0 w1 w2)) from (congr (congr rfl (funext fun w0 => funext fun w1 => (spec_BellsOf.loop122 N n).1 w0 w1)) (funext fun w0 => funext fun w1 => funext fun w2 => (spec_BellsOf.loop122 N n).2 w0 w1 w2)))), (fun v0 v1 v2 => (spec_BellsOf.d5.run N (fun s => iter (loopF spec_BellsOf.C (spec_BellsOf.O N) N spec_BellsOf.c244 122) n s (spec_BellsOf.K122 N)) v0 v1 v2).trans (show _ = spec_BellsOf.d5 N v0 v1 v2 ((fun w0 w1 => spec_BellsOf.l1 N n w0 w1)) ((fun w0 w1 w2 => spec_BellsOf.l5 N n w0 w1 w2)) from (congr (congr rfl (funext fun w0 => funext fun w1 => (spec_BellsOf.loop122 N n).1 w0 w1)) (funext fun w0 => funext fun w1 => funext fun w2 => (spec_BellsOf.loop122 N n).2 w0 w1 w2))))⟩
noncomputable def spec_BellsOf.o0 (N : Nat) (a0 : List ByteArray) (c1 : (List ByteArray) → Int → Option spec_BellsOf.R) : Option spec_BellsOf.R :=
 (spec_beTune.g N a0).bind fun r1 =>
 bif (!r1) then
  some (([] : List Int), false)
 else
 c1 a0 1
theorem spec_BellsOf.o0.run (N : Nat) (H244 : Code) (a0 : List ByteArray) : runC spec_BellsOf.C (spec_BellsOf.O N) N (.seq spec_BellsOf.c2 (.seq spec_BellsOf.c6 (.seq spec_BellsOf.c14 (.seq (.seq spec_BellsOf.c60 (.block 0 (.loop H244))) spec_BellsOf.c31)))) 1 (st0 [.one (.sl false 9 a0)] [] : St D0) spec_BellsOf.K0 = spec_BellsOf.o0 N a0 ((fun w0 w1 => iter (loopF spec_BellsOf.C (spec_BellsOf.O N) N H244 122) N (mkSt [(0, .one (.sl false 9 w0)), (4, .one (.nl)), (5, .one (.int .i64 w1))] [] : St D0) (blockK 0 (onN (fun s => spec_BellsOf.C.tidy 30 s (fun s' => runC spec_BellsOf.C (spec_BellsOf.O N) N spec_BellsOf.c31 31 s' spec_BellsOf.K0)) spec_BellsOf.K0)))) := by kernel_rfl
noncomputable def spec_BellsOf.g (N : Nat) (a0 : List ByteArray) : Option spec_BellsOf.R := spec_BellsOf.o0 N a0 ((fun w0 w1 => spec_BellsOf.l1 N N w0 w1))
theorem spec_BellsOf.c1_0 : spec_BellsOf.c1 = (.seq spec_BellsOf.c2 (.seq spec_BellsOf.c6 (.seq spec_BellsOf.c14 (.seq (.seq spec_BellsOf.c60 (.block 0 (.loop spec_BellsOf.c244))) spec_BellsOf.c31)))) := by kernel_rfl
theorem spec_BellsOf.g.run (N : Nat) (a0 : List ByteArray) : runC spec_BellsOf.C (spec_BellsOf.O N) N spec_BellsOf.c1 1 (st0 [.one (.sl false 9 a0)] [] : St D0) spec_BellsOf.K0 = spec_BellsOf.g N a0 := by
  rw [spec_BellsOf.c1_0]; unfold spec_BellsOf.g; exact (spec_BellsOf.o0.run N spec_BellsOf.c244 a0).trans (congr rfl (funext fun w0 => funext fun w1 => (spec_BellsOf.loop122 N N).1 w0 w1))
theorem spec_BellsOf.good (N : Nat) (a0 : List ByteArray) (r : spec_BellsOf.R) (h : spec_BellsOf.g N a0 = some r) : Go.PM.Good Go.Proofs.Try.prog T0 16 [.one (.sl false 9 a0)] [] (spec_BellsOf.sig.ret r) (spec_BellsOf.sig.bs r) :=
  good_fn tabOk0 mixed0 spec_BellsOf.sig (spec_BellsOf.E N) Go.Proofs.Try.func16 (by kernel_rfl) (by kernel_rfl) 17274045 0 0 [(122, [0, 4, 5], []), (978, [0, 4, 5], []), (7826, [0, 4, 5, 15, 16, 17], [])] 6301952 false [] [(false, [.own 3]), (false, [.any])] (by kernel_rfl) rfl rfl ((spec_BellsOf.g.run N a0).trans h)
noncomputable def spec_BellsOf.ent (N : Nat) : Ent Go.Proofs.Try.prog T0 := mkEnt 16 [(false, [.ro 9])] spec_BellsOf.sig (fun t => spec_BellsOf.g N t) (fun t r h => spec_BellsOf.good N t r h)
end Go.Proofs.Ytpmipkbfohcjiaa.M

namespace Go.Proofs.Ytpmipkbfohcjiaa.M
open Go Go.PM Go.Proofs.Ytpmipkbfohcjiaa.P
set_option linter.unusedVariables false
set_option maxRecDepth 100000
open Go.RowKit Go.Lib
/-! ### strings_Count -/
abbrev strings_Count.R : Type := Int
abbrev strings_Count.sig : Sig := ⟨[(false, 1), (false, 1)], [], [.str, .str], [(false, 1)], [], [.int .i64]⟩
noncomputable def strings_Count.g (N : Nat) (a0 a1 : ByteArray) : Option strings_Count.R := match a1.data.toList with
  | [c] => some ((Lib.countByte a0.data.toList c : Int))
  | _ => none
theorem strings_Count.good (N : Nat) (a0 a1 : ByteArray) (r : strings_Count.R) (h : strings_Count.g N a0 a1 = some r) : Go.PM.Good Go.Proofs.Try.prog T0 53 [.one (.str a0), .one (.str a1)] [] (strings_Count.sig.ret r) (strings_Count.sig.bs r) := by
  obtain ⟨⟨l⟩⟩ := a1
  match l, h with
  | [c], h =>
    cases Option.some.inj h
    refine good_flat ⟨_, Go.Proofs.Try.func53, by kernel_rfl, rfl⟩ _ (.int _ _) ?_
    intro w C blk vargs hsz hrep hag
    have e0 := rep_str (hrep 0)
    have e1 := rep_str (hrep 1)
    have ev : vargs = #[.string a0, .string ⟨#[c]⟩] := (args2 hsz).trans (by rw [e0, e1])
    rw [ev]
    refine (Go.Proofs.Try.strings_Count_one a0 c w).mono ?_
    rintro e w' ⟨rfl, rfl⟩
    exact ⟨rfl, Below.refl _ _⟩
noncomputable def strings_Count.ent (N : Nat) : Ent Go.Proofs.Try.prog T0 := mkEnt 53 [(false, [.any]), (false, [.any])] strings_Count.sig (fun t => strings_Count.g N t.1 t.2) (fun t r h => strings_Count.good N t.1 t.2 r h)
end Go.Proofs.Ytpmipkbfohcjiaa.M

namespace Go.Proofs.Ytpmipkbfohcjiaa.M
open Go Go.PM Go.Proofs.Ytpmipkbfohcjiaa.P
set_option linter.unusedVariables false
set_option maxRecDepth 100000
/-! ### impl_BellUpTo_1 -/
abbrev impl_BellUpTo_1.R : Type := Int × Int
abbrev impl_BellUpTo_1.sig : Sig := ⟨[(false, 1), (false, 1)], [(3, 1)], [.str, .ptr 0 0, .int .i64], [(false, 1)], [(3, 1)], [.int .i64, .int .i64]⟩
noncomputable def impl_BellUpTo_1.C : Cfg D0 := ⟨Go.Proofs.Try.prog, T0, 11, 0, 8, 1, [], 16, false, []⟩
noncomputable def impl_BellUpTo_1.E (N : Nat) : List (Ent Go.Proofs.Try.prog T0) := [impl_bellText.ent N, strings_Count.ent N]
noncomputable def impl_BellUpTo_1.O (N : Nat) : Orc D0 impl_BellUpTo_1.R := orcOf (impl_BellUpTo_1.E N)
noncomputable def impl_BellUpTo_1.K0 : Ex → St D0 → Option impl_BellUpTo_1.R := exitK impl_BellUpTo_1.C Go.Proofs.Try.f52.results.toList [(false, [.any])] (decOut impl_BellUpTo_1.sig)
noncomputable def impl_BellUpTo_1.c1 : Code := codeAt (Go.Proofs.Try.f52.body.getD .skip) []
noncomputable def impl_BellUpTo_1.o0 (N : Nat) (a0 : ByteArray) (b0_0 : Int) : Option impl_BellUpTo_1.R :=
 (impl_bellText.g N b0_0).bind fun r1 =>
 (strings_Count.g N a0 r1).bind fun r2 =>
 some (r2, b0_0)
theorem impl_BellUpTo_1.o0.run (N : Nat) (a0 : ByteArray) (b0_0 : Int) : runC impl_BellUpTo_1.C (impl_BellUpTo_1.O N) N impl_BellUpTo_1.c1 1 (st0 [.one (.str a0), .one (.ptr 0 0)] [(3, [.int .i64 b0_0])] : St D0) impl_BellUpTo_1.K0 = impl_BellUpTo_1.o0 N a0 b0_0 := by kernel_rfl
noncomputable def impl_BellUpTo_1.g (N : Nat) (a0 : ByteArray) (b0_0 : Int) : Option impl_BellUpTo_1.R := impl_BellUpTo_1.o0 N a0 b0_0
theorem impl_BellUpTo_1.g.run (N : Nat) (a0 : ByteArray) (b0_0 : Int) : runC impl_BellUpTo_1.C (impl_BellUpTo_1.O N) N impl_BellUpTo_1.c1 1 (st0 [.one (.str a0), .one (.ptr 0 0)] [(3, [.int .i64 b0_0])] : St D0) impl_BellUpTo_1.K0 = impl_BellUpTo_1.g N a0 b0_0 := by
  exact (impl_BellUpTo_1.o0.run N a0 b0_0).trans rfl
theorem impl_BellUpTo_1.good (N : Nat) (a0 : ByteArray) (b0_0 : Int) (r : impl_BellUpTo_1.R) (h : impl_BellUpTo_1.g N a0 b0_0 = some r) : Go.PM.Good Go.Proofs.Try.prog T0 52 [.one (.str a0), .one (.ptr 0 0)] [(3, [.int .i64 b0_0])] (impl_BellUpTo_1.sig.ret r) (impl_BellUpTo_1.sig.bs r) :=
  good_fn tabOk0 mixed0 impl_BellUpTo_1.sig (impl_BellUpTo_1.E N) Go.Proofs.Try.func52 (by kernel_rfl) (by kernel_rfl) 11 0 1 [] 16 false [] [(false, [.any])] (by kernel_rfl) rfl rfl ((impl_BellUpTo_1.g.run N a0 b0_0).trans h)
noncomputable def impl_BellUpTo_1.ent (N : Nat) : Ent Go.Proofs.Try.prog T0 := mkEnt 52 [(false, [.any]), (false, [.any])] impl_BellUpTo_1.sig (fun t => impl_BellUpTo_1.g N t.1 t.2.2) (fun t r h => impl_BellUpTo_1.good N t.1 t.2.2 r h)
end Go.Proofs.Ytpmipkbfohcjiaa.M

namespace Go.Proofs.Ytpmipkbfohcjiaa.M
open Go Go.PM Go.Proofs.Ytpmipkbfohcjiaa.P
set_option linter.unusedVariables false
set_option maxRecDepth 100000
/-! ### impl_sumUpTo_1 -/
abbrev impl_sumUpTo_1.R : Type := Int × Int
abbrev impl_sumUpTo_1.sig : Sig := ⟨[(false, 1), (false, 1), (false, 1)], [(3, 1)], [.sl false 9, .int .i64, .fn 52 [0], .int .i64], [(false, 1)], [(3, 1)], [.int .i64, .int .i64]⟩
noncomputable def impl_sumUpTo_1.C : Cfg D0 := ⟨Go.Proofs.Try.prog, T0, 1073991623, 0, 42, 1, [(122, [0, 2, 7, 8, 14, 15, 16], [0]), (31334, [0, 2, 7, 8, 10, 11, 14, 15, 16], [0])], 131237679104, false, []⟩
noncomputable def impl_sumUpTo_1.E (N : Nat) : List (Ent Go.Proofs.Try.prog T0) := [impl_played.ent N, impl_BellUpTo_1.ent N]
noncomputable def impl_sumUpTo_1.O (N : Nat) : Orc D0 impl_sumUpTo_1.R := orcOf (impl_sumUpTo_1.E N)
noncomputable def impl_sumUpTo_1.K0 : Ex → St D0 → Option impl_sumUpTo_1.R := exitK impl_sumUpTo_1.C Go.Proofs.Try.f39.results.toList [(false, [.any])] (decOut impl_sumUpTo_1.sig)
noncomputable def impl_sumUpTo_1.c1 : Code := codeAt (Go.Proofs.Try.f39.body.getD .skip) []
noncomputable def impl_sumUpTo_1.c2 : Code := codeAt (Go.Proofs.Try.f39.body.getD .skip) [false]
noncomputable def impl_sumUpTo_1.c6 : Code := codeAt (Go.Proofs.Try.f39.body.getD .skip) [true, false]
noncomputable def impl_sumUpTo_1.c14 : Code := codeAt (Go.Proofs.Try.f39.body.getD .skip) [true, true, false]
noncomputable def impl_sumUpTo_1.c31 : Code := codeAt (Go.Proofs.Try.f39.body.getD .skip) [true, true, true, true]
noncomputable def impl_sumUpTo_1.c60 : Code := codeAt (Go.Proofs.Try.f39.body.getD .skip) [true, true, true, false, false]
noncomputable def impl_sumUpTo_1.c244 : Code := codeAt (Go.Proofs.Try.f39.body.getD .skip) [true, true, true, false, true, false, false]
noncomputable def impl_sumUpTo_1.c488 : Code := codeAt (Go.Proofs.Try.f39.body.getD .skip) [true, true, true, false, true, false, false, false]
noncomputable def impl_sumUpTo_1.c978 : Code := codeAt (Go.Proofs.Try.f39.body.getD .skip) [true, true, true, false, true, false, false, true, false]
noncomputable def impl_sumUpTo_1.c1959 : Code := codeAt (Go.Proofs.Try.f39.body.getD .skip) [true, true, true, false, true, false, false, true, true, true]
noncomputable def impl_sumUpTo_1.c7832 : Code := codeAt (Go.Proofs.Try.f39.body.getD .skip) [true, true, true, false, true, false, false, true, true, false, false, false]
noncomputable def impl_sumUpTo_1.c15666 : Code := codeAt (Go.Proofs.Try.f39.body.getD .skip) [true, true, true, false, true, false, false, true, true, false, false, true, false]
noncomputable def impl_sumUpTo_1.c31334 : Code := codeAt (Go.Proofs.Try.f39.body.getD .skip) [true, true, true, false, true, false, false, true, true, false, false, true, true, false]
noncomputable def impl_sumUpTo_1.c31335 : Code := codeAt (Go.Proofs.Try.f39.body.getD .skip) [true, true, true, false, true, false, false, true, true, false, false, true, true, true]
noncomputable def impl_sumUpTo_1.K31335 (N : Nat) (Kn122 : St D0 → Option impl_sumUpTo_1.R) : Ex → St D0 → Option impl_sumUpTo_1.R := (blockK 1 (onN (fun s => impl_sumUpTo_1.C.tidy 1958 s (fun s' => runC impl_sumUpTo_1.C (impl_sumUpTo_1.O N) N impl_sumUpTo_1.c1959 1959 s' (onN (fun s => impl_sumUpTo_1.C.tidy 122 s ((onN Kn122 (blockK 0 (onN (fun s => impl_sumUpTo_1.C.tidy 30 s (fun s' => runC impl_sumUpTo_1.C (impl_sumUpTo_1.O N) N impl_sumUpTo_1.c31 31 s' impl_sumUpTo_1.K0)) impl_sumUpTo_1.K0))) .normal)) (onN Kn122 (blockK 0 (onN (fun s => impl_sumUpTo_1.C.tidy 30 s (fun s' => runC impl_sumUpTo_1.C (impl_sumUpTo_1.O N) N impl_sumUpTo_1.c31 31 s' impl_sumUpTo_1.K0)) impl_sumUpTo_1.K0)))))) (onN (fun s => impl_sumUpTo_1.C.tidy 122 s ((onN Kn122 (blockK 0 (onN (fun s => impl_sumUpTo_1.C.tidy 30 s (fun s' => runC impl_sumUpTo_1.C (impl_sumUpTo_1.O N) N impl_sumUpTo_1.c31 31 s' impl_sumUpTo_1.K0)) impl_sumUpTo_1.K0))) .normal)) (onN Kn122 (blockK 0 (onN (fun s => impl_sumUpTo_1.C.tidy 30 s (fun s' => runC impl_sumUpTo_1.C (impl_sumUpTo_1.O N) N impl_sumUpTo_1.c31 31 s' impl_sumUpTo_1.K0)) impl_sumUpTo_1.K0))))))
noncomputable def impl_sumUpTo_1.o2 (N : Nat) (v0 : List ByteArray) (v1 : Int) (v2 : Int) (v3 : ByteArray) (v4 : Int) (v5 : List ByteArray) (v6 : Int) (v7 : Int) (v8 : Int) (c1 : (List ByteArray) → Int → Int → (List ByteArray) → Int → Int → Int → Option impl_sumUpTo_1.R) : Option impl_sumUpTo_1.R :=
 (impl_BellUpTo_1.g N v3 v8).bind fun r1 =>
 c1 v0 v1 (w64 (v2 + (w64 (v4 * r1.1)))) v5 v6 (w64 (v7 + 1)) r1.2
theorem impl_sumUpTo_1.o2.run (N : Nat) (Kn122 : St D0 → Option impl_sumUpTo_1.R) (v0 : List ByteArray) (v1 : Int) (v2 : Int) (v3 : ByteArray) (v4 : Int) (v5 : List ByteArray) (v6 : Int) (v7 : Int) (v8 : Int) : runC impl_sumUpTo_1.C (impl_sumUpTo_1.O N) N impl_sumUpTo_1.c31335 31335 (mkSt [(0, .one (.sl false 9 v0)), (2, .one (.fn 52 [0])), (7, .one (.int .i64 v1)), (8, .one (.int .i64 v2)), (10, .one (.str v3)), (11, .one (.int .i64 v4)), (14, .one (.sl false 9 v5)), (15, .one (.int .i64 v6)), (16, .one (.int .i64 v7))] [(0, some (3, [.int .i64 v8]))] : St D0) (blockK 1 (onN (fun s => impl_sumUpTo_1.C.tidy 1958 s (fun s' => runC impl_sumUpTo_1.C (impl_sumUpTo_1.O N) N impl_sumUpTo_1.c1959 1959 s' (onN (fun s => impl_sumUpTo_1.C.tidy 122 s ((onN Kn122 (blockK 0 (onN (fun s => impl_sumUpTo_1.C.tidy 30 s (fun s' => runC impl_sumUpTo_1.C (impl_sumUpTo_1.O N) N impl_sumUpTo_1.c31 31 s' impl_sumUpTo_1.K0)) impl_sumUpTo_1.K0))) .normal)) (onN Kn122 (blockK 0 (onN (fun s => impl_sumUpTo_1.C.tidy 30 s (fun s' => runC impl_sumUpTo_1.C (impl_sumUpTo_1.O N) N impl_sumUpTo_1.c31 31 s' impl_sumUpTo_1.K0)) impl_sumUpTo_1.K0)))))) (onN (fun s => impl_sumUpTo_1.C.tidy 122 s ((onN Kn122 (blockK 0 (onN (fun s => impl_sumUpTo_1.C.tidy 30 s (fun s' => runC impl_sumUpTo_1.C (impl_sumUpTo_1.O N) N impl_sumUpTo_1.c31 31 s' impl_sumUpTo_1.K0)) impl_sumUpTo_1.K0))) .normal)) (onN Kn122 (blockK 0 (onN (fun s => impl_sumUpTo_1.C.tidy 30 s (fun s' => runC impl_sumUpTo_1.C (impl_sumUpTo_1.O N) N impl_sumUpTo_1.c31 31 s' impl_sumUpTo_1.K0)) impl_sumUpTo_1.K0)))))) = impl_sumUpTo_1.o2 N v0 v1 v2 v3 v4 v5 v6 v7 v8 ((fun w0 w1 w2 w3 w4 w5 w6 => Kn122 (mkSt [(0, .one (.sl false 9 w0)), (2, .one (.fn 52 [0])), (7, .one (.int .i64 w1)), (8, .one (.int .i64 w2)), (14, .one (.sl false 9 w3)), (15, .one (.int .i64 w4)), (16, .one (.int .i64 w5))] [(0, some (3, [.int .i64 w6]))] : St D0))) := by kernel_rfl
noncomputable def impl_sumUpTo_1.d2 (N : Nat) (v0 : List ByteArray) (v1 : Int) (v2 : Int) (v3 : ByteArray) (v4 : Int) (v5 : List ByteArray) (v6 : Int) (v7 : Int) (v8 : Int) (c1 : (List ByteArray) → Int → Int → (List ByteArray) → Int → Int → Int → Option impl_sumUpTo_1.R) : Option impl_sumUpTo_1.R := impl_sumUpTo_1.o2 N v0 v1 v2 v3 v4 v5 v6 v7 v8 c1
theorem impl_sumUpTo_1.d2.run (N : Nat) (Kn122 : St D0 → Option impl_sumUpTo_1.R) (v0 : List ByteArray) (v1 : Int) (v2 : Int) (v3 : ByteArray) (v4 : Int) (v5 : List ByteArray) (v6 : Int) (v7 : Int) (v8 : Int) : runC impl_sumUpTo_1.C (impl_sumUpTo_1.O N) N impl_sumUpTo_1.c31335 31335 (mkSt [(0, .one (.sl false 9 v0)), (2, .one (.fn 52 [0])), (7, .one (.int .i64 v1)), (8, .one (.int .i64 v2)), (10, .one (.str v3)), (11, .one (.int .i64 v4)), (14, .one (.sl false 9 v5)), (15, .one (.int .i64 v6)), (16, .one (.int .i64 v7))] [(0, some (3, [.int .i64 v8]))] : St D0) (impl_sumUpTo_1.K31335 N Kn122) = impl_sumUpTo_1.d2 N v0 v1 v2 v3 v4 v5 v6 v7 v8 ((fun w0 w1 w2 w3 w4 w5 w6 => Kn122 (mkSt [(0, .one (.sl false 9 w0)), (2, .one (.fn 52 [0])), (7, .one (.int .i64 w1)), (8, .one (.int .i64 w2)), (14, .one (.sl false 9 w3)), (15, .one (.int .i64 w4)), (16, .one (.int .i64 w5))] [(0, some (3, [.int .i64 w6]))] : St D0))) := by
  exact (impl_sumUpTo_1.o2.run N Kn122 v0 v1 v2 v3 v4 v5 v6 v7 v8).trans rfl
noncomputable def impl_sumUpTo_1.K244 (N : Nat) (Kn122 : St D0 → Option impl_sumUpTo_1.R) : Ex → St D0 → Option impl_sumUpTo_1.R := (onN (fun s => impl_sumUpTo_1.C.tidy 122 s ((onN Kn122 (blockK 0 (onN (fun s => impl_sumUpTo_1.C.tidy 30 s (fun s' => runC impl_sumUpTo_1.C (impl_sumUpTo_1.O N) N impl_sumUpTo_1.c31 31 s' impl_sumUpTo_1.K0)) impl_sumUpTo_1.K0))) .normal)) (onN Kn122 (blockK 0 (onN (fun s => impl_sumUpTo_1.C.tidy 30 s (fun s' => runC impl_sumUpTo_1.C (impl_sumUpTo_1.O N) N impl_sumUpTo_1.c31 31 s' impl_sumUpTo_1.K0)) impl_sumUpTo_1.K0))))
noncomputable def impl_sumUpTo_1.o1 (N : Nat) (v0 : List ByteArray) (v1 : Int) (v2 : Int) (v3 : List ByteArray) (v4 : Int) (v5 : Int) (v6 : Int) (c2 : (List ByteArray) → Int → Int → ByteArray → Int → (List ByteArray) → Int → Int → Int → Option impl_sumUpTo_1.R) : Option impl_sumUpTo_1.R :=
 bif (decide (v5 < v4)) then
  bif (decide (0 ≤ v5)) then
   bif (decide (v5 < (v3.length : Int))) then
    (v3[(v5 : Int).toNat]?).bind fun x1 =>
    bif ((v0.length : Int) == 0) then
     none
    else
    bif ((v0.length : Int) == 0) then
     none
    else
    bif (decide (v5 < (Int.tmod v1 (v0.length : Int)))) then
     c2 v0 v1 v2 x1 (w64 ((w64 (Int.tdiv v1 (v0.length : Int))) + 1)) v3 v4 v5 v6
    else
    c2 v0 v1 v2 x1 (w64 (Int.tdiv v1 (v0.length : Int))) v3 v4 v5 v6
   else
   none
  else
  none
 else
 some (v2, v6)
theorem impl_sumUpTo_1.o1.run (N : Nat) (Kn122 : St D0 → Option impl_sumUpTo_1.R) (H31335 : Code) (v0 : List ByteArray) (v1 : Int) (v2 : Int) (v3 : List ByteArray) (v4 : Int) (v5 : Int) (v6 : Int) : runC impl_sumUpTo_1.C (impl_sumUpTo_1.O N) N (.seq impl_sumUpTo_1.c488 (.seq impl_sumUpTo_1.c978 (.seq (.block 1 (.seq impl_sumUpTo_1.c7832 (.seq impl_sumUpTo_1.c15666 (.seq impl_sumUpTo_1.c31334 H31335)))) impl_sumUpTo_1.c1959))) 244 (mkSt [(0, .one (.sl false 9 v0)), (2, .one (.fn 52 [0])), (7, .one (.int .i64 v1)), (8, .one (.int .i64 v2)), (14, .one (.sl false 9 v3)), (15, .one (.int .i64 v4)), (16, .one (.int .i64 v5))] [(0, some (3, [.int .i64 v6]))] : St D0) (onN (fun s => impl_sumUpTo_1.C.tidy 122 s ((onN Kn122 (blockK 0 (onN (fun s => impl_sumUpTo_1.C.tidy 30 s (fun s' => runC impl_sumUpTo_1.C (impl_sumUpTo_1.O N) N impl_sumUpTo_1.c31 31 s' impl_sumUpTo_1.K0)) impl_sumUpTo_1.K0))) .normal)) (onN Kn122 (blockK 0 (onN (fun s => impl_sumUpTo_1.C.tidy 30 s (fun s' => runC impl_sumUpTo_1.C (impl_sumUpTo_1.O N) N impl_sumUpTo_1.c31 31 s' impl_sumUpTo_1.K0)) impl_sumUpTo_1.K0)))) = impl_sumUpTo_1.o1 N v0 v1 v2 v3 v4 v5 v6 ((fun w0 w1 w2 w3 w4 w5 w6 w7 w8 => runC impl_sumUpTo_1.C (impl_sumUpTo_1.O N) N H31335 31335 (mkSt [(0, .one (.sl false 9 w0)), (2, .one (.fn 52 [0])), (7, .one (.int .i64 w1)), (8, .one (.int .i64 w2)), (10, .one (.str w3)), (11, .one (.int .i64 w4)), (14, .one (.sl false 9 w5)), (15, .one (.int .i64 w6)), (16, .one (.int .i64 w7))] [(0, some (3, [.int .i64 w8]))] : St D0) (blockK 1 (onN (fun s => impl_sumUpTo_1.C.tidy 1958 s (fun s' => runC impl_sumUpTo_1.C (impl_sumUpTo_1.O N) N impl_sumUpTo_1.c1959 1959 s' (onN (fun s => impl_sumUpTo_1.C.tidy 122 s ((onN Kn122 (blockK 0 (onN (fun s => impl_sumUpTo_1.C.tidy 30 s (fun s' => runC impl_sumUpTo_1.C (impl_sumUpTo_1.O N) N impl_sumUpTo_1.c31 31 s' impl_sumUpTo_1.K0)) impl_sumUpTo_1.K0))) .normal)) (onN Kn122 (blockK 0 (onN (fun s => impl_sumUpTo_1.C.tidy 30 s (fun s' => runC impl_sumUpTo_1.C (impl_sumUpTo_1.O N) N impl_sumUpTo_1.c31 31 s' impl_sumUpTo_1.K0)) impl_sumUpTo_1.K0)))))) (onN (fun s => impl_sumUpTo_1.C.tidy 122 s ((onN Kn122 (blockK 0 (onN (fun s => impl_sumUpTo_1.C.tidy 30 s (fun s' => runC impl_sumUpTo_1.C (impl_sumUpTo_1.O N) N impl_sumUpTo_1.c31 31 s' impl_sumUpTo_1.K0)) impl_sumUpTo_1.K0))) .normal)) (onN Kn122 (blockK 0 (onN (fun s => impl_sumUpTo_1.C.tidy 30 s (fun s' => runC impl_sumUpTo_1.C (impl_sumUpTo_1.O N) N impl_sumUpTo_1.c31 31 s' impl_sumUpTo_1.K0)) impl_sumUpTo_1.K0)))))))) := by kernel_rfl
noncomputable def impl_sumUpTo_1.B15667 (N : Nat) (Kn122 : St D0 → Option impl_sumUpTo_1.R) : St D0 → Option impl_sumUpTo_1.R := fun s' => runC impl_sumUpTo_1.C (impl_sumUpTo_1.O N) N impl_sumUpTo_1.c31335 31335 s' (impl_sumUpTo_1.K31335 N Kn122)
noncomputable def impl_sumUpTo_1.d1 (N : Nat) (v0 : List ByteArray) (v1 : Int) (v2 : Int) (v3 : List ByteArray) (v4 : Int) (v5 : Int) (v6 : Int) (c1 : (List ByteArray) → Int → Int → (List ByteArray) → Int → Int → Int → Option impl_sumUpTo_1.R) : Option impl_sumUpTo_1.R := impl_sumUpTo_1.o1 N v0 v1 v2 v3 v4 v5 v6 ((fun w0 w1 w2 w3 w4 w5 w6 w7 w8 => impl_sumUpTo_1.d2 N w0 w1 w2 w3 w4 w5 w6 w7 w8 c1))
theorem impl_sumUpTo_1.c244_1 : impl_sumUpTo_1.c244 = (.seq impl_sumUpTo_1.c488 (.seq impl_sumUpTo_1.c978 (.seq (.block 1 (.seq impl_sumUpTo_1.c7832 (.seq impl_sumUpTo_1.c15666 (.seq impl_sumUpTo_1.c31334 impl_sumUpTo_1.c31335)))) impl_sumUpTo_1.c1959))) := by kernel_rfl
theorem impl_sumUpTo_1.d1.run (N : Nat) (Kn122 : St D0 → Option impl_sumUpTo_1.R) (v0 : List ByteArray) (v1 : Int) (v2 : Int) (v3 : List ByteArray) (v4 : Int) (v5 : Int) (v6 : Int) : runC impl_sumUpTo_1.C (impl_sumUpTo_1.O N) N impl_sumUpTo_1.c244 244 (mkSt [(0, .one (.sl false 9 v0)), (2, .one (.fn 52 [0])), (7, .one (.int .i64 v1)), (8, .one (.int .i64 v2)), (14, .one (.sl false 9 v3)), (15, .one (.int .i64 v4)), (16, .one (.int .i64 v5))] [(0, some (3, [.int .i64 v6]))] : St D0) (impl_sumUpTo_1.K244 N Kn122) = impl_sumUpTo_1.d1 N v0 v1 v2 v3 v4 v5 v6 ((fun w0 w1 w2 w3 w4 w5 w6 => Kn122 (mkSt [(0, .one (.sl false 9 w0)), (2, .one (.fn 52 [0])), (7, .one (.int .i64 w1)), (8, .one (.int .i64 w2)), (14, .one (.sl false 9 w3)), (15, .one (.int .i64 w4)), (16, .one (.int .i64 w5))] [(0, some (3, [.int .i64 w6]))] : St D0))) := by
  rw [impl_sumUpTo_1.c244_1]; unfold impl_sumUpTo_1.d1; exact (impl_sumUpTo_1.o1.run N Kn122 impl_sumUpTo_1.c31335 v0 v1 v2 v3 v4 v5 v6).trans (congr rfl (funext fun w0 => funext fun w1 => funext fun w2 => funext fun w3 => funext fun w4 => funext fun w5 => funext fun w6 => funext fun w7 => funext fun w8 => impl_sumUpTo_1.d2.run N Kn122 w0 w1 w2 w3 w4 w5 w6 w7 w8))
noncomputable def impl_sumUpTo_1.K122 (N : Nat) : Ex → St D0 → Option impl_sumUpTo_1.R := (blockK 0 (onN (fun s => impl_sumUpTo_1.C.tidy 30 s (fun s' => runC impl_sumUpTo_1.C (impl_sumUpTo_1.O N) N impl_sumUpTo_1.c31 31 s' impl_sumUpTo_1.K0)) impl_sumUpTo_1.K0))
noncomputable def impl_sumUpTo_1.l1 (N : Nat) : Nat → (List ByteArray) → Int → Int → (List ByteArray) → Int → Int → Int → Option impl_sumUpTo_1.R
  | 0, _, _, _, _, _, _, _ => none
  | n + 1, v0, v1, v2, v3, v4, v5, v6 => impl_sumUpTo_1.d1 N v0 v1 v2 v3 v4 v5 v6 ((fun w0 w1 w2 w3 w4 w5 w6 => impl_sumUpTo_1.l1 N n w0 w1 w2 w3 w4 w5 w6))
theorem impl_sumUpTo_1.loop122 (N : Nat) : ∀ n, (∀ (v0 : List ByteArray) (v1 : Int) (v2 : Int) (v3 : List ByteArray) (v4 : Int) (v5 : Int) (v6 : Int), iter (loopF impl_sumUpTo_1.C (impl_sumUpTo_1.O N) N impl_sumUpTo_1.c244 122) n (mkSt [(0, .one (.sl false 9 v0)), (2, .one (.fn 52 [0])), (7, .one (.int .i64 v1)), (8, .one (.int .i64 v2)), (14, .one (.sl false 9 v3)), (15, .one (.int .i64 v4)), (16, .one (.int .i64 v5))] [(0, some (3, [.int .i64 v6]))] : St D0) (impl_sumUpTo_1.K122 N) = impl_sumUpTo_1.l1 N n v0 v1 v2 v3 v4 v5 v6)
  | 0 => (fun v0 v1 v2 v3 v4 v5 v6 => rfl)
  | n + 1 => (fun v0 v1 v2 v3 v4 v5 v6 => (impl_sumUpTo_1.d1.run N (fun s => iter (loopF impl_sumUpTo_1.C (impl_sumUpTo_1.O N) N impl_sumUpTo_1.c244 122) n s (impl_sumUpTo_1.K122 N)) v0 v1 v2 v3 v4 v5 v6).trans (show _ = impl_sumUpTo_1.d1 N v0 v1 v2 v3 v4 v5 v6 ((fun w0 w1 w2 w3 w4 w5 w6 => impl_sumUpTo_1.l1 N n w0 w1 w2 w3 w4 w5 w6)) from (congr rfl (funext fun w0 => funext fun w1 => funext fun w2 => funext fun w3 => funext fun w4 => funext fun w5 => funext fun w6 => (impl_sumUpTo_1.loop122 N n) w0 w1 w2 w3 w4 w5 w6))))
noncomputable def impl_sumUpTo_1.o0 (N : Nat) (a0 : List ByteArray) (a1 : Int) (b0_0 : Int) (c1 : (List ByteArray) → Int → Int → (List ByteArray) → Int → Int → Int → Option impl_sumUpTo_1.R) : Option impl_sumUpTo_1.R :=
 (impl_played.g N a1).bind fun r1 =>
 c1 a0 r1 0 a0 (a0.length : Int) 0 b0_0
theorem impl_sumUpTo_1.o0.run (N : Nat) (H244 : Code) (a0 : List ByteArray) (a1 : Int) (b0_0 : Int) : runC impl_sumUpTo_1.C (impl_sumUpTo_1.O N) N (.seq impl_sumUpTo_1.c2 (.seq impl_sumUpTo_1.c6 (.seq impl_sumUpTo_1.c14 (.seq (.seq impl_sumUpTo_1.c60 (.block 0 (.loop H244))) impl_sumUpTo_1.c31)))) 1 (st0 [.one (.sl false 9 a0), .one (.int .i64 a1), .one (.fn 52 [0])] [(3, [.int .i64 b0_0])] : St D0) impl_sumUpTo_1.K0 = impl_sumUpTo_1.o0 N a0 a1 b0_0 ((fun w0 w1 w2 w3 w4 w5 w6 => iter (loopF impl_sumUpTo_1.C (impl_sumUpTo_1.O N) N H244 122) N (mkSt [(0, .one (.sl false 9 w0)), (2, .one (.fn 52 [0])), (7, .one (.int .i64 w1)), (8, .one (.int .i64 w2)), (14, .one (.sl false 9 w3)), (15, .one (.int .i64 w4)), (16, .one (.int .i64 w5))] [(0, some (3, [.int .i64 w6]))] : St D0) (blockK 0 (onN (fun s => impl_sumUpTo_1.C.tidy 30 s (fun s' => runC impl_sumUpTo_1.C (impl_sumUpTo_1.O N) N impl_sumUpTo_1.c31 31 s' impl_sumUpTo_1.K0)) impl_sumUpTo_1.K0)))) := by kernel_rfl
noncomputable def impl_sumUpTo_1.g (N : Nat) (a0 : List ByteArray) (a1 : Int) (b0_0 : Int) : Option impl_sumUpTo_1.R := impl_sumUpTo_1.o0 N a0 a1 b0_0 ((fun w0 w1 w2 w3 w4 w5 w6 => impl_sumUpTo_1.l1 N N w0 w1 w2 w3 w4 w5 w6))
theorem impl_sumUpTo_1.c1_0 : impl_sumUpTo_1.c1 = (.seq impl_sumUpTo_1.c2 (.seq impl_sumUpTo_1.c6 (.seq impl_sumUpTo_1.c14 (.seq (.seq impl_sumUpTo_1.c60 (.block 0 (.loop impl_sumUpTo_1.c244))) impl_sumUpTo_1.c31)))) := by kernel_rfl
theorem impl_sumUpTo_1.g.run (N : Nat) (a0 : List ByteArray) (a1 : Int) (b0_0 : Int) : runC impl_sumUpTo_1.C (impl_sumUpTo_1.O N) N impl_sumUpTo_1.c1 1 (st0 [.one (.sl false 9 a0), .one (.int .i64 a1), .one (.fn 52 [0])] [(3, [.int .i64 b0_0])] : St D0) impl_sumUpTo_1.K0 = impl_sumUpTo_1.g N a0 a1 b0_0 := by
  rw [impl_sumUpTo_1.c1_0]; unfold impl_sumUpTo_1.g; exact (impl_sumUpTo_1.o0.run N impl_sumUpTo_1.c244 a0 a1 b0_0).trans (congr rfl (funext fun w0 => funext fun w1 => funext fun w2 => funext fun w3 => funext fun w4 => funext fun w5 => funext fun w6 => (impl_sumUpTo_1.loop122 N N) w0 w1 w2 w3 w4 w5 w6))
theorem impl_sumUpTo_1.good (N : Nat) (a0 : List ByteArray) (a1 : Int) (b0_0 : Int) (r : impl_sumUpTo_1.R) (h : impl_sumUpTo_1.g N a0 a1 b0_0 = some r) : Go.PM.Good Go.Proofs.Try.prog T0 39 [.one (.sl false 9 a0), .one (.int .i64 a1), .one (.fn 52 [0])] [(3, [.int .i64 b0_0])] (impl_sumUpTo_1.sig.ret r) (impl_sumUpTo_1.sig.bs r) :=
  good_fn tabOk0 mixed0 impl_sumUpTo_1.sig (impl_sumUpTo_1.E N) Go.Proofs.Try.func39 (by kernel_rfl) (by kernel_rfl) 1073991623 0 1 [(122, [0, 2, 7, 8, 14, 15, 16], [0]), (31334, [0, 2, 7, 8, 10, 11, 14, 15, 16], [0])] 131237679104 false [] [(false, [.any])] (by kernel_rfl) rfl rfl ((impl_sumUpTo_1.g.run N a0 a1 b0_0).trans h)
noncomputable def impl_sumUpTo_1.ent (N : Nat) : Ent Go.Proofs.Try.prog T0 := mkEnt 39 [(false, [.ro 9]), (false, [.any]), (false, [.any])] impl_sumUpTo_1.sig (fun t => impl_sumUpTo_1.g N t.1 t.2.1 t.2.2.2) (fun t r h => impl_sumUpTo_1.good N t.1 t.2.1 t.2.2.2 r h)
end Go.Proofs.Ytpmipkbfohcjiaa.M
