/- What the program's functions compute, walked by the machine (part 1). No conditions but those stated. -/
import Derived.Test.YtpmipkbfohcjiaaDoorPm3
import Derived.Test.YtpmipkbfohcjiaaDoorProg
namespace Go.Proofs.YtpmipkbfohcjiaaDoor.M
open Go Go.PM
set_option linter.unusedVariables false
set_option maxRecDepth 100000
end Go.Proofs.YtpmipkbfohcjiaaDoor.M
namespace Go.Proofs.YtpmipkbfohcjiaaDoor.P
end Go.Proofs.YtpmipkbfohcjiaaDoor.P
namespace Go.Proofs.YtpmipkbfohcjiaaDoor.M
open Go Go.PM Go.Proofs.YtpmipkbfohcjiaaDoor.P
abbrev D0 : TypeId → Type
  | 3 => Int
  | 5 => Int
  | 9 => ByteArray
  | 22 => (List ByteArray)
  | _ => Unit
def T0 : Tab D0 where
  size := fun e => match e with
    | 3 => 1
    | 5 => 1
    | 9 => 1
    | 22 => 1
    | _ => 0
  out := fun e x => match e, x with
    | 3, x => [.int .i64 x]
    | 5, x => [.int .u8 x]
    | 9, x => [.str x]
    | 22, x => [.sl false 9 x]
    | _, _ => []
  inn := fun e ls => match e, ls with
    | 3, [.int .i64 x0] => some x0
    | 5, [.int .u8 x0] => some x0
    | 9, [.str x0] => some x0
    | 22, [.sl _ e' x0] => if h : e' = 9 then some (cast (congrArg (fun t => List (D0 t)) h) x0) else none
    | _, _ => none
  kd := fun e => match e with
    | 3 => [13]
    | 5 => [14]
    | 9 => [2]
    | 22 => [3]
    | _ => []
theorem tabOk0 : TabOk T0 where
  out_len := by
    intro e x
    simp only [T0]
    split <;> first | rfl | (split <;> first | rfl | (rename_i h _ _ _ _; exact absurd HEq.rfl (fun h' => h _ rfl h')) | simp_all)
  kd_ok := by
    intro e x
    simp only [T0]
    split <;> first | rfl | (split <;> first | rfl | (rename_i h _ _ _ _; exact absurd HEq.rfl (fun h' => h _ rfl h')) | simp_all)
  inn_ok := by
    intro e ls x h C blk vs hF
    simp only [T0] at h
    split at h <;> first | (cases h; done) | (simp only [Option.some.injEq] at h; subst h; exact tab_inn hF rfl) | (split at h <;> first | (cases h; done) | (rename_i he; simp only [Option.some.injEq] at h; subst h; subst he; exact tab_inn_sl rfl hF))
theorem mixed0 : Go.Proofs.Tryd.prog.follows .mixedOrders = true := by kernel_rfl
end Go.Proofs.YtpmipkbfohcjiaaDoor.M

namespace Go.Proofs.YtpmipkbfohcjiaaDoor.M
open Go Go.PM Go.Proofs.YtpmipkbfohcjiaaDoor.P
set_option linter.unusedVariables false
set_option maxRecDepth 100000
/-! ### impl_within -/
abbrev impl_within.R : Type := Bool
abbrev impl_within.sig : Sig := ⟨[(false, 1), (false, 1), (false, 1)], [], [.int .i64, .int .i64, .int .i64], [(false, 1)], [], [.bool]⟩
noncomputable def impl_within.C : Cfg D0 := ⟨Go.Proofs.Tryd.prog, T0, 71, 0, 15, 0, [], 6528, false, []⟩
noncomputable def impl_within.E (N : Nat) : List (Ent Go.Proofs.Tryd.prog T0) := []
noncomputable def impl_within.O (N : Nat) : Orc D0 impl_within.R := orcOf (impl_within.E N)
noncomputable def impl_within.K0 : Ex → St D0 → Option impl_within.R := exitK impl_within.C Go.Proofs.Tryd.f30.results.toList [(false, [.any])] (decOut impl_within.sig)
noncomputable def impl_within.c1 : Code := codeAt (Go.Proofs.Tryd.f30.body.getD .skip) []
noncomputable def impl_within.o0 (N : Nat) (a0 : Int) (a1 : Int) (a2 : Int) : Option impl_within.R :=
 bif (decide (a0 ≥ a1)) then
  some ((decide (a0 ≤ a2)))
 else
 some (false)
theorem impl_within.o0.run (N : Nat) (a0 : Int) (a1 : Int) (a2 : Int) : runC impl_within.C (impl_within.O N) N impl_within.c1 1 (st0 [.one (.int .i64 a0), .one (.int .i64 a1), .one (.int .i64 a2)] [] : St D0) impl_within.K0 = impl_within.o0 N a0 a1 a2 := by kernel_rfl
noncomputable def impl_within.g (N : Nat) (a0 : Int) (a1 : Int) (a2 : Int) : Option impl_within.R := impl_within.o0 N a0 a1 a2
theorem impl_within.g.run (N : Nat) (a0 : Int) (a1 : Int) (a2 : Int) : runC impl_within.C (impl_within.O N) N impl_within.c1 1 (st0 [.one (.int .i64 a0), .one (.int .i64 a1), .one (.int .i64 a2)] [] : St D0) impl_within.K0 = impl_within.g N a0 a1 a2 := by
  exact (impl_within.o0.run N a0 a1 a2).trans rfl
theorem impl_within.good (N : Nat) (a0 : Int) (a1 : Int) (a2 : Int) (r : impl_within.R) (h : impl_within.g N a0 a1 a2 = some r) : Go.PM.Good Go.Proofs.Tryd.prog T0 30 [.one (.int .i64 a0), .one (.int .i64 a1), .one (.int .i64 a2)] [] (impl_within.sig.ret r) (impl_within.sig.bs r) :=
  good_fn tabOk0 mixed0 impl_within.sig (impl_within.E N) Go.Proofs.Tryd.func30 (by kernel_rfl) (by kernel_rfl) 71 0 0 [] 6528 false [] [(false, [.any])] (by kernel_rfl) rfl rfl ((impl_within.g.run N a0 a1 a2).trans h)
noncomputable def impl_within.ent (N : Nat) : Ent Go.Proofs.Tryd.prog T0 := mkEnt 30 [(false, [.any]), (false, [.any]), (false, [.any])] impl_within.sig (fun t => impl_within.g N t.1 t.2.1 t.2.2) (fun t r h => impl_within.good N t.1 t.2.1 t.2.2 r h)
end Go.Proofs.YtpmipkbfohcjiaaDoor.M

namespace Go.Proofs.YtpmipkbfohcjiaaDoor.M
open Go Go.PM Go.Proofs.YtpmipkbfohcjiaaDoor.P
set_option linter.unusedVariables false
set_option maxRecDepth 100000
/-! ### spec_l1In -/
abbrev spec_l1In.R : Type := Bool
abbrev spec_l1In.sig : Sig := ⟨[(false, 1), (false, 1), (false, 1)], [], [.int .i64, .int .i64, .int .i64], [(false, 1)], [], [.bool]⟩
noncomputable def spec_l1In.C : Cfg D0 := ⟨Go.Proofs.Tryd.prog, T0, 71, 0, 15, 0, [], 6528, false, []⟩
noncomputable def spec_l1In.E (N : Nat) : List (Ent Go.Proofs.Tryd.prog T0) := []
noncomputable def spec_l1In.O (N : Nat) : Orc D0 spec_l1In.R := orcOf (spec_l1In.E N)
noncomputable def spec_l1In.K0 : Ex → St D0 → Option spec_l1In.R := exitK spec_l1In.C Go.Proofs.Tryd.f33.results.toList [(false, [.any])] (decOut spec_l1In.sig)
noncomputable def spec_l1In.c1 : Code := codeAt (Go.Proofs.Tryd.f33.body.getD .skip) []
noncomputable def spec_l1In.o0 (N : Nat) (a0 : Int) (a1 : Int) (a2 : Int) : Option spec_l1In.R :=
 bif (decide (a0 ≥ a1)) then
  some ((decide (a0 ≤ a2)))
 else
 some (false)
theorem spec_l1In.o0.run (N : Nat) (a0 : Int) (a1 : Int) (a2 : Int) : runC spec_l1In.C (spec_l1In.O N) N spec_l1In.c1 1 (st0 [.one (.int .i64 a0), .one (.int .i64 a1), .one (.int .i64 a2)] [] : St D0) spec_l1In.K0 = spec_l1In.o0 N a0 a1 a2 := by kernel_rfl
noncomputable def spec_l1In.g (N : Nat) (a0 : Int) (a1 : Int) (a2 : Int) : Option spec_l1In.R := spec_l1In.o0 N a0 a1 a2
theorem spec_l1In.g.run (N : Nat) (a0 : Int) (a1 : Int) (a2 : Int) : runC spec_l1In.C (spec_l1In.O N) N spec_l1In.c1 1 (st0 [.one (.int .i64 a0), .one (.int .i64 a1), .one (.int .i64 a2)] [] : St D0) spec_l1In.K0 = spec_l1In.g N a0 a1 a2 := by
  exact (spec_l1In.o0.run N a0 a1 a2).trans rfl
theorem spec_l1In.good (N : Nat) (a0 : Int) (a1 : Int) (a2 : Int) (r : spec_l1In.R) (h : spec_l1In.g N a0 a1 a2 = some r) : Go.PM.Good Go.Proofs.Tryd.prog T0 33 [.one (.int .i64 a0), .one (.int .i64 a1), .one (.int .i64 a2)] [] (spec_l1In.sig.ret r) (spec_l1In.sig.bs r) :=
  good_fn tabOk0 mixed0 spec_l1In.sig (spec_l1In.E N) Go.Proofs.Tryd.func33 (by kernel_rfl) (by kernel_rfl) 71 0 0 [] 6528 false [] [(false, [.any])] (by kernel_rfl) rfl rfl ((spec_l1In.g.run N a0 a1 a2).trans h)
noncomputable def spec_l1In.ent (N : Nat) : Ent Go.Proofs.Tryd.prog T0 := mkEnt 33 [(false, [.any]), (false, [.any]), (false, [.any])] spec_l1In.sig (fun t => spec_l1In.g N t.1 t.2.1 t.2.2) (fun t r h => spec_l1In.good N t.1 t.2.1 t.2.2 r h)
end Go.Proofs.YtpmipkbfohcjiaaDoor.M

namespace Go.Proofs.YtpmipkbfohcjiaaDoor.M
open Go Go.PM Go.Proofs.YtpmipkbfohcjiaaDoor.P
set_option linter.unusedVariables false
set_option maxRecDepth 100000
/-! ### laws_kSame -/
abbrev laws_kSame.R : Type := Bool
abbrev laws_kSame.sig : Sig := ⟨[(false, 1), (false, 1)], [], [.sl false 3, .sl false 3], [(false, 1)], [], [.bool]⟩
noncomputable def laws_kSame.C : Cfg D0 := ⟨Go.Proofs.Tryd.prog, T0, 16806963, 0, 26, 0, [(58, [0, 1, 12, 13], [])], 3344704, false, []⟩
noncomputable def laws_kSame.E (N : Nat) : List (Ent Go.Proofs.Tryd.prog T0) := []
noncomputable def laws_kSame.O (N : Nat) : Orc D0 laws_kSame.R := orcOf (laws_kSame.E N)
noncomputable def laws_kSame.K0 : Ex → St D0 → Option laws_kSame.R := exitK laws_kSame.C Go.Proofs.Tryd.f13.results.toList [(false, [.any])] (decOut laws_kSame.sig)
noncomputable def laws_kSame.c1 : Code := codeAt (Go.Proofs.Tryd.f13.body.getD .skip) []
noncomputable def laws_kSame.c2 : Code := codeAt (Go.Proofs.Tryd.f13.body.getD .skip) [false]
noncomputable def laws_kSame.c6 : Code := codeAt (Go.Proofs.Tryd.f13.body.getD .skip) [true, false]
noncomputable def laws_kSame.c15 : Code := codeAt (Go.Proofs.Tryd.f13.body.getD .skip) [true, true, true]
noncomputable def laws_kSame.c28 : Code := codeAt (Go.Proofs.Tryd.f13.body.getD .skip) [true, true, false, false]
noncomputable def laws_kSame.c116 : Code := codeAt (Go.Proofs.Tryd.f13.body.getD .skip) [true, true, false, true, false, false]
noncomputable def laws_kSame.K116 (N : Nat) (Kn58 : St D0 → Option laws_kSame.R) : Ex → St D0 → Option laws_kSame.R := ((fun up => (onN (fun s => laws_kSame.C.tidy 58 s ((onN Kn58 up) .normal)) (onN Kn58 up))) (blockK 0 (onN (fun s => laws_kSame.C.tidy 14 s (fun s' => runC laws_kSame.C (laws_kSame.O N) N laws_kSame.c15 15 s' laws_kSame.K0)) laws_kSame.K0)))
noncomputable def laws_kSame.o1 (N : Nat) (v0 : List Int) (v1 : List Int) (v2 : Int) (v3 : Int) (c1 : (List Int) → (List Int) → Int → Int → Option laws_kSame.R) : Option laws_kSame.R :=
 bif (decide (v3 < v2)) then
  bif (decide (0 ≤ v3)) then
   bif (decide (v3 < (v0.length : Int))) then
    (v0[(v3 : Int).toNat]?).bind fun x1 =>
    bif (decide (0 ≤ v3)) then
     bif (decide (v3 < (v1.length : Int))) then
      (v1[(v3 : Int).toNat]?).bind fun x2 =>
      bif (x1 != x2) then
       some (false)
      else
      c1 v0 v1 v2 (w64 (v3 + 1))
     else
     none
    else
    none
   else
   none
  else
  none
 else
 some (true)
theorem laws_kSame.o1.run (N : Nat) (Kn58 : St D0 → Option laws_kSame.R) (v0 : List Int) (v1 : List Int) (v2 : Int) (v3 : Int) : runC laws_kSame.C (laws_kSame.O N) N laws_kSame.c116 116 (mkSt [(0, .one (.sl false 3 v0)), (1, .one (.sl false 3 v1)), (12, .one (.int .i64 v2)), (13, .one (.int .i64 v3))] [] : St D0) ((fun up => (onN (fun s => laws_kSame.C.tidy 58 s ((onN Kn58 up) .normal)) (onN Kn58 up))) (blockK 0 (onN (fun s => laws_kSame.C.tidy 14 s (fun s' => runC laws_kSame.C (laws_kSame.O N) N laws_kSame.c15 15 s' laws_kSame.K0)) laws_kSame.K0))) = laws_kSame.o1 N v0 v1 v2 v3 ((fun w0 w1 w2 w3 => Kn58 (mkSt [(0, .one (.sl false 3 w0)), (1, .one (.sl false 3 w1)), (12, .one (.int .i64 w2)), (13, .one (.int .i64 w3))] [] : St D0))) := by kernel_rfl
noncomputable def laws_kSame.d1 (N : Nat) (v0 : List Int) (v1 : List Int) (v2 : Int) (v3 : Int) (c1 : (List Int) → (List Int) → Int → Int → Option laws_kSame.R) : Option laws_kSame.R := laws_kSame.o1 N v0 v1 v2 v3 c1
theorem laws_kSame.d1.run (N : Nat) (Kn58 : St D0 → Option laws_kSame.R) (v0 : List Int) (v1 : List Int) (v2 : Int) (v3 : Int) : runC laws_kSame.C (laws_kSame.O N) N laws_kSame.c116 116 (mkSt [(0, .one (.sl false 3 v0)), (1, .one (.sl false 3 v1)), (12, .one (.int .i64 v2)), (13, .one (.int .i64 v3))] [] : St D0) (laws_kSame.K116 N Kn58) = laws_kSame.d1 N v0 v1 v2 v3 ((fun w0 w1 w2 w3 => Kn58 (mkSt [(0, .one (.sl false 3 w0)), (1, .one (.sl false 3 w1)), (12, .one (.int .i64 w2)), (13, .one (.int .i64 w3))] [] : St D0))) := by
  exact (laws_kSame.o1.run N Kn58 v0 v1 v2 v3).trans rfl
noncomputable def laws_kSame.K58 (N : Nat) : Ex → St D0 → Option laws_kSame.R := (blockK 0 (onN (fun s => laws_kSame.C.tidy 14 s (fun s' => runC laws_kSame.C (laws_kSame.O N) N laws_kSame.c15 15 s' laws_kSame.K0)) laws_kSame.K0))
noncomputable def laws_kSame.l1 (N : Nat) : Nat → (List Int) → (List Int) → Int → Int → Option laws_kSame.R
  | 0, _, _, _, _ => none
  | n + 1, v0, v1, v2, v3 => laws_kSame.d1 N v0 v1 v2 v3 ((fun w0 w1 w2 w3 => laws_kSame.l1 N n w0 w1 w2 w3))
theorem laws_kSame.loop58 (N : Nat) : ∀ n, (∀ (v0 : List Int) (v1 : List Int) (v2 : Int) (v3 : Int), iter (loopF laws_kSame.C (laws_kSame.O N) N laws_kSame.c116 58) n (mkSt [(0, .one (.sl false 3 v0)), (1, .one (.sl false 3 v1)), (12, .one (.int .i64 v2)), (13, .one (.int .i64 v3))] [] : St D0) (laws_kSame.K58 N) = laws_kSame.l1 N n v0 v1 v2 v3)
  | 0 => (fun v0 v1 v2 v3 => rfl)
  | n + 1 => (fun v0 v1 v2 v3 => (laws_kSame.d1.run N (fun s => iter (loopF laws_kSame.C (laws_kSame.O N) N laws_kSame.c116 58) n s (laws_kSame.K58 N)) v0 v1 v2 v3).trans (show _ = laws_kSame.d1 N v0 v1 v2 v3 ((fun w0 w1 w2 w3 => laws_kSame.l1 N n w0 w1 w2 w3)) from (congr rfl (funext fun w0 => funext fun w1 => funext fun w2 => funext fun w3 => (laws_kSame.loop58 N n) w0 w1 w2 w3))))
noncomputable def laws_kSame.o0 (N : Nat) (a0 : List Int) (a1 : List Int) (c1 : (List Int) → (List Int) → Int → Int → Option laws_kSame.R) : Option laws_kSame.R :=
 bif ((a0.length : Int) != (a1.length : Int)) then
  some (false)
 else
 c1 a0 a1 (a0.length : Int) 0
theorem laws_kSame.o0.run (N : Nat) (H116 : Code) (a0 : List Int) (a1 : List Int) : runC laws_kSame.C (laws_kSame.O N) N (.seq laws_kSame.c2 (.seq laws_kSame.c6 (.seq (.seq laws_kSame.c28 (.block 0 (.loop H116))) laws_kSame.c15))) 1 (st0 [.one (.sl false 3 a0), .one (.sl false 3 a1)] [] : St D0) laws_kSame.K0 = laws_kSame.o0 N a0 a1 ((fun w0 w1 w2 w3 => iter (loopF laws_kSame.C (laws_kSame.O N) N H116 58) N (mkSt [(0, .one (.sl false 3 w0)), (1, .one (.sl false 3 w1)), (12, .one (.int .i64 w2)), (13, .one (.int .i64 w3))] [] : St D0) (blockK 0 (onN (fun s => laws_kSame.C.tidy 14 s (fun s' => runC laws_kSame.C (laws_kSame.O N) N laws_kSame.c15 15 s' laws_kSame.K0)) laws_kSame.K0)))) := by kernel_rfl
noncomputable def laws_kSame.g (N : Nat) (a0 : List Int) (a1 : List Int) : Option laws_kSame.R := laws_kSame.o0 N a0 a1 ((fun w0 w1 w2 w3 => laws_kSame.l1 N N w0 w1 w2 w3))
theorem laws_kSame.c1_0 : laws_kSame.c1 = (.seq laws_kSame.c2 (.seq laws_kSame.c6 (.seq (.seq laws_kSame.c28 (.block 0 (.loop laws_kSame.c116))) laws_kSame.c15))) := by kernel_rfl
theorem laws_kSame.g.run (N : Nat) (a0 : List Int) (a1 : List Int) : runC laws_kSame.C (laws_kSame.O N) N laws_kSame.c1 1 (st0 [.one (.sl false 3 a0), .one (.sl false 3 a1)] [] : St D0) laws_kSame.K0 = laws_kSame.g N a0 a1 := by
  rw [laws_kSame.c1_0]; unfold laws_kSame.g; exact (laws_kSame.o0.run N laws_kSame.c116 a0 a1).trans (congr rfl (funext fun w0 => funext fun w1 => funext fun w2 => funext fun w3 => (laws_kSame.loop58 N N) w0 w1 w2 w3))
theorem laws_kSame.good (N : Nat) (a0 : List Int) (a1 : List Int) (r : laws_kSame.R) (h : laws_kSame.g N a0 a1 = some r) : Go.PM.Good Go.Proofs.Tryd.prog T0 13 [.one (.sl false 3 a0), .one (.sl false 3 a1)] [] (laws_kSame.sig.ret r) (laws_kSame.sig.bs r) :=
  good_fn tabOk0 mixed0 laws_kSame.sig (laws_kSame.E N) Go.Proofs.Tryd.func13 (by kernel_rfl) (by kernel_rfl) 16806963 0 0 [(58, [0, 1, 12, 13], [])] 3344704 false [] [(false, [.any])] (by kernel_rfl) rfl rfl ((laws_kSame.g.run N a0 a1).trans h)
noncomputable def laws_kSame.ent (N : Nat) : Ent Go.Proofs.Tryd.prog T0 := mkEnt 13 [(false, [.ro 3]), (false, [.ro 3])] laws_kSame.sig (fun t => laws_kSame.g N t.1 t.2) (fun t r h => laws_kSame.good N t.1 t.2 r h)
end Go.Proofs.YtpmipkbfohcjiaaDoor.M

namespace Go.Proofs.YtpmipkbfohcjiaaDoor.M
open Go Go.PM Go.Proofs.YtpmipkbfohcjiaaDoor.P
set_option linter.unusedVariables false
set_option maxRecDepth 100000
/-! ### impl_isPhrase -/
abbrev impl_isPhrase.R : Type := Bool
abbrev impl_isPhrase.sig : Sig := ⟨[(false, 1)], [], [.str], [(false, 1)], [], [.bool]⟩
noncomputable def impl_isPhrase.C : Cfg D0 := ⟨Go.Proofs.Tryd.prog, T0, 262381, 0, 23, 0, [(26, [0, 5, 6], []), (3378, [0, 5, 6, 18], [])], 1099280, false, []⟩
noncomputable def impl_isPhrase.E (N : Nat) : List (Ent Go.Proofs.Tryd.prog T0) := [impl_within.ent N]
noncomputable def impl_isPhrase.O (N : Nat) : Orc D0 impl_isPhrase.R := orcOf (impl_isPhrase.E N)
noncomputable def impl_isPhrase.K0 : Ex → St D0 → Option impl_isPhrase.R := exitK impl_isPhrase.C Go.Proofs.Tryd.f44.results.toList [(false, [.any])] (decOut impl_isPhrase.sig)
noncomputable def impl_isPhrase.c1 : Code := codeAt (Go.Proofs.Tryd.f44.body.getD .skip) []
noncomputable def impl_isPhrase.c2 : Code := codeAt (Go.Proofs.Tryd.f44.body.getD .skip) [false]
noncomputable def impl_isPhrase.c7 : Code := codeAt (Go.Proofs.Tryd.f44.body.getD .skip) [true, true]
noncomputable def impl_isPhrase.c12 : Code := codeAt (Go.Proofs.Tryd.f44.body.getD .skip) [true, false, false]
noncomputable def impl_isPhrase.c52 : Code := codeAt (Go.Proofs.Tryd.f44.body.getD .skip) [true, false, true, false, false]
noncomputable def impl_isPhrase.c104 : Code := codeAt (Go.Proofs.Tryd.f44.body.getD .skip) [true, false, true, false, false, false]
noncomputable def impl_isPhrase.c210 : Code := codeAt (Go.Proofs.Tryd.f44.body.getD .skip) [true, false, true, false, false, true, false]
noncomputable def impl_isPhrase.c423 : Code := codeAt (Go.Proofs.Tryd.f44.body.getD .skip) [true, false, true, false, false, true, true, true]
noncomputable def impl_isPhrase.c1688 : Code := codeAt (Go.Proofs.Tryd.f44.body.getD .skip) [true, false, true, false, false, true, true, false, false, false]
noncomputable def impl_isPhrase.c3378 : Code := codeAt (Go.Proofs.Tryd.f44.body.getD .skip) [true, false, true, false, false, true, true, false, false, true, false]
noncomputable def impl_isPhrase.c3379 : Code := codeAt (Go.Proofs.Tryd.f44.body.getD .skip) [true, false, true, false, false, true, true, false, false, true, true]
noncomputable def impl_isPhrase.K3379 (N : Nat) (Kn26 : St D0 → Option impl_isPhrase.R) : Ex → St D0 → Option impl_isPhrase.R := (blockK 1 ((fun up => (onN (fun s => impl_isPhrase.C.tidy 422 s (fun s' => runC impl_isPhrase.C (impl_isPhrase.O N) N impl_isPhrase.c423 423 s' up)) up)) ((fun up => (onN (fun s => impl_isPhrase.C.tidy 26 s ((onN Kn26 up) .normal)) (onN Kn26 up))) (blockK 0 (onN (fun s => impl_isPhrase.C.tidy 6 s (fun s' => runC impl_isPhrase.C (impl_isPhrase.O N) N impl_isPhrase.c7 7 s' impl_isPhrase.K0)) impl_isPhrase.K0)))))
noncomputable def impl_isPhrase.o2 (N : Nat) (v0 : ByteArray) (v1 : Int) (v2 : Int) (v3 : Bool) (c1 : ByteArray → Int → Int → Option impl_isPhrase.R) : Option impl_isPhrase.R :=
 bif v3 then
  some (false)
 else
 c1 v0 v1 (w64 (v2 + 1))
theorem impl_isPhrase.o2.run (N : Nat) (Kn26 : St D0 → Option impl_isPhrase.R) (v0 : ByteArray) (v1 : Int) (v2 : Int) (v3 : Bool) : runC impl_isPhrase.C (impl_isPhrase.O N) N impl_isPhrase.c3379 3379 (mkSt [(0, .one (.str v0)), (5, .one (.int .i64 v1)), (6, .one (.int .i64 v2)), (18, .one (.bool v3))] [] : St D0) (blockK 1 ((fun up => (onN (fun s => impl_isPhrase.C.tidy 422 s (fun s' => runC impl_isPhrase.C (impl_isPhrase.O N) N impl_isPhrase.c423 423 s' up)) up)) ((fun up => (onN (fun s => impl_isPhrase.C.tidy 26 s ((onN Kn26 up) .normal)) (onN Kn26 up))) (blockK 0 (onN (fun s => impl_isPhrase.C.tidy 6 s (fun s' => runC impl_isPhrase.C (impl_isPhrase.O N) N impl_isPhrase.c7 7 s' impl_isPhrase.K0)) impl_isPhrase.K0))))) = impl_isPhrase.o2 N v0 v1 v2 v3 ((fun w0 w1 w2 => Kn26 (mkSt [(0, .one (.str w0)), (5, .one (.int .i64 w1)), (6, .one (.int .i64 w2))] [] : St D0))) := by kernel_rfl
noncomputable def impl_isPhrase.d2 (N : Nat) (v0 : ByteArray) (v1 : Int) (v2 : Int) (v3 : Bool) (c1 : ByteArray → Int → Int → Option impl_isPhrase.R) : Option impl_isPhrase.R := impl_isPhrase.o2 N v0 v1 v2 v3 c1
theorem impl_isPhrase.d2.run (N : Nat) (Kn26 : St D0 → Option impl_isPhrase.R) (v0 : ByteArray) (v1 : Int) (v2 : Int) (v3 : Bool) : runC impl_isPhrase.C (impl_isPhrase.O N) N impl_isPhrase.c3379 3379 (mkSt [(0, .one (.str v0)), (5, .one (.int .i64 v1)), (6, .one (.int .i64 v2)), (18, .one (.bool v3))] [] : St D0) (impl_isPhrase.K3379 N Kn26) = impl_isPhrase.d2 N v0 v1 v2 v3 ((fun w0 w1 w2 => Kn26 (mkSt [(0, .one (.str w0)), (5, .one (.int .i64 w1)), (6, .one (.int .i64 w2))] [] : St D0))) := by
  exact (impl_isPhrase.o2.run N Kn26 v0 v1 v2 v3).trans rfl
noncomputable def impl_isPhrase.K52 (N : Nat) (Kn26 : St D0 → Option impl_isPhrase.R) : Ex → St D0 → Option impl_isPhrase.R := ((fun up => (onN (fun s => impl_isPhrase.C.tidy 26 s ((onN Kn26 up) .normal)) (onN Kn26 up))) (blockK 0 (onN (fun s => impl_isPhrase.C.tidy 6 s (fun s' => runC impl_isPhrase.C (impl_isPhrase.O N) N impl_isPhrase.c7 7 s' impl_isPhrase.K0)) impl_isPhrase.K0)))
noncomputable def impl_isPhrase.o1 (N : Nat) (v0 : ByteArray) (v1 : Int) (v2 : Int) (c2 : ByteArray → Int → Int → Bool → Option impl_isPhrase.R) : Option impl_isPhrase.R :=
 bif (decide (v2 < v1)) then
  bif (decide (0 ≤ v2)) then
   bif (decide (v2 < (v0.size : Int))) then
    bif (decide ((bt v0 v2) < 49)) then
     c2 v0 v1 v2 true
    else
    bif (decide (0 ≤ v2)) then
     bif (decide (v2 < (v0.size : Int))) then
      c2 v0 v1 v2 (decide ((bt v0 v2) > 56))
     else
     none
    else
    none
   else
   none
  else
  none
 else
 (impl_within.g N (v0.size : Int) 1 8).bind fun r1 =>
 some (r1)
theorem impl_isPhrase.o1.run (N : Nat) (Kn26 : St D0 → Option impl_isPhrase.R) (H3379 : Code) (v0 : ByteArray) (v1 : Int) (v2 : Int) : runC impl_isPhrase.C (impl_isPhrase.O N) N (.seq impl_isPhrase.c104 (.seq impl_isPhrase.c210 (.seq (.block 1 (.seq impl_isPhrase.c1688 (.seq impl_isPhrase.c3378 H3379))) impl_isPhrase.c423))) 52 (mkSt [(0, .one (.str v0)), (5, .one (.int .i64 v1)), (6, .one (.int .i64 v2))] [] : St D0) ((fun up => (onN (fun s => impl_isPhrase.C.tidy 26 s ((onN Kn26 up) .normal)) (onN Kn26 up))) (blockK 0 (onN (fun s => impl_isPhrase.C.tidy 6 s (fun s' => runC impl_isPhrase.C (impl_isPhrase.O N) N impl_isPhrase.c7 7 s' impl_isPhrase.K0)) impl_isPhrase.K0))) = impl_isPhrase.o1 N v0 v1 v2 ((fun w0 w1 w2 w3 => runC impl_isPhrase.C (impl_isPhrase.O N) N H3379 3379 (mkSt [(0, .one (.str w0)), (5, .one (.int .i64 w1)), (6, .one (.int .i64 w2)), (18, .one (.bool w3))] [] : St D0) (blockK 1 ((fun up => (onN (fun s => impl_isPhrase.C.tidy 422 s (fun s' => runC impl_isPhrase.C (impl_isPhrase.O N) N impl_isPhrase.c423 423 s' up)) up)) ((fun up => (onN (fun s => impl_isPhrase.C.tidy 26 s ((onN Kn26 up) .normal)) (onN Kn26 up))) (blockK 0 (onN (fun s => impl_isPhrase.C.tidy 6 s (fun s' => runC impl_isPhrase.C (impl_isPhrase.O N) N impl_isPhrase.c7 7 s' impl_isPhrase.K0)) impl_isPhrase.K0))))))) := by kernel_rfl
noncomputable def impl_isPhrase.B1689 (N : Nat) (Kn26 : St D0 → Option impl_isPhrase.R) : St D0 → Option impl_isPhrase.R := fun s' => runC impl_isPhrase.C (impl_isPhrase.O N) N impl_isPhrase.c3379 3379 s' (impl_isPhrase.K3379 N Kn26)
noncomputable def impl_isPhrase.d1 (N : Nat) (v0 : ByteArray) (v1 : Int) (v2 : Int) (c1 : ByteArray → Int → Int → Option impl_isPhrase.R) : Option impl_isPhrase.R := impl_isPhrase.o1 N v0 v1 v2 ((fun w0 w1 w2 w3 => impl_isPhrase.d2 N w0 w1 w2 w3 c1))
theorem impl_isPhrase.c52_1 : impl_isPhrase.c52 = (.seq impl_isPhrase.c104 (.seq impl_isPhrase.c210 (.seq (.block 1 (.seq impl_isPhrase.c1688 (.seq impl_isPhrase.c3378 impl_isPhrase.c3379))) impl_isPhrase.c423))) := by kernel_rfl
theorem impl_isPhrase.d1.run (N : Nat) (Kn26 : St D0 → Option impl_isPhrase.R) (v0 : ByteArray) (v1 : Int) (v2 : Int) : runC impl_isPhrase.C (impl_isPhrase.O N) N impl_isPhrase.c52 52 (mkSt [(0, .one (.str v0)), (5, .one (.int .i64 v1)), (6, .one (.int .i64 v2))] [] : St D0) (impl_isPhrase.K52 N Kn26) = impl_isPhrase.d1 N v0 v1 v2 ((fun w0 w1 w2 => Kn26 (mkSt [(0, .one (.str w0)), (5, .one (.int .i64 w1)), (6, .one (.int .i64 w2))] [] : St D0))) := by
  rw [impl_isPhrase.c52_1]; unfold impl_isPhrase.d1; exact (impl_isPhrase.o1.run N Kn26 impl_isPhrase.c3379 v0 v1 v2).trans (congr rfl (funext fun w0 => funext fun w1 => funext fun w2 => funext fun w3 => impl_isPhrase.d2.run N Kn26 w0 w1 w2 w3))
noncomputable def impl_isPhrase.K26 (N : Nat) : Ex → St D0 → Option impl_isPhrase.R := (blockK 0 (onN (fun s => impl_isPhrase.C.tidy 6 s (fun s' => runC impl_isPhrase.C (impl_isPhrase.O N) N impl_isPhrase.c7 7 s' impl_isPhrase.K0)) impl_isPhrase.K0))
noncomputable def impl_isPhrase.l1 (N : Nat) : Nat → ByteArray → Int → Int → Option impl_isPhrase.R
  | 0, _, _, _ => none
  | n + 1, v0, v1, v2 => impl_isPhrase.d1 N v0 v1 v2 ((fun w0 w1 w2 => impl_isPhrase.l1 N n w0 w1 w2))
theorem impl_isPhrase.loop26 (N : Nat) : ∀ n, (∀ (v0 : ByteArray) (v1 : Int) (v2 : Int), iter (loopF impl_isPhrase.C (impl_isPhrase.O N) N impl_isPhrase.c52 26) n (mkSt [(0, .one (.str v0)), (5, .one (.int .i64 v1)), (6, .one (.int .i64 v2))] [] : St D0) (impl_isPhrase.K26 N) = impl_isPhrase.l1 N n v0 v1 v2)
  | 0 => (fun v0 v1 v2 => rfl)
  | n + 1 => (fun v0 v1 v2 => (impl_isPhrase.d1.run N (fun s => iter (loopF impl_isPhrase.C (impl_isPhrase.O N) N impl_isPhrase.c52 26) n s (impl_isPhrase.K26 N)) v0 v1 v2).trans (show _ = impl_isPhrase.d1 N v0 v1 v2 ((fun w0 w1 w2 => impl_isPhrase.l1 N n w0 w1 w2)) from (congr rfl (funext fun w0 => funext fun w1 => funext fun w2 => (impl_isPhrase.loop26 N n) w0 w1 w2))))
noncomputable def impl_isPhrase.o0 (N : Nat) (a0 : ByteArray) (c1 : ByteArray → Int → Int → Option impl_isPhrase.R) : Option impl_isPhrase.R :=
 c1 a0 (a0.size : Int) 0
theorem impl_isPhrase.o0.run (N : Nat) (H52 : Code) (a0 : ByteArray) : runC impl_isPhrase.C (impl_isPhrase.O N) N (.seq impl_isPhrase.c2 (.seq (.seq impl_isPhrase.c12 (.block 0 (.loop H52))) impl_isPhrase.c7)) 1 (st0 [.one (.str a0)] [] : St D0) impl_isPhrase.K0 = impl_isPhrase.o0 N a0 ((fun w0 w1 w2 => iter (loopF impl_isPhrase.C (impl_isPhrase.O N) N H52 26) N (mkSt [(0, .one (.str w0)), (5, .one (.int .i64 w1)), (6, .one (.int .i64 w2))] [] : St D0) (blockK 0 (onN (fun s => impl_isPhrase.C.tidy 6 s (fun s' => runC impl_isPhrase.C (impl_isPhrase.O N) N impl_isPhrase.c7 7 s' impl_isPhrase.K0)) impl_isPhrase.K0)))) := by kernel_rfl
noncomputable def impl_isPhrase.g (N : Nat) (a0 : ByteArray) : Option impl_isPhrase.R := impl_isPhrase.o0 N a0 ((fun w0 w1 w2 => impl_isPhrase.l1 N N w0 w1 w2))
theorem impl_isPhrase.c1_0 : impl_isPhrase.c1 = (.seq impl_isPhrase.c2 (.seq (.seq impl_isPhrase.c12 (.block 0 (.loop impl_isPhrase.c52))) impl_isPhrase.c7)) := by kernel_rfl
theorem impl_isPhrase.g.run (N : Nat) (a0 : ByteArray) : runC impl_isPhrase.C (impl_isPhrase.O N) N impl_isPhrase.c1 1 (st0 [.one (.str a0)] [] : St D0) impl_isPhrase.K0 = impl_isPhrase.g N a0 := by
  rw [impl_isPhrase.c1_0]; unfold impl_isPhrase.g; exact (impl_isPhrase.o0.run N impl_isPhrase.c52 a0).trans (congr rfl (funext fun w0 => funext fun w1 => funext fun w2 => (impl_isPhrase.loop26 N N) w0 w1 w2))
theorem impl_isPhrase.good (N : Nat) (a0 : ByteArray) (r : impl_isPhrase.R) (h : impl_isPhrase.g N a0 = some r) : Go.PM.Good Go.Proofs.Tryd.prog T0 44 [.one (.str a0)] [] (impl_isPhrase.sig.ret r) (impl_isPhrase.sig.bs r) :=
  good_fn tabOk0 mixed0 impl_isPhrase.sig (impl_isPhrase.E N) Go.Proofs.Tryd.func44 (by kernel_rfl) (by kernel_rfl) 262381 0 0 [(26, [0, 5, 6], []), (3378, [0, 5, 6, 18], [])] 1099280 false [] [(false, [.any])] (by kernel_rfl) rfl rfl ((impl_isPhrase.g.run N a0).trans h)
noncomputable def impl_isPhrase.ent (N : Nat) : Ent Go.Proofs.Tryd.prog T0 := mkEnt 44 [(false, [.any])] impl_isPhrase.sig (fun t => impl_isPhrase.g N t) (fun t r h => impl_isPhrase.good N t r h)
end Go.Proofs.YtpmipkbfohcjiaaDoor.M

namespace Go.Proofs.YtpmipkbfohcjiaaDoor.M
open Go Go.PM Go.Proofs.YtpmipkbfohcjiaaDoor.P
set_option linter.unusedVariables false
set_option maxRecDepth 100000
/-! ### impl_IsTune_1 -/
abbrev impl_IsTune_1.R : Type := Bool
abbrev impl_IsTune_1.sig : Sig := ⟨[(false, 1)], [], [.str], [(false, 1)], [], [.bool]⟩
noncomputable def impl_IsTune_1.C : Cfg D0 := ⟨Go.Proofs.Tryd.prog, T0, 5, 0, 6, 0, [], 8, false, []⟩
noncomputable def impl_IsTune_1.E (N : Nat) : List (Ent Go.Proofs.Tryd.prog T0) := [impl_isPhrase.ent N]
noncomputable def impl_IsTune_1.O (N : Nat) : Orc D0 impl_IsTune_1.R := orcOf (impl_IsTune_1.E N)
noncomputable def impl_IsTune_1.K0 : Ex → St D0 → Option impl_IsTune_1.R := exitK impl_IsTune_1.C Go.Proofs.Tryd.f43.results.toList [(false, [.any])] (decOut impl_IsTune_1.sig)
noncomputable def impl_IsTune_1.c1 : Code := codeAt (Go.Proofs.Tryd.f43.body.getD .skip) []
noncomputable def impl_IsTune_1.o0 (N : Nat) (a0 : ByteArray) : Option impl_IsTune_1.R :=
 (impl_isPhrase.g N a0).bind fun r1 =>
 some ((!r1))
theorem impl_IsTune_1.o0.run (N : Nat) (a0 : ByteArray) : runC impl_IsTune_1.C (impl_IsTune_1.O N) N impl_IsTune_1.c1 1 (st0 [.one (.str a0)] [] : St D0) impl_IsTune_1.K0 = impl_IsTune_1.o0 N a0 := by kernel_rfl
noncomputable def impl_IsTune_1.g (N : Nat) (a0 : ByteArray) : Option impl_IsTune_1.R := impl_IsTune_1.o0 N a0
theorem impl_IsTune_1.g.run (N : Nat) (a0 : ByteArray) : runC impl_IsTune_1.C (impl_IsTune_1.O N) N impl_IsTune_1.c1 1 (st0 [.one (.str a0)] [] : St D0) impl_IsTune_1.K0 = impl_IsTune_1.g N a0 := by
  exact (impl_IsTune_1.o0.run N a0).trans rfl
theorem impl_IsTune_1.good (N : Nat) (a0 : ByteArray) (r : impl_IsTune_1.R) (h : impl_IsTune_1.g N a0 = some r) : Go.PM.Good Go.Proofs.Tryd.prog T0 43 [.one (.str a0)] [] (impl_IsTune_1.sig.ret r) (impl_IsTune_1.sig.bs r) :=
  good_fn tabOk0 mixed0 impl_IsTune_1.sig (impl_IsTune_1.E N) Go.Proofs.Tryd.func43 (by kernel_rfl) (by kernel_rfl) 5 0 0 [] 8 false [] [(false, [.any])] (by kernel_rfl) rfl rfl ((impl_IsTune_1.g.run N a0).trans h)
noncomputable def impl_IsTune_1.ent (N : Nat) : Ent Go.Proofs.Tryd.prog T0 := mkEnt 43 [(false, [.any])] impl_IsTune_1.sig (fun t => impl_IsTune_1.g N t) (fun t r h => impl_IsTune_1.good N t r h)
end Go.Proofs.YtpmipkbfohcjiaaDoor.M

namespace Go.Proofs.YtpmipkbfohcjiaaDoor.M
open Go Go.PM Go.Proofs.YtpmipkbfohcjiaaDoor.P
set_option linter.unusedVariables false
set_option maxRecDepth 100000
/-! ### slices_IndexFunc_string_string -/
abbrev slices_IndexFunc_string_string.R : Type := Int
abbrev slices_IndexFunc_string_string.sig : Sig := ⟨[(false, 1), (false, 1)], [], [.sl false 9, .fn 43 []], [(false, 1)], [], [.int .i64]⟩
noncomputable def slices_IndexFunc_string_string.C : Cfg D0 := ⟨Go.Proofs.Tryd.prog, T0, 66483, 0, 19, 0, [(26, [0, 1, 7, 8], [])], 14400, false, []⟩
noncomputable def slices_IndexFunc_string_string.E (N : Nat) : List (Ent Go.Proofs.Tryd.prog T0) := [impl_IsTune_1.ent N]
noncomputable def slices_IndexFunc_string_string.O (N : Nat) : Orc D0 slices_IndexFunc_string_string.R := orcOf (slices_IndexFunc_string_string.E N)
noncomputable def slices_IndexFunc_string_string.K0 : Ex → St D0 → Option slices_IndexFunc_string_string.R := exitK slices_IndexFunc_string_string.C Go.Proofs.Tryd.f64.results.toList [(false, [.any])] (decOut slices_IndexFunc_string_string.sig)
noncomputable def slices_IndexFunc_string_string.c1 : Code := codeAt (Go.Proofs.Tryd.f64.body.getD .skip) []
noncomputable def slices_IndexFunc_string_string.c2 : Code := codeAt (Go.Proofs.Tryd.f64.body.getD .skip) [false]
noncomputable def slices_IndexFunc_string_string.c7 : Code := codeAt (Go.Proofs.Tryd.f64.body.getD .skip) [true, true]
noncomputable def slices_IndexFunc_string_string.c12 : Code := codeAt (Go.Proofs.Tryd.f64.body.getD .skip) [true, false, false]
noncomputable def slices_IndexFunc_string_string.c52 : Code := codeAt (Go.Proofs.Tryd.f64.body.getD .skip) [true, false, true, false, false]
noncomputable def slices_IndexFunc_string_string.K52 (N : Nat) (Kn26 : St D0 → Option slices_IndexFunc_string_string.R) : Ex → St D0 → Option slices_IndexFunc_string_string.R := ((fun up => (onN (fun s => slices_IndexFunc_string_string.C.tidy 26 s ((onN Kn26 up) .normal)) (onN Kn26 up))) (blockK 0 (onN (fun s => slices_IndexFunc_string_string.C.tidy 6 s (fun s' => runC slices_IndexFunc_string_string.C (slices_IndexFunc_string_string.O N) N slices_IndexFunc_string_string.c7 7 s' slices_IndexFunc_string_string.K0)) slices_IndexFunc_string_string.K0)))
noncomputable def slices_IndexFunc_string_string.o1 (N : Nat) (v0 : List ByteArray) (v1 : Int) (v2 : Int) (c1 : (List ByteArray) → Int → Int → Option slices_IndexFunc_string_string.R) : Option slices_IndexFunc_string_string.R :=
 bif (decide (v2 < v1)) then
  bif (decide (0 ≤ v2)) then
   bif (decide (v2 < (v0.length : Int))) then
    (v0[(v2 : Int).toNat]?).bind fun x1 =>
    (impl_IsTune_1.g N x1).bind fun r2 =>
    bif r2 then
     some (v2)
    else
    c1 v0 v1 (w64 (v2 + 1))
   else
   none
  else
  none
 else
 some ((-1))
theorem slices_IndexFunc_string_string.o1.run (N : Nat) (Kn26 : St D0 → Option slices_IndexFunc_string_string.R) (v0 : List ByteArray) (v1 : Int) (v2 : Int) : runC slices_IndexFunc_string_string.C (slices_IndexFunc_string_string.O N) N slices_IndexFunc_string_string.c52 52 (mkSt [(0, .one (.sl false 9 v0)), (1, .one (.fn 43 [])), (7, .one (.int .i64 v1)), (8, .one (.int .i64 v2))] [] : St D0) ((fun up => (onN (fun s => slices_IndexFunc_string_string.C.tidy 26 s ((onN Kn26 up) .normal)) (onN Kn26 up))) (blockK 0 (onN (fun s => slices_IndexFunc_string_string.C.tidy 6 s (fun s' => runC slices_IndexFunc_string_string.C (slices_IndexFunc_string_string.O N) N slices_IndexFunc_string_string.c7 7 s' slices_IndexFunc_string_string.K0)) slices_IndexFunc_string_string.K0))) = slices_IndexFunc_string_string.o1 N v0 v1 v2 ((fun w0 w1 w2 => Kn26 (mkSt [(0, .one (.sl false 9 w0)), (1, .one (.fn 43 [])), (7, .one (.int .i64 w1)), (8, .one (.int .i64 w2))] [] : St D0))) := by kernel_rfl
noncomputable def slices_IndexFunc_string_string.d1 (N : Nat) (v0 : List ByteArray) (v1 : Int) (v2 : Int) (c1 : (List ByteArray) → Int → Int → Option slices_IndexFunc_string_string.R) : Option slices_IndexFunc_string_string.R := slices_IndexFunc_string_string.o1 N v0 v1 v2 c1
theorem slices_IndexFunc_string_string.d1.run (N : Nat) (Kn26 : St D0 → Option slices_IndexFunc_string_string.R) (v0 : List ByteArray) (v1 : Int) (v2 : Int) : runC slices_IndexFunc_string_string.C (slices_IndexFunc_string_string.O N) N slices_IndexFunc_string_string.c52 52 (mkSt [(0, .one (.sl false 9 v0)), (1, .one (.fn 43 [])), (7, .one (.int .i64 v1)), (8, .one (.int .i64 v2))] [] : St D0) (slices_IndexFunc_string_string.K52 N Kn26) = slices_IndexFunc_string_string.d1 N v0 v1 v2 ((fun w0 w1 w2 => Kn26 (mkSt [(0, .one (.sl false 9 w0)), (1, .one (.fn 43 [])), (7, .one (.int .i64 w1)), (8, .one (.int .i64 w2))] [] : St D0))) := by
  exact (slices_IndexFunc_string_string.o1.run N Kn26 v0 v1 v2).trans rfl
noncomputable def slices_IndexFunc_string_string.K26 (N : Nat) : Ex → St D0 → Option slices_IndexFunc_string_string.R := (blockK 0 (onN (fun s => slices_IndexFunc_string_string.C.tidy 6 s (fun s' => runC slices_IndexFunc_string_string.C (slices_IndexFunc_string_string.O N) N slices_IndexFunc_string_string.c7 7 s' slices_IndexFunc_string_string.K0)) slices_IndexFunc_string_string.K0))
noncomputable def slices_IndexFunc_string_string.l1 (N : Nat) : Nat → (List ByteArray) → Int → Int → Option slices_IndexFunc_string_string.R
  | 0, _, _, _ => none
  | n + 1, v0, v1, v2 => slices_IndexFunc_string_string.d1 N v0 v1 v2 ((fun w0 w1 w2 => slices_IndexFunc_string_string.l1 N n w0 w1 w2))
theorem slices_IndexFunc_string_string.loop26 (N : Nat) : ∀ n, (∀ (v0 : List ByteArray) (v1 : Int) (v2 : Int), iter (loopF slices_IndexFunc_string_string.C (slices_IndexFunc_string_string.O N) N slices_IndexFunc_string_string.c52 26) n (mkSt [(0, .one (.sl false 9 v0)), (1, .one (.fn 43 [])), (7, .one (.int .i64 v1)), (8, .one (.int .i64 v2))] [] : St D0) (slices_IndexFunc_string_string.K26 N) = slices_IndexFunc_string_string.l1 N n v0 v1 v2)
  | 0 => (fun v0 v1 v2 => rfl)
  | n + 1 => (fun v0 v1 v2 => (slices_IndexFunc_string_string.d1.run N (fun s => iter (loopF slices_IndexFunc_string_string.C (slices_IndexFunc_string_string.O N) N slices_IndexFunc_string_string.c52 26) n s (slices_IndexFunc_string_string.K26 N)) v0 v1 v2).trans (show _ = slices_IndexFunc_string_string.d1 N v0 v1 v2 ((fun w0 w1 w2 => slices_IndexFunc_string_string.l1 N n w0 w1 w2)) from (congr rfl (funext fun w0 => funext fun w1 => funext fun w2 => (slices_IndexFunc_string_string.loop26 N n) w0 w1 w2))))
noncomputable def slices_IndexFunc_string_string.o0 (N : Nat) (a0 : List ByteArray) (c1 : (List ByteArray) → Int → Int → Option slices_IndexFunc_string_string.R) : Option slices_IndexFunc_string_string.R :=
 c1 a0 (a0.length : Int) 0
theorem slices_IndexFunc_string_string.o0.run (N : Nat) (H52 : Code) (a0 : List ByteArray) : runC slices_IndexFunc_string_string.C (slices_IndexFunc_string_string.O N) N (.seq slices_IndexFunc_string_string.c2 (.seq (.seq slices_IndexFunc_string_string.c12 (.block 0 (.loop H52))) slices_IndexFunc_string_string.c7)) 1 (st0 [.one (.sl false 9 a0), .one (.fn 43 [])] [] : St D0) slices_IndexFunc_string_string.K0 = slices_IndexFunc_string_string.o0 N a0 ((fun w0 w1 w2 => iter (loopF slices_IndexFunc_string_string.C (slices_IndexFunc_string_string.O N) N H52 26) N (mkSt [(0, .one (.sl false 9 w0)), (1, .one (.fn 43 [])), (7, .one (.int .i64 w1)), (8, .one (.int .i64 w2))] [] : St D0) (blockK 0 (onN (fun s => slices_IndexFunc_string_string.C.tidy 6 s (fun s' => runC slices_IndexFunc_string_string.C (slices_IndexFunc_string_string.O N) N slices_IndexFunc_string_string.c7 7 s' slices_IndexFunc_string_string.K0)) slices_IndexFunc_string_string.K0)))) := by kernel_rfl
noncomputable def slices_IndexFunc_string_string.g (N : Nat) (a0 : List ByteArray) : Option slices_IndexFunc_string_string.R := slices_IndexFunc_string_string.o0 N a0 ((fun w0 w1 w2 => slices_IndexFunc_string_string.l1 N N w0 w1 w2))
theorem slices_IndexFunc_string_string.c1_0 : slices_IndexFunc_string_string.c1 = (.seq slices_IndexFunc_string_string.c2 (.seq (.seq slices_IndexFunc_string_string.c12 (.block 0 (.loop slices_IndexFunc_string_string.c52))) slices_IndexFunc_string_string.c7)) := by kernel_rfl
theorem slices_IndexFunc_string_string.g.run (N : Nat) (a0 : List ByteArray) : runC slices_IndexFunc_string_string.C (slices_IndexFunc_string_string.O N) N slices_IndexFunc_string_string.c1 1 (st0 [.one (.sl false 9 a0), .one (.fn 43 [])] [] : St D0) slices_IndexFunc_string_string.K0 = slices_IndexFunc_string_string.g N a0 := by
  rw [slices_IndexFunc_string_string.c1_0]; unfold slices_IndexFunc_string_string.g; exact (slices_IndexFunc_string_string.o0.run N slices_IndexFunc_string_string.c52 a0).trans (congr rfl (funext fun w0 => funext fun w1 => funext fun w2 => (slices_IndexFunc_string_string.loop26 N N) w0 w1 w2))
theorem slices_IndexFunc_string_string.good (N : Nat) (a0 : List ByteArray) (r : slices_IndexFunc_string_string.R) (h : slices_IndexFunc_string_string.g N a0 = some r) : Go.PM.Good Go.Proofs.Tryd.prog T0 64 [.one (.sl false 9 a0), .one (.fn 43 [])] [] (slices_IndexFunc_string_string.sig.ret r) (slices_IndexFunc_string_string.sig.bs r) :=
  good_fn tabOk0 mixed0 slices_IndexFunc_string_string.sig (slices_IndexFunc_string_string.E N) Go.Proofs.Tryd.func64 (by kernel_rfl) (by kernel_rfl) 66483 0 0 [(26, [0, 1, 7, 8], [])] 14400 false [] [(false, [.any])] (by kernel_rfl) rfl rfl ((slices_IndexFunc_string_string.g.run N a0).trans h)
noncomputable def slices_IndexFunc_string_string.ent (N : Nat) : Ent Go.Proofs.Tryd.prog T0 := mkEnt 64 [(false, [.ro 9]), (false, [.any])] slices_IndexFunc_string_string.sig (fun t => slices_IndexFunc_string_string.g N t.1) (fun t r h => slices_IndexFunc_string_string.good N t.1 r h)
end Go.Proofs.YtpmipkbfohcjiaaDoor.M

namespace Go.Proofs.YtpmipkbfohcjiaaDoor.M
open Go Go.PM Go.Proofs.YtpmipkbfohcjiaaDoor.P
set_option linter.unusedVariables false
set_option maxRecDepth 100000
/-! ### slices_ContainsFunc_string_string -/
abbrev slices_ContainsFunc_string_string.R : Type := Bool
abbrev slices_ContainsFunc_string_string.sig : Sig := ⟨[(false, 1), (false, 1)], [], [.sl false 9, .fn 43 []], [(false, 1)], [], [.bool]⟩
noncomputable def slices_ContainsFunc_string_string.C : Cfg D0 := ⟨Go.Proofs.Tryd.prog, T0, 19, 0, 9, 0, [], 96, false, []⟩
noncomputable def slices_ContainsFunc_string_string.E (N : Nat) : List (Ent Go.Proofs.Tryd.prog T0) := [slices_IndexFunc_string_string.ent N]
noncomputable def slices_ContainsFunc_string_string.O (N : Nat) : Orc D0 slices_ContainsFunc_string_string.R := orcOf (slices_ContainsFunc_string_string.E N)
noncomputable def slices_ContainsFunc_string_string.K0 : Ex → St D0 → Option slices_ContainsFunc_string_string.R := exitK slices_ContainsFunc_string_string.C Go.Proofs.Tryd.f42.results.toList [(false, [.any])] (decOut slices_ContainsFunc_string_string.sig)
noncomputable def slices_ContainsFunc_string_string.c1 : Code := codeAt (Go.Proofs.Tryd.f42.body.getD .skip) []
noncomputable def slices_ContainsFunc_string_string.o0 (N : Nat) (a0 : List ByteArray) : Option slices_ContainsFunc_string_string.R :=
 (slices_IndexFunc_string_string.g N a0).bind fun r1 =>
 some ((decide (r1 ≥ 0)))
theorem slices_ContainsFunc_string_string.o0.run (N : Nat) (a0 : List ByteArray) : runC slices_ContainsFunc_string_string.C (slices_ContainsFunc_string_string.O N) N slices_ContainsFunc_string_string.c1 1 (st0 [.one (.sl false 9 a0), .one (.fn 43 [])] [] : St D0) slices_ContainsFunc_string_string.K0 = slices_ContainsFunc_string_string.o0 N a0 := by kernel_rfl
noncomputable def slices_ContainsFunc_string_string.g (N : Nat) (a0 : List ByteArray) : Option slices_ContainsFunc_string_string.R := slices_ContainsFunc_string_string.o0 N a0
theorem slices_ContainsFunc_string_string.g.run (N : Nat) (a0 : List ByteArray) : runC slices_ContainsFunc_string_string.C (slices_ContainsFunc_string_string.O N) N slices_ContainsFunc_string_string.c1 1 (st0 [.one (.sl false 9 a0), .one (.fn 43 [])] [] : St D0) slices_ContainsFunc_string_string.K0 = slices_ContainsFunc_string_string.g N a0 := by
  exact (slices_ContainsFunc_string_string.o0.run N a0).trans rfl
theorem slices_ContainsFunc_string_string.good (N : Nat) (a0 : List ByteArray) (r : slices_ContainsFunc_string_string.R) (h : slices_ContainsFunc_string_string.g N a0 = some r) : Go.PM.Good Go.Proofs.Tryd.prog T0 42 [.one (.sl false 9 a0), .one (.fn 43 [])] [] (slices_ContainsFunc_string_string.sig.ret r) (slices_ContainsFunc_string_string.sig.bs r) :=
  good_fn tabOk0 mixed0 slices_ContainsFunc_string_string.sig (slices_ContainsFunc_string_string.E N) Go.Proofs.Tryd.func42 (by kernel_rfl) (by kernel_rfl) 19 0 0 [] 96 false [] [(false, [.any])] (by kernel_rfl) rfl rfl ((slices_ContainsFunc_string_string.g.run N a0).trans h)
noncomputable def slices_ContainsFunc_string_string.ent (N : Nat) : Ent Go.Proofs.Tryd.prog T0 := mkEnt 42 [(false, [.ro 9]), (false, [.any])] slices_ContainsFunc_string_string.sig (fun t => slices_ContainsFunc_string_string.g N t.1) (fun t r h => slices_ContainsFunc_string_string.good N t.1 r h)
end Go.Proofs.YtpmipkbfohcjiaaDoor.M

namespace Go.Proofs.YtpmipkbfohcjiaaDoor.M
open Go Go.PM Go.Proofs.YtpmipkbfohcjiaaDoor.P
set_option linter.unusedVariables false
set_option maxRecDepth 100000
/-! ### impl_IsTune -/
abbrev impl_IsTune.R : Type := Bool
abbrev impl_IsTune.sig : Sig := ⟨[(false, 1)], [], [.sl false 9], [(false, 1)], [], [.bool]⟩
noncomputable def impl_IsTune.C : Cfg D0 := ⟨Go.Proofs.Tryd.prog, T0, 5, 0, 11, 0, [], 136, false, []⟩
noncomputable def impl_IsTune.E (N : Nat) : List (Ent Go.Proofs.Tryd.prog T0) := [impl_within.ent N, slices_ContainsFunc_string_string.ent N]
noncomputable def impl_IsTune.O (N : Nat) : Orc D0 impl_IsTune.R := orcOf (impl_IsTune.E N)
noncomputable def impl_IsTune.K0 : Ex → St D0 → Option impl_IsTune.R := exitK impl_IsTune.C Go.Proofs.Tryd.f15.results.toList [(false, [.any])] (decOut impl_IsTune.sig)
noncomputable def impl_IsTune.c1 : Code := codeAt (Go.Proofs.Tryd.f15.body.getD .skip) []
noncomputable def impl_IsTune.o0 (N : Nat) (a0 : List ByteArray) : Option impl_IsTune.R :=
 (impl_within.g N (a0.length : Int) 1 12).bind fun r1 =>
 bif r1 then
  (slices_ContainsFunc_string_string.g N a0).bind fun r2 =>
  some ((!r2))
 else
 some (false)
theorem impl_IsTune.o0.run (N : Nat) (a0 : List ByteArray) : runC impl_IsTune.C (impl_IsTune.O N) N impl_IsTune.c1 1 (st0 [.one (.sl false 9 a0)] [] : St D0) impl_IsTune.K0 = impl_IsTune.o0 N a0 := by kernel_rfl
noncomputable def impl_IsTune.g (N : Nat) (a0 : List ByteArray) : Option impl_IsTune.R := impl_IsTune.o0 N a0
theorem impl_IsTune.g.run (N : Nat) (a0 : List ByteArray) : runC impl_IsTune.C (impl_IsTune.O N) N impl_IsTune.c1 1 (st0 [.one (.sl false 9 a0)] [] : St D0) impl_IsTune.K0 = impl_IsTune.g N a0 := by
  exact (impl_IsTune.o0.run N a0).trans rfl
theorem impl_IsTune.good (N : Nat) (a0 : List ByteArray) (r : impl_IsTune.R) (h : impl_IsTune.g N a0 = some r) : Go.PM.Good Go.Proofs.Tryd.prog T0 15 [.one (.sl false 9 a0)] [] (impl_IsTune.sig.ret r) (impl_IsTune.sig.bs r) :=
  good_fn tabOk0 mixed0 impl_IsTune.sig (impl_IsTune.E N) Go.Proofs.Tryd.func15 (by kernel_rfl) (by kernel_rfl) 5 0 0 [] 136 false [] [(false, [.any])] (by kernel_rfl) rfl rfl ((impl_IsTune.g.run N a0).trans h)
noncomputable def impl_IsTune.ent (N : Nat) : Ent Go.Proofs.Tryd.prog T0 := mkEnt 15 [(false, [.ro 9])] impl_IsTune.sig (fun t => impl_IsTune.g N t) (fun t r h => impl_IsTune.good N t r h)
end Go.Proofs.YtpmipkbfohcjiaaDoor.M

namespace Go.Proofs.YtpmipkbfohcjiaaDoor.M
open Go Go.PM Go.Proofs.YtpmipkbfohcjiaaDoor.P
set_option linter.unusedVariables false
set_option maxRecDepth 100000
/-! ### impl_isQuarter -/
abbrev impl_isQuarter.R : Type := Bool
abbrev impl_isQuarter.sig : Sig := ⟨[(false, 1), (false, 1)], [], [.sl false 9, .int .i64], [(false, 1)], [], [.bool]⟩
noncomputable def impl_isQuarter.C : Cfg D0 := ⟨Go.Proofs.Tryd.prog, T0, 19, 0, 11, 0, [], 288, false, []⟩
noncomputable def impl_isQuarter.E (N : Nat) : List (Ent Go.Proofs.Tryd.prog T0) := [impl_IsTune.ent N, impl_within.ent N]
noncomputable def impl_isQuarter.O (N : Nat) : Orc D0 impl_isQuarter.R := orcOf (impl_isQuarter.E N)
noncomputable def impl_isQuarter.K0 : Ex → St D0 → Option impl_isQuarter.R := exitK impl_isQuarter.C Go.Proofs.Tryd.f45.results.toList [(false, [.any])] (decOut impl_isQuarter.sig)
noncomputable def impl_isQuarter.c1 : Code := codeAt (Go.Proofs.Tryd.f45.body.getD .skip) []
noncomputable def impl_isQuarter.o0 (N : Nat) (a0 : List ByteArray) (a1 : Int) : Option impl_isQuarter.R :=
 (impl_IsTune.g N a0).bind fun r1 =>
 bif r1 then
  (impl_within.g N a1 0 1000000).bind fun r2 =>
  some (r2)
 else
 some (false)
theorem impl_isQuarter.o0.run (N : Nat) (a0 : List ByteArray) (a1 : Int) : runC impl_isQuarter.C (impl_isQuarter.O N) N impl_isQuarter.c1 1 (st0 [.one (.sl false 9 a0), .one (.int .i64 a1)] [] : St D0) impl_isQuarter.K0 = impl_isQuarter.o0 N a0 a1 := by kernel_rfl
noncomputable def impl_isQuarter.g (N : Nat) (a0 : List ByteArray) (a1 : Int) : Option impl_isQuarter.R := impl_isQuarter.o0 N a0 a1
theorem impl_isQuarter.g.run (N : Nat) (a0 : List ByteArray) (a1 : Int) : runC impl_isQuarter.C (impl_isQuarter.O N) N impl_isQuarter.c1 1 (st0 [.one (.sl false 9 a0), .one (.int .i64 a1)] [] : St D0) impl_isQuarter.K0 = impl_isQuarter.g N a0 a1 := by
  exact (impl_isQuarter.o0.run N a0 a1).trans rfl
theorem impl_isQuarter.good (N : Nat) (a0 : List ByteArray) (a1 : Int) (r : impl_isQuarter.R) (h : impl_isQuarter.g N a0 a1 = some r) : Go.PM.Good Go.Proofs.Tryd.prog T0 45 [.one (.sl false 9 a0), .one (.int .i64 a1)] [] (impl_isQuarter.sig.ret r) (impl_isQuarter.sig.bs r) :=
  good_fn tabOk0 mixed0 impl_isQuarter.sig (impl_isQuarter.E N) Go.Proofs.Tryd.func45 (by kernel_rfl) (by kernel_rfl) 19 0 0 [] 288 false [] [(false, [.any])] (by kernel_rfl) rfl rfl ((impl_isQuarter.g.run N a0 a1).trans h)
noncomputable def impl_isQuarter.ent (N : Nat) : Ent Go.Proofs.Tryd.prog T0 := mkEnt 45 [(false, [.ro 9]), (false, [.any])] impl_isQuarter.sig (fun t => impl_isQuarter.g N t.1 t.2) (fun t r h => impl_isQuarter.good N t.1 t.2 r h)
end Go.Proofs.YtpmipkbfohcjiaaDoor.M

namespace Go.Proofs.YtpmipkbfohcjiaaDoor.M
open Go Go.PM Go.Proofs.YtpmipkbfohcjiaaDoor.P
set_option linter.unusedVariables false
set_option maxRecDepth 100000
/-! ### spec_beTune -/
abbrev spec_beTune.R : Type := Bool
abbrev spec_beTune.sig : Sig := ⟨[(false, 1)], [], [.sl false 9], [(false, 1)], [], [.bool]⟩
noncomputable def spec_beTune.C : Cfg D0 := ⟨Go.Proofs.Tryd.prog, T0, 34368667189, 0, 37, 0, [(58, [10, 11, 12], []), (29902, [4, 5, 10, 11, 12], []), (956872, [4, 5, 10, 11, 12, 35], [])], 6663766080, false, []⟩
noncomputable def spec_beTune.E (N : Nat) : List (Ent Go.Proofs.Tryd.prog T0) := [spec_l1In.ent N]
noncomputable def spec_beTune.O (N : Nat) : Orc D0 spec_beTune.R := orcOf (spec_beTune.E N)
noncomputable def spec_beTune.K0 : Ex → St D0 → Option spec_beTune.R := exitK spec_beTune.C Go.Proofs.Tryd.f32.results.toList [(false, [.any])] (decOut spec_beTune.sig)
noncomputable def spec_beTune.c1 : Code := codeAt (Go.Proofs.Tryd.f32.body.getD .skip) []
noncomputable def spec_beTune.c2 : Code := codeAt (Go.Proofs.Tryd.f32.body.getD .skip) [false]
noncomputable def spec_beTune.c6 : Code := codeAt (Go.Proofs.Tryd.f32.body.getD .skip) [true, false]
noncomputable def spec_beTune.c15 : Code := codeAt (Go.Proofs.Tryd.f32.body.getD .skip) [true, true, true]
noncomputable def spec_beTune.c28 : Code := codeAt (Go.Proofs.Tryd.f32.body.getD .skip) [true, true, false, false]
noncomputable def spec_beTune.c116 : Code := codeAt (Go.Proofs.Tryd.f32.body.getD .skip) [true, true, false, true, false, false]
noncomputable def spec_beTune.c232 : Code := codeAt (Go.Proofs.Tryd.f32.body.getD .skip) [true, true, false, true, false, false, false]
noncomputable def spec_beTune.c466 : Code := codeAt (Go.Proofs.Tryd.f32.body.getD .skip) [true, true, false, true, false, false, true, false]
noncomputable def spec_beTune.c935 : Code := codeAt (Go.Proofs.Tryd.f32.body.getD .skip) [true, true, false, true, false, false, true, true, true]
noncomputable def spec_beTune.c3736 : Code := codeAt (Go.Proofs.Tryd.f32.body.getD .skip) [true, true, false, true, false, false, true, true, false, false, false]
noncomputable def spec_beTune.c7474 : Code := codeAt (Go.Proofs.Tryd.f32.body.getD .skip) [true, true, false, true, false, false, true, true, false, false, true, false]
noncomputable def spec_beTune.c14950 : Code := codeAt (Go.Proofs.Tryd.f32.body.getD .skip) [true, true, false, true, false, false, true, true, false, false, true, true, false]
noncomputable def spec_beTune.c59804 : Code := codeAt (Go.Proofs.Tryd.f32.body.getD .skip) [true, true, false, true, false, false, true, true, false, false, true, true, true, false, false]
noncomputable def spec_beTune.c119608 : Code := codeAt (Go.Proofs.Tryd.f32.body.getD .skip) [true, true, false, true, false, false, true, true, false, false, true, true, true, false, false, false]
noncomputable def spec_beTune.c239219 : Code := codeAt (Go.Proofs.Tryd.f32.body.getD .skip) [true, true, false, true, false, false, true, true, false, false, true, true, true, false, false, true, true]
noncomputable def spec_beTune.c956872 : Code := codeAt (Go.Proofs.Tryd.f32.body.getD .skip) [true, true, false, true, false, false, true, true, false, false, true, true, true, false, false, true, false, false, false]
noncomputable def spec_beTune.c956873 : Code := codeAt (Go.Proofs.Tryd.f32.body.getD .skip) [true, true, false, true, false, false, true, true, false, false, true, true, true, false, false, true, false, false, true]
noncomputable def spec_beTune.K956873 (N : Nat) (Kn58 : St D0 → Option spec_beTune.R) (Kn29902 : St D0 → Option spec_beTune.R) : Ex → St D0 → Option spec_beTune.R := (blockK 3 ((fun up => (onN (fun s => spec_beTune.C.tidy 239218 s (fun s' => runC spec_beTune.C (spec_beTune.O N) N spec_beTune.c239219 239219 s' up)) up)) ((fun up => (onN (fun s => spec_beTune.C.tidy 29902 s ((onN Kn29902 up) .normal)) (onN Kn29902 up))) (blockK 2 (blockK 1 ((fun up => (onN (fun s => spec_beTune.C.tidy 934 s (fun s' => runC spec_beTune.C (spec_beTune.O N) N spec_beTune.c935 935 s' up)) up)) ((fun up => (onN (fun s => spec_beTune.C.tidy 58 s ((onN Kn58 up) .normal)) (onN Kn58 up))) (blockK 0 (onN (fun s => spec_beTune.C.tidy 14 s (fun s' => runC spec_beTune.C (spec_beTune.O N) N spec_beTune.c15 15 s' spec_beTune.K0)) spec_beTune.K0)))))))))
noncomputable def spec_beTune.o3 (N : Nat) (v0 : ByteArray) (v1 : Int) (v2 : List ByteArray) (v3 : Int) (v4 : Int) (v5 : Bool) (c2 : ByteArray → Int → (List ByteArray) → Int → Int → Option spec_beTune.R) : Option spec_beTune.R :=
 bif v5 then
  some (false)
 else
 c2 v0 (w64 (v1 + 1)) v2 v3 v4
theorem spec_beTune.o3.run (N : Nat) (Kn58 : St D0 → Option spec_beTune.R) (Kn29902 : St D0 → Option spec_beTune.R) (v0 : ByteArray) (v1 : Int) (v2 : List ByteArray) (v3 : Int) (v4 : Int) (v5 : Bool) : runC spec_beTune.C (spec_beTune.O N) N spec_beTune.c956873 956873 (mkSt [(4, .one (.str v0)), (5, .one (.int .i64 v1)), (10, .one (.sl false 9 v2)), (11, .one (.int .i64 v3)), (12, .one (.int .i64 v4)), (35, .one (.bool v5))] [] : St D0) (blockK 3 ((fun up => (onN (fun s => spec_beTune.C.tidy 239218 s (fun s' => runC spec_beTune.C (spec_beTune.O N) N spec_beTune.c239219 239219 s' up)) up)) ((fun up => (onN (fun s => spec_beTune.C.tidy 29902 s ((onN Kn29902 up) .normal)) (onN Kn29902 up))) (blockK 2 (blockK 1 ((fun up => (onN (fun s => spec_beTune.C.tidy 934 s (fun s' => runC spec_beTune.C (spec_beTune.O N) N spec_beTune.c935 935 s' up)) up)) ((fun up => (onN (fun s => spec_beTune.C.tidy 58 s ((onN Kn58 up) .normal)) (onN Kn58 up))) (blockK 0 (onN (fun s => spec_beTune.C.tidy 14 s (fun s' => runC spec_beTune.C (spec_beTune.O N) N spec_beTune.c15 15 s' spec_beTune.K0)) spec_beTune.K0))))))))) = spec_beTune.o3 N v0 v1 v2 v3 v4 v5 ((fun w0 w1 w2 w3 w4 => Kn29902 (mkSt [(4, .one (.str w0)), (5, .one (.int .i64 w1)), (10, .one (.sl false 9 w2)), (11, .one (.int .i64 w3)), (12, .one (.int .i64 w4))] [] : St D0))) := by kernel_rfl
noncomputable def spec_beTune.d3 (N : Nat) (v0 : ByteArray) (v1 : Int) (v2 : List ByteArray) (v3 : Int) (v4 : Int) (v5 : Bool) (c2 : ByteArray → Int → (List ByteArray) → Int → Int → Option spec_beTune.R) : Option spec_beTune.R := spec_beTune.o3 N v0 v1 v2 v3 v4 v5 c2
theorem spec_beTune.d3.run (N : Nat) (Kn58 : St D0 → Option spec_beTune.R) (Kn29902 : St D0 → Option spec_beTune.R) (v0 : ByteArray) (v1 : Int) (v2 : List ByteArray) (v3 : Int) (v4 : Int) (v5 : Bool) : runC spec_beTune.C (spec_beTune.O N) N spec_beTune.c956873 956873 (mkSt [(4, .one (.str v0)), (5, .one (.int .i64 v1)), (10, .one (.sl false 9 v2)), (11, .one (.int .i64 v3)), (12, .one (.int .i64 v4)), (35, .one (.bool v5))] [] : St D0) (spec_beTune.K956873 N Kn58 Kn29902) = spec_beTune.d3 N v0 v1 v2 v3 v4 v5 ((fun w0 w1 w2 w3 w4 => Kn29902 (mkSt [(4, .one (.str w0)), (5, .one (.int .i64 w1)), (10, .one (.sl false 9 w2)), (11, .one (.int .i64 w3)), (12, .one (.int .i64 w4))] [] : St D0))) := by
  exact (spec_beTune.o3.run N Kn58 Kn29902 v0 v1 v2 v3 v4 v5).trans rfl
noncomputable def spec_beTune.K59804 (N : Nat) (Kn58 : St D0 → Option spec_beTune.R) (Kn29902 : St D0 → Option spec_beTune.R) : Ex → St D0 → Option spec_beTune.R := ((fun up => (onN (fun s => spec_beTune.C.tidy 29902 s ((onN Kn29902 up) .normal)) (onN Kn29902 up))) (blockK 2 (blockK 1 ((fun up => (onN (fun s => spec_beTune.C.tidy 934 s (fun s' => runC spec_beTune.C (spec_beTune.O N) N spec_beTune.c935 935 s' up)) up)) ((fun up => (onN (fun s => spec_beTune.C.tidy 58 s ((onN Kn58 up) .normal)) (onN Kn58 up))) (blockK 0 (onN (fun s => spec_beTune.C.tidy 14 s (fun s' => runC spec_beTune.C (spec_beTune.O N) N spec_beTune.c15 15 s' spec_beTune.K0)) spec_beTune.K0)))))))
noncomputable def spec_beTune.o2 (N : Nat) (v0 : ByteArray) (v1 : Int) (v2 : List ByteArray) (v3 : Int) (v4 : Int) (c3 : ByteArray → Int → (List ByteArray) → Int → Int → Bool → Option spec_beTune.R) (c1 : (List ByteArray) → Int → Int → Option spec_beTune.R) : Option spec_beTune.R :=
 bif (decide (v1 < (v0.size : Int))) then
  bif (decide (0 ≤ v1)) then
   bif (decide (v1 < (v0.size : Int))) then
    bif (decide ((bt v0 v1) < 49)) then
     c3 v0 v1 v2 v3 v4 true
    else
    bif (decide (0 ≤ v1)) then
     bif (decide (v1 < (v0.size : Int))) then
      c3 v0 v1 v2 v3 v4 (decide ((bt v0 v1) > 56))
     else
     none
    else
    none
   else
   none
  else
  none
 else
 c1 v2 v3 (w64 (v4 + 1))
theorem spec_beTune.o2.run (N : Nat) (Kn58 : St D0 → Option spec_beTune.R) (Kn29902 : St D0 → Option spec_beTune.R) (H956873 : Code) (v0 : ByteArray) (v1 : Int) (v2 : List ByteArray) (v3 : Int) (v4 : Int) : runC spec_beTune.C (spec_beTune.O N) N (.seq spec_beTune.c119608 (.seq (.block 3 (.seq spec_beTune.c956872 H956873)) spec_beTune.c239219)) 59804 (mkSt [(4, .one (.str v0)), (5, .one (.int .i64 v1)), (10, .one (.sl false 9 v2)), (11, .one (.int .i64 v3)), (12, .one (.int .i64 v4))] [] : St D0) ((fun up => (onN (fun s => spec_beTune.C.tidy 29902 s ((onN Kn29902 up) .normal)) (onN Kn29902 up))) (blockK 2 (blockK 1 ((fun up => (onN (fun s => spec_beTune.C.tidy 934 s (fun s' => runC spec_beTune.C (spec_beTune.O N) N spec_beTune.c935 935 s' up)) up)) ((fun up => (onN (fun s => spec_beTune.C.tidy 58 s ((onN Kn58 up) .normal)) (onN Kn58 up))) (blockK 0 (onN (fun s => spec_beTune.C.tidy 14 s (fun s' => runC spec_beTune.C (spec_beTune.O N) N spec_beTune.c15 15 s' spec_beTune.K0)) spec_beTune.K0))))))) = spec_beTune.o2 N v0 v1 v2 v3 v4 ((fun w0 w1 w2 w3 w4 w5 => runC spec_beTune.C (spec_beTune.O N) N H956873 956873 (mkSt [(4, .one (.str w0)), (5, .one (.int .i64 w1)), (10, .one (.sl false 9 w2)), (11, .one (.int .i64 w3)), (12, .one (.int .i64 w4)), (35, .one (.bool w5))] [] : St D0) (blockK 3 ((fun up => (onN (fun s => spec_beTune.C.tidy 239218 s (fun s' => runC spec_beTune.C (spec_beTune.O N) N spec_beTune.c239219 239219 s' up)) up)) ((fun up => (onN (fun s => spec_beTune.C.tidy 29902 s ((onN Kn29902 up) .normal)) (onN Kn29902 up))) (blockK 2 (blockK 1 ((fun up => (onN (fun s => spec_beTune.C.tidy 934 s (fun s' => runC spec_beTune.C (spec_beTune.O N) N spec_beTune.c935 935 s' up)) up)) ((fun up => (onN (fun s => spec_beTune.C.tidy 58 s ((onN Kn58 up) .normal)) (onN Kn58 up))) (blockK 0 (onN (fun s => spec_beTune.C.tidy 14 s (fun s' => runC spec_beTune.C (spec_beTune.O N) N spec_beTune.c15 15 s' spec_beTune.K0)) spec_beTune.K0))))))))))) ((fun w0 w1 w2 => Kn58 (mkSt [(10, .one (.sl false 9 w0)), (11, .one (.int .i64 w1)), (12, .one (.int .i64 w2))] [] : St D0))) := by kernel_rfl
noncomputable def spec_beTune.B478436 (N : Nat) (Kn58 : St D0 → Option spec_beTune.R) (Kn29902 : St D0 → Option spec_beTune.R) : St D0 → Option spec_beTune.R := fun s' => runC spec_beTune.C (spec_beTune.O N) N spec_beTune.c956873 956873 s' (spec_beTune.K956873 N Kn58 Kn29902)
noncomputable def spec_beTune.d2 (N : Nat) (v0 : ByteArray) (v1 : Int) (v2 : List ByteArray) (v3 : Int) (v4 : Int) (c1 : (List ByteArray) → Int → Int → Option spec_beTune.R) (c2 : ByteArray → Int → (List ByteArray) → Int → Int → Option spec_beTune.R) : Option spec_beTune.R := spec_beTune.o2 N v0 v1 v2 v3 v4 ((fun w0 w1 w2 w3 w4 w5 => spec_beTune.d3 N w0 w1 w2 w3 w4 w5 c2)) c1
theorem spec_beTune.c59804_2 : spec_beTune.c59804 = (.seq spec_beTune.c119608 (.seq (.block 3 (.seq spec_beTune.c956872 spec_beTune.c956873)) spec_beTune.c239219)) := by kernel_rfl
theorem spec_beTune.d2.run (N : Nat) (Kn58 : St D0 → Option spec_beTune.R) (Kn29902 : St D0 → Option spec_beTune.R) (v0 : ByteArray) (v1 : Int) (v2 : List ByteArray) (v3 : Int) (v4 : Int) : runC spec_beTune.C (spec_beTune.O N) N spec_beTune.c59804 59804 (mkSt [(4, .one (.str v0)), (5, .one (.int .i64 v1)), (10, .one (.sl false 9 v2)), (11, .one (.int .i64 v3)), (12, .one (.int .i64 v4))] [] : St D0) (spec_beTune.K59804 N Kn58 Kn29902) = spec_beTune.d2 N v0 v1 v2 v3 v4 ((fun w0 w1 w2 => Kn58 (mkSt [(10, .one (.sl false 9 w0)), (11, .one (.int .i64 w1)), (12, .one (.int .i64 w2))] [] : St D0))) ((fun w0 w1 w2 w3 w4 => Kn29902 (mkSt [(4, .one (.str w0)), (5, .one (.int .i64 w1)), (10, .one (.sl false 9 w2)), (11, .one (.int .i64 w3)), (12, .one (.int .i64 w4))] [] : St D0))) := by
  rw [spec_beTune.c59804_2]; unfold spec_beTune.d2; exact (spec_beTune.o2.run N Kn58 Kn29902 spec_beTune.c956873 v0 v1 v2 v3 v4).trans (congr (congr rfl (funext fun w0 => funext fun w1 => funext fun w2 => funext fun w3 => funext fun w4 => funext fun w5 => spec_beTune.d3.run N Kn58 Kn29902 w0 w1 w2 w3 w4 w5)) rfl)
noncomputable def spec_beTune.K29902 (N : Nat) (Kn58 : St D0 → Option spec_beTune.R) : Ex → St D0 → Option spec_beTune.R := (blockK 2 (blockK 1 ((fun up => (onN (fun s => spec_beTune.C.tidy 934 s (fun s' => runC spec_beTune.C (spec_beTune.O N) N spec_beTune.c935 935 s' up)) up)) ((fun up => (onN (fun s => spec_beTune.C.tidy 58 s ((onN Kn58 up) .normal)) (onN Kn58 up))) (blockK 0 (onN (fun s => spec_beTune.C.tidy 14 s (fun s' => runC spec_beTune.C (spec_beTune.O N) N spec_beTune.c15 15 s' spec_beTune.K0)) spec_beTune.K0))))))
noncomputable def spec_beTune.l2 (N : Nat) : Nat → ByteArray → Int → (List ByteArray) → Int → Int → ((List ByteArray) → Int → Int → Option spec_beTune.R) → Option spec_beTune.R
  | 0, _, _, _, _, _, _ => none
  | n + 1, v0, v1, v2, v3, v4, c1 => spec_beTune.d2 N v0 v1 v2 v3 v4 c1 ((fun w0 w1 w2 w3 w4 => spec_beTune.l2 N n w0 w1 w2 w3 w4 c1))
theorem spec_beTune.loop29902 (N : Nat) (Kn58 : St D0 → Option spec_beTune.R) : ∀ n, (∀ (v0 : ByteArray) (v1 : Int) (v2 : List ByteArray) (v3 : Int) (v4 : Int), iter (loopF spec_beTune.C (spec_beTune.O N) N spec_beTune.c59804 29902) n (mkSt [(4, .one (.str v0)), (5, .one (.int .i64 v1)), (10, .one (.sl false 9 v2)), (11, .one (.int .i64 v3)), (12, .one (.int .i64 v4))] [] : St D0) (spec_beTune.K29902 N Kn58) = spec_beTune.l2 N n v0 v1 v2 v3 v4 ((fun w0 w1 w2 => Kn58 (mkSt [(10, .one (.sl false 9 w0)), (11, .one (.int .i64 w1)), (12, .one (.int .i64 w2))] [] : St D0))))
  | 0 => (fun v0 v1 v2 v3 v4 => rfl)
  | n + 1 => (fun v0 v1 v2 v3 v4 => (spec_beTune.d2.run N Kn58 (fun s => iter (loopF spec_beTune.C (spec_beTune.O N) N spec_beTune.c59804 29902) n s (spec_beTune.K29902 N Kn58)) v0 v1 v2 v3 v4).trans (show _ = spec_beTune.d2 N v0 v1 v2 v3 v4 ((fun w0 w1 w2 => Kn58 (mkSt [(10, .one (.sl false 9 w0)), (11, .one (.int .i64 w1)), (12, .one (.int .i64 w2))] [] : St D0))) ((fun w0 w1 w2 w3 w4 => spec_beTune.l2 N n w0 w1 w2 w3 w4 ((fun w0 w1 w2 => Kn58 (mkSt [(10, .one (.sl false 9 w0)), (11, .one (.int .i64 w1)), (12, .one (.int .i64 w2))] [] : St D0))))) from (congr (congr rfl rfl) (funext fun w0 => funext fun w1 => funext fun w2 => funext fun w3 => funext fun w4 => (spec_beTune.loop29902 N Kn58 n) w0 w1 w2 w3 w4))))
noncomputable def spec_beTune.K116 (N : Nat) (Kn58 : St D0 → Option spec_beTune.R) : Ex → St D0 → Option spec_beTune.R := ((fun up => (onN (fun s => spec_beTune.C.tidy 58 s ((onN Kn58 up) .normal)) (onN Kn58 up))) (blockK 0 (onN (fun s => spec_beTune.C.tidy 14 s (fun s' => runC spec_beTune.C (spec_beTune.O N) N spec_beTune.c15 15 s' spec_beTune.K0)) spec_beTune.K0)))
noncomputable def spec_beTune.o1 (N : Nat) (v0 : List ByteArray) (v1 : Int) (v2 : Int) (c2 : ByteArray → Int → (List ByteArray) → Int → Int → Option spec_beTune.R) : Option spec_beTune.R :=
 bif (decide (v2 < v1)) then
  bif (decide (0 ≤ v2)) then
   bif (decide (v2 < (v0.length : Int))) then
    (v0[(v2 : Int).toNat]?).bind fun x1 =>
    (spec_l1In.g N (x1.size : Int) 1 8).bind fun r2 =>
    bif (!r2) then
     some (false)
    else
    c2 x1 0 v0 v1 v2
   else
   none
  else
  none
 else
 some (true)
theorem spec_beTune.o1.run (N : Nat) (Kn58 : St D0 → Option spec_beTune.R) (H59804 : Code) (v0 : List ByteArray) (v1 : Int) (v2 : Int) : runC spec_beTune.C (spec_beTune.O N) N (.seq spec_beTune.c232 (.seq spec_beTune.c466 (.seq (.block 1 (.seq spec_beTune.c3736 (.seq spec_beTune.c7474 (.seq spec_beTune.c14950 (.block 2 (.loop H59804)))))) spec_beTune.c935))) 116 (mkSt [(10, .one (.sl false 9 v0)), (11, .one (.int .i64 v1)), (12, .one (.int .i64 v2))] [] : St D0) ((fun up => (onN (fun s => spec_beTune.C.tidy 58 s ((onN Kn58 up) .normal)) (onN Kn58 up))) (blockK 0 (onN (fun s => spec_beTune.C.tidy 14 s (fun s' => runC spec_beTune.C (spec_beTune.O N) N spec_beTune.c15 15 s' spec_beTune.K0)) spec_beTune.K0))) = spec_beTune.o1 N v0 v1 v2 ((fun w0 w1 w2 w3 w4 => iter (loopF spec_beTune.C (spec_beTune.O N) N H59804 29902) N (mkSt [(4, .one (.str w0)), (5, .one (.int .i64 w1)), (10, .one (.sl false 9 w2)), (11, .one (.int .i64 w3)), (12, .one (.int .i64 w4))] [] : St D0) (blockK 2 (blockK 1 ((fun up => (onN (fun s => spec_beTune.C.tidy 934 s (fun s' => runC spec_beTune.C (spec_beTune.O N) N spec_beTune.c935 935 s' up)) up)) ((fun up => (onN (fun s => spec_beTune.C.tidy 58 s ((onN Kn58 up) .normal)) (onN Kn58 up))) (blockK 0 (onN (fun s => spec_beTune.C.tidy 14 s (fun s' => runC spec_beTune.C (spec_beTune.O N) N spec_beTune.c15 15 s' spec_beTune.K0)) spec_beTune.K0)))))))) := by kernel_rfl
noncomputable def spec_beTune.d1 (N : Nat) (v0 : List ByteArray) (v1 : Int) (v2 : Int) (c1 : (List ByteArray) → Int → Int → Option spec_beTune.R) : Option spec_beTune.R := spec_beTune.o1 N v0 v1 v2 ((fun w0 w1 w2 w3 w4 => spec_beTune.l2 N N w0 w1 w2 w3 w4 c1))
theorem spec_beTune.c116_1 : spec_beTune.c116 = (.seq spec_beTune.c232 (.seq spec_beTune.c466 (.seq (.block 1 (.seq spec_beTune.c3736 (.seq spec_beTune.c7474 (.seq spec_beTune.c14950 (.block 2 (.loop spec_beTune.c59804)))))) spec_beTune.c935))) := by kernel_rfl
theorem spec_beTune.d1.run (N : Nat) (Kn58 : St D0 → Option spec_beTune.R) (v0 : List ByteArray) (v1 : Int) (v2 : Int) : runC spec_beTune.C (spec_beTune.O N) N spec_beTune.c116 116 (mkSt [(10, .one (.sl false 9 v0)), (11, .one (.int .i64 v1)), (12, .one (.int .i64 v2))] [] : St D0) (spec_beTune.K116 N Kn58) = spec_beTune.d1 N v0 v1 v2 ((fun w0 w1 w2 => Kn58 (mkSt [(10, .one (.sl false 9 w0)), (11, .one (.int .i64 w1)), (12, .one (.int .i64 w2))] [] : St D0))) := by
  rw [spec_beTune.c116_1]; unfold spec_beTune.d1; exact (spec_beTune.o1.run N Kn58 spec_beTune.c59804 v0 v1 v2).trans (congr rfl (funext fun w0 => funext fun w1 => funext fun w2 => funext fun w3 => funext fun w4 => (spec_beTune.loop29902 N Kn58 N) w0 w1 w2 w3 w4))
noncomputable def spec_beTune.K58 (N : Nat) : Ex → St D0 → Option spec_beTune.R := (blockK 0 (onN (fun s => spec_beTune.C.tidy 14 s (fun s' => runC spec_beTune.C (spec_beTune.O N) N spec_beTune.c15 15 s' spec_beTune.K0)) spec_beTune.K0))
noncomputable def spec_beTune.l1 (N : Nat) : Nat → (List ByteArray) → Int → Int → Option spec_beTune.R
  | 0, _, _, _ => none
  | n + 1, v0, v1, v2 => spec_beTune.d1 N v0 v1 v2 ((fun w0 w1 w2 => spec_beTune.l1 N n w0 w1 w2))
theorem spec_beTune.loop58 (N : Nat) : ∀ n, (∀ (v0 : List ByteArray) (v1 : Int) (v2 : Int), iter (loopF spec_beTune.C (spec_beTune.O N) N spec_beTune.c116 58) n (mkSt [(10, .one (.sl false 9 v0)), (11, .one (.int .i64 v1)), (12, .one (.int .i64 v2))] [] : St D0) (spec_beTune.K58 N) = spec_beTune.l1 N n v0 v1 v2)
  | 0 => (fun v0 v1 v2 => rfl)
  | n + 1 => (fun v0 v1 v2 => (spec_beTune.d1.run N (fun s => iter (loopF spec_beTune.C (spec_beTune.O N) N spec_beTune.c116 58) n s (spec_beTune.K58 N)) v0 v1 v2).trans (show _ = spec_beTune.d1 N v0 v1 v2 ((fun w0 w1 w2 => spec_beTune.l1 N n w0 w1 w2)) from (congr rfl (funext fun w0 => funext fun w1 => funext fun w2 => (spec_beTune.loop58 N n) w0 w1 w2))))
noncomputable def spec_beTune.o0 (N : Nat) (a0 : List ByteArray) (c1 : (List ByteArray) → Int → Int → Option spec_beTune.R) : Option spec_beTune.R :=
 (spec_l1In.g N (a0.length : Int) 1 12).bind fun r1 =>
 bif (!r1) then
  some (false)
 else
 c1 a0 (a0.length : Int) 0
theorem spec_beTune.o0.run (N : Nat) (H116 : Code) (a0 : List ByteArray) : runC spec_beTune.C (spec_beTune.O N) N (.seq spec_beTune.c2 (.seq spec_beTune.c6 (.seq (.seq spec_beTune.c28 (.block 0 (.loop H116))) spec_beTune.c15))) 1 (st0 [.one (.sl false 9 a0)] [] : St D0) spec_beTune.K0 = spec_beTune.o0 N a0 ((fun w0 w1 w2 => iter (loopF spec_beTune.C (spec_beTune.O N) N H116 58) N (mkSt [(10, .one (.sl false 9 w0)), (11, .one (.int .i64 w1)), (12, .one (.int .i64 w2))] [] : St D0) (blockK 0 (onN (fun s => spec_beTune.C.tidy 14 s (fun s' => runC spec_beTune.C (spec_beTune.O N) N spec_beTune.c15 15 s' spec_beTune.K0)) spec_beTune.K0)))) := by kernel_rfl
noncomputable def spec_beTune.g (N : Nat) (a0 : List ByteArray) : Option spec_beTune.R := spec_beTune.o0 N a0 ((fun w0 w1 w2 => spec_beTune.l1 N N w0 w1 w2))
theorem spec_beTune.c1_0 : spec_beTune.c1 = (.seq spec_beTune.c2 (.seq spec_beTune.c6 (.seq (.seq spec_beTune.c28 (.block 0 (.loop spec_beTune.c116))) spec_beTune.c15))) := by kernel_rfl
theorem spec_beTune.g.run (N : Nat) (a0 : List ByteArray) : runC spec_beTune.C (spec_beTune.O N) N spec_beTune.c1 1 (st0 [.one (.sl false 9 a0)] [] : St D0) spec_beTune.K0 = spec_beTune.g N a0 := by
  rw [spec_beTune.c1_0]; unfold spec_beTune.g; exact (spec_beTune.o0.run N spec_beTune.c116 a0).trans (congr rfl (funext fun w0 => funext fun w1 => funext fun w2 => (spec_beTune.loop58 N N) w0 w1 w2))
theorem spec_beTune.good (N : Nat) (a0 : List ByteArray) (r : spec_beTune.R) (h : spec_beTune.g N a0 = some r) : Go.PM.Good Go.Proofs.Tryd.prog T0 32 [.one (.sl false 9 a0)] [] (spec_beTune.sig.ret r) (spec_beTune.sig.bs r) :=
  good_fn tabOk0 mixed0 spec_beTune.sig (spec_beTune.E N) Go.Proofs.Tryd.func32 (by kernel_rfl) (by kernel_rfl) 34368667189 0 0 [(58, [10, 11, 12], []), (29902, [4, 5, 10, 11, 12], []), (956872, [4, 5, 10, 11, 12, 35], [])] 6663766080 false [] [(false, [.any])] (by kernel_rfl) rfl rfl ((spec_beTune.g.run N a0).trans h)
noncomputable def spec_beTune.ent (N : Nat) : Ent Go.Proofs.Tryd.prog T0 := mkEnt 32 [(false, [.ro 9])] spec_beTune.sig (fun t => spec_beTune.g N t) (fun t r h => spec_beTune.good N t r h)
end Go.Proofs.YtpmipkbfohcjiaaDoor.M

namespace Go.Proofs.YtpmipkbfohcjiaaDoor.M
open Go Go.PM Go.Proofs.YtpmipkbfohcjiaaDoor.P
set_option linter.unusedVariables false
set_option maxRecDepth 100000
/-! ### impl_played -/
abbrev impl_played.R : Type := Int
abbrev impl_played.sig : Sig := ⟨[(false, 1)], [], [.int .i64], [(false, 1)], [], [.int .i64]⟩
noncomputable def impl_played.C : Cfg D0 := ⟨Go.Proofs.Tryd.prog, T0, 13, 0, 15, 0, [], 1616, false, []⟩
noncomputable def impl_played.E (N : Nat) : List (Ent Go.Proofs.Tryd.prog T0) := []
noncomputable def impl_played.O (N : Nat) : Orc D0 impl_played.R := orcOf (impl_played.E N)
noncomputable def impl_played.K0 : Ex → St D0 → Option impl_played.R := exitK impl_played.C Go.Proofs.Tryd.f68.results.toList [(false, [.any])] (decOut impl_played.sig)
noncomputable def impl_played.c1 : Code := codeAt (Go.Proofs.Tryd.f68.body.getD .skip) []
noncomputable def impl_played.o0 (N : Nat) (a0 : Int) : Option impl_played.R :=
 some ((w64 ((w64 ((w64 (Int.tdiv a0 4)) * 10)) + (w64 (Int.tdiv (w64 ((Int.tmod a0 4) * (w64 ((Int.tmod a0 4) + 1)))) 2)))))
theorem impl_played.o0.run (N : Nat) (a0 : Int) : runC impl_played.C (impl_played.O N) N impl_played.c1 1 (st0 [.one (.int .i64 a0)] [] : St D0) impl_played.K0 = impl_played.o0 N a0 := by kernel_rfl
noncomputable def impl_played.g (N : Nat) (a0 : Int) : Option impl_played.R := impl_played.o0 N a0
theorem impl_played.g.run (N : Nat) (a0 : Int) : runC impl_played.C (impl_played.O N) N impl_played.c1 1 (st0 [.one (.int .i64 a0)] [] : St D0) impl_played.K0 = impl_played.g N a0 := by
  exact (impl_played.o0.run N a0).trans rfl
theorem impl_played.good (N : Nat) (a0 : Int) (r : impl_played.R) (h : impl_played.g N a0 = some r) : Go.PM.Good Go.Proofs.Tryd.prog T0 68 [.one (.int .i64 a0)] [] (impl_played.sig.ret r) (impl_played.sig.bs r) :=
  good_fn tabOk0 mixed0 impl_played.sig (impl_played.E N) Go.Proofs.Tryd.func68 (by kernel_rfl) (by kernel_rfl) 13 0 0 [] 1616 false [] [(false, [.any])] (by kernel_rfl) rfl rfl ((impl_played.g.run N a0).trans h)
noncomputable def impl_played.ent (N : Nat) : Ent Go.Proofs.Tryd.prog T0 := mkEnt 68 [(false, [.any])] impl_played.sig (fun t => impl_played.g N t) (fun t r h => impl_played.good N t r h)
end Go.Proofs.YtpmipkbfohcjiaaDoor.M

namespace Go.Proofs.YtpmipkbfohcjiaaDoor.M
open Go Go.PM Go.Proofs.YtpmipkbfohcjiaaDoor.P
set_option linter.unusedVariables false
set_option maxRecDepth 100000
/-! ### spec_beBefore -/
abbrev spec_beBefore.R : Type := Int
abbrev spec_beBefore.sig : Sig := ⟨[(false, 1)], [], [.int .i64], [(false, 1)], [], [.int .i64]⟩
noncomputable def spec_beBefore.C : Cfg D0 := ⟨Go.Proofs.Tryd.prog, T0, 13, 0, 15, 0, [], 1616, false, []⟩
noncomputable def spec_beBefore.E (N : Nat) : List (Ent Go.Proofs.Tryd.prog T0) := []
noncomputable def spec_beBefore.O (N : Nat) : Orc D0 spec_beBefore.R := orcOf (spec_beBefore.E N)
noncomputable def spec_beBefore.K0 : Ex → St D0 → Option spec_beBefore.R := exitK spec_beBefore.C Go.Proofs.Tryd.f69.results.toList [(false, [.any])] (decOut spec_beBefore.sig)
noncomputable def spec_beBefore.c1 : Code := codeAt (Go.Proofs.Tryd.f69.body.getD .skip) []
noncomputable def spec_beBefore.o0 (N : Nat) (a0 : Int) : Option spec_beBefore.R :=
 some ((w64 ((w64 ((w64 (Int.tdiv a0 4)) * 10)) + (w64 (Int.tdiv (w64 ((Int.tmod a0 4) * (w64 ((Int.tmod a0 4) + 1)))) 2)))))
theorem spec_beBefore.o0.run (N : Nat) (a0 : Int) : runC spec_beBefore.C (spec_beBefore.O N) N spec_beBefore.c1 1 (st0 [.one (.int .i64 a0)] [] : St D0) spec_beBefore.K0 = spec_beBefore.o0 N a0 := by kernel_rfl
noncomputable def spec_beBefore.g (N : Nat) (a0 : Int) : Option spec_beBefore.R := spec_beBefore.o0 N a0
theorem spec_beBefore.g.run (N : Nat) (a0 : Int) : runC spec_beBefore.C (spec_beBefore.O N) N spec_beBefore.c1 1 (st0 [.one (.int .i64 a0)] [] : St D0) spec_beBefore.K0 = spec_beBefore.g N a0 := by
  exact (spec_beBefore.o0.run N a0).trans rfl
theorem spec_beBefore.good (N : Nat) (a0 : Int) (r : spec_beBefore.R) (h : spec_beBefore.g N a0 = some r) : Go.PM.Good Go.Proofs.Tryd.prog T0 69 [.one (.int .i64 a0)] [] (spec_beBefore.sig.ret r) (spec_beBefore.sig.bs r) :=
  good_fn tabOk0 mixed0 spec_beBefore.sig (spec_beBefore.E N) Go.Proofs.Tryd.func69 (by kernel_rfl) (by kernel_rfl) 13 0 0 [] 1616 false [] [(false, [.any])] (by kernel_rfl) rfl rfl ((spec_beBefore.g.run N a0).trans h)
noncomputable def spec_beBefore.ent (N : Nat) : Ent Go.Proofs.Tryd.prog T0 := mkEnt 69 [(false, [.any])] spec_beBefore.sig (fun t => spec_beBefore.g N t) (fun t r h => spec_beBefore.good N t r h)
end Go.Proofs.YtpmipkbfohcjiaaDoor.M

namespace Go.Proofs.YtpmipkbfohcjiaaDoor.M
open Go Go.PM Go.Proofs.YtpmipkbfohcjiaaDoor.P
set_option linter.unusedVariables false
set_option maxRecDepth 100000
/-! ### impl_phrases -/
abbrev impl_phrases.R : Type := List Int
abbrev impl_phrases.sig : Sig := ⟨[(false, 1), (false, 1)], [], [.sl false 9, .int .i64], [(false, 1)], [], [.sl true 3]⟩
noncomputable def impl_phrases.C : Cfg D0 := ⟨Go.Proofs.Tryd.prog, T0, 16499, 0, 25, 0, [(58, [0, 1, 5, 6], [])], 822528, false, []⟩
noncomputable def impl_phrases.E (N : Nat) : List (Ent Go.Proofs.Tryd.prog T0) := [impl_played.ent N]
noncomputable def impl_phrases.O (N : Nat) : Orc D0 impl_phrases.R := orcOf (impl_phrases.E N)
noncomputable def impl_phrases.K0 : Ex → St D0 → Option impl_phrases.R := exitK impl_phrases.C Go.Proofs.Tryd.f58.results.toList [(false, [.own 3])] (decOut impl_phrases.sig)
noncomputable def impl_phrases.c1 : Code := codeAt (Go.Proofs.Tryd.f58.body.getD .skip) []
noncomputable def impl_phrases.c2 : Code := codeAt (Go.Proofs.Tryd.f58.body.getD .skip) [false]
noncomputable def impl_phrases.c6 : Code := codeAt (Go.Proofs.Tryd.f58.body.getD .skip) [true, false]
noncomputable def impl_phrases.c15 : Code := codeAt (Go.Proofs.Tryd.f58.body.getD .skip) [true, true, true]
noncomputable def impl_phrases.c28 : Code := codeAt (Go.Proofs.Tryd.f58.body.getD .skip) [true, true, false, false]
noncomputable def impl_phrases.c116 : Code := codeAt (Go.Proofs.Tryd.f58.body.getD .skip) [true, true, false, true, false, false]
noncomputable def impl_phrases.K116 (N : Nat) (Kn58 : St D0 → Option impl_phrases.R) : Ex → St D0 → Option impl_phrases.R := ((fun up => (onN (fun s => impl_phrases.C.tidy 58 s ((onN Kn58 up) .normal)) (onN Kn58 up))) (blockK 0 (onN (fun s => impl_phrases.C.tidy 14 s (fun s' => runC impl_phrases.C (impl_phrases.O N) N impl_phrases.c15 15 s' impl_phrases.K0)) impl_phrases.K0)))
noncomputable def impl_phrases.o1 (N : Nat) (v0 : List ByteArray) (v1 : Int) (v2 : List Int) (v3 : Int) (c1 : (List ByteArray) → Int → (List Int) → Int → Option impl_phrases.R) : Option impl_phrases.R :=
 (impl_played.g N (w64 (v1 + 1))).bind fun r1 =>
 bif (decide (v3 < r1)) then
  bif ((v0.length : Int) == 0) then
   none
  else
  bif (Nat.blt (v2.length + ([(Int.tmod v3 (v0.length : Int))] : List Int).length) 17592186044416) then
   c1 v0 v1 (v2 ++ ([(Int.tmod v3 (v0.length : Int))] : List Int)) (w64 (v3 + 1))
  else
  none
 else
 some (v2)
theorem impl_phrases.o1.run (N : Nat) (Kn58 : St D0 → Option impl_phrases.R) (v0 : List ByteArray) (v1 : Int) (v2 : List Int) (v3 : Int) : runC impl_phrases.C (impl_phrases.O N) N impl_phrases.c116 116 (mkSt [(0, .one (.sl false 9 v0)), (1, .one (.int .i64 v1)), (5, .one (.sl true 3 v2)), (6, .one (.int .i64 v3))] [] : St D0) ((fun up => (onN (fun s => impl_phrases.C.tidy 58 s ((onN Kn58 up) .normal)) (onN Kn58 up))) (blockK 0 (onN (fun s => impl_phrases.C.tidy 14 s (fun s' => runC impl_phrases.C (impl_phrases.O N) N impl_phrases.c15 15 s' impl_phrases.K0)) impl_phrases.K0))) = impl_phrases.o1 N v0 v1 v2 v3 ((fun w0 w1 w2 w3 => Kn58 (mkSt [(0, .one (.sl false 9 w0)), (1, .one (.int .i64 w1)), (5, .one (.sl true 3 w2)), (6, .one (.int .i64 w3))] [] : St D0))) := by kernel_rfl
noncomputable def impl_phrases.d1 (N : Nat) (v0 : List ByteArray) (v1 : Int) (v2 : List Int) (v3 : Int) (c1 : (List ByteArray) → Int → (List Int) → Int → Option impl_phrases.R) : Option impl_phrases.R := impl_phrases.o1 N v0 v1 v2 v3 c1
theorem impl_phrases.d1.run (N : Nat) (Kn58 : St D0 → Option impl_phrases.R) (v0 : List ByteArray) (v1 : Int) (v2 : List Int) (v3 : Int) : runC impl_phrases.C (impl_phrases.O N) N impl_phrases.c116 116 (mkSt [(0, .one (.sl false 9 v0)), (1, .one (.int .i64 v1)), (5, .one (.sl true 3 v2)), (6, .one (.int .i64 v3))] [] : St D0) (impl_phrases.K116 N Kn58) = impl_phrases.d1 N v0 v1 v2 v3 ((fun w0 w1 w2 w3 => Kn58 (mkSt [(0, .one (.sl false 9 w0)), (1, .one (.int .i64 w1)), (5, .one (.sl true 3 w2)), (6, .one (.int .i64 w3))] [] : St D0))) := by
  exact (impl_phrases.o1.run N Kn58 v0 v1 v2 v3).trans rfl
noncomputable def impl_phrases.K58 (N : Nat) : Ex → St D0 → Option impl_phrases.R := (blockK 0 (onN (fun s => impl_phrases.C.tidy 14 s (fun s' => runC impl_phrases.C (impl_phrases.O N) N impl_phrases.c15 15 s' impl_phrases.K0)) impl_phrases.K0))
noncomputable def impl_phrases.l1 (N : Nat) : Nat → (List ByteArray) → Int → (List Int) → Int → Option impl_phrases.R
  | 0, _, _, _, _ => none
  | n + 1, v0, v1, v2, v3 => impl_phrases.d1 N v0 v1 v2 v3 ((fun w0 w1 w2 w3 => impl_phrases.l1 N n w0 w1 w2 w3))
theorem impl_phrases.loop58 (N : Nat) : ∀ n, (∀ (v0 : List ByteArray) (v1 : Int) (v2 : List Int) (v3 : Int), iter (loopF impl_phrases.C (impl_phrases.O N) N impl_phrases.c116 58) n (mkSt [(0, .one (.sl false 9 v0)), (1, .one (.int .i64 v1)), (5, .one (.sl true 3 v2)), (6, .one (.int .i64 v3))] [] : St D0) (impl_phrases.K58 N) = impl_phrases.l1 N n v0 v1 v2 v3)
  | 0 => (fun v0 v1 v2 v3 => rfl)
  | n + 1 => (fun v0 v1 v2 v3 => (impl_phrases.d1.run N (fun s => iter (loopF impl_phrases.C (impl_phrases.O N) N impl_phrases.c116 58) n s (impl_phrases.K58 N)) v0 v1 v2 v3).trans (show _ = impl_phrases.d1 N v0 v1 v2 v3 ((fun w0 w1 w2 w3 => impl_phrases.l1 N n w0 w1 w2 w3)) from (congr rfl (funext fun w0 => funext fun w1 => funext fun w2 => funext fun w3 => (impl_phrases.loop58 N n) w0 w1 w2 w3))))
noncomputable def impl_phrases.o0 (N : Nat) (a0 : List ByteArray) (a1 : Int) (c1 : (List ByteArray) → Int → (List Int) → Int → Option impl_phrases.R) : Option impl_phrases.R :=
 (impl_played.g N a1).bind fun r1 =>
 c1 a0 a1 ([] : List Int) r1
theorem impl_phrases.o0.run (N : Nat) (H116 : Code) (a0 : List ByteArray) (a1 : Int) : runC impl_phrases.C (impl_phrases.O N) N (.seq impl_phrases.c2 (.seq impl_phrases.c6 (.seq (.seq impl_phrases.c28 (.block 0 (.loop H116))) impl_phrases.c15))) 1 (st0 [.one (.sl false 9 a0), .one (.int .i64 a1)] [] : St D0) impl_phrases.K0 = impl_phrases.o0 N a0 a1 ((fun w0 w1 w2 w3 => iter (loopF impl_phrases.C (impl_phrases.O N) N H116 58) N (mkSt [(0, .one (.sl false 9 w0)), (1, .one (.int .i64 w1)), (5, .one (.sl true 3 w2)), (6, .one (.int .i64 w3))] [] : St D0) (blockK 0 (onN (fun s => impl_phrases.C.tidy 14 s (fun s' => runC impl_phrases.C (impl_phrases.O N) N impl_phrases.c15 15 s' impl_phrases.K0)) impl_phrases.K0)))) := by kernel_rfl
noncomputable def impl_phrases.g (N : Nat) (a0 : List ByteArray) (a1 : Int) : Option impl_phrases.R := impl_phrases.o0 N a0 a1 ((fun w0 w1 w2 w3 => impl_phrases.l1 N N w0 w1 w2 w3))
theorem impl_phrases.c1_0 : impl_phrases.c1 = (.seq impl_phrases.c2 (.seq impl_phrases.c6 (.seq (.seq impl_phrases.c28 (.block 0 (.loop impl_phrases.c116))) impl_phrases.c15))) := by kernel_rfl
theorem impl_phrases.g.run (N : Nat) (a0 : List ByteArray) (a1 : Int) : runC impl_phrases.C (impl_phrases.O N) N impl_phrases.c1 1 (st0 [.one (.sl false 9 a0), .one (.int .i64 a1)] [] : St D0) impl_phrases.K0 = impl_phrases.g N a0 a1 := by
  rw [impl_phrases.c1_0]; unfold impl_phrases.g; exact (impl_phrases.o0.run N impl_phrases.c116 a0 a1).trans (congr rfl (funext fun w0 => funext fun w1 => funext fun w2 => funext fun w3 => (impl_phrases.loop58 N N) w0 w1 w2 w3))
theorem impl_phrases.good (N : Nat) (a0 : List ByteArray) (a1 : Int) (r : impl_phrases.R) (h : impl_phrases.g N a0 a1 = some r) : Go.PM.Good Go.Proofs.Tryd.prog T0 58 [.one (.sl false 9 a0), .one (.int .i64 a1)] [] (impl_phrases.sig.ret r) (impl_phrases.sig.bs r) :=
  good_fn tabOk0 mixed0 impl_phrases.sig (impl_phrases.E N) Go.Proofs.Tryd.func58 (by kernel_rfl) (by kernel_rfl) 16499 0 0 [(58, [0, 1, 5, 6], [])] 822528 false [] [(false, [.own 3])] (by kernel_rfl) rfl rfl ((impl_phrases.g.run N a0 a1).trans h)
noncomputable def impl_phrases.ent (N : Nat) : Ent Go.Proofs.Tryd.prog T0 := mkEnt 58 [(false, [.ro 9]), (false, [.any])] impl_phrases.sig (fun t => impl_phrases.g N t.1 t.2) (fun t r h => impl_phrases.good N t.1 t.2 r h)
end Go.Proofs.YtpmipkbfohcjiaaDoor.M

namespace Go.Proofs.YtpmipkbfohcjiaaDoor.M
open Go Go.PM Go.Proofs.YtpmipkbfohcjiaaDoor.P
set_option linter.unusedVariables false
set_option maxRecDepth 100000
/-! ### spec_bePlays -/
abbrev spec_bePlays.R : Type := List Int
abbrev spec_bePlays.sig : Sig := ⟨[(false, 1), (false, 1)], [], [.sl false 9, .int .i64], [(false, 1)], [], [.sl true 3]⟩
noncomputable def spec_bePlays.C : Cfg D0 := ⟨Go.Proofs.Tryd.prog, T0, 1139, 0, 24, 0, [(58, [0, 1, 5, 6], [])], 346496, false, []⟩
noncomputable def spec_bePlays.E (N : Nat) : List (Ent Go.Proofs.Tryd.prog T0) := [spec_beBefore.ent N]
noncomputable def spec_bePlays.O (N : Nat) : Orc D0 spec_bePlays.R := orcOf (spec_bePlays.E N)
noncomputable def spec_bePlays.K0 : Ex → St D0 → Option spec_bePlays.R := exitK spec_bePlays.C Go.Proofs.Tryd.f60.results.toList [(false, [.own 3])] (decOut spec_bePlays.sig)
noncomputable def spec_bePlays.c1 : Code := codeAt (Go.Proofs.Tryd.f60.body.getD .skip) []
noncomputable def spec_bePlays.c2 : Code := codeAt (Go.Proofs.Tryd.f60.body.getD .skip) [false]
noncomputable def spec_bePlays.c6 : Code := codeAt (Go.Proofs.Tryd.f60.body.getD .skip) [true, false]
noncomputable def spec_bePlays.c15 : Code := codeAt (Go.Proofs.Tryd.f60.body.getD .skip) [true, true, true]
noncomputable def spec_bePlays.c28 : Code := codeAt (Go.Proofs.Tryd.f60.body.getD .skip) [true, true, false, false]
noncomputable def spec_bePlays.c116 : Code := codeAt (Go.Proofs.Tryd.f60.body.getD .skip) [true, true, false, true, false, false]
noncomputable def spec_bePlays.K116 (N : Nat) (Kn58 : St D0 → Option spec_bePlays.R) : Ex → St D0 → Option spec_bePlays.R := ((fun up => (onN (fun s => spec_bePlays.C.tidy 58 s ((onN Kn58 up) .normal)) (onN Kn58 up))) (blockK 0 (onN (fun s => spec_bePlays.C.tidy 14 s (fun s' => runC spec_bePlays.C (spec_bePlays.O N) N spec_bePlays.c15 15 s' spec_bePlays.K0)) spec_bePlays.K0)))
noncomputable def spec_bePlays.o1 (N : Nat) (v0 : List ByteArray) (v1 : Int) (v2 : Int) (c2 : (List ByteArray) → Int → (List Int) → Int → Option spec_bePlays.R) : Option spec_bePlays.R :=
 bif (decide (v2 ≤ (Int.tmod v1 4))) then
  (spec_beBefore.g N v1).bind fun r1 =>
  bif ((v0.length : Int) == 0) then
   none
  else
  bif (Nat.blt (([] : List Int).length + ([(Int.tmod (w64 (r1 + v2)) (v0.length : Int))] : List Int).length) 17592186044416) then
   c2 v0 v1 (([] : List Int) ++ ([(Int.tmod (w64 (r1 + v2)) (v0.length : Int))] : List Int)) (w64 (v2 + 1))
  else
  none
 else
 some (([] : List Int))
theorem spec_bePlays.o1.run (N : Nat) (Kn58 : St D0 → Option spec_bePlays.R) (v0 : List ByteArray) (v1 : Int) (v2 : Int) : runC spec_bePlays.C (spec_bePlays.O N) N spec_bePlays.c116 116 (mkSt [(0, .one (.sl false 9 v0)), (1, .one (.int .i64 v1)), (5, .one (.nl)), (6, .one (.int .i64 v2))] [] : St D0) ((fun up => (onN (fun s => spec_bePlays.C.tidy 58 s ((onN Kn58 up) .normal)) (onN Kn58 up))) (blockK 0 (onN (fun s => spec_bePlays.C.tidy 14 s (fun s' => runC spec_bePlays.C (spec_bePlays.O N) N spec_bePlays.c15 15 s' spec_bePlays.K0)) spec_bePlays.K0))) = spec_bePlays.o1 N v0 v1 v2 ((fun w0 w1 w2 w3 => Kn58 (mkSt [(0, .one (.sl false 9 w0)), (1, .one (.int .i64 w1)), (5, .one (.sl true 3 w2)), (6, .one (.int .i64 w3))] [] : St D0))) := by kernel_rfl
noncomputable def spec_bePlays.d1 (N : Nat) (v0 : List ByteArray) (v1 : Int) (v2 : Int) (c2 : (List ByteArray) → Int → (List Int) → Int → Option spec_bePlays.R) : Option spec_bePlays.R := spec_bePlays.o1 N v0 v1 v2 c2
theorem spec_bePlays.d1.run (N : Nat) (Kn58 : St D0 → Option spec_bePlays.R) (v0 : List ByteArray) (v1 : Int) (v2 : Int) : runC spec_bePlays.C (spec_bePlays.O N) N spec_bePlays.c116 116 (mkSt [(0, .one (.sl false 9 v0)), (1, .one (.int .i64 v1)), (5, .one (.nl)), (6, .one (.int .i64 v2))] [] : St D0) (spec_bePlays.K116 N Kn58) = spec_bePlays.d1 N v0 v1 v2 ((fun w0 w1 w2 w3 => Kn58 (mkSt [(0, .one (.sl false 9 w0)), (1, .one (.int .i64 w1)), (5, .one (.sl true 3 w2)), (6, .one (.int .i64 w3))] [] : St D0))) := by
  exact (spec_bePlays.o1.run N Kn58 v0 v1 v2).trans rfl
noncomputable def spec_bePlays.o2 (N : Nat) (v0 : List ByteArray) (v1 : Int) (v2 : List Int) (v3 : Int) (c2 : (List ByteArray) → Int → (List Int) → Int → Option spec_bePlays.R) : Option spec_bePlays.R :=
 bif (decide (v3 ≤ (Int.tmod v1 4))) then
  (spec_beBefore.g N v1).bind fun r1 =>
  bif ((v0.length : Int) == 0) then
   none
  else
  bif (Nat.blt (v2.length + ([(Int.tmod (w64 (r1 + v3)) (v0.length : Int))] : List Int).length) 17592186044416) then
   c2 v0 v1 (v2 ++ ([(Int.tmod (w64 (r1 + v3)) (v0.length : Int))] : List Int)) (w64 (v3 + 1))
  else
  none
 else
 some (v2)
theorem spec_bePlays.o2.run (N : Nat) (Kn58 : St D0 → Option spec_bePlays.R) (v0 : List ByteArray) (v1 : Int) (v2 : List Int) (v3 : Int) : runC spec_bePlays.C (spec_bePlays.O N) N spec_bePlays.c116 116 (mkSt [(0, .one (.sl false 9 v0)), (1, .one (.int .i64 v1)), (5, .one (.sl true 3 v2)), (6, .one (.int .i64 v3))] [] : St D0) ((fun up => (onN (fun s => spec_bePlays.C.tidy 58 s ((onN Kn58 up) .normal)) (onN Kn58 up))) (blockK 0 (onN (fun s => spec_bePlays.C.tidy 14 s (fun s' => runC spec_bePlays.C (spec_bePlays.O N) N spec_bePlays.c15 15 s' spec_bePlays.K0)) spec_bePlays.K0))) = spec_bePlays.o2 N v0 v1 v2 v3 ((fun w0 w1 w2 w3 => Kn58 (mkSt [(0, .one (.sl false 9 w0)), (1, .one (.int .i64 w1)), (5, .one (.sl true 3 w2)), (6, .one (.int .i64 w3))] [] : St D0))) := by kernel_rfl
noncomputable def spec_bePlays.d2 (N : Nat) (v0 : List ByteArray) (v1 : Int) (v2 : List Int) (v3 : Int) (c2 : (List ByteArray) → Int → (List Int) → Int → Option spec_bePlays.R) : Option spec_bePlays.R := spec_bePlays.o2 N v0 v1 v2 v3 c2
theorem spec_bePlays.d2.run (N : Nat) (Kn58 : St D0 → Option spec_bePlays.R) (v0 : List ByteArray) (v1 : Int) (v2 : List Int) (v3 : Int) : runC spec_bePlays.C (spec_bePlays.O N) N spec_bePlays.c116 116 (mkSt [(0, .one (.sl false 9 v0)), (1, .one (.int .i64 v1)), (5, .one (.sl true 3 v2)), (6, .one (.int .i64 v3))] [] : St D0) (spec_bePlays.K116 N Kn58) = spec_bePlays.d2 N v0 v1 v2 v3 ((fun w0 w1 w2 w3 => Kn58 (mkSt [(0, .one (.sl false 9 w0)), (1, .one (.int .i64 w1)), (5, .one (.sl true 3 w2)), (6, .one (.int .i64 w3))] [] : St D0))) := by
  exact (spec_bePlays.o2.run N Kn58 v0 v1 v2 v3).trans rfl
noncomputable def spec_bePlays.K58 (N : Nat) : Ex → St D0 → Option spec_bePlays.R := (blockK 0 (onN (fun s => spec_bePlays.C.tidy 14 s (fun s' => runC spec_bePlays.C (spec_bePlays.O N) N spec_bePlays.c15 15 s' spec_bePlays.K0)) spec_bePlays.K0))
mutual
noncomputable def spec_bePlays.l1 (N : Nat) : Nat → (List ByteArray) → Int → Int → Option spec_bePlays.R
  | 0, _, _, _ => none
  | n + 1, v0, v1, v2 => spec_bePlays.d1 N v0 v1 v2 ((fun w0 w1 w2 w3 => spec_bePlays.l2 N n w0 w1 w2 w3))
noncomputable def spec_bePlays.l2 (N : Nat) : Nat → (List ByteArray) → Int → (List Int) → Int → Option spec_bePlays.R
  | 0, _, _, _, _ => none
  | n + 1, v0, v1, v2, v3 => spec_bePlays.d2 N v0 v1 v2 v3 ((fun w0 w1 w2 w3 => spec_bePlays.l2 N n w0 w1 w2 w3))
end
theorem spec_bePlays.loop58 (N : Nat) : ∀ n, (∀ (v0 : List ByteArray) (v1 : Int) (v2 : Int), iter (loopF spec_bePlays.C (spec_bePlays.O N) N spec_bePlays.c116 58) n (mkSt [(0, .one (.sl false 9 v0)), (1, .one (.int .i64 v1)), (5, .one (.nl)), (6, .one (.int .i64 v2))] [] : St D0) (spec_bePlays.K58 N) = spec_bePlays.l1 N n v0 v1 v2) ∧ (∀ (v0 : List ByteArray) (v1 : Int) (v2 : List Int) (v3 : Int), iter (loopF spec_bePlays.C (spec_bePlays.O N) N spec_bePlays.c116 58) n (mkSt [(0, .one (.sl false 9 v0)), (1, .one (.int .i64 v1)), (5, .one (.sl true 3 v2)), (6, .one (.int .i64 v3))] [] : St D0) (spec_bePlays.K58 N) = spec_bePlays.l2 N n v0 v1 v2 v3)
  | 0 => ⟨(fun v0 v1 v2 => rfl), (fun v0 v1 v2 v3 => rfl)⟩
  | n + 1 => ⟨(fun v0 v1 v2 => (spec_bePlays.d1.run N (fun s => iter (loopF spec_bePlays.C (spec_bePlays.O N) N spec_bePlays.c116 58) n s (spec_bePlays.K58 N)) v0 v1 v2).trans (show _ = spec_bePlays.d1 N v0 v1 v2 ((fun w0 w1 w2 w3 => spec_bePlays.l2 N n w0 w1 w2 w3)) from (congr rfl (funext fun w0 => funext fun w1 => funext fun w2 => funext fun w3 => (spec_bePlays.loop58 N n).2 w0 w1 w2 w3)))), (fun v0 v1 v2 v3 => (spec_bePlays.d2.run N (fun s => iter (loopF spec_bePlays.C (spec_bePlays.O N) N spec_bePlays.c116 58) n s (spec_bePlays.K58 N)) v0 v1 v2 v3).trans (show _ = spec_bePlays.d2 N v0 v1 v2 v3 ((fun w0 w1 w2 w3 => spec_bePlays.l2 N n w0 w1 w2 w3)) from (congr rfl (funext fun w0 => funext fun w1 => funext fun w2 => funext fun w3 => (spec_bePlays.loop58 N n).2 w0 w1 w2 w3))))⟩
noncomputable def spec_bePlays.o0 (N : Nat) (a0 : List ByteArray) (a1 : Int) (c1 : (List ByteArray) → Int → Int → Option spec_bePlays.R) : Option spec_bePlays.R :=
 c1 a0 a1 0
theorem spec_bePlays.o0.run (N : Nat) (H116 : Code) (a0 : List ByteArray) (a1 : Int) : runC spec_bePlays.C (spec_bePlays.O N) N (.seq spec_bePlays.c2 (.seq spec_bePlays.c6 (.seq (.seq spec_bePlays.c28 (.block 0 (.loop H116))) spec_bePlays.c15))) 1 (st0 [.one (.sl false 9 a0), .one (.int .i64 a1)] [] : St D0) spec_bePlays.K0 = spec_bePlays.o0 N a0 a1 ((fun w0 w1 w2 => iter (loopF spec_bePlays.C (spec_bePlays.O N) N H116 58) N (mkSt [(0, .one (.sl false 9 w0)), (1, .one (.int .i64 w1)), (5, .one (.nl)), (6, .one (.int .i64 w2))] [] : St D0) (blockK 0 (onN (fun s => spec_bePlays.C.tidy 14 s (fun s' => runC spec_bePlays.C (spec_bePlays.O N) N spec_bePlays.c15 15 s' spec_bePlays.K0)) spec_bePlays.K0)))) := by kernel_rfl
noncomputable def spec_bePlays.g (N : Nat) (a0 : List ByteArray) (a1 : Int) : Option spec_bePlays.R := spec_bePlays.o0 N a0 a1 ((fun w0 w1 w2 => spec_bePlays.l1 N N w0 w1 w2))
theorem spec_bePlays.c1_0 : spec_bePlays.c1 = (.seq spec_bePlays.c2 (.seq spec_bePlays.c6 (.seq (.seq spec_bePlays.c28 (.block 0 (.loop spec_bePlays.c116))) spec_bePlays.c15))) := by kernel_rfl
theorem spec_bePlays.g.run (N : Nat) (a0 : List ByteArray) (a1 : Int) : runC spec_bePlays.C (spec_bePlays.O N) N spec_bePlays.c1 1 (st0 [.one (.sl false 9 a0), .one (.int .i64 a1)] [] : St D0) spec_bePlays.K0 = spec_bePlays.g N a0 a1 := by
  rw [spec_bePlays.c1_0]; unfold spec_bePlays.g; exact (spec_bePlays.o0.run N spec_bePlays.c116 a0 a1).trans (congr rfl (funext fun w0 => funext fun w1 => funext fun w2 => (spec_bePlays.loop58 N N).1 w0 w1 w2))
theorem spec_bePlays.good (N : Nat) (a0 : List ByteArray) (a1 : Int) (r : spec_bePlays.R) (h : spec_bePlays.g N a0 a1 = some r) : Go.PM.Good Go.Proofs.Tryd.prog T0 60 [.one (.sl false 9 a0), .one (.int .i64 a1)] [] (spec_bePlays.sig.ret r) (spec_bePlays.sig.bs r) :=
  good_fn tabOk0 mixed0 spec_bePlays.sig (spec_bePlays.E N) Go.Proofs.Tryd.func60 (by kernel_rfl) (by kernel_rfl) 1139 0 0 [(58, [0, 1, 5, 6], [])] 346496 false [] [(false, [.own 3])] (by kernel_rfl) rfl rfl ((spec_bePlays.g.run N a0 a1).trans h)
noncomputable def spec_bePlays.ent (N : Nat) : Ent Go.Proofs.Tryd.prog T0 := mkEnt 60 [(false, [.ro 9]), (false, [.any])] spec_bePlays.sig (fun t => spec_bePlays.g N t.1 t.2) (fun t r h => spec_bePlays.good N t.1 t.2 r h)
end Go.Proofs.YtpmipkbfohcjiaaDoor.M

namespace Go.Proofs.YtpmipkbfohcjiaaDoor.M
open Go Go.PM Go.Proofs.YtpmipkbfohcjiaaDoor.P
set_option linter.unusedVariables false
set_option maxRecDepth 100000
/-! ### impl_notes -/
abbrev impl_notes.R : Type := ByteArray
abbrev impl_notes.sig : Sig := ⟨[(false, 1), (false, 1)], [], [.sl false 9, .int .i64], [(false, 1)], [], [.str]⟩
noncomputable def impl_notes.C : Cfg D0 := ⟨Go.Proofs.Tryd.prog, T0, 15539, 0, 24, 0, [(58, [0, 5, 10, 11, 12], [])], 459520, false, []⟩
noncomputable def impl_notes.E (N : Nat) : List (Ent Go.Proofs.Tryd.prog T0) := [impl_phrases.ent N]
noncomputable def impl_notes.O (N : Nat) : Orc D0 impl_notes.R := orcOf (impl_notes.E N)
noncomputable def impl_notes.K0 : Ex → St D0 → Option impl_notes.R := exitK impl_notes.C Go.Proofs.Tryd.f36.results.toList [(false, [.any])] (decOut impl_notes.sig)
noncomputable def impl_notes.c1 : Code := codeAt (Go.Proofs.Tryd.f36.body.getD .skip) []
noncomputable def impl_notes.c2 : Code := codeAt (Go.Proofs.Tryd.f36.body.getD .skip) [false]
noncomputable def impl_notes.c6 : Code := codeAt (Go.Proofs.Tryd.f36.body.getD .skip) [true, false]
noncomputable def impl_notes.c15 : Code := codeAt (Go.Proofs.Tryd.f36.body.getD .skip) [true, true, true]
noncomputable def impl_notes.c28 : Code := codeAt (Go.Proofs.Tryd.f36.body.getD .skip) [true, true, false, false]
noncomputable def impl_notes.c116 : Code := codeAt (Go.Proofs.Tryd.f36.body.getD .skip) [true, true, false, true, false, false]
noncomputable def impl_notes.K116 (N : Nat) (Kn58 : St D0 → Option impl_notes.R) : Ex → St D0 → Option impl_notes.R := ((fun up => (onN (fun s => impl_notes.C.tidy 58 s ((onN Kn58 up) .normal)) (onN Kn58 up))) (blockK 0 (onN (fun s => impl_notes.C.tidy 14 s (fun s' => runC impl_notes.C (impl_notes.O N) N impl_notes.c15 15 s' impl_notes.K0)) impl_notes.K0)))
noncomputable def impl_notes.o1 (N : Nat) (v0 : List ByteArray) (v1 : ByteArray) (v2 : List Int) (v3 : Int) (v4 : Int) (c1 : (List ByteArray) → ByteArray → (List Int) → Int → Int → Option impl_notes.R) : Option impl_notes.R :=
 bif (decide (v4 < v3)) then
  bif (decide (0 ≤ v4)) then
   bif (decide (v4 < (v2.length : Int))) then
    (v2[(v4 : Int).toNat]?).bind fun x1 =>
    bif (decide (0 ≤ x1)) then
     bif (decide (x1 < (v0.length : Int))) then
      (v0[(x1 : Int).toNat]?).bind fun x2 =>
      bif (Nat.ble (v1.size + x2.size) 9223372036854775807) then
       c1 v0 (v1 ++ x2) v2 v3 (w64 (v4 + 1))
      else
      none
     else
     none
    else
    none
   else
   none
  else
  none
 else
 some (v1)
theorem impl_notes.o1.run (N : Nat) (Kn58 : St D0 → Option impl_notes.R) (v0 : List ByteArray) (v1 : ByteArray) (v2 : List Int) (v3 : Int) (v4 : Int) : runC impl_notes.C (impl_notes.O N) N impl_notes.c116 116 (mkSt [(0, .one (.sl false 9 v0)), (5, .one (.str v1)), (10, .one (.sl true 3 v2)), (11, .one (.int .i64 v3)), (12, .one (.int .i64 v4))] [] : St D0) ((fun up => (onN (fun s => impl_notes.C.tidy 58 s ((onN Kn58 up) .normal)) (onN Kn58 up))) (blockK 0 (onN (fun s => impl_notes.C.tidy 14 s (fun s' => runC impl_notes.C (impl_notes.O N) N impl_notes.c15 15 s' impl_notes.K0)) impl_notes.K0))) = impl_notes.o1 N v0 v1 v2 v3 v4 ((fun w0 w1 w2 w3 w4 => Kn58 (mkSt [(0, .one (.sl false 9 w0)), (5, .one (.str w1)), (10, .one (.sl true 3 w2)), (11, .one (.int .i64 w3)), (12, .one (.int .i64 w4))] [] : St D0))) := by kernel_rfl
noncomputable def impl_notes.d1 (N : Nat) (v0 : List ByteArray) (v1 : ByteArray) (v2 : List Int) (v3 : Int) (v4 : Int) (c1 : (List ByteArray) → ByteArray → (List Int) → Int → Int → Option impl_notes.R) : Option impl_notes.R := impl_notes.o1 N v0 v1 v2 v3 v4 c1
theorem impl_notes.d1.run (N : Nat) (Kn58 : St D0 → Option impl_notes.R) (v0 : List ByteArray) (v1 : ByteArray) (v2 : List Int) (v3 : Int) (v4 : Int) : runC impl_notes.C (impl_notes.O N) N impl_notes.c116 116 (mkSt [(0, .one (.sl false 9 v0)), (5, .one (.str v1)), (10, .one (.sl true 3 v2)), (11, .one (.int .i64 v3)), (12, .one (.int .i64 v4))] [] : St D0) (impl_notes.K116 N Kn58) = impl_notes.d1 N v0 v1 v2 v3 v4 ((fun w0 w1 w2 w3 w4 => Kn58 (mkSt [(0, .one (.sl false 9 w0)), (5, .one (.str w1)), (10, .one (.sl true 3 w2)), (11, .one (.int .i64 w3)), (12, .one (.int .i64 w4))] [] : St D0))) := by
  exact (impl_notes.o1.run N Kn58 v0 v1 v2 v3 v4).trans rfl
noncomputable def impl_notes.K58 (N : Nat) : Ex → St D0 → Option impl_notes.R := (blockK 0 (onN (fun s => impl_notes.C.tidy 14 s (fun s' => runC impl_notes.C (impl_notes.O N) N impl_notes.c15 15 s' impl_notes.K0)) impl_notes.K0))
noncomputable def impl_notes.l1 (N : Nat) : Nat → (List ByteArray) → ByteArray → (List Int) → Int → Int → Option impl_notes.R
  | 0, _, _, _, _, _ => none
  | n + 1, v0, v1, v2, v3, v4 => impl_notes.d1 N v0 v1 v2 v3 v4 ((fun w0 w1 w2 w3 w4 => impl_notes.l1 N n w0 w1 w2 w3 w4))
theorem impl_notes.loop58 (N : Nat) : ∀ n, (∀ (v0 : List ByteArray) (v1 : ByteArray) (v2 : List Int) (v3 : Int) (v4 : Int), iter (loopF impl_notes.C (impl_notes.O N) N impl_notes.c116 58) n (mkSt [(0, .one (.sl false 9 v0)), (5, .one (.str v1)), (10, .one (.sl true 3 v2)), (11, .one (.int .i64 v3)), (12, .one (.int .i64 v4))] [] : St D0) (impl_notes.K58 N) = impl_notes.l1 N n v0 v1 v2 v3 v4)
  | 0 => (fun v0 v1 v2 v3 v4 => rfl)
  | n + 1 => (fun v0 v1 v2 v3 v4 => (impl_notes.d1.run N (fun s => iter (loopF impl_notes.C (impl_notes.O N) N impl_notes.c116 58) n s (impl_notes.K58 N)) v0 v1 v2 v3 v4).trans (show _ = impl_notes.d1 N v0 v1 v2 v3 v4 ((fun w0 w1 w2 w3 w4 => impl_notes.l1 N n w0 w1 w2 w3 w4)) from (congr rfl (funext fun w0 => funext fun w1 => funext fun w2 => funext fun w3 => funext fun w4 => (impl_notes.loop58 N n) w0 w1 w2 w3 w4))))
noncomputable def impl_notes.o0 (N : Nat) (a0 : List ByteArray) (a1 : Int) (c1 : (List ByteArray) → ByteArray → (List Int) → Int → Int → Option impl_notes.R) : Option impl_notes.R :=
 (impl_phrases.g N a0 a1).bind fun r1 =>
 c1 a0 (⟨#[]⟩ : ByteArray) r1 (r1.length : Int) 0
theorem impl_notes.o0.run (N : Nat) (H116 : Code) (a0 : List ByteArray) (a1 : Int) : runC impl_notes.C (impl_notes.O N) N (.seq impl_notes.c2 (.seq impl_notes.c6 (.seq (.seq impl_notes.c28 (.block 0 (.loop H116))) impl_notes.c15))) 1 (st0 [.one (.sl false 9 a0), .one (.int .i64 a1)] [] : St D0) impl_notes.K0 = impl_notes.o0 N a0 a1 ((fun w0 w1 w2 w3 w4 => iter (loopF impl_notes.C (impl_notes.O N) N H116 58) N (mkSt [(0, .one (.sl false 9 w0)), (5, .one (.str w1)), (10, .one (.sl true 3 w2)), (11, .one (.int .i64 w3)), (12, .one (.int .i64 w4))] [] : St D0) (blockK 0 (onN (fun s => impl_notes.C.tidy 14 s (fun s' => runC impl_notes.C (impl_notes.O N) N impl_notes.c15 15 s' impl_notes.K0)) impl_notes.K0)))) := by kernel_rfl
noncomputable def impl_notes.g (N : Nat) (a0 : List ByteArray) (a1 : Int) : Option impl_notes.R := impl_notes.o0 N a0 a1 ((fun w0 w1 w2 w3 w4 => impl_notes.l1 N N w0 w1 w2 w3 w4))
theorem impl_notes.c1_0 : impl_notes.c1 = (.seq impl_notes.c2 (.seq impl_notes.c6 (.seq (.seq impl_notes.c28 (.block 0 (.loop impl_notes.c116))) impl_notes.c15))) := by kernel_rfl
theorem impl_notes.g.run (N : Nat) (a0 : List ByteArray) (a1 : Int) : runC impl_notes.C (impl_notes.O N) N impl_notes.c1 1 (st0 [.one (.sl false 9 a0), .one (.int .i64 a1)] [] : St D0) impl_notes.K0 = impl_notes.g N a0 a1 := by
  rw [impl_notes.c1_0]; unfold impl_notes.g; exact (impl_notes.o0.run N impl_notes.c116 a0 a1).trans (congr rfl (funext fun w0 => funext fun w1 => funext fun w2 => funext fun w3 => funext fun w4 => (impl_notes.loop58 N N) w0 w1 w2 w3 w4))
theorem impl_notes.good (N : Nat) (a0 : List ByteArray) (a1 : Int) (r : impl_notes.R) (h : impl_notes.g N a0 a1 = some r) : Go.PM.Good Go.Proofs.Tryd.prog T0 36 [.one (.sl false 9 a0), .one (.int .i64 a1)] [] (impl_notes.sig.ret r) (impl_notes.sig.bs r) :=
  good_fn tabOk0 mixed0 impl_notes.sig (impl_notes.E N) Go.Proofs.Tryd.func36 (by kernel_rfl) (by kernel_rfl) 15539 0 0 [(58, [0, 5, 10, 11, 12], [])] 459520 false [] [(false, [.any])] (by kernel_rfl) rfl rfl ((impl_notes.g.run N a0 a1).trans h)
noncomputable def impl_notes.ent (N : Nat) : Ent Go.Proofs.Tryd.prog T0 := mkEnt 36 [(false, [.ro 9]), (false, [.any])] impl_notes.sig (fun t => impl_notes.g N t.1 t.2) (fun t r h => impl_notes.good N t.1 t.2 r h)
end Go.Proofs.YtpmipkbfohcjiaaDoor.M

namespace Go.Proofs.YtpmipkbfohcjiaaDoor.M
open Go Go.PM Go.Proofs.YtpmipkbfohcjiaaDoor.P
set_option linter.unusedVariables false
set_option maxRecDepth 100000
/-! ### spec_beNotes -/
abbrev spec_beNotes.R : Type := ByteArray
abbrev spec_beNotes.sig : Sig := ⟨[(false, 1), (false, 1)], [], [.sl false 9, .int .i64], [(false, 1)], [], [.str]⟩
noncomputable def spec_beNotes.C : Cfg D0 := ⟨Go.Proofs.Tryd.prog, T0, 15539, 0, 24, 0, [(58, [0, 5, 10, 11, 12], [])], 459520, false, []⟩
noncomputable def spec_beNotes.E (N : Nat) : List (Ent Go.Proofs.Tryd.prog T0) := [spec_bePlays.ent N]
noncomputable def spec_beNotes.O (N : Nat) : Orc D0 spec_beNotes.R := orcOf (spec_beNotes.E N)
noncomputable def spec_beNotes.K0 : Ex → St D0 → Option spec_beNotes.R := exitK spec_beNotes.C Go.Proofs.Tryd.f38.results.toList [(false, [.any])] (decOut spec_beNotes.sig)
noncomputable def spec_beNotes.c1 : Code := codeAt (Go.Proofs.Tryd.f38.body.getD .skip) []
noncomputable def spec_beNotes.c2 : Code := codeAt (Go.Proofs.Tryd.f38.body.getD .skip) [false]
noncomputable def spec_beNotes.c6 : Code := codeAt (Go.Proofs.Tryd.f38.body.getD .skip) [true, false]
noncomputable def spec_beNotes.c15 : Code := codeAt (Go.Proofs.Tryd.f38.body.getD .skip) [true, true, true]
noncomputable def spec_beNotes.c28 : Code := codeAt (Go.Proofs.Tryd.f38.body.getD .skip) [true, true, false, false]
noncomputable def spec_beNotes.c116 : Code := codeAt (Go.Proofs.Tryd.f38.body.getD .skip) [true, true, false, true, false, false]
noncomputable def spec_beNotes.K116 (N : Nat) (Kn58 : St D0 → Option spec_beNotes.R) : Ex → St D0 → Option spec_beNotes.R := ((fun up => (onN (fun s => spec_beNotes.C.tidy 58 s ((onN Kn58 up) .normal)) (onN Kn58 up))) (blockK 0 (onN (fun s => spec_beNotes.C.tidy 14 s (fun s' => runC spec_beNotes.C (spec_beNotes.O N) N spec_beNotes.c15 15 s' spec_beNotes.K0)) spec_beNotes.K0)))
noncomputable def spec_beNotes.o1 (N : Nat) (v0 : List ByteArray) (v1 : ByteArray) (v2 : List Int) (v3 : Int) (v4 : Int) (c1 : (List ByteArray) → ByteArray → (List Int) → Int → Int → Option spec_beNotes.R) : Option spec_beNotes.R :=
 bif (decide (v4 < v3)) then
  bif (decide (0 ≤ v4)) then
   bif (decide (v4 < (v2.length : Int))) then
    (v2[(v4 : Int).toNat]?).bind fun x1 =>
    bif (decide (0 ≤ x1)) then
     bif (decide (x1 < (v0.length : Int))) then
      (v0[(x1 : Int).toNat]?).bind fun x2 =>
      bif (Nat.ble (v1.size + x2.size) 9223372036854775807) then
       c1 v0 (v1 ++ x2) v2 v3 (w64 (v4 + 1))
      else
      none
     else
     none
    else
    none
   else
   none
  else
  none
 else
 some (v1)
theorem spec_beNotes.o1.run (N : Nat) (Kn58 : St D0 → Option spec_beNotes.R) (v0 : List ByteArray) (v1 : ByteArray) (v2 : List Int) (v3 : Int) (v4 : Int) : runC spec_beNotes.C (spec_beNotes.O N) N spec_beNotes.c116 116 (mkSt [(0, .one (.sl false 9 v0)), (5, .one (.str v1)), (10, .one (.sl true 3 v2)), (11, .one (.int .i64 v3)), (12, .one (.int .i64 v4))] [] : St D0) ((fun up => (onN (fun s => spec_beNotes.C.tidy 58 s ((onN Kn58 up) .normal)) (onN Kn58 up))) (blockK 0 (onN (fun s => spec_beNotes.C.tidy 14 s (fun s' => runC spec_beNotes.C (spec_beNotes.O N) N spec_beNotes.c15 15 s' spec_beNotes.K0)) spec_beNotes.K0))) = spec_beNotes.o1 N v0 v1 v2 v3 v4 ((fun w0 w1 w2 w3 w4 => Kn58 (mkSt [(0, .one (.sl false 9 w0)), (5, .one (.str w1)), (10, .one (.sl true 3 w2)), (11, .one (.int .i64 w3)), (12, .one (.int .i64 w4))] [] : St D0))) := by kernel_rfl
noncomputable def spec_beNotes.d1 (N : Nat) (v0 : List ByteArray) (v1 : ByteArray) (v2 : List Int) (v3 : Int) (v4 : Int) (c1 : (List ByteArray) → ByteArray → (List Int) → Int → Int → Option spec_beNotes.R) : Option spec_beNotes.R := spec_beNotes.o1 N v0 v1 v2 v3 v4 c1
theorem spec_beNotes.d1.run (N : Nat) (Kn58 : St D0 → Option spec_beNotes.R) (v0 : List ByteArray) (v1 : ByteArray) (v2 : List Int) (v3 : Int) (v4 : Int) : runC spec_beNotes.C (spec_beNotes.O N) N spec_beNotes.c116 116 (mkSt [(0, .one (.sl false 9 v0)), (5, .one (.str v1)), (10, .one (.sl true 3 v2)), (11, .one (.int .i64 v3)), (12, .one (.int .i64 v4))] [] : St D0) (spec_beNotes.K116 N Kn58) = spec_beNotes.d1 N v0 v1 v2 v3 v4 ((fun w0 w1 w2 w3 w4 => Kn58 (mkSt [(0, .one (.sl false 9 w0)), (5, .one (.str w1)), (10, .one (.sl true 3 w2)), (11, .one (.int .i64 w3)), (12, .one (.int .i64 w4))] [] : St D0))) := by
  exact (spec_beNotes.o1.run N Kn58 v0 v1 v2 v3 v4).trans rfl
noncomputable def spec_beNotes.K58 (N : Nat) : Ex → St D0 → Option spec_beNotes.R := (blockK 0 (onN (fun s => spec_beNotes.C.tidy 14 s (fun s' => runC spec_beNotes.C (spec_beNotes.O N) N spec_beNotes.c15 15 s' spec_beNotes.K0)) spec_beNotes.K0))
noncomputable def spec_beNotes.l1 (N : Nat) : Nat → (List ByteArray) → ByteArray → (List Int) → Int → Int → Option spec_beNotes.R
  | 0, _, _, _, _, _ => none
  | n + 1, v0, v1, v2, v3, v4 => spec_beNotes.d1 N v0 v1 v2 v3 v4 ((fun w0 w1 w2 w3 w4 => spec_beNotes.l1 N n w0 w1 w2 w3 w4))
theorem spec_beNotes.loop58 (N : Nat) : ∀ n, (∀ (v0 : List ByteArray) (v1 : ByteArray) (v2 : List Int) (v3 : Int) (v4 : Int), iter (loopF spec_beNotes.C (spec_beNotes.O N) N spec_beNotes.c116 58) n (mkSt [(0, .one (.sl false 9 v0)), (5, .one (.str v1)), (10, .one (.sl true 3 v2)), (11, .one (.int .i64 v3)), (12, .one (.int .i64 v4))] [] : St D0) (spec_beNotes.K58 N) = spec_beNotes.l1 N n v0 v1 v2 v3 v4)
  | 0 => (fun v0 v1 v2 v3 v4 => rfl)
  | n + 1 => (fun v0 v1 v2 v3 v4 => (spec_beNotes.d1.run N (fun s => iter (loopF spec_beNotes.C (spec_beNotes.O N) N spec_beNotes.c116 58) n s (spec_beNotes.K58 N)) v0 v1 v2 v3 v4).trans (show _ = spec_beNotes.d1 N v0 v1 v2 v3 v4 ((fun w0 w1 w2 w3 w4 => spec_beNotes.l1 N n w0 w1 w2 w3 w4)) from (congr rfl (funext fun w0 => funext fun w1 => funext fun w2 => funext fun w3 => funext fun w4 => (spec_beNotes.loop58 N n) w0 w1 w2 w3 w4))))
noncomputable def spec_beNotes.o0 (N : Nat) (a0 : List ByteArray) (a1 : Int) (c1 : (List ByteArray) → ByteArray → (List Int) → Int → Int → Option spec_beNotes.R) : Option spec_beNotes.R :=
 (spec_bePlays.g N a0 a1).bind fun r1 =>
 c1 a0 (⟨#[]⟩ : ByteArray) r1 (r1.length : Int) 0
theorem spec_beNotes.o0.run (N : Nat) (H116 : Code) (a0 : List ByteArray) (a1 : Int) : runC spec_beNotes.C (spec_beNotes.O N) N (.seq spec_beNotes.c2 (.seq spec_beNotes.c6 (.seq (.seq spec_beNotes.c28 (.block 0 (.loop H116))) spec_beNotes.c15))) 1 (st0 [.one (.sl false 9 a0), .one (.int .i64 a1)] [] : St D0) spec_beNotes.K0 = spec_beNotes.o0 N a0 a1 ((fun w0 w1 w2 w3 w4 => iter (loopF spec_beNotes.C (spec_beNotes.O N) N H116 58) N (mkSt [(0, .one (.sl false 9 w0)), (5, .one (.str w1)), (10, .one (.sl true 3 w2)), (11, .one (.int .i64 w3)), (12, .one (.int .i64 w4))] [] : St D0) (blockK 0 (onN (fun s => spec_beNotes.C.tidy 14 s (fun s' => runC spec_beNotes.C (spec_beNotes.O N) N spec_beNotes.c15 15 s' spec_beNotes.K0)) spec_beNotes.K0)))) := by kernel_rfl
noncomputable def spec_beNotes.g (N : Nat) (a0 : List ByteArray) (a1 : Int) : Option spec_beNotes.R := spec_beNotes.o0 N a0 a1 ((fun w0 w1 w2 w3 w4 => spec_beNotes.l1 N N w0 w1 w2 w3 w4))
theorem spec_beNotes.c1_0 : spec_beNotes.c1 = (.seq spec_beNotes.c2 (.seq spec_beNotes.c6 (.seq (.seq spec_beNotes.c28 (.block 0 (.loop spec_beNotes.c116))) spec_beNotes.c15))) := by kernel_rfl
theorem spec_beNotes.g.run (N : Nat) (a0 : List ByteArray) (a1 : Int) : runC spec_beNotes.C (spec_beNotes.O N) N spec_beNotes.c1 1 (st0 [.one (.sl false 9 a0), .one (.int .i64 a1)] [] : St D0) spec_beNotes.K0 = spec_beNotes.g N a0 a1 := by
  rw [spec_beNotes.c1_0]; unfold spec_beNotes.g; exact (spec_beNotes.o0.run N spec_beNotes.c116 a0 a1).trans (congr rfl (funext fun w0 => funext fun w1 => funext fun w2 => funext fun w3 => funext fun w4 => (spec_beNotes.loop58 N N) w0 w1 w2 w3 w4))
theorem spec_beNotes.good (N : Nat) (a0 : List ByteArray) (a1 : Int) (r : spec_beNotes.R) (h : spec_beNotes.g N a0 a1 = some r) : Go.PM.Good Go.Proofs.Tryd.prog T0 38 [.one (.sl false 9 a0), .one (.int .i64 a1)] [] (spec_beNotes.sig.ret r) (spec_beNotes.sig.bs r) :=
  good_fn tabOk0 mixed0 spec_beNotes.sig (spec_beNotes.E N) Go.Proofs.Tryd.func38 (by kernel_rfl) (by kernel_rfl) 15539 0 0 [(58, [0, 5, 10, 11, 12], [])] 459520 false [] [(false, [.any])] (by kernel_rfl) rfl rfl ((spec_beNotes.g.run N a0 a1).trans h)
noncomputable def spec_beNotes.ent (N : Nat) : Ent Go.Proofs.Tryd.prog T0 := mkEnt 38 [(false, [.ro 9]), (false, [.any])] spec_beNotes.sig (fun t => spec_beNotes.g N t.1 t.2) (fun t r h => spec_beNotes.good N t.1 t.2 r h)
end Go.Proofs.YtpmipkbfohcjiaaDoor.M

namespace Go.Proofs.YtpmipkbfohcjiaaDoor.M
open Go Go.PM Go.Proofs.YtpmipkbfohcjiaaDoor.P
set_option linter.unusedVariables false
set_option maxRecDepth 100000
/-! ### impl_gcd -/
abbrev impl_gcd.R : Type := Int
abbrev impl_gcd.sig : Sig := ⟨[(false, 1), (false, 1)], [], [.int .i64, .int .i64], [(false, 1)], [], [.int .i64]⟩
noncomputable def impl_gcd.C : Cfg D0 := ⟨Go.Proofs.Tryd.prog, T0, 83, 0, 15, 0, [(12, [0, 1], [])], 6944, false, []⟩
noncomputable def impl_gcd.E (N : Nat) : List (Ent Go.Proofs.Tryd.prog T0) := []
noncomputable def impl_gcd.O (N : Nat) : Orc D0 impl_gcd.R := orcOf (impl_gcd.E N)
noncomputable def impl_gcd.K0 : Ex → St D0 → Option impl_gcd.R := exitK impl_gcd.C Go.Proofs.Tryd.f57.results.toList [(false, [.any])] (decOut impl_gcd.sig)
noncomputable def impl_gcd.c1 : Code := codeAt (Go.Proofs.Tryd.f57.body.getD .skip) []
noncomputable def impl_gcd.c2 : Code := codeAt (Go.Proofs.Tryd.f57.body.getD .skip) [false]
noncomputable def impl_gcd.c7 : Code := codeAt (Go.Proofs.Tryd.f57.body.getD .skip) [true, true]
noncomputable def impl_gcd.c24 : Code := codeAt (Go.Proofs.Tryd.f57.body.getD .skip) [true, false, false, false]
noncomputable def impl_gcd.K24 (N : Nat) (Kn12 : St D0 → Option impl_gcd.R) : Ex → St D0 → Option impl_gcd.R := ((fun up => (onN (fun s => impl_gcd.C.tidy 12 s ((onN Kn12 up) .normal)) (onN Kn12 up))) (blockK 0 (onN (fun s => impl_gcd.C.tidy 6 s (fun s' => runC impl_gcd.C (impl_gcd.O N) N impl_gcd.c7 7 s' impl_gcd.K0)) impl_gcd.K0)))
noncomputable def impl_gcd.o1 (N : Nat) (v0 : Int) (v1 : Int) (c1 : Int → Int → Option impl_gcd.R) : Option impl_gcd.R :=
 bif (v1 != 0) then
  bif (v1 == 0) then
   none
  else
  c1 v1 (Int.tmod v0 v1)
 else
 some ((if (w64 (0 - v0)) > v0 then (w64 (0 - v0)) else v0))
theorem impl_gcd.o1.run (N : Nat) (Kn12 : St D0 → Option impl_gcd.R) (v0 : Int) (v1 : Int) : runC impl_gcd.C (impl_gcd.O N) N impl_gcd.c24 24 (mkSt [(0, .one (.int .i64 v0)), (1, .one (.int .i64 v1))] [] : St D0) ((fun up => (onN (fun s => impl_gcd.C.tidy 12 s ((onN Kn12 up) .normal)) (onN Kn12 up))) (blockK 0 (onN (fun s => impl_gcd.C.tidy 6 s (fun s' => runC impl_gcd.C (impl_gcd.O N) N impl_gcd.c7 7 s' impl_gcd.K0)) impl_gcd.K0))) = impl_gcd.o1 N v0 v1 ((fun w0 w1 => Kn12 (mkSt [(0, .one (.int .i64 w0)), (1, .one (.int .i64 w1))] [] : St D0))) := by kernel_rfl
noncomputable def impl_gcd.d1 (N : Nat) (v0 : Int) (v1 : Int) (c1 : Int → Int → Option impl_gcd.R) : Option impl_gcd.R := impl_gcd.o1 N v0 v1 c1
theorem impl_gcd.d1.run (N : Nat) (Kn12 : St D0 → Option impl_gcd.R) (v0 : Int) (v1 : Int) : runC impl_gcd.C (impl_gcd.O N) N impl_gcd.c24 24 (mkSt [(0, .one (.int .i64 v0)), (1, .one (.int .i64 v1))] [] : St D0) (impl_gcd.K24 N Kn12) = impl_gcd.d1 N v0 v1 ((fun w0 w1 => Kn12 (mkSt [(0, .one (.int .i64 w0)), (1, .one (.int .i64 w1))] [] : St D0))) := by
  exact (impl_gcd.o1.run N Kn12 v0 v1).trans rfl
noncomputable def impl_gcd.K12 (N : Nat) : Ex → St D0 → Option impl_gcd.R := (blockK 0 (onN (fun s => impl_gcd.C.tidy 6 s (fun s' => runC impl_gcd.C (impl_gcd.O N) N impl_gcd.c7 7 s' impl_gcd.K0)) impl_gcd.K0))
noncomputable def impl_gcd.l1 (N : Nat) : Nat → Int → Int → Option impl_gcd.R
  | 0, _, _ => none
  | n + 1, v0, v1 => impl_gcd.d1 N v0 v1 ((fun w0 w1 => impl_gcd.l1 N n w0 w1))
theorem impl_gcd.loop12 (N : Nat) : ∀ n, (∀ (v0 : Int) (v1 : Int), iter (loopF impl_gcd.C (impl_gcd.O N) N impl_gcd.c24 12) n (mkSt [(0, .one (.int .i64 v0)), (1, .one (.int .i64 v1))] [] : St D0) (impl_gcd.K12 N) = impl_gcd.l1 N n v0 v1)
  | 0 => (fun v0 v1 => rfl)
  | n + 1 => (fun v0 v1 => (impl_gcd.d1.run N (fun s => iter (loopF impl_gcd.C (impl_gcd.O N) N impl_gcd.c24 12) n s (impl_gcd.K12 N)) v0 v1).trans (show _ = impl_gcd.d1 N v0 v1 ((fun w0 w1 => impl_gcd.l1 N n w0 w1)) from (congr rfl (funext fun w0 => funext fun w1 => (impl_gcd.loop12 N n) w0 w1))))
noncomputable def impl_gcd.o0 (N : Nat) (a0 : Int) (a1 : Int) (c1 : Int → Int → Option impl_gcd.R) : Option impl_gcd.R :=
 c1 a0 a1
theorem impl_gcd.o0.run (N : Nat) (H24 : Code) (a0 : Int) (a1 : Int) : runC impl_gcd.C (impl_gcd.O N) N (.seq impl_gcd.c2 (.seq (.block 0 (.loop H24)) impl_gcd.c7)) 1 (st0 [.one (.int .i64 a0), .one (.int .i64 a1)] [] : St D0) impl_gcd.K0 = impl_gcd.o0 N a0 a1 ((fun w0 w1 => iter (loopF impl_gcd.C (impl_gcd.O N) N H24 12) N (mkSt [(0, .one (.int .i64 w0)), (1, .one (.int .i64 w1))] [] : St D0) (blockK 0 (onN (fun s => impl_gcd.C.tidy 6 s (fun s' => runC impl_gcd.C (impl_gcd.O N) N impl_gcd.c7 7 s' impl_gcd.K0)) impl_gcd.K0)))) := by kernel_rfl
noncomputable def impl_gcd.g (N : Nat) (a0 : Int) (a1 : Int) : Option impl_gcd.R := impl_gcd.o0 N a0 a1 ((fun w0 w1 => impl_gcd.l1 N N w0 w1))
theorem impl_gcd.c1_0 : impl_gcd.c1 = (.seq impl_gcd.c2 (.seq (.block 0 (.loop impl_gcd.c24)) impl_gcd.c7)) := by kernel_rfl
theorem impl_gcd.g.run (N : Nat) (a0 : Int) (a1 : Int) : runC impl_gcd.C (impl_gcd.O N) N impl_gcd.c1 1 (st0 [.one (.int .i64 a0), .one (.int .i64 a1)] [] : St D0) impl_gcd.K0 = impl_gcd.g N a0 a1 := by
  rw [impl_gcd.c1_0]; unfold impl_gcd.g; exact (impl_gcd.o0.run N impl_gcd.c24 a0 a1).trans (congr rfl (funext fun w0 => funext fun w1 => (impl_gcd.loop12 N N) w0 w1))
theorem impl_gcd.good (N : Nat) (a0 : Int) (a1 : Int) (r : impl_gcd.R) (h : impl_gcd.g N a0 a1 = some r) : Go.PM.Good Go.Proofs.Tryd.prog T0 57 [.one (.int .i64 a0), .one (.int .i64 a1)] [] (impl_gcd.sig.ret r) (impl_gcd.sig.bs r) :=
  good_fn tabOk0 mixed0 impl_gcd.sig (impl_gcd.E N) Go.Proofs.Tryd.func57 (by kernel_rfl) (by kernel_rfl) 83 0 0 [(12, [0, 1], [])] 6944 false [] [(false, [.any])] (by kernel_rfl) rfl rfl ((impl_gcd.g.run N a0 a1).trans h)
noncomputable def impl_gcd.ent (N : Nat) : Ent Go.Proofs.Tryd.prog T0 := mkEnt 57 [(false, [.any]), (false, [.any])] impl_gcd.sig (fun t => impl_gcd.g N t.1 t.2) (fun t r h => impl_gcd.good N t.1 t.2 r h)
end Go.Proofs.YtpmipkbfohcjiaaDoor.M

namespace Go.Proofs.YtpmipkbfohcjiaaDoor.M
open Go Go.PM Go.Proofs.YtpmipkbfohcjiaaDoor.P
set_option linter.unusedVariables false
set_option maxRecDepth 100000
/-! ### impl_hours -/
abbrev impl_hours.R : Type := Int
abbrev impl_hours.sig : Sig := ⟨[(false, 1)], [], [.sl false 9], [(false, 1)], [], [.int .i64]⟩
noncomputable def impl_hours.C : Cfg D0 := ⟨Go.Proofs.Tryd.prog, T0, 5, 0, 9, 0, [], 40, false, []⟩
noncomputable def impl_hours.E (N : Nat) : List (Ent Go.Proofs.Tryd.prog T0) := [impl_gcd.ent N]
noncomputable def impl_hours.O (N : Nat) : Orc D0 impl_hours.R := orcOf (impl_hours.E N)
noncomputable def impl_hours.K0 : Ex → St D0 → Option impl_hours.R := exitK impl_hours.C Go.Proofs.Tryd.f35.results.toList [(false, [.any])] (decOut impl_hours.sig)
noncomputable def impl_hours.c1 : Code := codeAt (Go.Proofs.Tryd.f35.body.getD .skip) []
noncomputable def impl_hours.o0 (N : Nat) (a0 : List ByteArray) : Option impl_hours.R :=
 (impl_gcd.g N (a0.length : Int) 10).bind fun r1 =>
 bif (r1 == 0) then
  none
 else
 some ((w64 (Int.tdiv (a0.length : Int) r1)))
theorem impl_hours.o0.run (N : Nat) (a0 : List ByteArray) : runC impl_hours.C (impl_hours.O N) N impl_hours.c1 1 (st0 [.one (.sl false 9 a0)] [] : St D0) impl_hours.K0 = impl_hours.o0 N a0 := by kernel_rfl
noncomputable def impl_hours.g (N : Nat) (a0 : List ByteArray) : Option impl_hours.R := impl_hours.o0 N a0
theorem impl_hours.g.run (N : Nat) (a0 : List ByteArray) : runC impl_hours.C (impl_hours.O N) N impl_hours.c1 1 (st0 [.one (.sl false 9 a0)] [] : St D0) impl_hours.K0 = impl_hours.g N a0 := by
  exact (impl_hours.o0.run N a0).trans rfl
theorem impl_hours.good (N : Nat) (a0 : List ByteArray) (r : impl_hours.R) (h : impl_hours.g N a0 = some r) : Go.PM.Good Go.Proofs.Tryd.prog T0 35 [.one (.sl false 9 a0)] [] (impl_hours.sig.ret r) (impl_hours.sig.bs r) :=
  good_fn tabOk0 mixed0 impl_hours.sig (impl_hours.E N) Go.Proofs.Tryd.func35 (by kernel_rfl) (by kernel_rfl) 5 0 0 [] 40 false [] [(false, [.any])] (by kernel_rfl) rfl rfl ((impl_hours.g.run N a0).trans h)
noncomputable def impl_hours.ent (N : Nat) : Ent Go.Proofs.Tryd.prog T0 := mkEnt 35 [(false, [.ro 9])] impl_hours.sig (fun t => impl_hours.g N t) (fun t r h => impl_hours.good N t r h)
end Go.Proofs.YtpmipkbfohcjiaaDoor.M

namespace Go.Proofs.YtpmipkbfohcjiaaDoor.M
open Go Go.PM Go.Proofs.YtpmipkbfohcjiaaDoor.P
set_option linter.unusedVariables false
set_option maxRecDepth 100000
/-! ### spec_diCommon -/
abbrev spec_diCommon.R : Type := Int
abbrev spec_diCommon.sig : Sig := ⟨[(false, 1), (false, 1)], [], [.int .i64, .int .i64], [(false, 1)], [], [.int .i64]⟩
noncomputable def spec_diCommon.C : Cfg D0 := ⟨Go.Proofs.Tryd.prog, T0, 83, 0, 12, 0, [(12, [0, 1], [])], 800, false, []⟩
noncomputable def spec_diCommon.E (N : Nat) : List (Ent Go.Proofs.Tryd.prog T0) := []
noncomputable def spec_diCommon.O (N : Nat) : Orc D0 spec_diCommon.R := orcOf (spec_diCommon.E N)
noncomputable def spec_diCommon.K0 : Ex → St D0 → Option spec_diCommon.R := exitK spec_diCommon.C Go.Proofs.Tryd.f59.results.toList [(false, [.any])] (decOut spec_diCommon.sig)
noncomputable def spec_diCommon.c1 : Code := codeAt (Go.Proofs.Tryd.f59.body.getD .skip) []
noncomputable def spec_diCommon.c2 : Code := codeAt (Go.Proofs.Tryd.f59.body.getD .skip) [false]
noncomputable def spec_diCommon.c7 : Code := codeAt (Go.Proofs.Tryd.f59.body.getD .skip) [true, true]
noncomputable def spec_diCommon.c24 : Code := codeAt (Go.Proofs.Tryd.f59.body.getD .skip) [true, false, false, false]
noncomputable def spec_diCommon.K24 (N : Nat) (Kn12 : St D0 → Option spec_diCommon.R) : Ex → St D0 → Option spec_diCommon.R := ((fun up => (onN (fun s => spec_diCommon.C.tidy 12 s ((onN Kn12 up) .normal)) (onN Kn12 up))) (blockK 0 (onN (fun s => spec_diCommon.C.tidy 6 s (fun s' => runC spec_diCommon.C (spec_diCommon.O N) N spec_diCommon.c7 7 s' spec_diCommon.K0)) spec_diCommon.K0)))
noncomputable def spec_diCommon.o1 (N : Nat) (v0 : Int) (v1 : Int) (c1 : Int → Int → Option spec_diCommon.R) : Option spec_diCommon.R :=
 bif (decide (v1 > 0)) then
  bif (v1 == 0) then
   none
  else
  c1 v1 (Int.tmod v0 v1)
 else
 some (v0)
theorem spec_diCommon.o1.run (N : Nat) (Kn12 : St D0 → Option spec_diCommon.R) (v0 : Int) (v1 : Int) : runC spec_diCommon.C (spec_diCommon.O N) N spec_diCommon.c24 24 (mkSt [(0, .one (.int .i64 v0)), (1, .one (.int .i64 v1))] [] : St D0) ((fun up => (onN (fun s => spec_diCommon.C.tidy 12 s ((onN Kn12 up) .normal)) (onN Kn12 up))) (blockK 0 (onN (fun s => spec_diCommon.C.tidy 6 s (fun s' => runC spec_diCommon.C (spec_diCommon.O N) N spec_diCommon.c7 7 s' spec_diCommon.K0)) spec_diCommon.K0))) = spec_diCommon.o1 N v0 v1 ((fun w0 w1 => Kn12 (mkSt [(0, .one (.int .i64 w0)), (1, .one (.int .i64 w1))] [] : St D0))) := by kernel_rfl
noncomputable def spec_diCommon.d1 (N : Nat) (v0 : Int) (v1 : Int) (c1 : Int → Int → Option spec_diCommon.R) : Option spec_diCommon.R := spec_diCommon.o1 N v0 v1 c1
theorem spec_diCommon.d1.run (N : Nat) (Kn12 : St D0 → Option spec_diCommon.R) (v0 : Int) (v1 : Int) : runC spec_diCommon.C (spec_diCommon.O N) N spec_diCommon.c24 24 (mkSt [(0, .one (.int .i64 v0)), (1, .one (.int .i64 v1))] [] : St D0) (spec_diCommon.K24 N Kn12) = spec_diCommon.d1 N v0 v1 ((fun w0 w1 => Kn12 (mkSt [(0, .one (.int .i64 w0)), (1, .one (.int .i64 w1))] [] : St D0))) := by
  exact (spec_diCommon.o1.run N Kn12 v0 v1).trans rfl
noncomputable def spec_diCommon.K12 (N : Nat) : Ex → St D0 → Option spec_diCommon.R := (blockK 0 (onN (fun s => spec_diCommon.C.tidy 6 s (fun s' => runC spec_diCommon.C (spec_diCommon.O N) N spec_diCommon.c7 7 s' spec_diCommon.K0)) spec_diCommon.K0))
noncomputable def spec_diCommon.l1 (N : Nat) : Nat → Int → Int → Option spec_diCommon.R
  | 0, _, _ => none
  | n + 1, v0, v1 => spec_diCommon.d1 N v0 v1 ((fun w0 w1 => spec_diCommon.l1 N n w0 w1))
theorem spec_diCommon.loop12 (N : Nat) : ∀ n, (∀ (v0 : Int) (v1 : Int), iter (loopF spec_diCommon.C (spec_diCommon.O N) N spec_diCommon.c24 12) n (mkSt [(0, .one (.int .i64 v0)), (1, .one (.int .i64 v1))] [] : St D0) (spec_diCommon.K12 N) = spec_diCommon.l1 N n v0 v1)
  | 0 => (fun v0 v1 => rfl)
  | n + 1 => (fun v0 v1 => (spec_diCommon.d1.run N (fun s => iter (loopF spec_diCommon.C (spec_diCommon.O N) N spec_diCommon.c24 12) n s (spec_diCommon.K12 N)) v0 v1).trans (show _ = spec_diCommon.d1 N v0 v1 ((fun w0 w1 => spec_diCommon.l1 N n w0 w1)) from (congr rfl (funext fun w0 => funext fun w1 => (spec_diCommon.loop12 N n) w0 w1))))
noncomputable def spec_diCommon.o0 (N : Nat) (a0 : Int) (a1 : Int) (c1 : Int → Int → Option spec_diCommon.R) : Option spec_diCommon.R :=
 c1 a0 a1
theorem spec_diCommon.o0.run (N : Nat) (H24 : Code) (a0 : Int) (a1 : Int) : runC spec_diCommon.C (spec_diCommon.O N) N (.seq spec_diCommon.c2 (.seq (.block 0 (.loop H24)) spec_diCommon.c7)) 1 (st0 [.one (.int .i64 a0), .one (.int .i64 a1)] [] : St D0) spec_diCommon.K0 = spec_diCommon.o0 N a0 a1 ((fun w0 w1 => iter (loopF spec_diCommon.C (spec_diCommon.O N) N H24 12) N (mkSt [(0, .one (.int .i64 w0)), (1, .one (.int .i64 w1))] [] : St D0) (blockK 0 (onN (fun s => spec_diCommon.C.tidy 6 s (fun s' => runC spec_diCommon.C (spec_diCommon.O N) N spec_diCommon.c7 7 s' spec_diCommon.K0)) spec_diCommon.K0)))) := by kernel_rfl
noncomputable def spec_diCommon.g (N : Nat) (a0 : Int) (a1 : Int) : Option spec_diCommon.R := spec_diCommon.o0 N a0 a1 ((fun w0 w1 => spec_diCommon.l1 N N w0 w1))
theorem spec_diCommon.c1_0 : spec_diCommon.c1 = (.seq spec_diCommon.c2 (.seq (.block 0 (.loop spec_diCommon.c24)) spec_diCommon.c7)) := by kernel_rfl
theorem spec_diCommon.g.run (N : Nat) (a0 : Int) (a1 : Int) : runC spec_diCommon.C (spec_diCommon.O N) N spec_diCommon.c1 1 (st0 [.one (.int .i64 a0), .one (.int .i64 a1)] [] : St D0) spec_diCommon.K0 = spec_diCommon.g N a0 a1 := by
  rw [spec_diCommon.c1_0]; unfold spec_diCommon.g; exact (spec_diCommon.o0.run N spec_diCommon.c24 a0 a1).trans (congr rfl (funext fun w0 => funext fun w1 => (spec_diCommon.loop12 N N) w0 w1))
theorem spec_diCommon.good (N : Nat) (a0 : Int) (a1 : Int) (r : spec_diCommon.R) (h : spec_diCommon.g N a0 a1 = some r) : Go.PM.Good Go.Proofs.Tryd.prog T0 59 [.one (.int .i64 a0), .one (.int .i64 a1)] [] (spec_diCommon.sig.ret r) (spec_diCommon.sig.bs r) :=
  good_fn tabOk0 mixed0 spec_diCommon.sig (spec_diCommon.E N) Go.Proofs.Tryd.func59 (by kernel_rfl) (by kernel_rfl) 83 0 0 [(12, [0, 1], [])] 800 false [] [(false, [.any])] (by kernel_rfl) rfl rfl ((spec_diCommon.g.run N a0 a1).trans h)
noncomputable def spec_diCommon.ent (N : Nat) : Ent Go.Proofs.Tryd.prog T0 := mkEnt 59 [(false, [.any]), (false, [.any])] spec_diCommon.sig (fun t => spec_diCommon.g N t.1 t.2) (fun t r h => spec_diCommon.good N t.1 t.2 r h)
end Go.Proofs.YtpmipkbfohcjiaaDoor.M

namespace Go.Proofs.YtpmipkbfohcjiaaDoor.M
open Go Go.PM Go.Proofs.YtpmipkbfohcjiaaDoor.P
set_option linter.unusedVariables false
set_option maxRecDepth 100000
/-! ### spec_beHours -/
abbrev spec_beHours.R : Type := Int
abbrev spec_beHours.sig : Sig := ⟨[(false, 1)], [], [.sl false 9], [(false, 1)], [], [.int .i64]⟩
noncomputable def spec_beHours.C : Cfg D0 := ⟨Go.Proofs.Tryd.prog, T0, 5, 0, 9, 0, [], 40, false, []⟩
noncomputable def spec_beHours.E (N : Nat) : List (Ent Go.Proofs.Tryd.prog T0) := [spec_diCommon.ent N]
noncomputable def spec_beHours.O (N : Nat) : Orc D0 spec_beHours.R := orcOf (spec_beHours.E N)
noncomputable def spec_beHours.K0 : Ex → St D0 → Option spec_beHours.R := exitK spec_beHours.C Go.Proofs.Tryd.f37.results.toList [(false, [.any])] (decOut spec_beHours.sig)
noncomputable def spec_beHours.c1 : Code := codeAt (Go.Proofs.Tryd.f37.body.getD .skip) []
noncomputable def spec_beHours.o0 (N : Nat) (a0 : List ByteArray) : Option spec_beHours.R :=
 (spec_diCommon.g N (a0.length : Int) 10).bind fun r1 =>
 bif (r1 == 0) then
  none
 else
 some ((w64 (Int.tdiv (a0.length : Int) r1)))
theorem spec_beHours.o0.run (N : Nat) (a0 : List ByteArray) : runC spec_beHours.C (spec_beHours.O N) N spec_beHours.c1 1 (st0 [.one (.sl false 9 a0)] [] : St D0) spec_beHours.K0 = spec_beHours.o0 N a0 := by kernel_rfl
noncomputable def spec_beHours.g (N : Nat) (a0 : List ByteArray) : Option spec_beHours.R := spec_beHours.o0 N a0
theorem spec_beHours.g.run (N : Nat) (a0 : List ByteArray) : runC spec_beHours.C (spec_beHours.O N) N spec_beHours.c1 1 (st0 [.one (.sl false 9 a0)] [] : St D0) spec_beHours.K0 = spec_beHours.g N a0 := by
  exact (spec_beHours.o0.run N a0).trans rfl
theorem spec_beHours.good (N : Nat) (a0 : List ByteArray) (r : spec_beHours.R) (h : spec_beHours.g N a0 = some r) : Go.PM.Good Go.Proofs.Tryd.prog T0 37 [.one (.sl false 9 a0)] [] (spec_beHours.sig.ret r) (spec_beHours.sig.bs r) :=
  good_fn tabOk0 mixed0 spec_beHours.sig (spec_beHours.E N) Go.Proofs.Tryd.func37 (by kernel_rfl) (by kernel_rfl) 5 0 0 [] 40 false [] [(false, [.any])] (by kernel_rfl) rfl rfl ((spec_beHours.g.run N a0).trans h)
noncomputable def spec_beHours.ent (N : Nat) : Ent Go.Proofs.Tryd.prog T0 := mkEnt 37 [(false, [.ro 9])] spec_beHours.sig (fun t => spec_beHours.g N t) (fun t r h => spec_beHours.good N t r h)
end Go.Proofs.YtpmipkbfohcjiaaDoor.M

namespace Go.Proofs.YtpmipkbfohcjiaaDoor.M
open Go Go.PM Go.Proofs.YtpmipkbfohcjiaaDoor.P
set_option linter.unusedVariables false
set_option maxRecDepth 100000
/-! ### impl_PlayedAt -/
abbrev impl_PlayedAt.R : Type := ByteArray × Bool
abbrev impl_PlayedAt.sig : Sig := ⟨[(false, 1), (false, 1)], [], [.sl false 9, .int .i64], [(false, 1), (false, 1)], [], [.str, .bool]⟩
noncomputable def impl_PlayedAt.C : Cfg D0 := ⟨Go.Proofs.Tryd.prog, T0, 563, 0, 13, 0, [], 3264, false, []⟩
noncomputable def impl_PlayedAt.E (N : Nat) : List (Ent Go.Proofs.Tryd.prog T0) := [impl_isQuarter.ent N, impl_notes.ent N]
noncomputable def impl_PlayedAt.O (N : Nat) : Orc D0 impl_PlayedAt.R := orcOf (impl_PlayedAt.E N)
noncomputable def impl_PlayedAt.K0 : Ex → St D0 → Option impl_PlayedAt.R := exitK impl_PlayedAt.C Go.Proofs.Tryd.f17.results.toList [(false, [.any]), (false, [.any])] (decOut impl_PlayedAt.sig)
noncomputable def impl_PlayedAt.c1 : Code := codeAt (Go.Proofs.Tryd.f17.body.getD .skip) []
noncomputable def impl_PlayedAt.o0 (N : Nat) (a0 : List ByteArray) (a1 : Int) : Option impl_PlayedAt.R :=
 (impl_isQuarter.g N a0 a1).bind fun r1 =>
 bif (!r1) then
  some ((⟨#[]⟩ : ByteArray), false)
 else
 (impl_notes.g N a0 a1).bind fun r2 =>
 some (r2, true)
theorem impl_PlayedAt.o0.run (N : Nat) (a0 : List ByteArray) (a1 : Int) : runC impl_PlayedAt.C (impl_PlayedAt.O N) N impl_PlayedAt.c1 1 (st0 [.one (.sl false 9 a0), .one (.int .i64 a1)] [] : St D0) impl_PlayedAt.K0 = impl_PlayedAt.o0 N a0 a1 := by kernel_rfl
noncomputable def impl_PlayedAt.g (N : Nat) (a0 : List ByteArray) (a1 : Int) : Option impl_PlayedAt.R := impl_PlayedAt.o0 N a0 a1
theorem impl_PlayedAt.g.run (N : Nat) (a0 : List ByteArray) (a1 : Int) : runC impl_PlayedAt.C (impl_PlayedAt.O N) N impl_PlayedAt.c1 1 (st0 [.one (.sl false 9 a0), .one (.int .i64 a1)] [] : St D0) impl_PlayedAt.K0 = impl_PlayedAt.g N a0 a1 := by
  exact (impl_PlayedAt.o0.run N a0 a1).trans rfl
theorem impl_PlayedAt.good (N : Nat) (a0 : List ByteArray) (a1 : Int) (r : impl_PlayedAt.R) (h : impl_PlayedAt.g N a0 a1 = some r) : Go.PM.Good Go.Proofs.Tryd.prog T0 17 [.one (.sl false 9 a0), .one (.int .i64 a1)] [] (impl_PlayedAt.sig.ret r) (impl_PlayedAt.sig.bs r) :=
  good_fn tabOk0 mixed0 impl_PlayedAt.sig (impl_PlayedAt.E N) Go.Proofs.Tryd.func17 (by kernel_rfl) (by kernel_rfl) 563 0 0 [] 3264 false [] [(false, [.any]), (false, [.any])] (by kernel_rfl) rfl rfl ((impl_PlayedAt.g.run N a0 a1).trans h)
noncomputable def impl_PlayedAt.ent (N : Nat) : Ent Go.Proofs.Tryd.prog T0 := mkEnt 17 [(false, [.ro 9]), (false, [.any])] impl_PlayedAt.sig (fun t => impl_PlayedAt.g N t.1 t.2) (fun t r h => impl_PlayedAt.good N t.1 t.2 r h)
end Go.Proofs.YtpmipkbfohcjiaaDoor.M

namespace Go.Proofs.YtpmipkbfohcjiaaDoor.M
open Go Go.PM Go.Proofs.YtpmipkbfohcjiaaDoor.P
set_option linter.unusedVariables false
set_option maxRecDepth 100000
/-! ### impl_HoursUntilSame -/
abbrev impl_HoursUntilSame.R : Type := Int × Bool
abbrev impl_HoursUntilSame.sig : Sig := ⟨[(false, 1)], [], [.sl false 9], [(false, 1), (false, 1)], [], [.int .i64, .bool]⟩
noncomputable def impl_HoursUntilSame.C : Cfg D0 := ⟨Go.Proofs.Tryd.prog, T0, 77, 0, 9, 0, [], 144, false, []⟩
noncomputable def impl_HoursUntilSame.E (N : Nat) : List (Ent Go.Proofs.Tryd.prog T0) := [impl_IsTune.ent N, impl_hours.ent N]
noncomputable def impl_HoursUntilSame.O (N : Nat) : Orc D0 impl_HoursUntilSame.R := orcOf (impl_HoursUntilSame.E N)
noncomputable def impl_HoursUntilSame.K0 : Ex → St D0 → Option impl_HoursUntilSame.R := exitK impl_HoursUntilSame.C Go.Proofs.Tryd.f16.results.toList [(false, [.any]), (false, [.any])] (decOut impl_HoursUntilSame.sig)
noncomputable def impl_HoursUntilSame.c1 : Code := codeAt (Go.Proofs.Tryd.f16.body.getD .skip) []
noncomputable def impl_HoursUntilSame.o0 (N : Nat) (a0 : List ByteArray) : Option impl_HoursUntilSame.R :=
 (impl_IsTune.g N a0).bind fun r1 =>
 bif (!r1) then
  some (0, false)
 else
 (impl_hours.g N a0).bind fun r2 =>
 some (r2, true)
theorem impl_HoursUntilSame.o0.run (N : Nat) (a0 : List ByteArray) : runC impl_HoursUntilSame.C (impl_HoursUntilSame.O N) N impl_HoursUntilSame.c1 1 (st0 [.one (.sl false 9 a0)] [] : St D0) impl_HoursUntilSame.K0 = impl_HoursUntilSame.o0 N a0 := by kernel_rfl
noncomputable def impl_HoursUntilSame.g (N : Nat) (a0 : List ByteArray) : Option impl_HoursUntilSame.R := impl_HoursUntilSame.o0 N a0
theorem impl_HoursUntilSame.g.run (N : Nat) (a0 : List ByteArray) : runC impl_HoursUntilSame.C (impl_HoursUntilSame.O N) N impl_HoursUntilSame.c1 1 (st0 [.one (.sl false 9 a0)] [] : St D0) impl_HoursUntilSame.K0 = impl_HoursUntilSame.g N a0 := by
  exact (impl_HoursUntilSame.o0.run N a0).trans rfl
theorem impl_HoursUntilSame.good (N : Nat) (a0 : List ByteArray) (r : impl_HoursUntilSame.R) (h : impl_HoursUntilSame.g N a0 = some r) : Go.PM.Good Go.Proofs.Tryd.prog T0 16 [.one (.sl false 9 a0)] [] (impl_HoursUntilSame.sig.ret r) (impl_HoursUntilSame.sig.bs r) :=
  good_fn tabOk0 mixed0 impl_HoursUntilSame.sig (impl_HoursUntilSame.E N) Go.Proofs.Tryd.func16 (by kernel_rfl) (by kernel_rfl) 77 0 0 [] 144 false [] [(false, [.any]), (false, [.any])] (by kernel_rfl) rfl rfl ((impl_HoursUntilSame.g.run N a0).trans h)
noncomputable def impl_HoursUntilSame.ent (N : Nat) : Ent Go.Proofs.Tryd.prog T0 := mkEnt 16 [(false, [.ro 9])] impl_HoursUntilSame.sig (fun t => impl_HoursUntilSame.g N t) (fun t r h => impl_HoursUntilSame.good N t r h)
end Go.Proofs.YtpmipkbfohcjiaaDoor.M

namespace Go.Proofs.YtpmipkbfohcjiaaDoor.M
open Go Go.PM Go.Proofs.YtpmipkbfohcjiaaDoor.P
set_option linter.unusedVariables false
set_option maxRecDepth 100000
/-! ### laws_kHas -/
abbrev laws_kHas.R : Type := Bool
abbrev laws_kHas.sig : Sig := ⟨[(false, 1), (false, 1)], [], [.sl false 3, .int .i64], [(false, 1)], [], [.bool]⟩
noncomputable def laws_kHas.C : Cfg D0 := ⟨Go.Proofs.Tryd.prog, T0, 34771, 0, 17, 0, [(26, [1, 7, 8, 9], [])], 24576, false, []⟩
noncomputable def laws_kHas.E (N : Nat) : List (Ent Go.Proofs.Tryd.prog T0) := []
noncomputable def laws_kHas.O (N : Nat) : Orc D0 laws_kHas.R := orcOf (laws_kHas.E N)
noncomputable def laws_kHas.K0 : Ex → St D0 → Option laws_kHas.R := exitK laws_kHas.C Go.Proofs.Tryd.f18.results.toList [(false, [.any])] (decOut laws_kHas.sig)
noncomputable def laws_kHas.c1 : Code := codeAt (Go.Proofs.Tryd.f18.body.getD .skip) []
noncomputable def laws_kHas.c2 : Code := codeAt (Go.Proofs.Tryd.f18.body.getD .skip) [false]
noncomputable def laws_kHas.c7 : Code := codeAt (Go.Proofs.Tryd.f18.body.getD .skip) [true, true]
noncomputable def laws_kHas.c12 : Code := codeAt (Go.Proofs.Tryd.f18.body.getD .skip) [true, false, false]
noncomputable def laws_kHas.c52 : Code := codeAt (Go.Proofs.Tryd.f18.body.getD .skip) [true, false, true, false, false]
noncomputable def laws_kHas.K52 (N : Nat) (Kn26 : St D0 → Option laws_kHas.R) : Ex → St D0 → Option laws_kHas.R := ((fun up => (onN (fun s => laws_kHas.C.tidy 26 s ((onN Kn26 up) .normal)) (onN Kn26 up))) (blockK 0 (onN (fun s => laws_kHas.C.tidy 6 s (fun s' => runC laws_kHas.C (laws_kHas.O N) N laws_kHas.c7 7 s' laws_kHas.K0)) laws_kHas.K0)))
noncomputable def laws_kHas.o1 (N : Nat) (v0 : Int) (v1 : List Int) (v2 : Int) (v3 : Int) (c1 : Int → (List Int) → Int → Int → Option laws_kHas.R) : Option laws_kHas.R :=
 bif (decide (v3 < v2)) then
  bif (decide (0 ≤ v3)) then
   bif (decide (v3 < (v1.length : Int))) then
    (v1[(v3 : Int).toNat]?).bind fun x1 =>
    bif (x1 == v0) then
     some (true)
    else
    c1 v0 v1 v2 (w64 (v3 + 1))
   else
   none
  else
  none
 else
 some (false)
theorem laws_kHas.o1.run (N : Nat) (Kn26 : St D0 → Option laws_kHas.R) (v0 : Int) (v1 : List Int) (v2 : Int) (v3 : Int) : runC laws_kHas.C (laws_kHas.O N) N laws_kHas.c52 52 (mkSt [(1, .one (.int .i64 v0)), (7, .one (.sl false 3 v1)), (8, .one (.int .i64 v2)), (9, .one (.int .i64 v3))] [] : St D0) ((fun up => (onN (fun s => laws_kHas.C.tidy 26 s ((onN Kn26 up) .normal)) (onN Kn26 up))) (blockK 0 (onN (fun s => laws_kHas.C.tidy 6 s (fun s' => runC laws_kHas.C (laws_kHas.O N) N laws_kHas.c7 7 s' laws_kHas.K0)) laws_kHas.K0))) = laws_kHas.o1 N v0 v1 v2 v3 ((fun w0 w1 w2 w3 => Kn26 (mkSt [(1, .one (.int .i64 w0)), (7, .one (.sl false 3 w1)), (8, .one (.int .i64 w2)), (9, .one (.int .i64 w3))] [] : St D0))) := by kernel_rfl
noncomputable def laws_kHas.d1 (N : Nat) (v0 : Int) (v1 : List Int) (v2 : Int) (v3 : Int) (c1 : Int → (List Int) → Int → Int → Option laws_kHas.R) : Option laws_kHas.R := laws_kHas.o1 N v0 v1 v2 v3 c1
theorem laws_kHas.d1.run (N : Nat) (Kn26 : St D0 → Option laws_kHas.R) (v0 : Int) (v1 : List Int) (v2 : Int) (v3 : Int) : runC laws_kHas.C (laws_kHas.O N) N laws_kHas.c52 52 (mkSt [(1, .one (.int .i64 v0)), (7, .one (.sl false 3 v1)), (8, .one (.int .i64 v2)), (9, .one (.int .i64 v3))] [] : St D0) (laws_kHas.K52 N Kn26) = laws_kHas.d1 N v0 v1 v2 v3 ((fun w0 w1 w2 w3 => Kn26 (mkSt [(1, .one (.int .i64 w0)), (7, .one (.sl false 3 w1)), (8, .one (.int .i64 w2)), (9, .one (.int .i64 w3))] [] : St D0))) := by
  exact (laws_kHas.o1.run N Kn26 v0 v1 v2 v3).trans rfl
noncomputable def laws_kHas.K26 (N : Nat) : Ex → St D0 → Option laws_kHas.R := (blockK 0 (onN (fun s => laws_kHas.C.tidy 6 s (fun s' => runC laws_kHas.C (laws_kHas.O N) N laws_kHas.c7 7 s' laws_kHas.K0)) laws_kHas.K0))
noncomputable def laws_kHas.l1 (N : Nat) : Nat → Int → (List Int) → Int → Int → Option laws_kHas.R
  | 0, _, _, _, _ => none
  | n + 1, v0, v1, v2, v3 => laws_kHas.d1 N v0 v1 v2 v3 ((fun w0 w1 w2 w3 => laws_kHas.l1 N n w0 w1 w2 w3))
theorem laws_kHas.loop26 (N : Nat) : ∀ n, (∀ (v0 : Int) (v1 : List Int) (v2 : Int) (v3 : Int), iter (loopF laws_kHas.C (laws_kHas.O N) N laws_kHas.c52 26) n (mkSt [(1, .one (.int .i64 v0)), (7, .one (.sl false 3 v1)), (8, .one (.int .i64 v2)), (9, .one (.int .i64 v3))] [] : St D0) (laws_kHas.K26 N) = laws_kHas.l1 N n v0 v1 v2 v3)
  | 0 => (fun v0 v1 v2 v3 => rfl)
  | n + 1 => (fun v0 v1 v2 v3 => (laws_kHas.d1.run N (fun s => iter (loopF laws_kHas.C (laws_kHas.O N) N laws_kHas.c52 26) n s (laws_kHas.K26 N)) v0 v1 v2 v3).trans (show _ = laws_kHas.d1 N v0 v1 v2 v3 ((fun w0 w1 w2 w3 => laws_kHas.l1 N n w0 w1 w2 w3)) from (congr rfl (funext fun w0 => funext fun w1 => funext fun w2 => funext fun w3 => (laws_kHas.loop26 N n) w0 w1 w2 w3))))
noncomputable def laws_kHas.o0 (N : Nat) (a0 : List Int) (a1 : Int) (c1 : Int → (List Int) → Int → Int → Option laws_kHas.R) : Option laws_kHas.R :=
 c1 a1 a0 (a0.length : Int) 0
theorem laws_kHas.o0.run (N : Nat) (H52 : Code) (a0 : List Int) (a1 : Int) : runC laws_kHas.C (laws_kHas.O N) N (.seq laws_kHas.c2 (.seq (.seq laws_kHas.c12 (.block 0 (.loop H52))) laws_kHas.c7)) 1 (st0 [.one (.sl false 3 a0), .one (.int .i64 a1)] [] : St D0) laws_kHas.K0 = laws_kHas.o0 N a0 a1 ((fun w0 w1 w2 w3 => iter (loopF laws_kHas.C (laws_kHas.O N) N H52 26) N (mkSt [(1, .one (.int .i64 w0)), (7, .one (.sl false 3 w1)), (8, .one (.int .i64 w2)), (9, .one (.int .i64 w3))] [] : St D0) (blockK 0 (onN (fun s => laws_kHas.C.tidy 6 s (fun s' => runC laws_kHas.C (laws_kHas.O N) N laws_kHas.c7 7 s' laws_kHas.K0)) laws_kHas.K0)))) := by kernel_rfl
noncomputable def laws_kHas.g (N : Nat) (a0 : List Int) (a1 : Int) : Option laws_kHas.R := laws_kHas.o0 N a0 a1 ((fun w0 w1 w2 w3 => laws_kHas.l1 N N w0 w1 w2 w3))
theorem laws_kHas.c1_0 : laws_kHas.c1 = (.seq laws_kHas.c2 (.seq (.seq laws_kHas.c12 (.block 0 (.loop laws_kHas.c52))) laws_kHas.c7)) := by kernel_rfl
theorem laws_kHas.g.run (N : Nat) (a0 : List Int) (a1 : Int) : runC laws_kHas.C (laws_kHas.O N) N laws_kHas.c1 1 (st0 [.one (.sl false 3 a0), .one (.int .i64 a1)] [] : St D0) laws_kHas.K0 = laws_kHas.g N a0 a1 := by
  rw [laws_kHas.c1_0]; unfold laws_kHas.g; exact (laws_kHas.o0.run N laws_kHas.c52 a0 a1).trans (congr rfl (funext fun w0 => funext fun w1 => funext fun w2 => funext fun w3 => (laws_kHas.loop26 N N) w0 w1 w2 w3))
theorem laws_kHas.good (N : Nat) (a0 : List Int) (a1 : Int) (r : laws_kHas.R) (h : laws_kHas.g N a0 a1 = some r) : Go.PM.Good Go.Proofs.Tryd.prog T0 18 [.one (.sl false 3 a0), .one (.int .i64 a1)] [] (laws_kHas.sig.ret r) (laws_kHas.sig.bs r) :=
  good_fn tabOk0 mixed0 laws_kHas.sig (laws_kHas.E N) Go.Proofs.Tryd.func18 (by kernel_rfl) (by kernel_rfl) 34771 0 0 [(26, [1, 7, 8, 9], [])] 24576 false [] [(false, [.any])] (by kernel_rfl) rfl rfl ((laws_kHas.g.run N a0 a1).trans h)
noncomputable def laws_kHas.ent (N : Nat) : Ent Go.Proofs.Tryd.prog T0 := mkEnt 18 [(false, [.ro 3]), (false, [.any])] laws_kHas.sig (fun t => laws_kHas.g N t.1 t.2) (fun t r h => laws_kHas.good N t.1 t.2 r h)
end Go.Proofs.YtpmipkbfohcjiaaDoor.M

namespace Go.Proofs.YtpmipkbfohcjiaaDoor.M
open Go Go.PM Go.Proofs.YtpmipkbfohcjiaaDoor.P
set_option linter.unusedVariables false
set_option maxRecDepth 100000
/-! ### laws_kTexts -/
abbrev laws_kTexts.R : Type := Bool
abbrev laws_kTexts.sig : Sig := ⟨[(false, 1), (false, 1)], [], [.sl false 9, .sl false 9], [(false, 1)], [], [.bool]⟩
noncomputable def laws_kTexts.C : Cfg D0 := ⟨Go.Proofs.Tryd.prog, T0, 16806963, 0, 26, 0, [(58, [0, 1, 12, 13], [])], 3344704, false, []⟩
noncomputable def laws_kTexts.E (N : Nat) : List (Ent Go.Proofs.Tryd.prog T0) := []
noncomputable def laws_kTexts.O (N : Nat) : Orc D0 laws_kTexts.R := orcOf (laws_kTexts.E N)
noncomputable def laws_kTexts.K0 : Ex → St D0 → Option laws_kTexts.R := exitK laws_kTexts.C Go.Proofs.Tryd.f14.results.toList [(false, [.any])] (decOut laws_kTexts.sig)
noncomputable def laws_kTexts.c1 : Code := codeAt (Go.Proofs.Tryd.f14.body.getD .skip) []
noncomputable def laws_kTexts.c2 : Code := codeAt (Go.Proofs.Tryd.f14.body.getD .skip) [false]
noncomputable def laws_kTexts.c6 : Code := codeAt (Go.Proofs.Tryd.f14.body.getD .skip) [true, false]
noncomputable def laws_kTexts.c15 : Code := codeAt (Go.Proofs.Tryd.f14.body.getD .skip) [true, true, true]
noncomputable def laws_kTexts.c28 : Code := codeAt (Go.Proofs.Tryd.f14.body.getD .skip) [true, true, false, false]
noncomputable def laws_kTexts.c116 : Code := codeAt (Go.Proofs.Tryd.f14.body.getD .skip) [true, true, false, true, false, false]
noncomputable def laws_kTexts.K116 (N : Nat) (Kn58 : St D0 → Option laws_kTexts.R) : Ex → St D0 → Option laws_kTexts.R := ((fun up => (onN (fun s => laws_kTexts.C.tidy 58 s ((onN Kn58 up) .normal)) (onN Kn58 up))) (blockK 0 (onN (fun s => laws_kTexts.C.tidy 14 s (fun s' => runC laws_kTexts.C (laws_kTexts.O N) N laws_kTexts.c15 15 s' laws_kTexts.K0)) laws_kTexts.K0)))
noncomputable def laws_kTexts.o1 (N : Nat) (v0 : List ByteArray) (v1 : List ByteArray) (v2 : Int) (v3 : Int) (c1 : (List ByteArray) → (List ByteArray) → Int → Int → Option laws_kTexts.R) : Option laws_kTexts.R :=
 bif (decide (v3 < v2)) then
  bif (decide (0 ≤ v3)) then
   bif (decide (v3 < (v0.length : Int))) then
    (v0[(v3 : Int).toNat]?).bind fun x1 =>
    bif (decide (0 ≤ v3)) then
     bif (decide (v3 < (v1.length : Int))) then
      (v1[(v3 : Int).toNat]?).bind fun x2 =>
      bif (!(x1.toList == x2.toList)) then
       some (false)
      else
      c1 v0 v1 v2 (w64 (v3 + 1))
     else
     none
    else
    none
   else
   none
  else
  none
 else
 some (true)
theorem laws_kTexts.o1.run (N : Nat) (Kn58 : St D0 → Option laws_kTexts.R) (v0 : List ByteArray) (v1 : List ByteArray) (v2 : Int) (v3 : Int) : runC laws_kTexts.C (laws_kTexts.O N) N laws_kTexts.c116 116 (mkSt [(0, .one (.sl false 9 v0)), (1, .one (.sl false 9 v1)), (12, .one (.int .i64 v2)), (13, .one (.int .i64 v3))] [] : St D0) ((fun up => (onN (fun s => laws_kTexts.C.tidy 58 s ((onN Kn58 up) .normal)) (onN Kn58 up))) (blockK 0 (onN (fun s => laws_kTexts.C.tidy 14 s (fun s' => runC laws_kTexts.C (laws_kTexts.O N) N laws_kTexts.c15 15 s' laws_kTexts.K0)) laws_kTexts.K0))) = laws_kTexts.o1 N v0 v1 v2 v3 ((fun w0 w1 w2 w3 => Kn58 (mkSt [(0, .one (.sl false 9 w0)), (1, .one (.sl false 9 w1)), (12, .one (.int .i64 w2)), (13, .one (.int .i64 w3))] [] : St D0))) := by kernel_rfl
noncomputable def laws_kTexts.d1 (N : Nat) (v0 : List ByteArray) (v1 : List ByteArray) (v2 : Int) (v3 : Int) (c1 : (List ByteArray) → (List ByteArray) → Int → Int → Option laws_kTexts.R) : Option laws_kTexts.R := laws_kTexts.o1 N v0 v1 v2 v3 c1
theorem laws_kTexts.d1.run (N : Nat) (Kn58 : St D0 → Option laws_kTexts.R) (v0 : List ByteArray) (v1 : List ByteArray) (v2 : Int) (v3 : Int) : runC laws_kTexts.C (laws_kTexts.O N) N laws_kTexts.c116 116 (mkSt [(0, .one (.sl false 9 v0)), (1, .one (.sl false 9 v1)), (12, .one (.int .i64 v2)), (13, .one (.int .i64 v3))] [] : St D0) (laws_kTexts.K116 N Kn58) = laws_kTexts.d1 N v0 v1 v2 v3 ((fun w0 w1 w2 w3 => Kn58 (mkSt [(0, .one (.sl false 9 w0)), (1, .one (.sl false 9 w1)), (12, .one (.int .i64 w2)), (13, .one (.int .i64 w3))] [] : St D0))) := by
  exact (laws_kTexts.o1.run N Kn58 v0 v1 v2 v3).trans rfl
noncomputable def laws_kTexts.K58 (N : Nat) : Ex → St D0 → Option laws_kTexts.R := (blockK 0 (onN (fun s => laws_kTexts.C.tidy 14 s (fun s' => runC laws_kTexts.C (laws_kTexts.O N) N laws_kTexts.c15 15 s' laws_kTexts.K0)) laws_kTexts.K0))
noncomputable def laws_kTexts.l1 (N : Nat) : Nat → (List ByteArray) → (List ByteArray) → Int → Int → Option laws_kTexts.R
  | 0, _, _, _, _ => none
  | n + 1, v0, v1, v2, v3 => laws_kTexts.d1 N v0 v1 v2 v3 ((fun w0 w1 w2 w3 => laws_kTexts.l1 N n w0 w1 w2 w3))
theorem laws_kTexts.loop58 (N : Nat) : ∀ n, (∀ (v0 : List ByteArray) (v1 : List ByteArray) (v2 : Int) (v3 : Int), iter (loopF laws_kTexts.C (laws_kTexts.O N) N laws_kTexts.c116 58) n (mkSt [(0, .one (.sl false 9 v0)), (1, .one (.sl false 9 v1)), (12, .one (.int .i64 v2)), (13, .one (.int .i64 v3))] [] : St D0) (laws_kTexts.K58 N) = laws_kTexts.l1 N n v0 v1 v2 v3)
  | 0 => (fun v0 v1 v2 v3 => rfl)
  | n + 1 => (fun v0 v1 v2 v3 => (laws_kTexts.d1.run N (fun s => iter (loopF laws_kTexts.C (laws_kTexts.O N) N laws_kTexts.c116 58) n s (laws_kTexts.K58 N)) v0 v1 v2 v3).trans (show _ = laws_kTexts.d1 N v0 v1 v2 v3 ((fun w0 w1 w2 w3 => laws_kTexts.l1 N n w0 w1 w2 w3)) from (congr rfl (funext fun w0 => funext fun w1 => funext fun w2 => funext fun w3 => (laws_kTexts.loop58 N n) w0 w1 w2 w3))))
noncomputable def laws_kTexts.o0 (N : Nat) (a0 : List ByteArray) (a1 : List ByteArray) (c1 : (List ByteArray) → (List ByteArray) → Int → Int → Option laws_kTexts.R) : Option laws_kTexts.R :=
 bif ((a0.length : Int) != (a1.length : Int)) then
  some (false)
 else
 c1 a0 a1 (a0.length : Int) 0
theorem laws_kTexts.o0.run (N : Nat) (H116 : Code) (a0 : List ByteArray) (a1 : List ByteArray) : runC laws_kTexts.C (laws_kTexts.O N) N (.seq laws_kTexts.c2 (.seq laws_kTexts.c6 (.seq (.seq laws_kTexts.c28 (.block 0 (.loop H116))) laws_kTexts.c15))) 1 (st0 [.one (.sl false 9 a0), .one (.sl false 9 a1)] [] : St D0) laws_kTexts.K0 = laws_kTexts.o0 N a0 a1 ((fun w0 w1 w2 w3 => iter (loopF laws_kTexts.C (laws_kTexts.O N) N H116 58) N (mkSt [(0, .one (.sl false 9 w0)), (1, .one (.sl false 9 w1)), (12, .one (.int .i64 w2)), (13, .one (.int .i64 w3))] [] : St D0) (blockK 0 (onN (fun s => laws_kTexts.C.tidy 14 s (fun s' => runC laws_kTexts.C (laws_kTexts.O N) N laws_kTexts.c15 15 s' laws_kTexts.K0)) laws_kTexts.K0)))) := by kernel_rfl
noncomputable def laws_kTexts.g (N : Nat) (a0 : List ByteArray) (a1 : List ByteArray) : Option laws_kTexts.R := laws_kTexts.o0 N a0 a1 ((fun w0 w1 w2 w3 => laws_kTexts.l1 N N w0 w1 w2 w3))
theorem laws_kTexts.c1_0 : laws_kTexts.c1 = (.seq laws_kTexts.c2 (.seq laws_kTexts.c6 (.seq (.seq laws_kTexts.c28 (.block 0 (.loop laws_kTexts.c116))) laws_kTexts.c15))) := by kernel_rfl
theorem laws_kTexts.g.run (N : Nat) (a0 : List ByteArray) (a1 : List ByteArray) : runC laws_kTexts.C (laws_kTexts.O N) N laws_kTexts.c1 1 (st0 [.one (.sl false 9 a0), .one (.sl false 9 a1)] [] : St D0) laws_kTexts.K0 = laws_kTexts.g N a0 a1 := by
  rw [laws_kTexts.c1_0]; unfold laws_kTexts.g; exact (laws_kTexts.o0.run N laws_kTexts.c116 a0 a1).trans (congr rfl (funext fun w0 => funext fun w1 => funext fun w2 => funext fun w3 => (laws_kTexts.loop58 N N) w0 w1 w2 w3))
theorem laws_kTexts.good (N : Nat) (a0 : List ByteArray) (a1 : List ByteArray) (r : laws_kTexts.R) (h : laws_kTexts.g N a0 a1 = some r) : Go.PM.Good Go.Proofs.Tryd.prog T0 14 [.one (.sl false 9 a0), .one (.sl false 9 a1)] [] (laws_kTexts.sig.ret r) (laws_kTexts.sig.bs r) :=
  good_fn tabOk0 mixed0 laws_kTexts.sig (laws_kTexts.E N) Go.Proofs.Tryd.func14 (by kernel_rfl) (by kernel_rfl) 16806963 0 0 [(58, [0, 1, 12, 13], [])] 3344704 false [] [(false, [.any])] (by kernel_rfl) rfl rfl ((laws_kTexts.g.run N a0 a1).trans h)
noncomputable def laws_kTexts.ent (N : Nat) : Ent Go.Proofs.Tryd.prog T0 := mkEnt 14 [(false, [.ro 9]), (false, [.ro 9])] laws_kTexts.sig (fun t => laws_kTexts.g N t.1 t.2) (fun t r h => laws_kTexts.good N t.1 t.2 r h)
end Go.Proofs.YtpmipkbfohcjiaaDoor.M

namespace Go.Proofs.YtpmipkbfohcjiaaDoor.M
open Go Go.PM Go.Proofs.YtpmipkbfohcjiaaDoor.P
set_option linter.unusedVariables false
set_option maxRecDepth 100000
/-! ### impl_quartersOf -/
abbrev impl_quartersOf.R : Type := List Int
abbrev impl_quartersOf.sig : Sig := ⟨[(false, 1), (false, 1)], [], [.sl false 9, .sl false 9], [(false, 1)], [], [.sl true 3]⟩
noncomputable def impl_quartersOf.C : Cfg D0 := ⟨Go.Proofs.Tryd.prog, T0, 34361762803, 0, 42, 0, [(58, [0, 1, 5, 13, 14], []), (59802, [0, 1, 5, 6, 7, 13, 14, 17, 18, 19], [])], 2617247744, false, []⟩
noncomputable def impl_quartersOf.E (N : Nat) : List (Ent Go.Proofs.Tryd.prog T0) := [impl_hours.ent N, impl_notes.ent N]
noncomputable def impl_quartersOf.O (N : Nat) : Orc D0 impl_quartersOf.R := orcOf (impl_quartersOf.E N)
noncomputable def impl_quartersOf.K0 : Ex → St D0 → Option impl_quartersOf.R := exitK impl_quartersOf.C Go.Proofs.Tryd.f31.results.toList [(false, [.own 3])] (decOut impl_quartersOf.sig)
noncomputable def impl_quartersOf.c1 : Code := codeAt (Go.Proofs.Tryd.f31.body.getD .skip) []
noncomputable def impl_quartersOf.c2 : Code := codeAt (Go.Proofs.Tryd.f31.body.getD .skip) [false]
noncomputable def impl_quartersOf.c6 : Code := codeAt (Go.Proofs.Tryd.f31.body.getD .skip) [true, false]
noncomputable def impl_quartersOf.c15 : Code := codeAt (Go.Proofs.Tryd.f31.body.getD .skip) [true, true, true]
noncomputable def impl_quartersOf.c28 : Code := codeAt (Go.Proofs.Tryd.f31.body.getD .skip) [true, true, false, false]
noncomputable def impl_quartersOf.c116 : Code := codeAt (Go.Proofs.Tryd.f31.body.getD .skip) [true, true, false, true, false, false]
noncomputable def impl_quartersOf.c232 : Code := codeAt (Go.Proofs.Tryd.f31.body.getD .skip) [true, true, false, true, false, false, false]
noncomputable def impl_quartersOf.c466 : Code := codeAt (Go.Proofs.Tryd.f31.body.getD .skip) [true, true, false, true, false, false, true, false]
noncomputable def impl_quartersOf.c935 : Code := codeAt (Go.Proofs.Tryd.f31.body.getD .skip) [true, true, false, true, false, false, true, true, true]
noncomputable def impl_quartersOf.c3736 : Code := codeAt (Go.Proofs.Tryd.f31.body.getD .skip) [true, true, false, true, false, false, true, true, false, false, false]
noncomputable def impl_quartersOf.c7474 : Code := codeAt (Go.Proofs.Tryd.f31.body.getD .skip) [true, true, false, true, false, false, true, true, false, false, true, false]
noncomputable def impl_quartersOf.c14951 : Code := codeAt (Go.Proofs.Tryd.f31.body.getD .skip) [true, true, false, true, false, false, true, true, false, false, true, true, true]
noncomputable def impl_quartersOf.c29900 : Code := codeAt (Go.Proofs.Tryd.f31.body.getD .skip) [true, true, false, true, false, false, true, true, false, false, true, true, false, false]
noncomputable def impl_quartersOf.c119604 : Code := codeAt (Go.Proofs.Tryd.f31.body.getD .skip) [true, true, false, true, false, false, true, true, false, false, true, true, false, true, false, false]
noncomputable def impl_quartersOf.K119604 (N : Nat) (Kn58 : St D0 → Option impl_quartersOf.R) (Kn59802 : St D0 → Option impl_quartersOf.R) : Ex → St D0 → Option impl_quartersOf.R := ((fun up => (onN (fun s => impl_quartersOf.C.tidy 59802 s ((onN Kn59802 up) .normal)) (onN Kn59802 up))) (blockK 2 ((fun up => (onN (fun s => impl_quartersOf.C.tidy 14950 s (fun s' => runC impl_quartersOf.C (impl_quartersOf.O N) N impl_quartersOf.c14951 14951 s' up)) up)) (blockK 1 ((fun up => (onN (fun s => impl_quartersOf.C.tidy 934 s (fun s' => runC impl_quartersOf.C (impl_quartersOf.O N) N impl_quartersOf.c935 935 s' up)) up)) ((fun up => (onN (fun s => impl_quartersOf.C.tidy 58 s ((onN Kn58 up) .normal)) (onN Kn58 up))) (blockK 0 (onN (fun s => impl_quartersOf.C.tidy 14 s (fun s' => runC impl_quartersOf.C (impl_quartersOf.O N) N impl_quartersOf.c15 15 s' impl_quartersOf.K0)) impl_quartersOf.K0))))))))
noncomputable def impl_quartersOf.o2 (N : Nat) (v0 : List ByteArray) (v1 : List ByteArray) (v2 : List Int) (v3 : Int) (v4 : Bool) (v5 : Int) (v6 : Int) (v7 : List ByteArray) (v8 : Int) (v9 : Int) (c2 : (List ByteArray) → (List ByteArray) → (List Int) → Int → Bool → Int → Int → (List ByteArray) → Int → Int → Option impl_quartersOf.R) (c1 : (List ByteArray) → (List ByteArray) → (List Int) → Int → Int → Option impl_quartersOf.R) : Option impl_quartersOf.R :=
 bif (decide (v9 < v8)) then
  bif (decide (0 ≤ v9)) then
   bif (decide (v9 < (v7.length : Int))) then
    (v7[(v9 : Int).toNat]?).bind fun x1 =>
    bif v4 then
     (impl_notes.g N v0 (w64 (v3 + v9))).bind fun r2 =>
     c2 v0 v1 v2 v3 (r2.toList == x1.toList) v5 v6 v7 v8 (w64 (v9 + 1))
    else
    c2 v0 v1 v2 v3 false v5 v6 v7 v8 (w64 (v9 + 1))
   else
   none
  else
  none
 else
 bif v4 then
  bif (Nat.blt (v2.length + ([v3] : List Int).length) 17592186044416) then
   c1 v0 v1 (v2 ++ ([v3] : List Int)) v5 (w64 (v6 + 1))
  else
  none
 else
 c1 v0 v1 v2 v5 (w64 (v6 + 1))
theorem impl_quartersOf.o2.run (N : Nat) (Kn58 : St D0 → Option impl_quartersOf.R) (Kn59802 : St D0 → Option impl_quartersOf.R) (v0 : List ByteArray) (v1 : List ByteArray) (v2 : List Int) (v3 : Int) (v4 : Bool) (v5 : Int) (v6 : Int) (v7 : List ByteArray) (v8 : Int) (v9 : Int) : runC impl_quartersOf.C (impl_quartersOf.O N) N impl_quartersOf.c119604 119604 (mkSt [(0, .one (.sl false 9 v0)), (1, .one (.sl false 9 v1)), (5, .one (.sl true 3 v2)), (6, .one (.int .i64 v3)), (7, .one (.bool v4)), (13, .one (.int .i64 v5)), (14, .one (.int .i64 v6)), (17, .one (.sl false 9 v7)), (18, .one (.int .i64 v8)), (19, .one (.int .i64 v9))] [] : St D0) ((fun up => (onN (fun s => impl_quartersOf.C.tidy 59802 s ((onN Kn59802 up) .normal)) (onN Kn59802 up))) (blockK 2 ((fun up => (onN (fun s => impl_quartersOf.C.tidy 14950 s (fun s' => runC impl_quartersOf.C (impl_quartersOf.O N) N impl_quartersOf.c14951 14951 s' up)) up)) (blockK 1 ((fun up => (onN (fun s => impl_quartersOf.C.tidy 934 s (fun s' => runC impl_quartersOf.C (impl_quartersOf.O N) N impl_quartersOf.c935 935 s' up)) up)) ((fun up => (onN (fun s => impl_quartersOf.C.tidy 58 s ((onN Kn58 up) .normal)) (onN Kn58 up))) (blockK 0 (onN (fun s => impl_quartersOf.C.tidy 14 s (fun s' => runC impl_quartersOf.C (impl_quartersOf.O N) N impl_quartersOf.c15 15 s' impl_quartersOf.K0)) impl_quartersOf.K0)))))))) = impl_quartersOf.o2 N v0 v1 v2 v3 v4 v5 v6 v7 v8 v9 ((fun w0 w1 w2 w3 w4 w5 w6 w7 w8 w9 => Kn59802 (mkSt [(0, .one (.sl false 9 w0)), (1, .one (.sl false 9 w1)), (5, .one (.sl true 3 w2)), (6, .one (.int .i64 w3)), (7, .one (.bool w4)), (13, .one (.int .i64 w5)), (14, .one (.int .i64 w6)), (17, .one (.sl false 9 w7)), (18, .one (.int .i64 w8)), (19, .one (.int .i64 w9))] [] : St D0))) ((fun w0 w1 w2 w3 w4 => Kn58 (mkSt [(0, .one (.sl false 9 w0)), (1, .one (.sl false 9 w1)), (5, .one (.sl true 3 w2)), (13, .one (.int .i64 w3)), (14, .one (.int .i64 w4))] [] : St D0))) := by kernel_rfl
noncomputable def impl_quartersOf.d2 (N : Nat) (v0 : List ByteArray) (v1 : List ByteArray) (v2 : List Int) (v3 : Int) (v4 : Bool) (v5 : Int) (v6 : Int) (v7 : List ByteArray) (v8 : Int) (v9 : Int) (c1 : (List ByteArray) → (List ByteArray) → (List Int) → Int → Int → Option impl_quartersOf.R) (c2 : (List ByteArray) → (List ByteArray) → (List Int) → Int → Bool → Int → Int → (List ByteArray) → Int → Int → Option impl_quartersOf.R) : Option impl_quartersOf.R := impl_quartersOf.o2 N v0 v1 v2 v3 v4 v5 v6 v7 v8 v9 c2 c1
theorem impl_quartersOf.d2.run (N : Nat) (Kn58 : St D0 → Option impl_quartersOf.R) (Kn59802 : St D0 → Option impl_quartersOf.R) (v0 : List ByteArray) (v1 : List ByteArray) (v2 : List Int) (v3 : Int) (v4 : Bool) (v5 : Int) (v6 : Int) (v7 : List ByteArray) (v8 : Int) (v9 : Int) : runC impl_quartersOf.C (impl_quartersOf.O N) N impl_quartersOf.c119604 119604 (mkSt [(0, .one (.sl false 9 v0)), (1, .one (.sl false 9 v1)), (5, .one (.sl true 3 v2)), (6, .one (.int .i64 v3)), (7, .one (.bool v4)), (13, .one (.int .i64 v5)), (14, .one (.int .i64 v6)), (17, .one (.sl false 9 v7)), (18, .one (.int .i64 v8)), (19, .one (.int .i64 v9))] [] : St D0) (impl_quartersOf.K119604 N Kn58 Kn59802) = impl_quartersOf.d2 N v0 v1 v2 v3 v4 v5 v6 v7 v8 v9 ((fun w0 w1 w2 w3 w4 => Kn58 (mkSt [(0, .one (.sl false 9 w0)), (1, .one (.sl false 9 w1)), (5, .one (.sl true 3 w2)), (13, .one (.int .i64 w3)), (14, .one (.int .i64 w4))] [] : St D0))) ((fun w0 w1 w2 w3 w4 w5 w6 w7 w8 w9 => Kn59802 (mkSt [(0, .one (.sl false 9 w0)), (1, .one (.sl false 9 w1)), (5, .one (.sl true 3 w2)), (6, .one (.int .i64 w3)), (7, .one (.bool w4)), (13, .one (.int .i64 w5)), (14, .one (.int .i64 w6)), (17, .one (.sl false 9 w7)), (18, .one (.int .i64 w8)), (19, .one (.int .i64 w9))] [] : St D0))) := by
  exact (impl_quartersOf.o2.run N Kn58 Kn59802 v0 v1 v2 v3 v4 v5 v6 v7 v8 v9).trans rfl
noncomputable def impl_quartersOf.K59802 (N : Nat) (Kn58 : St D0 → Option impl_quartersOf.R) : Ex → St D0 → Option impl_quartersOf.R := (blockK 2 ((fun up => (onN (fun s => impl_quartersOf.C.tidy 14950 s (fun s' => runC impl_quartersOf.C (impl_quartersOf.O N) N impl_quartersOf.c14951 14951 s' up)) up)) (blockK 1 ((fun up => (onN (fun s => impl_quartersOf.C.tidy 934 s (fun s' => runC impl_quartersOf.C (impl_quartersOf.O N) N impl_quartersOf.c935 935 s' up)) up)) ((fun up => (onN (fun s => impl_quartersOf.C.tidy 58 s ((onN Kn58 up) .normal)) (onN Kn58 up))) (blockK 0 (onN (fun s => impl_quartersOf.C.tidy 14 s (fun s' => runC impl_quartersOf.C (impl_quartersOf.O N) N impl_quartersOf.c15 15 s' impl_quartersOf.K0)) impl_quartersOf.K0)))))))
noncomputable def impl_quartersOf.l2 (N : Nat) : Nat → (List ByteArray) → (List ByteArray) → (List Int) → Int → Bool → Int → Int → (List ByteArray) → Int → Int → ((List ByteArray) → (List ByteArray) → (List Int) → Int → Int → Option impl_quartersOf.R) → Option impl_quartersOf.R
  | 0, _, _, _, _, _, _, _, _, _, _, _ => none
  | n + 1, v0, v1, v2, v3, v4, v5, v6, v7, v8, v9, c1 => impl_quartersOf.d2 N v0 v1 v2 v3 v4 v5 v6 v7 v8 v9 c1 ((fun w0 w1 w2 w3 w4 w5 w6 w7 w8 w9 => impl_quartersOf.l2 N n w0 w1 w2 w3 w4 w5 w6 w7 w8 w9 c1))
theorem impl_quartersOf.loop59802 (N : Nat) (Kn58 : St D0 → Option impl_quartersOf.R) : ∀ n, (∀ (v0 : List ByteArray) (v1 : List ByteArray) (v2 : List Int) (v3 : Int) (v4 : Bool) (v5 : Int) (v6 : Int) (v7 : List ByteArray) (v8 : Int) (v9 : Int), iter (loopF impl_quartersOf.C (impl_quartersOf.O N) N impl_quartersOf.c119604 59802) n (mkSt [(0, .one (.sl false 9 v0)), (1, .one (.sl false 9 v1)), (5, .one (.sl true 3 v2)), (6, .one (.int .i64 v3)), (7, .one (.bool v4)), (13, .one (.int .i64 v5)), (14, .one (.int .i64 v6)), (17, .one (.sl false 9 v7)), (18, .one (.int .i64 v8)), (19, .one (.int .i64 v9))] [] : St D0) (impl_quartersOf.K59802 N Kn58) = impl_quartersOf.l2 N n v0 v1 v2 v3 v4 v5 v6 v7 v8 v9 ((fun w0 w1 w2 w3 w4 => Kn58 (mkSt [(0, .one (.sl false 9 w0)), (1, .one (.sl false 9 w1)), (5, .one (.sl true 3 w2)), (13, .one (.int .i64 w3)), (14, .one (.int .i64 w4))] [] : St D0))))
  | 0 => (fun v0 v1 v2 v3 v4 v5 v6 v7 v8 v9 => rfl)
  | n + 1 => (fun v0 v1 v2 v3 v4 v5 v6 v7 v8 v9 => (impl_quartersOf.d2.run N Kn58 (fun s => iter (loopF impl_quartersOf.C (impl_quartersOf.O N) N impl_quartersOf.c119604 59802) n s (impl_quartersOf.K59802 N Kn58)) v0 v1 v2 v3 v4 v5 v6 v7 v8 v9).trans (show _ = impl_quartersOf.d2 N v0 v1 v2 v3 v4 v5 v6 v7 v8 v9 ((fun w0 w1 w2 w3 w4 => Kn58 (mkSt [(0, .one (.sl false 9 w0)), (1, .one (.sl false 9 w1)), (5, .one (.sl true 3 w2)), (13, .one (.int .i64 w3)), (14, .one (.int .i64 w4))] [] : St D0))) ((fun w0 w1 w2 w3 w4 w5 w6 w7 w8 w9 => impl_quartersOf.l2 N n w0 w1 w2 w3 w4 w5 w6 w7 w8 w9 ((fun w0 w1 w2 w3 w4 => Kn58 (mkSt [(0, .one (.sl false 9 w0)), (1, .one (.sl false 9 w1)), (5, .one (.sl true 3 w2)), (13, .one (.int .i64 w3)), (14, .one (.int .i64 w4))] [] : St D0))))) from (congr (congr rfl rfl) (funext fun w0 => funext fun w1 => funext fun w2 => funext fun w3 => funext fun w4 => funext fun w5 => funext fun w6 => funext fun w7 => funext fun w8 => funext fun w9 => (impl_quartersOf.loop59802 N Kn58 n) w0 w1 w2 w3 w4 w5 w6 w7 w8 w9))))
noncomputable def impl_quartersOf.K116 (N : Nat) (Kn58 : St D0 → Option impl_quartersOf.R) : Ex → St D0 → Option impl_quartersOf.R := ((fun up => (onN (fun s => impl_quartersOf.C.tidy 58 s ((onN Kn58 up) .normal)) (onN Kn58 up))) (blockK 0 (onN (fun s => impl_quartersOf.C.tidy 14 s (fun s' => runC impl_quartersOf.C (impl_quartersOf.O N) N impl_quartersOf.c15 15 s' impl_quartersOf.K0)) impl_quartersOf.K0)))
noncomputable def impl_quartersOf.o1 (N : Nat) (v0 : List ByteArray) (v1 : List ByteArray) (v2 : List Int) (v3 : Int) (v4 : Int) (c2 : (List ByteArray) → (List ByteArray) → (List Int) → Int → Bool → Int → Int → (List ByteArray) → Int → Int → Option impl_quartersOf.R) : Option impl_quartersOf.R :=
 bif (decide (v4 < v3)) then
  c2 v0 v1 v2 v4 true v3 v4 v1 (v1.length : Int) 0
 else
 some (v2)
theorem impl_quartersOf.o1.run (N : Nat) (Kn58 : St D0 → Option impl_quartersOf.R) (H119604 : Code) (v0 : List ByteArray) (v1 : List ByteArray) (v2 : List Int) (v3 : Int) (v4 : Int) : runC impl_quartersOf.C (impl_quartersOf.O N) N (.seq impl_quartersOf.c232 (.seq impl_quartersOf.c466 (.seq (.block 1 (.seq impl_quartersOf.c3736 (.seq impl_quartersOf.c7474 (.seq (.seq impl_quartersOf.c29900 (.block 2 (.loop H119604))) impl_quartersOf.c14951)))) impl_quartersOf.c935))) 116 (mkSt [(0, .one (.sl false 9 v0)), (1, .one (.sl false 9 v1)), (5, .one (.sl true 3 v2)), (13, .one (.int .i64 v3)), (14, .one (.int .i64 v4))] [] : St D0) ((fun up => (onN (fun s => impl_quartersOf.C.tidy 58 s ((onN Kn58 up) .normal)) (onN Kn58 up))) (blockK 0 (onN (fun s => impl_quartersOf.C.tidy 14 s (fun s' => runC impl_quartersOf.C (impl_quartersOf.O N) N impl_quartersOf.c15 15 s' impl_quartersOf.K0)) impl_quartersOf.K0))) = impl_quartersOf.o1 N v0 v1 v2 v3 v4 ((fun w0 w1 w2 w3 w4 w5 w6 w7 w8 w9 => iter (loopF impl_quartersOf.C (impl_quartersOf.O N) N H119604 59802) N (mkSt [(0, .one (.sl false 9 w0)), (1, .one (.sl false 9 w1)), (5, .one (.sl true 3 w2)), (6, .one (.int .i64 w3)), (7, .one (.bool w4)), (13, .one (.int .i64 w5)), (14, .one (.int .i64 w6)), (17, .one (.sl false 9 w7)), (18, .one (.int .i64 w8)), (19, .one (.int .i64 w9))] [] : St D0) (blockK 2 ((fun up => (onN (fun s => impl_quartersOf.C.tidy 14950 s (fun s' => runC impl_quartersOf.C (impl_quartersOf.O N) N impl_quartersOf.c14951 14951 s' up)) up)) (blockK 1 ((fun up => (onN (fun s => impl_quartersOf.C.tidy 934 s (fun s' => runC impl_quartersOf.C (impl_quartersOf.O N) N impl_quartersOf.c935 935 s' up)) up)) ((fun up => (onN (fun s => impl_quartersOf.C.tidy 58 s ((onN Kn58 up) .normal)) (onN Kn58 up))) (blockK 0 (onN (fun s => impl_quartersOf.C.tidy 14 s (fun s' => runC impl_quartersOf.C (impl_quartersOf.O N) N impl_quartersOf.c15 15 s' impl_quartersOf.K0)) impl_quartersOf.K0))))))))) := by kernel_rfl
noncomputable def impl_quartersOf.d1 (N : Nat) (v0 : List ByteArray) (v1 : List ByteArray) (v2 : List Int) (v3 : Int) (v4 : Int) (c1 : (List ByteArray) → (List ByteArray) → (List Int) → Int → Int → Option impl_quartersOf.R) : Option impl_quartersOf.R := impl_quartersOf.o1 N v0 v1 v2 v3 v4 ((fun w0 w1 w2 w3 w4 w5 w6 w7 w8 w9 => impl_quartersOf.l2 N N w0 w1 w2 w3 w4 w5 w6 w7 w8 w9 c1))
theorem impl_quartersOf.c116_1 : impl_quartersOf.c116 = (.seq impl_quartersOf.c232 (.seq impl_quartersOf.c466 (.seq (.block 1 (.seq impl_quartersOf.c3736 (.seq impl_quartersOf.c7474 (.seq (.seq impl_quartersOf.c29900 (.block 2 (.loop impl_quartersOf.c119604))) impl_quartersOf.c14951)))) impl_quartersOf.c935))) := by kernel_rfl
theorem impl_quartersOf.d1.run (N : Nat) (Kn58 : St D0 → Option impl_quartersOf.R) (v0 : List ByteArray) (v1 : List ByteArray) (v2 : List Int) (v3 : Int) (v4 : Int) : runC impl_quartersOf.C (impl_quartersOf.O N) N impl_quartersOf.c116 116 (mkSt [(0, .one (.sl false 9 v0)), (1, .one (.sl false 9 v1)), (5, .one (.sl true 3 v2)), (13, .one (.int .i64 v3)), (14, .one (.int .i64 v4))] [] : St D0) (impl_quartersOf.K116 N Kn58) = impl_quartersOf.d1 N v0 v1 v2 v3 v4 ((fun w0 w1 w2 w3 w4 => Kn58 (mkSt [(0, .one (.sl false 9 w0)), (1, .one (.sl false 9 w1)), (5, .one (.sl true 3 w2)), (13, .one (.int .i64 w3)), (14, .one (.int .i64 w4))] [] : St D0))) := by
  rw [impl_quartersOf.c116_1]; unfold impl_quartersOf.d1; exact (impl_quartersOf.o1.run N Kn58 impl_quartersOf.c119604 v0 v1 v2 v3 v4).trans (congr rfl (funext fun w0 => funext fun w1 => funext fun w2 => funext fun w3 => funext fun w4 => funext fun w5 => funext fun w6 => funext fun w7 => funext fun w8 => funext fun w9 => (impl_quartersOf.loop59802 N Kn58 N) w0 w1 w2 w3 w4 w5 w6 w7 w8 w9))
noncomputable def impl_quartersOf.K58 (N : Nat) : Ex → St D0 → Option impl_quartersOf.R := (blockK 0 (onN (fun s => impl_quartersOf.C.tidy 14 s (fun s' => runC impl_quartersOf.C (impl_quartersOf.O N) N impl_quartersOf.c15 15 s' impl_quartersOf.K0)) impl_quartersOf.K0))
noncomputable def impl_quartersOf.l1 (N : Nat) : Nat → (List ByteArray) → (List ByteArray) → (List Int) → Int → Int → Option impl_quartersOf.R
  | 0, _, _, _, _, _ => none
  | n + 1, v0, v1, v2, v3, v4 => impl_quartersOf.d1 N v0 v1 v2 v3 v4 ((fun w0 w1 w2 w3 w4 => impl_quartersOf.l1 N n w0 w1 w2 w3 w4))
theorem impl_quartersOf.loop58 (N : Nat) : ∀ n, (∀ (v0 : List ByteArray) (v1 : List ByteArray) (v2 : List Int) (v3 : Int) (v4 : Int), iter (loopF impl_quartersOf.C (impl_quartersOf.O N) N impl_quartersOf.c116 58) n (mkSt [(0, .one (.sl false 9 v0)), (1, .one (.sl false 9 v1)), (5, .one (.sl true 3 v2)), (13, .one (.int .i64 v3)), (14, .one (.int .i64 v4))] [] : St D0) (impl_quartersOf.K58 N) = impl_quartersOf.l1 N n v0 v1 v2 v3 v4)
  | 0 => (fun v0 v1 v2 v3 v4 => rfl)
  | n + 1 => (fun v0 v1 v2 v3 v4 => (impl_quartersOf.d1.run N (fun s => iter (loopF impl_quartersOf.C (impl_quartersOf.O N) N impl_quartersOf.c116 58) n s (impl_quartersOf.K58 N)) v0 v1 v2 v3 v4).trans (show _ = impl_quartersOf.d1 N v0 v1 v2 v3 v4 ((fun w0 w1 w2 w3 w4 => impl_quartersOf.l1 N n w0 w1 w2 w3 w4)) from (congr rfl (funext fun w0 => funext fun w1 => funext fun w2 => funext fun w3 => funext fun w4 => (impl_quartersOf.loop58 N n) w0 w1 w2 w3 w4))))
noncomputable def impl_quartersOf.o0 (N : Nat) (a0 : List ByteArray) (a1 : List ByteArray) (c1 : (List ByteArray) → (List ByteArray) → (List Int) → Int → Int → Option impl_quartersOf.R) : Option impl_quartersOf.R :=
 (impl_hours.g N a0).bind fun r1 =>
 c1 a0 a1 ([] : List Int) (w64 (4 * r1)) 0
theorem impl_quartersOf.o0.run (N : Nat) (H116 : Code) (a0 : List ByteArray) (a1 : List ByteArray) : runC impl_quartersOf.C (impl_quartersOf.O N) N (.seq impl_quartersOf.c2 (.seq impl_quartersOf.c6 (.seq (.seq impl_quartersOf.c28 (.block 0 (.loop H116))) impl_quartersOf.c15))) 1 (st0 [.one (.sl false 9 a0), .one (.sl false 9 a1)] [] : St D0) impl_quartersOf.K0 = impl_quartersOf.o0 N a0 a1 ((fun w0 w1 w2 w3 w4 => iter (loopF impl_quartersOf.C (impl_quartersOf.O N) N H116 58) N (mkSt [(0, .one (.sl false 9 w0)), (1, .one (.sl false 9 w1)), (5, .one (.sl true 3 w2)), (13, .one (.int .i64 w3)), (14, .one (.int .i64 w4))] [] : St D0) (blockK 0 (onN (fun s => impl_quartersOf.C.tidy 14 s (fun s' => runC impl_quartersOf.C (impl_quartersOf.O N) N impl_quartersOf.c15 15 s' impl_quartersOf.K0)) impl_quartersOf.K0)))) := by kernel_rfl
noncomputable def impl_quartersOf.g (N : Nat) (a0 : List ByteArray) (a1 : List ByteArray) : Option impl_quartersOf.R := impl_quartersOf.o0 N a0 a1 ((fun w0 w1 w2 w3 w4 => impl_quartersOf.l1 N N w0 w1 w2 w3 w4))
theorem impl_quartersOf.c1_0 : impl_quartersOf.c1 = (.seq impl_quartersOf.c2 (.seq impl_quartersOf.c6 (.seq (.seq impl_quartersOf.c28 (.block 0 (.loop impl_quartersOf.c116))) impl_quartersOf.c15))) := by kernel_rfl
theorem impl_quartersOf.g.run (N : Nat) (a0 : List ByteArray) (a1 : List ByteArray) : runC impl_quartersOf.C (impl_quartersOf.O N) N impl_quartersOf.c1 1 (st0 [.one (.sl false 9 a0), .one (.sl false 9 a1)] [] : St D0) impl_quartersOf.K0 = impl_quartersOf.g N a0 a1 := by
  rw [impl_quartersOf.c1_0]; unfold impl_quartersOf.g; exact (impl_quartersOf.o0.run N impl_quartersOf.c116 a0 a1).trans (congr rfl (funext fun w0 => funext fun w1 => funext fun w2 => funext fun w3 => funext fun w4 => (impl_quartersOf.loop58 N N) w0 w1 w2 w3 w4))
theorem impl_quartersOf.good (N : Nat) (a0 : List ByteArray) (a1 : List ByteArray) (r : impl_quartersOf.R) (h : impl_quartersOf.g N a0 a1 = some r) : Go.PM.Good Go.Proofs.Tryd.prog T0 31 [.one (.sl false 9 a0), .one (.sl false 9 a1)] [] (impl_quartersOf.sig.ret r) (impl_quartersOf.sig.bs r) :=
  good_fn tabOk0 mixed0 impl_quartersOf.sig (impl_quartersOf.E N) Go.Proofs.Tryd.func31 (by kernel_rfl) (by kernel_rfl) 34361762803 0 0 [(58, [0, 1, 5, 13, 14], []), (59802, [0, 1, 5, 6, 7, 13, 14, 17, 18, 19], [])] 2617247744 false [] [(false, [.own 3])] (by kernel_rfl) rfl rfl ((impl_quartersOf.g.run N a0 a1).trans h)
noncomputable def impl_quartersOf.ent (N : Nat) : Ent Go.Proofs.Tryd.prog T0 := mkEnt 31 [(false, [.ro 9]), (false, [.ro 9])] impl_quartersOf.sig (fun t => impl_quartersOf.g N t.1 t.2) (fun t r h => impl_quartersOf.good N t.1 t.2 r h)
end Go.Proofs.YtpmipkbfohcjiaaDoor.M

namespace Go.Proofs.YtpmipkbfohcjiaaDoor.M
open Go Go.PM Go.Proofs.YtpmipkbfohcjiaaDoor.P
set_option linter.unusedVariables false
set_option maxRecDepth 100000
/-! ### impl_QuartersOfHeard -/
abbrev impl_QuartersOfHeard.R : Type := List Int × Bool
abbrev impl_QuartersOfHeard.sig : Sig := ⟨[(false, 1), (false, 1)], [], [.sl false 9, .sl false 9], [(false, 1), (false, 1)], [], [.sl true 3, .bool]⟩
noncomputable def impl_QuartersOfHeard.C : Cfg D0 := ⟨Go.Proofs.Tryd.prog, T0, 16435, 0, 18, 0, [(12, [0, 1, 14], [])], 99392, false, []⟩
noncomputable def impl_QuartersOfHeard.E (N : Nat) : List (Ent Go.Proofs.Tryd.prog T0) := [impl_IsTune.ent N, impl_within.ent N, impl_quartersOf.ent N]
noncomputable def impl_QuartersOfHeard.O (N : Nat) : Orc D0 impl_QuartersOfHeard.R := orcOf (impl_QuartersOfHeard.E N)
noncomputable def impl_QuartersOfHeard.K0 : Ex → St D0 → Option impl_QuartersOfHeard.R := exitK impl_QuartersOfHeard.C Go.Proofs.Tryd.f5.results.toList [(false, [.own 3]), (false, [.any])] (decOut impl_QuartersOfHeard.sig)
noncomputable def impl_QuartersOfHeard.c1 : Code := codeAt (Go.Proofs.Tryd.f5.body.getD .skip) []
noncomputable def impl_QuartersOfHeard.c2 : Code := codeAt (Go.Proofs.Tryd.f5.body.getD .skip) [false]
noncomputable def impl_QuartersOfHeard.c7 : Code := codeAt (Go.Proofs.Tryd.f5.body.getD .skip) [true, true]
noncomputable def impl_QuartersOfHeard.c12 : Code := codeAt (Go.Proofs.Tryd.f5.body.getD .skip) [true, false, false]
noncomputable def impl_QuartersOfHeard.c13 : Code := codeAt (Go.Proofs.Tryd.f5.body.getD .skip) [true, false, true]
noncomputable def impl_QuartersOfHeard.K13 (N : Nat) : Ex → St D0 → Option impl_QuartersOfHeard.R := (onN (fun s => impl_QuartersOfHeard.C.tidy 6 s (fun s' => runC impl_QuartersOfHeard.C (impl_QuartersOfHeard.O N) N impl_QuartersOfHeard.c7 7 s' impl_QuartersOfHeard.K0)) impl_QuartersOfHeard.K0)
noncomputable def impl_QuartersOfHeard.o1 (N : Nat) (v0 : List ByteArray) (v1 : List ByteArray) (v2 : Bool) : Option impl_QuartersOfHeard.R :=
 bif v2 then
  some (([] : List Int), false)
 else
 (impl_quartersOf.g N v0 v1).bind fun r1 =>
 some (r1, true)
theorem impl_QuartersOfHeard.o1.run (N : Nat) (v0 : List ByteArray) (v1 : List ByteArray) (v2 : Bool) : runC impl_QuartersOfHeard.C (impl_QuartersOfHeard.O N) N impl_QuartersOfHeard.c13 13 (mkSt [(0, .one (.sl false 9 v0)), (1, .one (.sl false 9 v1)), (14, .one (.bool v2))] [] : St D0) (onN (fun s => impl_QuartersOfHeard.C.tidy 6 s (fun s' => runC impl_QuartersOfHeard.C (impl_QuartersOfHeard.O N) N impl_QuartersOfHeard.c7 7 s' impl_QuartersOfHeard.K0)) impl_QuartersOfHeard.K0) = impl_QuartersOfHeard.o1 N v0 v1 v2 := by kernel_rfl
noncomputable def impl_QuartersOfHeard.d1 (N : Nat) (v0 : List ByteArray) (v1 : List ByteArray) (v2 : Bool) : Option impl_QuartersOfHeard.R := impl_QuartersOfHeard.o1 N v0 v1 v2
theorem impl_QuartersOfHeard.d1.run (N : Nat) (v0 : List ByteArray) (v1 : List ByteArray) (v2 : Bool) : runC impl_QuartersOfHeard.C (impl_QuartersOfHeard.O N) N impl_QuartersOfHeard.c13 13 (mkSt [(0, .one (.sl false 9 v0)), (1, .one (.sl false 9 v1)), (14, .one (.bool v2))] [] : St D0) (impl_QuartersOfHeard.K13 N) = impl_QuartersOfHeard.d1 N v0 v1 v2 := by
  exact (impl_QuartersOfHeard.o1.run N v0 v1 v2).trans rfl
noncomputable def impl_QuartersOfHeard.o0 (N : Nat) (a0 : List ByteArray) (a1 : List ByteArray) (c1 : (List ByteArray) → (List ByteArray) → Bool → Option impl_QuartersOfHeard.R) : Option impl_QuartersOfHeard.R :=
 (impl_IsTune.g N a0).bind fun r1 =>
 bif (!r1) then
  c1 a0 a1 true
 else
 (impl_within.g N (a1.length : Int) 1 8).bind fun r2 =>
 c1 a0 a1 (!r2)
theorem impl_QuartersOfHeard.o0.run (N : Nat) (H13 : Code) (a0 : List ByteArray) (a1 : List ByteArray) : runC impl_QuartersOfHeard.C (impl_QuartersOfHeard.O N) N (.seq impl_QuartersOfHeard.c2 (.seq (.seq impl_QuartersOfHeard.c12 H13) impl_QuartersOfHeard.c7)) 1 (st0 [.one (.sl false 9 a0), .one (.sl false 9 a1)] [] : St D0) impl_QuartersOfHeard.K0 = impl_QuartersOfHeard.o0 N a0 a1 ((fun w0 w1 w2 => runC impl_QuartersOfHeard.C (impl_QuartersOfHeard.O N) N H13 13 (mkSt [(0, .one (.sl false 9 w0)), (1, .one (.sl false 9 w1)), (14, .one (.bool w2))] [] : St D0) (onN (fun s => impl_QuartersOfHeard.C.tidy 6 s (fun s' => runC impl_QuartersOfHeard.C (impl_QuartersOfHeard.O N) N impl_QuartersOfHeard.c7 7 s' impl_QuartersOfHeard.K0)) impl_QuartersOfHeard.K0))) := by kernel_rfl
noncomputable def impl_QuartersOfHeard.B6 (N : Nat) : St D0 → Option impl_QuartersOfHeard.R := fun s' => runC impl_QuartersOfHeard.C (impl_QuartersOfHeard.O N) N impl_QuartersOfHeard.c13 13 s' (impl_QuartersOfHeard.K13 N)
noncomputable def impl_QuartersOfHeard.g (N : Nat) (a0 : List ByteArray) (a1 : List ByteArray) : Option impl_QuartersOfHeard.R := impl_QuartersOfHeard.o0 N a0 a1 ((fun w0 w1 w2 => impl_QuartersOfHeard.d1 N w0 w1 w2))
theorem impl_QuartersOfHeard.c1_0 : impl_QuartersOfHeard.c1 = (.seq impl_QuartersOfHeard.c2 (.seq (.seq impl_QuartersOfHeard.c12 impl_QuartersOfHeard.c13) impl_QuartersOfHeard.c7)) := by kernel_rfl
theorem impl_QuartersOfHeard.g.run (N : Nat) (a0 : List ByteArray) (a1 : List ByteArray) : runC impl_QuartersOfHeard.C (impl_QuartersOfHeard.O N) N impl_QuartersOfHeard.c1 1 (st0 [.one (.sl false 9 a0), .one (.sl false 9 a1)] [] : St D0) impl_QuartersOfHeard.K0 = impl_QuartersOfHeard.g N a0 a1 := by
  rw [impl_QuartersOfHeard.c1_0]; unfold impl_QuartersOfHeard.g; exact (impl_QuartersOfHeard.o0.run N impl_QuartersOfHeard.c13 a0 a1).trans (congr rfl (funext fun w0 => funext fun w1 => funext fun w2 => impl_QuartersOfHeard.d1.run N w0 w1 w2))
theorem impl_QuartersOfHeard.good (N : Nat) (a0 : List ByteArray) (a1 : List ByteArray) (r : impl_QuartersOfHeard.R) (h : impl_QuartersOfHeard.g N a0 a1 = some r) : Go.PM.Good Go.Proofs.Tryd.prog T0 5 [.one (.sl false 9 a0), .one (.sl false 9 a1)] [] (impl_QuartersOfHeard.sig.ret r) (impl_QuartersOfHeard.sig.bs r) :=
  good_fn tabOk0 mixed0 impl_QuartersOfHeard.sig (impl_QuartersOfHeard.E N) Go.Proofs.Tryd.func5 (by kernel_rfl) (by kernel_rfl) 16435 0 0 [(12, [0, 1, 14], [])] 99392 false [] [(false, [.own 3]), (false, [.any])] (by kernel_rfl) rfl rfl ((impl_QuartersOfHeard.g.run N a0 a1).trans h)
noncomputable def impl_QuartersOfHeard.ent (N : Nat) : Ent Go.Proofs.Tryd.prog T0 := mkEnt 5 [(false, [.ro 9]), (false, [.ro 9])] impl_QuartersOfHeard.sig (fun t => impl_QuartersOfHeard.g N t.1 t.2) (fun t r h => impl_QuartersOfHeard.good N t.1 t.2 r h)
end Go.Proofs.YtpmipkbfohcjiaaDoor.M

namespace Go.Proofs.YtpmipkbfohcjiaaDoor.M
open Go Go.PM Go.Proofs.YtpmipkbfohcjiaaDoor.P
set_option linter.unusedVariables false
set_option maxRecDepth 100000
/-! ### spec_beQuarters -/
abbrev spec_beQuarters.R : Type := List Int
abbrev spec_beQuarters.sig : Sig := ⟨[(false, 1), (false, 1)], [], [.sl false 9, .sl false 9], [(false, 1)], [], [.sl true 3]⟩
noncomputable def spec_beQuarters.C : Cfg D0 := ⟨Go.Proofs.Tryd.prog, T0, 34361721843, 0, 41, 0, [(58, [0, 1, 5, 6], []), (466, [0, 1, 5, 6], []), (14922, [0, 1, 5, 6, 7, 17, 18, 19], [])], 2617281536, false, []⟩
noncomputable def spec_beQuarters.E (N : Nat) : List (Ent Go.Proofs.Tryd.prog T0) := [spec_beHours.ent N, spec_beNotes.ent N]
noncomputable def spec_beQuarters.O (N : Nat) : Orc D0 spec_beQuarters.R := orcOf (spec_beQuarters.E N)
noncomputable def spec_beQuarters.K0 : Ex → St D0 → Option spec_beQuarters.R := exitK spec_beQuarters.C Go.Proofs.Tryd.f34.results.toList [(false, [.own 3])] (decOut spec_beQuarters.sig)
noncomputable def spec_beQuarters.c1 : Code := codeAt (Go.Proofs.Tryd.f34.body.getD .skip) []
noncomputable def spec_beQuarters.c2 : Code := codeAt (Go.Proofs.Tryd.f34.body.getD .skip) [false]
noncomputable def spec_beQuarters.c6 : Code := codeAt (Go.Proofs.Tryd.f34.body.getD .skip) [true, false]
noncomputable def spec_beQuarters.c15 : Code := codeAt (Go.Proofs.Tryd.f34.body.getD .skip) [true, true, true]
noncomputable def spec_beQuarters.c28 : Code := codeAt (Go.Proofs.Tryd.f34.body.getD .skip) [true, true, false, false]
noncomputable def spec_beQuarters.c116 : Code := codeAt (Go.Proofs.Tryd.f34.body.getD .skip) [true, true, false, true, false, false]
noncomputable def spec_beQuarters.c232 : Code := codeAt (Go.Proofs.Tryd.f34.body.getD .skip) [true, true, false, true, false, false, false]
noncomputable def spec_beQuarters.c467 : Code := codeAt (Go.Proofs.Tryd.f34.body.getD .skip) [true, true, false, true, false, false, true, true]
noncomputable def spec_beQuarters.c1864 : Code := codeAt (Go.Proofs.Tryd.f34.body.getD .skip) [true, true, false, true, false, false, true, false, false, false]
noncomputable def spec_beQuarters.c3731 : Code := codeAt (Go.Proofs.Tryd.f34.body.getD .skip) [true, true, false, true, false, false, true, false, false, true, true]
noncomputable def spec_beQuarters.c7460 : Code := codeAt (Go.Proofs.Tryd.f34.body.getD .skip) [true, true, false, true, false, false, true, false, false, true, false, false]
noncomputable def spec_beQuarters.c29844 : Code := codeAt (Go.Proofs.Tryd.f34.body.getD .skip) [true, true, false, true, false, false, true, false, false, true, false, true, false, false]
noncomputable def spec_beQuarters.K467 (N : Nat) (Kn58 : St D0 → Option spec_beQuarters.R) : Ex → St D0 → Option spec_beQuarters.R := ((fun up => (onN (fun s => spec_beQuarters.C.tidy 58 s ((onN Kn58 up) .normal)) (onN Kn58 up))) (blockK 0 (onN (fun s => spec_beQuarters.C.tidy 14 s (fun s' => runC spec_beQuarters.C (spec_beQuarters.O N) N spec_beQuarters.c15 15 s' spec_beQuarters.K0)) spec_beQuarters.K0)))
noncomputable def spec_beQuarters.o3 (N : Nat) (v0 : List ByteArray) (v1 : List ByteArray) (v2 : List Int) (v3 : Int) (c5 : (List ByteArray) → (List ByteArray) → (List Int) → Int → Option spec_beQuarters.R) : Option spec_beQuarters.R :=
 c5 v0 v1 v2 (w64 (v3 + 1))
theorem spec_beQuarters.o3.run (N : Nat) (Kn58 : St D0 → Option spec_beQuarters.R) (v0 : List ByteArray) (v1 : List ByteArray) (v2 : List Int) (v3 : Int) : runC spec_beQuarters.C (spec_beQuarters.O N) N spec_beQuarters.c467 467 (mkSt [(0, .one (.sl false 9 v0)), (1, .one (.sl false 9 v1)), (5, .one (.sl true 3 v2)), (6, .one (.int .i64 v3))] [] : St D0) ((fun up => (onN (fun s => spec_beQuarters.C.tidy 58 s ((onN Kn58 up) .normal)) (onN Kn58 up))) (blockK 0 (onN (fun s => spec_beQuarters.C.tidy 14 s (fun s' => runC spec_beQuarters.C (spec_beQuarters.O N) N spec_beQuarters.c15 15 s' spec_beQuarters.K0)) spec_beQuarters.K0))) = spec_beQuarters.o3 N v0 v1 v2 v3 ((fun w0 w1 w2 w3 => Kn58 (mkSt [(0, .one (.sl false 9 w0)), (1, .one (.sl false 9 w1)), (5, .one (.sl true 3 w2)), (6, .one (.int .i64 w3))] [] : St D0))) := by kernel_rfl
noncomputable def spec_beQuarters.d3 (N : Nat) (v0 : List ByteArray) (v1 : List ByteArray) (v2 : List Int) (v3 : Int) (c5 : (List ByteArray) → (List ByteArray) → (List Int) → Int → Option spec_beQuarters.R) : Option spec_beQuarters.R := spec_beQuarters.o3 N v0 v1 v2 v3 c5
theorem spec_beQuarters.d3.run (N : Nat) (Kn58 : St D0 → Option spec_beQuarters.R) (v0 : List ByteArray) (v1 : List ByteArray) (v2 : List Int) (v3 : Int) : runC spec_beQuarters.C (spec_beQuarters.O N) N spec_beQuarters.c467 467 (mkSt [(0, .one (.sl false 9 v0)), (1, .one (.sl false 9 v1)), (5, .one (.sl true 3 v2)), (6, .one (.int .i64 v3))] [] : St D0) (spec_beQuarters.K467 N Kn58) = spec_beQuarters.d3 N v0 v1 v2 v3 ((fun w0 w1 w2 w3 => Kn58 (mkSt [(0, .one (.sl false 9 w0)), (1, .one (.sl false 9 w1)), (5, .one (.sl true 3 w2)), (6, .one (.int .i64 w3))] [] : St D0))) := by
  exact (spec_beQuarters.o3.run N Kn58 v0 v1 v2 v3).trans rfl
noncomputable def spec_beQuarters.o4 (N : Nat) (v0 : List ByteArray) (v1 : List ByteArray) (v2 : Int) (c1 : (List ByteArray) → (List ByteArray) → Int → Option spec_beQuarters.R) : Option spec_beQuarters.R :=
 c1 v0 v1 (w64 (v2 + 1))
theorem spec_beQuarters.o4.run (N : Nat) (Kn58 : St D0 → Option spec_beQuarters.R) (v0 : List ByteArray) (v1 : List ByteArray) (v2 : Int) : runC spec_beQuarters.C (spec_beQuarters.O N) N spec_beQuarters.c467 467 (mkSt [(0, .one (.sl false 9 v0)), (1, .one (.sl false 9 v1)), (5, .one (.nl)), (6, .one (.int .i64 v2))] [] : St D0) ((fun up => (onN (fun s => spec_beQuarters.C.tidy 58 s ((onN Kn58 up) .normal)) (onN Kn58 up))) (blockK 0 (onN (fun s => spec_beQuarters.C.tidy 14 s (fun s' => runC spec_beQuarters.C (spec_beQuarters.O N) N spec_beQuarters.c15 15 s' spec_beQuarters.K0)) spec_beQuarters.K0))) = spec_beQuarters.o4 N v0 v1 v2 ((fun w0 w1 w2 => Kn58 (mkSt [(0, .one (.sl false 9 w0)), (1, .one (.sl false 9 w1)), (5, .one (.nl)), (6, .one (.int .i64 w2))] [] : St D0))) := by kernel_rfl
noncomputable def spec_beQuarters.d4 (N : Nat) (v0 : List ByteArray) (v1 : List ByteArray) (v2 : Int) (c1 : (List ByteArray) → (List ByteArray) → Int → Option spec_beQuarters.R) : Option spec_beQuarters.R := spec_beQuarters.o4 N v0 v1 v2 c1
theorem spec_beQuarters.d4.run (N : Nat) (Kn58 : St D0 → Option spec_beQuarters.R) (v0 : List ByteArray) (v1 : List ByteArray) (v2 : Int) : runC spec_beQuarters.C (spec_beQuarters.O N) N spec_beQuarters.c467 467 (mkSt [(0, .one (.sl false 9 v0)), (1, .one (.sl false 9 v1)), (5, .one (.nl)), (6, .one (.int .i64 v2))] [] : St D0) (spec_beQuarters.K467 N Kn58) = spec_beQuarters.d4 N v0 v1 v2 ((fun w0 w1 w2 => Kn58 (mkSt [(0, .one (.sl false 9 w0)), (1, .one (.sl false 9 w1)), (5, .one (.nl)), (6, .one (.int .i64 w2))] [] : St D0))) := by
  exact (spec_beQuarters.o4.run N Kn58 v0 v1 v2).trans rfl
noncomputable def spec_beQuarters.B233 (N : Nat) (Kn58 : St D0 → Option spec_beQuarters.R) : St D0 → Option spec_beQuarters.R := fun s' => runC spec_beQuarters.C (spec_beQuarters.O N) N spec_beQuarters.c467 467 s' (spec_beQuarters.K467 N Kn58)
noncomputable def spec_beQuarters.K29844 (N : Nat) (Kn58 : St D0 → Option spec_beQuarters.R) (Kn14922 : St D0 → Option spec_beQuarters.R) : Ex → St D0 → Option spec_beQuarters.R := ((fun up => (onN (fun s => spec_beQuarters.C.tidy 14922 s ((onN Kn14922 up) .normal)) (onN Kn14922 up))) (blockK 2 ((fun up => (onN (fun s => spec_beQuarters.C.tidy 3730 s (fun s' => runC spec_beQuarters.C (spec_beQuarters.O N) N spec_beQuarters.c3731 3731 s' up)) up)) (blockK 1 ((fun up => (onN (fun s => spec_beQuarters.C.tidy 466 s (spec_beQuarters.B233 N Kn58)) up)) ((fun up => (onN (fun s => spec_beQuarters.C.tidy 58 s ((onN Kn58 up) .normal)) (onN Kn58 up))) (blockK 0 (onN (fun s => spec_beQuarters.C.tidy 14 s (fun s' => runC spec_beQuarters.C (spec_beQuarters.O N) N spec_beQuarters.c15 15 s' spec_beQuarters.K0)) spec_beQuarters.K0))))))))
noncomputable def spec_beQuarters.o2 (N : Nat) (v0 : List ByteArray) (v1 : List ByteArray) (v2 : Int) (v3 : Bool) (v4 : List ByteArray) (v5 : Int) (v6 : Int) (c2 : (List ByteArray) → (List ByteArray) → Int → Bool → (List ByteArray) → Int → Int → Option spec_beQuarters.R) (c3 : (List ByteArray) → (List ByteArray) → (List Int) → Int → Option spec_beQuarters.R) (c4 : (List ByteArray) → (List ByteArray) → Int → Option spec_beQuarters.R) : Option spec_beQuarters.R :=
 bif (decide (v6 < v5)) then
  bif (decide (0 ≤ v6)) then
   bif (decide (v6 < (v4.length : Int))) then
    (v4[(v6 : Int).toNat]?).bind fun x1 =>
    bif v3 then
     (spec_beNotes.g N v0 (w64 (v2 + v6))).bind fun r2 =>
     c2 v0 v1 v2 (r2.toList == x1.toList) v4 v5 (w64 (v6 + 1))
    else
    c2 v0 v1 v2 false v4 v5 (w64 (v6 + 1))
   else
   none
  else
  none
 else
 bif v3 then
  bif (Nat.blt (([] : List Int).length + ([v2] : List Int).length) 17592186044416) then
   c3 v0 v1 (([] : List Int) ++ ([v2] : List Int)) v2
  else
  none
 else
 c4 v0 v1 v2
theorem spec_beQuarters.o2.run (N : Nat) (Kb233 : St D0 → Option spec_beQuarters.R) (Kn58 : St D0 → Option spec_beQuarters.R) (Kn14922 : St D0 → Option spec_beQuarters.R) (v0 : List ByteArray) (v1 : List ByteArray) (v2 : Int) (v3 : Bool) (v4 : List ByteArray) (v5 : Int) (v6 : Int) : runC spec_beQuarters.C (spec_beQuarters.O N) N spec_beQuarters.c29844 29844 (mkSt [(0, .one (.sl false 9 v0)), (1, .one (.sl false 9 v1)), (5, .one (.nl)), (6, .one (.int .i64 v2)), (7, .one (.bool v3)), (17, .one (.sl false 9 v4)), (18, .one (.int .i64 v5)), (19, .one (.int .i64 v6))] [] : St D0) ((fun up => (onN (fun s => spec_beQuarters.C.tidy 14922 s ((onN Kn14922 up) .normal)) (onN Kn14922 up))) (blockK 2 ((fun up => (onN (fun s => spec_beQuarters.C.tidy 3730 s (fun s' => runC spec_beQuarters.C (spec_beQuarters.O N) N spec_beQuarters.c3731 3731 s' up)) up)) (blockK 1 ((fun up => (onN (fun s => spec_beQuarters.C.tidy 466 s Kb233) up)) ((fun up => (onN (fun s => spec_beQuarters.C.tidy 58 s ((onN Kn58 up) .normal)) (onN Kn58 up))) (blockK 0 (onN (fun s => spec_beQuarters.C.tidy 14 s (fun s' => runC spec_beQuarters.C (spec_beQuarters.O N) N spec_beQuarters.c15 15 s' spec_beQuarters.K0)) spec_beQuarters.K0)))))))) = spec_beQuarters.o2 N v0 v1 v2 v3 v4 v5 v6 ((fun w0 w1 w2 w3 w4 w5 w6 => Kn14922 (mkSt [(0, .one (.sl false 9 w0)), (1, .one (.sl false 9 w1)), (5, .one (.nl)), (6, .one (.int .i64 w2)), (7, .one (.bool w3)), (17, .one (.sl false 9 w4)), (18, .one (.int .i64 w5)), (19, .one (.int .i64 w6))] [] : St D0))) ((fun w0 w1 w2 w3 => Kb233 (mkSt [(0, .one (.sl false 9 w0)), (1, .one (.sl false 9 w1)), (5, .one (.sl true 3 w2)), (6, .one (.int .i64 w3))] [] : St D0))) ((fun w0 w1 w2 => Kb233 (mkSt [(0, .one (.sl false 9 w0)), (1, .one (.sl false 9 w1)), (5, .one (.nl)), (6, .one (.int .i64 w2))] [] : St D0))) := by kernel_rfl
noncomputable def spec_beQuarters.d2 (N : Nat) (v0 : List ByteArray) (v1 : List ByteArray) (v2 : Int) (v3 : Bool) (v4 : List ByteArray) (v5 : Int) (v6 : Int) (c1 : (List ByteArray) → (List ByteArray) → Int → Option spec_beQuarters.R) (c2 : (List ByteArray) → (List ByteArray) → Int → Bool → (List ByteArray) → Int → Int → Option spec_beQuarters.R) (c5 : (List ByteArray) → (List ByteArray) → (List Int) → Int → Option spec_beQuarters.R) : Option spec_beQuarters.R := spec_beQuarters.o2 N v0 v1 v2 v3 v4 v5 v6 c2 ((fun w0 w1 w2 w3 => spec_beQuarters.d3 N w0 w1 w2 w3 c5)) ((fun w0 w1 w2 => spec_beQuarters.d4 N w0 w1 w2 c1))
theorem spec_beQuarters.d2.run (N : Nat) (Kn58 : St D0 → Option spec_beQuarters.R) (Kn14922 : St D0 → Option spec_beQuarters.R) (v0 : List ByteArray) (v1 : List ByteArray) (v2 : Int) (v3 : Bool) (v4 : List ByteArray) (v5 : Int) (v6 : Int) : runC spec_beQuarters.C (spec_beQuarters.O N) N spec_beQuarters.c29844 29844 (mkSt [(0, .one (.sl false 9 v0)), (1, .one (.sl false 9 v1)), (5, .one (.nl)), (6, .one (.int .i64 v2)), (7, .one (.bool v3)), (17, .one (.sl false 9 v4)), (18, .one (.int .i64 v5)), (19, .one (.int .i64 v6))] [] : St D0) (spec_beQuarters.K29844 N Kn58 Kn14922) = spec_beQuarters.d2 N v0 v1 v2 v3 v4 v5 v6 ((fun w0 w1 w2 => Kn58 (mkSt [(0, .one (.sl false 9 w0)), (1, .one (.sl false 9 w1)), (5, .one (.nl)), (6, .one (.int .i64 w2))] [] : St D0))) ((fun w0 w1 w2 w3 w4 w5 w6 => Kn14922 (mkSt [(0, .one (.sl false 9 w0)), (1, .one (.sl false 9 w1)), (5, .one (.nl)), (6, .one (.int .i64 w2)), (7, .one (.bool w3)), (17, .one (.sl false 9 w4)), (18, .one (.int .i64 w5)), (19, .one (.int .i64 w6))] [] : St D0))) ((fun w0 w1 w2 w3 => Kn58 (mkSt [(0, .one (.sl false 9 w0)), (1, .one (.sl false 9 w1)), (5, .one (.sl true 3 w2)), (6, .one (.int .i64 w3))] [] : St D0))) := by
  unfold spec_beQuarters.d2; exact (spec_beQuarters.o2.run N (spec_beQuarters.B233 N Kn58) Kn58 Kn14922 v0 v1 v2 v3 v4 v5 v6).trans (congr (congr (congr rfl rfl) (funext fun w0 => funext fun w1 => funext fun w2 => funext fun w3 => spec_beQuarters.d3.run N Kn58 w0 w1 w2 w3)) (funext fun w0 => funext fun w1 => funext fun w2 => spec_beQuarters.d4.run N Kn58 w0 w1 w2))
noncomputable def spec_beQuarters.o6 (N : Nat) (v0 : List ByteArray) (v1 : List ByteArray) (v2 : List Int) (v3 : Int) (v4 : Bool) (v5 : List ByteArray) (v6 : Int) (v7 : Int) (c6 : (List ByteArray) → (List ByteArray) → (List Int) → Int → Bool → (List ByteArray) → Int → Int → Option spec_beQuarters.R) (c3 : (List ByteArray) → (List ByteArray) → (List Int) → Int → Option spec_beQuarters.R) : Option spec_beQuarters.R :=
 bif (decide (v7 < v6)) then
  bif (decide (0 ≤ v7)) then
   bif (decide (v7 < (v5.length : Int))) then
    (v5[(v7 : Int).toNat]?).bind fun x1 =>
    bif v4 then
     (spec_beNotes.g N v0 (w64 (v3 + v7))).bind fun r2 =>
     c6 v0 v1 v2 v3 (r2.toList == x1.toList) v5 v6 (w64 (v7 + 1))
    else
    c6 v0 v1 v2 v3 false v5 v6 (w64 (v7 + 1))
   else
   none
  else
  none
 else
 bif v4 then
  bif (Nat.blt (v2.length + ([v3] : List Int).length) 17592186044416) then
   c3 v0 v1 (v2 ++ ([v3] : List Int)) v3
  else
  none
 else
 c3 v0 v1 v2 v3
theorem spec_beQuarters.o6.run (N : Nat) (Kb233 : St D0 → Option spec_beQuarters.R) (Kn58 : St D0 → Option spec_beQuarters.R) (Kn14922 : St D0 → Option spec_beQuarters.R) (v0 : List ByteArray) (v1 : List ByteArray) (v2 : List Int) (v3 : Int) (v4 : Bool) (v5 : List ByteArray) (v6 : Int) (v7 : Int) : runC spec_beQuarters.C (spec_beQuarters.O N) N spec_beQuarters.c29844 29844 (mkSt [(0, .one (.sl false 9 v0)), (1, .one (.sl false 9 v1)), (5, .one (.sl true 3 v2)), (6, .one (.int .i64 v3)), (7, .one (.bool v4)), (17, .one (.sl false 9 v5)), (18, .one (.int .i64 v6)), (19, .one (.int .i64 v7))] [] : St D0) ((fun up => (onN (fun s => spec_beQuarters.C.tidy 14922 s ((onN Kn14922 up) .normal)) (onN Kn14922 up))) (blockK 2 ((fun up => (onN (fun s => spec_beQuarters.C.tidy 3730 s (fun s' => runC spec_beQuarters.C (spec_beQuarters.O N) N spec_beQuarters.c3731 3731 s' up)) up)) (blockK 1 ((fun up => (onN (fun s => spec_beQuarters.C.tidy 466 s Kb233) up)) ((fun up => (onN (fun s => spec_beQuarters.C.tidy 58 s ((onN Kn58 up) .normal)) (onN Kn58 up))) (blockK 0 (onN (fun s => spec_beQuarters.C.tidy 14 s (fun s' => runC spec_beQuarters.C (spec_beQuarters.O N) N spec_beQuarters.c15 15 s' spec_beQuarters.K0)) spec_beQuarters.K0)))))))) = spec_beQuarters.o6 N v0 v1 v2 v3 v4 v5 v6 v7 ((fun w0 w1 w2 w3 w4 w5 w6 w7 => Kn14922 (mkSt [(0, .one (.sl false 9 w0)), (1, .one (.sl false 9 w1)), (5, .one (.sl true 3 w2)), (6, .one (.int .i64 w3)), (7, .one (.bool w4)), (17, .one (.sl false 9 w5)), (18, .one (.int .i64 w6)), (19, .one (.int .i64 w7))] [] : St D0))) ((fun w0 w1 w2 w3 => Kb233 (mkSt [(0, .one (.sl false 9 w0)), (1, .one (.sl false 9 w1)), (5, .one (.sl true 3 w2)), (6, .one (.int .i64 w3))] [] : St D0))) := by kernel_rfl
noncomputable def spec_beQuarters.d6 (N : Nat) (v0 : List ByteArray) (v1 : List ByteArray) (v2 : List Int) (v3 : Int) (v4 : Bool) (v5 : List ByteArray) (v6 : Int) (v7 : Int) (c5 : (List ByteArray) → (List ByteArray) → (List Int) → Int → Option spec_beQuarters.R) (c6 : (List ByteArray) → (List ByteArray) → (List Int) → Int → Bool → (List ByteArray) → Int → Int → Option spec_beQuarters.R) : Option spec_beQuarters.R := spec_beQuarters.o6 N v0 v1 v2 v3 v4 v5 v6 v7 c6 ((fun w0 w1 w2 w3 => spec_beQuarters.d3 N w0 w1 w2 w3 c5))
theorem spec_beQuarters.d6.run (N : Nat) (Kn58 : St D0 → Option spec_beQuarters.R) (Kn14922 : St D0 → Option spec_beQuarters.R) (v0 : List ByteArray) (v1 : List ByteArray) (v2 : List Int) (v3 : Int) (v4 : Bool) (v5 : List ByteArray) (v6 : Int) (v7 : Int) : runC spec_beQuarters.C (spec_beQuarters.O N) N spec_beQuarters.c29844 29844 (mkSt [(0, .one (.sl false 9 v0)), (1, .one (.sl false 9 v1)), (5, .one (.sl true 3 v2)), (6, .one (.int .i64 v3)), (7, .one (.bool v4)), (17, .one (.sl false 9 v5)), (18, .one (.int .i64 v6)), (19, .one (.int .i64 v7))] [] : St D0) (spec_beQuarters.K29844 N Kn58 Kn14922) = spec_beQuarters.d6 N v0 v1 v2 v3 v4 v5 v6 v7 ((fun w0 w1 w2 w3 => Kn58 (mkSt [(0, .one (.sl false 9 w0)), (1, .one (.sl false 9 w1)), (5, .one (.sl true 3 w2)), (6, .one (.int .i64 w3))] [] : St D0))) ((fun w0 w1 w2 w3 w4 w5 w6 w7 => Kn14922 (mkSt [(0, .one (.sl false 9 w0)), (1, .one (.sl false 9 w1)), (5, .one (.sl true 3 w2)), (6, .one (.int .i64 w3)), (7, .one (.bool w4)), (17, .one (.sl false 9 w5)), (18, .one (.int .i64 w6)), (19, .one (.int .i64 w7))] [] : St D0))) := by
  unfold spec_beQuarters.d6; exact (spec_beQuarters.o6.run N (spec_beQuarters.B233 N Kn58) Kn58 Kn14922 v0 v1 v2 v3 v4 v5 v6 v7).trans (congr (congr rfl rfl) (funext fun w0 => funext fun w1 => funext fun w2 => funext fun w3 => spec_beQuarters.d3.run N Kn58 w0 w1 w2 w3))
noncomputable def spec_beQuarters.K14922 (N : Nat) (Kn58 : St D0 → Option spec_beQuarters.R) : Ex → St D0 → Option spec_beQuarters.R := (blockK 2 ((fun up => (onN (fun s => spec_beQuarters.C.tidy 3730 s (fun s' => runC spec_beQuarters.C (spec_beQuarters.O N) N spec_beQuarters.c3731 3731 s' up)) up)) (blockK 1 ((fun up => (onN (fun s => spec_beQuarters.C.tidy 466 s (spec_beQuarters.B233 N Kn58)) up)) ((fun up => (onN (fun s => spec_beQuarters.C.tidy 58 s ((onN Kn58 up) .normal)) (onN Kn58 up))) (blockK 0 (onN (fun s => spec_beQuarters.C.tidy 14 s (fun s' => runC spec_beQuarters.C (spec_beQuarters.O N) N spec_beQuarters.c15 15 s' spec_beQuarters.K0)) spec_beQuarters.K0)))))))
mutual
noncomputable def spec_beQuarters.l2 (N : Nat) : Nat → (List ByteArray) → (List ByteArray) → Int → Bool → (List ByteArray) → Int → Int → ((List ByteArray) → (List ByteArray) → Int → Option spec_beQuarters.R) → ((List ByteArray) → (List ByteArray) → (List Int) → Int → Option spec_beQuarters.R) → Option spec_beQuarters.R
  | 0, _, _, _, _, _, _, _, _, _ => none
  | n + 1, v0, v1, v2, v3, v4, v5, v6, c1, c5 => spec_beQuarters.d2 N v0 v1 v2 v3 v4 v5 v6 c1 ((fun w0 w1 w2 w3 w4 w5 w6 => spec_beQuarters.l2 N n w0 w1 w2 w3 w4 w5 w6 c1 c5)) c5
noncomputable def spec_beQuarters.l6 (N : Nat) : Nat → (List ByteArray) → (List ByteArray) → (List Int) → Int → Bool → (List ByteArray) → Int → Int → ((List ByteArray) → (List ByteArray) → Int → Option spec_beQuarters.R) → ((List ByteArray) → (List ByteArray) → (List Int) → Int → Option spec_beQuarters.R) → Option spec_beQuarters.R
  | 0, _, _, _, _, _, _, _, _, _, _ => none
  | n + 1, v0, v1, v2, v3, v4, v5, v6, v7, c1, c5 => spec_beQuarters.d6 N v0 v1 v2 v3 v4 v5 v6 v7 c5 ((fun w0 w1 w2 w3 w4 w5 w6 w7 => spec_beQuarters.l6 N n w0 w1 w2 w3 w4 w5 w6 w7 c1 c5))
end
theorem spec_beQuarters.loop14922 (N : Nat) (Kn58 : St D0 → Option spec_beQuarters.R) : ∀ n, (∀ (v0 : List ByteArray) (v1 : List ByteArray) (v2 : Int) (v3 : Bool) (v4 : List ByteArray) (v5 : Int) (v6 : Int), iter (loopF spec_beQuarters.C (spec_beQuarters.O N) N spec_beQuarters.c29844 14922) n (mkSt [(0, .one (.sl false 9 v0)), (1, .one (.sl false 9 v1)), (5, .one (.nl)), (6, .one (.int .i64 v2)), (7, .one (.bool v3)), (17, .one (.sl false 9 v4)), (18, .one (.int .i64 v5)), (19, .one (.int .i64 v6))] [] : St D0) (spec_beQuarters.K14922 N Kn58) = spec_beQuarters.l2 N n v0 v1 v2 v3 v4 v5 v6 ((fun w0 w1 w2 => Kn58 (mkSt [(0, .one (.sl false 9 w0)), (1, .one (.sl false 9 w1)), (5, .one (.nl)), (6, .one (.int .i64 w2))] [] : St D0))) ((fun w0 w1 w2 w3 => Kn58 (mkSt [(0, .one (.sl false 9 w0)), (1, .one (.sl false 9 w1)), (5, .one (.sl true 3 w2)), (6, .one (.int .i64 w3))] [] : St D0)))) ∧ (∀ (v0 : List ByteArray) (v1 : List ByteArray) (v2 : List Int) (v3 : Int) (v4 : Bool) (v5 : List ByteArray) (v6 : Int) (v7 : Int), iter (loopF spec_beQuarters.C (spec_beQuarters.O N) N spec_beQuarters.c29844 14922) n (mkSt [(0, .one (.sl false 9 v0)), (1, .one (.sl false 9 v1)), (5, .one (.sl true 3 v2)), (6, .one (.int .i64 v3)), (7, .one (.bool v4)), (17, .one (.sl false 9 v5)), (18, .one (.int .i64 v6)), (19, .one (.int .i64 v7))] [] : St D0) (spec_beQuarters.K14922 N Kn58) = spec_beQuarters.l6 N n v0 v1 v2 v3 v4 v5 v6 v7 ((fun w0 w1 w2 => Kn58 (mkSt [(0, .one (.sl false 9 w0)), (1, .one (.sl false 9 w1)), (5, .one (.nl)), (6, .one (.int .i64 w2))] [] : St D0))) ((fun w0 w1 w2 w3 => Kn58 (mkSt [(0, .one (.sl false 9 w0)), (1, .one (.sl false 9 w1)), (5, .one (.sl true 3 w2)), (6, .one (.int .i64 w3))] [] : St D0))))
  | 0 => ⟨(fun v0 v1 v2 v3 v4 v5 v6 => rfl), (fun v0 v1 v2 v3 v4 v5 v6 v7 => rfl)⟩
  | n + 1 => ⟨(fun v0 v1 v2 v3 v4 v5 v6 => (spec_beQuarters.d2.run N Kn58 (fun s => iter (loopF spec_beQuarters.C (spec_beQuarters.O N) N spec_beQuarters.c29844 14922) n s (spec_beQuarters.K14922 N Kn58)) v0 v1 v2 v3 v4 v5 v6).trans (show _ = spec_beQuarters.d2 N v0 v1 v2 v3 v4 v5 v6 ((fun w0 w1 w2 => Kn58 (mkSt [(0, .one (.sl false 9 w0)), (1, .one (.sl false 9 w1)), (5, .one (.nl)), (6, .one (.int .i64 w2))] [] : St D0))) ((fun w0 w1 w2 w3 w4 w5 w6 => spec_beQuarters.l2 N n w0 w1 w2 w3 w4 w5 w6 ((fun w0 w1 w2 => Kn58 (mkSt [(0, .one (.sl false 9 w0)), (1, .one (.sl false 9 w1)), (5, .one (.nl)), (6, .one (.int .i64 w2))] [] : St D0))) ((fun w0 w1 w2 w3 => Kn58 (mkSt [(0, .one (.sl false 9 w0)), (1, .one (.sl false 9 w1)), (5, .one (.sl true 3 w2)), (6, .one (.int .i64 w3))] [] : St D0))))) ((fun w0 w1 w2 w3 => Kn58 (mkSt [(0, .one (.sl false 9 w0)), (1, .one (.sl false 9 w1)), (5, .one (.sl true 3 w2)), (6, .one (.int .i64 w3))] [] : St D0))) from (congr (congr (congr rfl rfl) (funext fun w0 => funext fun w1 => funext fun w2 => funext fun w3 => funext fun w4 => funext fun w5 => funext fun w6 => (spec_beQuarters.loop14922 N Kn58 n).1 w0 w1 w2 w3 w4 w5 w6)) rfl))), (fun v0 v1 v2 v3 v4 v5 v6 v7 => (spec_beQuarters.d6.run N Kn58 (fun s => iter (loopF spec_beQuarters.C (spec_beQuarters.O N) N spec_beQuarters.c29844 14922) n s (spec_beQuarters.K14922 N Kn58)) v0 v1 v2 v3 v4 v5 v6 v7).trans (show _ = spec_beQuarters.d6 N v0 v1 v2 v3 v4 v5 v6 v7 ((fun w0 w1 w2 w3 => Kn58 (mkSt [(0, .one (.sl false 9 w0)), (1, .one (.sl false 9 w1)), (5, .one (.sl true 3 w2)), (6, .one (.int .i64 w3))] [] : St D0))) ((fun w0 w1 w2 w3 w4 w5 w6 w7 => spec_beQuarters.l6 N n w0 w1 w2 w3 w4 w5 w6 w7 ((fun w0 w1 w2 => Kn58 (mkSt [(0, .one (.sl false 9 w0)), (1, .one (.sl false 9 w1)), (5, .one (.nl)), (6, .one (.int .i64 w2))] [] : St D0))) ((fun w0 w1 w2 w3 => Kn58 (mkSt [(0, .one (.sl false 9 w0)), (1, .one (.sl false 9 w1)), (5, .one (.sl true 3 w2)), (6, .one (.int .i64 w3))] [] : St D0))))) from (congr (congr rfl rfl) (funext fun w0 => funext fun w1 => funext fun w2 => funext fun w3 => funext fun w4 => funext fun w5 => funext fun w6 => funext fun w7 => (spec_beQuarters.loop14922 N Kn58 n).2 w0 w1 w2 w3 w4 w5 w6 w7))))⟩
noncomputable def spec_beQuarters.K116 (N : Nat) (Kn58 : St D0 → Option spec_beQuarters.R) : Ex → St D0 → Option spec_beQuarters.R := ((fun up => (onN (fun s => spec_beQuarters.C.tidy 58 s ((onN Kn58 up) .normal)) (onN Kn58 up))) (blockK 0 (onN (fun s => spec_beQuarters.C.tidy 14 s (fun s' => runC spec_beQuarters.C (spec_beQuarters.O N) N spec_beQuarters.c15 15 s' spec_beQuarters.K0)) spec_beQuarters.K0)))
noncomputable def spec_beQuarters.o1 (N : Nat) (v0 : List ByteArray) (v1 : List ByteArray) (v2 : Int) (c2 : (List ByteArray) → (List ByteArray) → Int → Bool → (List ByteArray) → Int → Int → Option spec_beQuarters.R) : Option spec_beQuarters.R :=
 (spec_beHours.g N v0).bind fun r1 =>
 bif (decide (v2 < (w64 (4 * r1)))) then
  c2 v0 v1 v2 true v1 (v1.length : Int) 0
 else
 some (([] : List Int))
theorem spec_beQuarters.o1.run (N : Nat) (Kn58 : St D0 → Option spec_beQuarters.R) (H29844 : Code) (v0 : List ByteArray) (v1 : List ByteArray) (v2 : Int) : runC spec_beQuarters.C (spec_beQuarters.O N) N (.seq spec_beQuarters.c232 (.seq (.block 1 (.seq spec_beQuarters.c1864 (.seq (.seq spec_beQuarters.c7460 (.block 2 (.loop H29844))) spec_beQuarters.c3731))) spec_beQuarters.c467)) 116 (mkSt [(0, .one (.sl false 9 v0)), (1, .one (.sl false 9 v1)), (5, .one (.nl)), (6, .one (.int .i64 v2))] [] : St D0) ((fun up => (onN (fun s => spec_beQuarters.C.tidy 58 s ((onN Kn58 up) .normal)) (onN Kn58 up))) (blockK 0 (onN (fun s => spec_beQuarters.C.tidy 14 s (fun s' => runC spec_beQuarters.C (spec_beQuarters.O N) N spec_beQuarters.c15 15 s' spec_beQuarters.K0)) spec_beQuarters.K0))) = spec_beQuarters.o1 N v0 v1 v2 ((fun w0 w1 w2 w3 w4 w5 w6 => iter (loopF spec_beQuarters.C (spec_beQuarters.O N) N H29844 14922) N (mkSt [(0, .one (.sl false 9 w0)), (1, .one (.sl false 9 w1)), (5, .one (.nl)), (6, .one (.int .i64 w2)), (7, .one (.bool w3)), (17, .one (.sl false 9 w4)), (18, .one (.int .i64 w5)), (19, .one (.int .i64 w6))] [] : St D0) (blockK 2 ((fun up => (onN (fun s => spec_beQuarters.C.tidy 3730 s (fun s' => runC spec_beQuarters.C (spec_beQuarters.O N) N spec_beQuarters.c3731 3731 s' up)) up)) (blockK 1 ((fun up => (onN (fun s => spec_beQuarters.C.tidy 466 s (fun s' => runC spec_beQuarters.C (spec_beQuarters.O N) N spec_beQuarters.c467 467 s' up)) up)) ((fun up => (onN (fun s => spec_beQuarters.C.tidy 58 s ((onN Kn58 up) .normal)) (onN Kn58 up))) (blockK 0 (onN (fun s => spec_beQuarters.C.tidy 14 s (fun s' => runC spec_beQuarters.C (spec_beQuarters.O N) N spec_beQuarters.c15 15 s' spec_beQuarters.K0)) spec_beQuarters.K0))))))))) := by kernel_rfl
noncomputable def spec_beQuarters.d1 (N : Nat) (v0 : List ByteArray) (v1 : List ByteArray) (v2 : Int) (c1 : (List ByteArray) → (List ByteArray) → Int → Option spec_beQuarters.R) (c5 : (List ByteArray) → (List ByteArray) → (List Int) → Int → Option spec_beQuarters.R) : Option spec_beQuarters.R := spec_beQuarters.o1 N v0 v1 v2 ((fun w0 w1 w2 w3 w4 w5 w6 => spec_beQuarters.l2 N N w0 w1 w2 w3 w4 w5 w6 c1 c5))
theorem spec_beQuarters.c116_1 : spec_beQuarters.c116 = (.seq spec_beQuarters.c232 (.seq (.block 1 (.seq spec_beQuarters.c1864 (.seq (.seq spec_beQuarters.c7460 (.block 2 (.loop spec_beQuarters.c29844))) spec_beQuarters.c3731))) spec_beQuarters.c467)) := by kernel_rfl
theorem spec_beQuarters.d1.run (N : Nat) (Kn58 : St D0 → Option spec_beQuarters.R) (v0 : List ByteArray) (v1 : List ByteArray) (v2 : Int) : runC spec_beQuarters.C (spec_beQuarters.O N) N spec_beQuarters.c116 116 (mkSt [(0, .one (.sl false 9 v0)), (1, .one (.sl false 9 v1)), (5, .one (.nl)), (6, .one (.int .i64 v2))] [] : St D0) (spec_beQuarters.K116 N Kn58) = spec_beQuarters.d1 N v0 v1 v2 ((fun w0 w1 w2 => Kn58 (mkSt [(0, .one (.sl false 9 w0)), (1, .one (.sl false 9 w1)), (5, .one (.nl)), (6, .one (.int .i64 w2))] [] : St D0))) ((fun w0 w1 w2 w3 => Kn58 (mkSt [(0, .one (.sl false 9 w0)), (1, .one (.sl false 9 w1)), (5, .one (.sl true 3 w2)), (6, .one (.int .i64 w3))] [] : St D0))) := by
  rw [spec_beQuarters.c116_1]; unfold spec_beQuarters.d1; exact (spec_beQuarters.o1.run N Kn58 spec_beQuarters.c29844 v0 v1 v2).trans (congr rfl (funext fun w0 => funext fun w1 => funext fun w2 => funext fun w3 => funext fun w4 => funext fun w5 => funext fun w6 => (spec_beQuarters.loop14922 N Kn58 N).1 w0 w1 w2 w3 w4 w5 w6))
noncomputable def spec_beQuarters.o5 (N : Nat) (v0 : List ByteArray) (v1 : List ByteArray) (v2 : List Int) (v3 : Int) (c6 : (List ByteArray) → (List ByteArray) → (List Int) → Int → Bool → (List ByteArray) → Int → Int → Option spec_beQuarters.R) : Option spec_beQuarters.R :=
 (spec_beHours.g N v0).bind fun r1 =>
 bif (decide (v3 < (w64 (4 * r1)))) then
  c6 v0 v1 v2 v3 true v1 (v1.length : Int) 0
 else
 some (v2)
theorem spec_beQuarters.o5.run (N : Nat) (Kn58 : St D0 → Option spec_beQuarters.R) (H29844 : Code) (v0 : List ByteArray) (v1 : List ByteArray) (v2 : List Int) (v3 : Int) : runC spec_beQuarters.C (spec_beQuarters.O N) N (.seq spec_beQuarters.c232 (.seq (.block 1 (.seq spec_beQuarters.c1864 (.seq (.seq spec_beQuarters.c7460 (.block 2 (.loop H29844))) spec_beQuarters.c3731))) spec_beQuarters.c467)) 116 (mkSt [(0, .one (.sl false 9 v0)), (1, .one (.sl false 9 v1)), (5, .one (.sl true 3 v2)), (6, .one (.int .i64 v3))] [] : St D0) ((fun up => (onN (fun s => spec_beQuarters.C.tidy 58 s ((onN Kn58 up) .normal)) (onN Kn58 up))) (blockK 0 (onN (fun s => spec_beQuarters.C.tidy 14 s (fun s' => runC spec_beQuarters.C (spec_beQuarters.O N) N spec_beQuarters.c15 15 s' spec_beQuarters.K0)) spec_beQuarters.K0))) = spec_beQuarters.o5 N v0 v1 v2 v3 ((fun w0 w1 w2 w3 w4 w5 w6 w7 => iter (loopF spec_beQuarters.C (spec_beQuarters.O N) N H29844 14922) N (mkSt [(0, .one (.sl false 9 w0)), (1, .one (.sl false 9 w1)), (5, .one (.sl true 3 w2)), (6, .one (.int .i64 w3)), (7, .one (.bool w4)), (17, .one (.sl false 9 w5)), (18, .one (.int .i64 w6)), (19, .one (.int .i64 w7))] [] : St D0) (blockK 2 ((fun up => (onN (fun s => spec_beQuarters.C.tidy 3730 s (fun s' => runC spec_beQuarters.C (spec_beQuarters.O N) N spec_beQuarters.c3731 3731 s' up)) up)) (blockK 1 ((fun up => (onN (fun s => spec_beQuarters.C.tidy 466 s (fun s' => runC spec_beQuarters.C (spec_beQuarters.O N) N spec_beQuarters.c467 467 s' up)) up)) ((fun up => (onN (fun s => spec_beQuarters.C.tidy 58 s ((onN Kn58 up) .normal)) (onN Kn58 up))) (blockK 0 (onN (fun s => spec_beQuarters.C.tidy 14 s (fun s' => runC spec_beQuarters.C (spec_beQuarters.O N) N spec_beQuarters.c15 15 s' spec_beQuarters.K0)) spec_beQuarters.K0))))))))) := by kernel_rfl
noncomputable def spec_beQuarters.d5 (N : Nat) (v0 : List ByteArray) (v1 : List ByteArray) (v2 : List Int) (v3 : Int) (c1 : (List ByteArray) → (List ByteArray) → Int → Option spec_beQuarters.R) (c5 : (List ByteArray) → (List ByteArray) → (List Int) → Int → Option spec_beQuarters.R) : Option spec_beQuarters.R := spec_beQuarters.o5 N v0 v1 v2 v3 ((fun w0 w1 w2 w3 w4 w5 w6 w7 => spec_beQuarters.l6 N N w0 w1 w2 w3 w4 w5 w6 w7 c1 c5))
theorem spec_beQuarters.c116_5 : spec_beQuarters.c116 = (.seq spec_beQuarters.c232 (.seq (.block 1 (.seq spec_beQuarters.c1864 (.seq (.seq spec_beQuarters.c7460 (.block 2 (.loop spec_beQuarters.c29844))) spec_beQuarters.c3731))) spec_beQuarters.c467)) := by kernel_rfl
theorem spec_beQuarters.d5.run (N : Nat) (Kn58 : St D0 → Option spec_beQuarters.R) (v0 : List ByteArray) (v1 : List ByteArray) (v2 : List Int) (v3 : Int) : runC spec_beQuarters.C (spec_beQuarters.O N) N spec_beQuarters.c116 116 (mkSt [(0, .one (.sl false 9 v0)), (1, .one (.sl false 9 v1)), (5, .one (.sl true 3 v2)), (6, .one (.int .i64 v3))] [] : St D0) (spec_beQuarters.K116 N Kn58) = spec_beQuarters.d5 N v0 v1 v2 v3 ((fun w0 w1 w2 => Kn58 (mkSt [(0, .one (.sl false 9 w0)), (1, .one (.sl false 9 w1)), (5, .one (.nl)), (6, .one (.int .i64 w2))] [] : St D0))) ((fun w0 w1 w2 w3 => Kn58 (mkSt [(0, .one (.sl false 9 w0)), (1, .one (.sl false 9 w1)), (5, .one (.sl true 3 w2)), (6, .one (.int .i64 w3))] [] : St D0))) := by
  rw [spec_beQuarters.c116_5]; unfold spec_beQuarters.d5; exact (spec_beQuarters.o5.run N Kn58 spec_beQuarters.c29844 v0 v1 v2 v3).trans (congr rfl (funext fun w0 => funext fun w1 => funext fun w2 => funext fun w3 => funext fun w4 => funext fun w5 => funext fun w6 => funext fun w7 => (spec_beQuarters.loop14922 N Kn58 N).2 w0 w1 w2 w3 w4 w5 w6 w7))
noncomputable def spec_beQuarters.K58 (N : Nat) : Ex → St D0 → Option spec_beQuarters.R := (blockK 0 (onN (fun s => spec_beQuarters.C.tidy 14 s (fun s' => runC spec_beQuarters.C (spec_beQuarters.O N) N spec_beQuarters.c15 15 s' spec_beQuarters.K0)) spec_beQuarters.K0))
mutual
noncomputable def spec_beQuarters.l1 (N : Nat) : Nat → (List ByteArray) → (List ByteArray) → Int → Option spec_beQuarters.R
  | 0, _, _, _ => none
  | n + 1, v0, v1, v2 => spec_beQuarters.d1 N v0 v1 v2 ((fun w0 w1 w2 => spec_beQuarters.l1 N n w0 w1 w2)) ((fun w0 w1 w2 w3 => spec_beQuarters.l5 N n w0 w1 w2 w3))
noncomputable def spec_beQuarters.l5 (N : Nat) : Nat → (List ByteArray) → (List ByteArray) → (List Int) → Int → Option spec_beQuarters.R
  | 0, _, _, _, _ => none
  | n + 1, v0, v1, v2, v3 => spec_beQuarters.d5 N v0 v1 v2 v3 ((fun w0 w1 w2 => spec_beQuarters.l1 N n w0 w1 w2)) ((fun w0 w1 w2 w3 => spec_beQuarters.l5 N n w0 w1 w2 w3))
end
theorem spec_beQuarters.loop58 (N : Nat) : ∀ n, (∀ (v0 : List ByteArray) (v1 : List ByteArray) (v2 : Int), iter (loopF spec_beQuarters.C (spec_beQuarters.O N) N spec_beQuarters.c116 58) n (mkSt [(0, .one (.sl false 9 v0)), (1, .one (.sl false 9 v1)), (5, .one (.nl)), (6, .one (.int .i64 v2))] [] : St D0) (spec_beQuarters.K58 N) = spec_beQuarters.l1 N n v0 v1 v2) ∧ (∀ (v0 : List ByteArray) (v1 : List ByteArray) (v2 : List Int) (v3 : Int), iter (loopF spec_beQuarters.C (spec_beQuarters.O N) N spec_beQuarters.c116 58) n (mkSt [(0, .one (.sl false 9 v0)), (1, .one (.sl false 9 v1)), (5, .one (.sl true 3 v2)), (6, .one (.int .i64 v3))] [] : St D0) (spec_beQuarters.K58 N) = spec_beQuarters.l5 N n v0 v1 v2 v3)
  | 0 => ⟨(fun v0 v1 v2 => rfl), (fun v0 v1 v2 v3 => rfl)⟩
  | n + 1 => ⟨(fun v0 v1 v2 => (spec_beQuarters.d1.run N (fun s => iter (loopF spec_beQuarters.C (spec_beQuarters.O N) N spec_beQuarters.c116 58) n s (spec_beQuarters.K58 N)) v0 v1 v2).trans (show _ = spec_beQuarters.d1 N v0 v1 v2 ((fun w0 w1 w2 => spec_beQuarters.l1 N n w0 w1 w2)) ((fun w0 w1 w2 w3 => spec_beQuarters.l5 N n w0 w1 w2 w3)) from (congr (congr rfl (funext fun w0 => funext fun w1 => funext fun w2 => (spec_beQuarters.loop58 N n).1 w0 w1 w2)) (funext fun w0 => funext fun w1 => funext fun w2 => funext fun w3 => (spec_beQuarters.loop58 N n).2 w0 w1 w2 w3)))), (fun v0 v1 v2 v3 => (spec_beQuarters.d5.run N (fun s => iter (loopF spec_beQuarters.C (spec_beQuarters.O N) N spec_beQuarters.c116 58) n s (spec_beQuarters.K58 N)) v0 v1 v2 v3).trans (show _ = spec_beQuarters.d5 N v0 v1 v2 v3 ((fun w0 w1 w2 => spec_beQuarters.l1 N n w0 w1 w2)) ((fun w0 w1 w2 w3 => spec_beQuarters.l5 N n w0 w1 w2 w3)) from (congr (congr rfl (funext fun w0 => funext fun w1 => funext fun w2 => (spec_beQuarters.loop58 N n).1 w0 w1 w2)) (funext fun w0 => funext fun w1 => funext fun w2 => funext fun w3 => (spec_beQuarters.loop58 N n).2 w0 w1 w2 w3))))⟩
noncomputable def spec_beQuarters.o0 (N : Nat) (a0 : List ByteArray) (a1 : List ByteArray) (c1 : (List ByteArray) → (List ByteArray) → Int → Option spec_beQuarters.R) : Option spec_beQuarters.R :=
 c1 a0 a1 0
theorem spec_beQuarters.o0.run (N : Nat) (H116 : Code) (a0 : List ByteArray) (a1 : List ByteArray) : runC spec_beQuarters.C (spec_beQuarters.O N) N (.seq spec_beQuarters.c2 (.seq spec_beQuarters.c6 (.seq (.seq spec_beQuarters.c28 (.block 0 (.loop H116))) spec_beQuarters.c15))) 1 (st0 [.one (.sl false 9 a0), .one (.sl false 9 a1)] [] : St D0) spec_beQuarters.K0 = spec_beQuarters.o0 N a0 a1 ((fun w0 w1 w2 => iter (loopF spec_beQuarters.C (spec_beQuarters.O N) N H116 58) N (mkSt [(0, .one (.sl false 9 w0)), (1, .one (.sl false 9 w1)), (5, .one (.nl)), (6, .one (.int .i64 w2))] [] : St D0) (blockK 0 (onN (fun s => spec_beQuarters.C.tidy 14 s (fun s' => runC spec_beQuarters.C (spec_beQuarters.O N) N spec_beQuarters.c15 15 s' spec_beQuarters.K0)) spec_beQuarters.K0)))) := by kernel_rfl
noncomputable def spec_beQuarters.g (N : Nat) (a0 : List ByteArray) (a1 : List ByteArray) : Option spec_beQuarters.R := spec_beQuarters.o0 N a0 a1 ((fun w0 w1 w2 => spec_beQuarters.l1 N N w0 w1 w2))
theorem spec_beQuarters.c1_0 : spec_beQuarters.c1 = (.seq spec_beQuarters.c2 (.seq spec_beQuarters.c6 (.seq (.seq spec_beQuarters.c28 (.block 0 (.loop spec_beQuarters.c116))) spec_beQuarters.c15))) := by kernel_rfl
theorem spec_beQuarters.g.run (N : Nat) (a0 : List ByteArray) (a1 : List ByteArray) : runC spec_beQuarters.C (spec_beQuarters.O N) N spec_beQuarters.c1 1 (st0 [.one (.sl false 9 a0), .one (.sl false 9 a1)] [] : St D0) spec_beQuarters.K0 = spec_beQuarters.g N a0 a1 := by
  rw [spec_beQuarters.c1_0]; unfold spec_beQuarters.g; exact (spec_beQuarters.o0.run N spec_beQuarters.c116 a0 a1).trans (congr rfl (funext fun w0 => funext fun w1 => funext fun w2 => (spec_beQuarters.loop58 N N).1 w0 w1 w2))
theorem spec_beQuarters.good (N : Nat) (a0 : List ByteArray) (a1 : List ByteArray) (r : spec_beQuarters.R) (h : spec_beQuarters.g N a0 a1 = some r) : Go.PM.Good Go.Proofs.Tryd.prog T0 34 [.one (.sl false 9 a0), .one (.sl false 9 a1)] [] (spec_beQuarters.sig.ret r) (spec_beQuarters.sig.bs r) :=
  good_fn tabOk0 mixed0 spec_beQuarters.sig (spec_beQuarters.E N) Go.Proofs.Tryd.func34 (by kernel_rfl) (by kernel_rfl) 34361721843 0 0 [(58, [0, 1, 5, 6], []), (466, [0, 1, 5, 6], []), (14922, [0, 1, 5, 6, 7, 17, 18, 19], [])] 2617281536 false [] [(false, [.own 3])] (by kernel_rfl) rfl rfl ((spec_beQuarters.g.run N a0 a1).trans h)
noncomputable def spec_beQuarters.ent (N : Nat) : Ent Go.Proofs.Tryd.prog T0 := mkEnt 34 [(false, [.ro 9]), (false, [.ro 9])] spec_beQuarters.sig (fun t => spec_beQuarters.g N t.1 t.2) (fun t r h => spec_beQuarters.good N t.1 t.2 r h)
end Go.Proofs.YtpmipkbfohcjiaaDoor.M

namespace Go.Proofs.YtpmipkbfohcjiaaDoor.M
open Go Go.PM Go.Proofs.YtpmipkbfohcjiaaDoor.P
set_option linter.unusedVariables false
set_option maxRecDepth 100000
/-! ### spec_QuartersOfHeard -/
abbrev spec_QuartersOfHeard.R : Type := List Int × Bool
abbrev spec_QuartersOfHeard.sig : Sig := ⟨[(false, 1), (false, 1)], [], [.sl false 9, .sl false 9], [(false, 1), (false, 1)], [], [.sl true 3, .bool]⟩
noncomputable def spec_QuartersOfHeard.C : Cfg D0 := ⟨Go.Proofs.Tryd.prog, T0, 16435, 0, 18, 0, [(12, [0, 1, 14], [])], 99392, false, []⟩
noncomputable def spec_QuartersOfHeard.E (N : Nat) : List (Ent Go.Proofs.Tryd.prog T0) := [spec_beTune.ent N, spec_l1In.ent N, spec_beQuarters.ent N]
noncomputable def spec_QuartersOfHeard.O (N : Nat) : Orc D0 spec_QuartersOfHeard.R := orcOf (spec_QuartersOfHeard.E N)
noncomputable def spec_QuartersOfHeard.K0 : Ex → St D0 → Option spec_QuartersOfHeard.R := exitK spec_QuartersOfHeard.C Go.Proofs.Tryd.f6.results.toList [(false, [.own 3]), (false, [.any])] (decOut spec_QuartersOfHeard.sig)
noncomputable def spec_QuartersOfHeard.c1 : Code := codeAt (Go.Proofs.Tryd.f6.body.getD .skip) []
noncomputable def spec_QuartersOfHeard.c2 : Code := codeAt (Go.Proofs.Tryd.f6.body.getD .skip) [false]
noncomputable def spec_QuartersOfHeard.c7 : Code := codeAt (Go.Proofs.Tryd.f6.body.getD .skip) [true, true]
noncomputable def spec_QuartersOfHeard.c12 : Code := codeAt (Go.Proofs.Tryd.f6.body.getD .skip) [true, false, false]
noncomputable def spec_QuartersOfHeard.c13 : Code := codeAt (Go.Proofs.Tryd.f6.body.getD .skip) [true, false, true]
noncomputable def spec_QuartersOfHeard.K13 (N : Nat) : Ex → St D0 → Option spec_QuartersOfHeard.R := (onN (fun s => spec_QuartersOfHeard.C.tidy 6 s (fun s' => runC spec_QuartersOfHeard.C (spec_QuartersOfHeard.O N) N spec_QuartersOfHeard.c7 7 s' spec_QuartersOfHeard.K0)) spec_QuartersOfHeard.K0)
noncomputable def spec_QuartersOfHeard.o1 (N : Nat) (v0 : List ByteArray) (v1 : List ByteArray) (v2 : Bool) : Option spec_QuartersOfHeard.R :=
 bif v2 then
  some (([] : List Int), false)
 else
 (spec_beQuarters.g N v0 v1).bind fun r1 =>
 some (r1, true)
theorem spec_QuartersOfHeard.o1.run (N : Nat) (v0 : List ByteArray) (v1 : List ByteArray) (v2 : Bool) : runC spec_QuartersOfHeard.C (spec_QuartersOfHeard.O N) N spec_QuartersOfHeard.c13 13 (mkSt [(0, .one (.sl false 9 v0)), (1, .one (.sl false 9 v1)), (14, .one (.bool v2))] [] : St D0) (onN (fun s => spec_QuartersOfHeard.C.tidy 6 s (fun s' => runC spec_QuartersOfHeard.C (spec_QuartersOfHeard.O N) N spec_QuartersOfHeard.c7 7 s' spec_QuartersOfHeard.K0)) spec_QuartersOfHeard.K0) = spec_QuartersOfHeard.o1 N v0 v1 v2 := by kernel_rfl
noncomputable def spec_QuartersOfHeard.d1 (N : Nat) (v0 : List ByteArray) (v1 : List ByteArray) (v2 : Bool) : Option spec_QuartersOfHeard.R := spec_QuartersOfHeard.o1 N v0 v1 v2
theorem spec_QuartersOfHeard.d1.run (N : Nat) (v0 : List ByteArray) (v1 : List ByteArray) (v2 : Bool) : runC spec_QuartersOfHeard.C (spec_QuartersOfHeard.O N) N spec_QuartersOfHeard.c13 13 (mkSt [(0, .one (.sl false 9 v0)), (1, .one (.sl false 9 v1)), (14, .one (.bool v2))] [] : St D0) (spec_QuartersOfHeard.K13 N) = spec_QuartersOfHeard.d1 N v0 v1 v2 := by
  exact (spec_QuartersOfHeard.o1.run N v0 v1 v2).trans rfl
noncomputable def spec_QuartersOfHeard.o0 (N : Nat) (a0 : List ByteArray) (a1 : List ByteArray) (c1 : (List ByteArray) → (List ByteArray) → Bool → Option spec_QuartersOfHeard.R) : Option spec_QuartersOfHeard.R :=
 (spec_beTune.g N a0).bind fun r1 =>
 bif (!r1) then
  c1 a0 a1 true
 else
 (spec_l1In.g N (a1.length : Int) 1 8).bind fun r2 =>
 c1 a0 a1 (!r2)
theorem spec_QuartersOfHeard.o0.run (N : Nat) (H13 : Code) (a0 : List ByteArray) (a1 : List ByteArray) : runC spec_QuartersOfHeard.C (spec_QuartersOfHeard.O N) N (.seq spec_QuartersOfHeard.c2 (.seq (.seq spec_QuartersOfHeard.c12 H13) spec_QuartersOfHeard.c7)) 1 (st0 [.one (.sl false 9 a0), .one (.sl false 9 a1)] [] : St D0) spec_QuartersOfHeard.K0 = spec_QuartersOfHeard.o0 N a0 a1 ((fun w0 w1 w2 => runC spec_QuartersOfHeard.C (spec_QuartersOfHeard.O N) N H13 13 (mkSt [(0, .one (.sl false 9 w0)), (1, .one (.sl false 9 w1)), (14, .one (.bool w2))] [] : St D0) (onN (fun s => spec_QuartersOfHeard.C.tidy 6 s (fun s' => runC spec_QuartersOfHeard.C (spec_QuartersOfHeard.O N) N spec_QuartersOfHeard.c7 7 s' spec_QuartersOfHeard.K0)) spec_QuartersOfHeard.K0))) := by kernel_rfl
noncomputable def spec_QuartersOfHeard.B6 (N : Nat) : St D0 → Option spec_QuartersOfHeard.R := fun s' => runC spec_QuartersOfHeard.C (spec_QuartersOfHeard.O N) N spec_QuartersOfHeard.c13 13 s' (spec_QuartersOfHeard.K13 N)
noncomputable def spec_QuartersOfHeard.g (N : Nat) (a0 : List ByteArray) (a1 : List ByteArray) : Option spec_QuartersOfHeard.R := spec_QuartersOfHeard.o0 N a0 a1 ((fun w0 w1 w2 => spec_QuartersOfHeard.d1 N w0 w1 w2))
theorem spec_QuartersOfHeard.c1_0 : spec_QuartersOfHeard.c1 = (.seq spec_QuartersOfHeard.c2 (.seq (.seq spec_QuartersOfHeard.c12 spec_QuartersOfHeard.c13) spec_QuartersOfHeard.c7)) := by kernel_rfl
theorem spec_QuartersOfHeard.g.run (N : Nat) (a0 : List ByteArray) (a1 : List ByteArray) : runC spec_QuartersOfHeard.C (spec_QuartersOfHeard.O N) N spec_QuartersOfHeard.c1 1 (st0 [.one (.sl false 9 a0), .one (.sl false 9 a1)] [] : St D0) spec_QuartersOfHeard.K0 = spec_QuartersOfHeard.g N a0 a1 := by
  rw [spec_QuartersOfHeard.c1_0]; unfold spec_QuartersOfHeard.g; exact (spec_QuartersOfHeard.o0.run N spec_QuartersOfHeard.c13 a0 a1).trans (congr rfl (funext fun w0 => funext fun w1 => funext fun w2 => spec_QuartersOfHeard.d1.run N w0 w1 w2))
theorem spec_QuartersOfHeard.good (N : Nat) (a0 : List ByteArray) (a1 : List ByteArray) (r : spec_QuartersOfHeard.R) (h : spec_QuartersOfHeard.g N a0 a1 = some r) : Go.PM.Good Go.Proofs.Tryd.prog T0 6 [.one (.sl false 9 a0), .one (.sl false 9 a1)] [] (spec_QuartersOfHeard.sig.ret r) (spec_QuartersOfHeard.sig.bs r) :=
  good_fn tabOk0 mixed0 spec_QuartersOfHeard.sig (spec_QuartersOfHeard.E N) Go.Proofs.Tryd.func6 (by kernel_rfl) (by kernel_rfl) 16435 0 0 [(12, [0, 1, 14], [])] 99392 false [] [(false, [.own 3]), (false, [.any])] (by kernel_rfl) rfl rfl ((spec_QuartersOfHeard.g.run N a0 a1).trans h)
noncomputable def spec_QuartersOfHeard.ent (N : Nat) : Ent Go.Proofs.Tryd.prog T0 := mkEnt 6 [(false, [.ro 9]), (false, [.ro 9])] spec_QuartersOfHeard.sig (fun t => spec_QuartersOfHeard.g N t.1 t.2) (fun t r h => spec_QuartersOfHeard.good N t.1 t.2 r h)
end Go.Proofs.YtpmipkbfohcjiaaDoor.M
