/- What the program's functions compute, walked by the machine (part 1). No conditions but those stated. -/
import Derived.Test.YtpeleommbipeaaaPm2
import Derived.Test.YtpeleommbipeaaaProg
namespace Go.Proofs.Ytpeleommbipeaaa.M
open Go Go.PM
set_option linter.unusedVariables false
set_option maxRecDepth 100000
end Go.Proofs.Ytpeleommbipeaaa.M
namespace Go.Proofs.Ytpeleommbipeaaa.P
structure S34 where
  f0 : Int
  f1 : Int
  f2 : Int
def z34 : S34 := ⟨0, 0, 0⟩
def rd_T34 (xs : List S34) (i : Int) : S34 := xs.getD i.toNat z34
structure S38 where
  f0 : Int
  f1 : Int
  f2 : Int
def z38 : S38 := ⟨0, 0, 0⟩
def rd_T38 (xs : List S38) (i : Int) : S38 := xs.getD i.toNat z38
end Go.Proofs.Ytpeleommbipeaaa.P
namespace Go.Proofs.Ytpeleommbipeaaa.M
open Go Go.PM Go.Proofs.Ytpeleommbipeaaa.P
abbrev D0 : TypeId → Type
  | 3 => Int
  | 5 => Int
  | 34 => S34
  | 38 => S38
  | _ => Unit
def T0 : Tab D0 where
  size := fun e => match e with
    | 3 => 1
    | 5 => 1
    | 34 => 3
    | 38 => 3
    | _ => 0
  out := fun e x => match e, x with
    | 3, x => [.int .i64 x]
    | 5, x => [.int .u8 x]
    | 34, x => [.int .i64 x.f0, .int .i64 x.f1, .int .i64 x.f2]
    | 38, x => [.int .i64 x.f0, .int .i64 x.f1, .int .i64 x.f2]
    | _, _ => []
  inn := fun e ls => match e, ls with
    | 3, [.int .i64 x0] => some x0
    | 5, [.int .u8 x0] => some x0
    | 34, [.int .i64 x0, .int .i64 x1, .int .i64 x2] => some ⟨x0, x1, x2⟩
    | 38, [.int .i64 x0, .int .i64 x1, .int .i64 x2] => some ⟨x0, x1, x2⟩
    | _, _ => none
theorem tabOk0 : TabOk T0 where
  out_len := by
    intro e x
    simp only [T0]
    split <;> first | rfl | (split <;> first | rfl | (rename_i h _ _ _ _; exact absurd HEq.rfl (fun h' => h _ rfl h')) | simp_all)
  inn_ok := by
    intro e ls x h C blk vs hF
    simp only [T0] at h
    split at h <;> first | (cases h; done) | (simp only [Option.some.injEq] at h; subst h; exact tab_inn hF rfl)
theorem mixed0 : Go.Proofs.Try.prog.follows .mixedOrders = true := by kernel_rfl
end Go.Proofs.Ytpeleommbipeaaa.M

namespace Go.Proofs.Ytpeleommbipeaaa.M
open Go Go.PM Go.Proofs.Ytpeleommbipeaaa.P
set_option linter.unusedVariables false
set_option maxRecDepth 100000
/-! ### impl_within -/
abbrev impl_within.R : Type := Bool
abbrev impl_within.sig : Sig := ⟨[(false, 1), (false, 1), (false, 1)], [], [.int .i64, .int .i64, .int .i64], [(false, 1)], [], [.bool]⟩
noncomputable def impl_within.C : Cfg D0 := ⟨Go.Proofs.Try.prog, T0, 71, 0, 15, 0, []⟩
noncomputable def impl_within.E (N : Nat) : List (Ent Go.Proofs.Try.prog T0) := []
noncomputable def impl_within.O (N : Nat) : Orc D0 impl_within.R := orcOf (impl_within.E N)
noncomputable def impl_within.K0 : Ex → St D0 → Option impl_within.R := exitK impl_within.C Go.Proofs.Try.f42.results.toList [(false, [.any])] (decOut impl_within.sig)
noncomputable def impl_within.c1 : Code := codeAt (Go.Proofs.Try.f42.body.getD .skip) []
noncomputable def impl_within.o0 (N : Nat) (a0 : Int) (a1 : Int) (a2 : Int) : Option impl_within.R :=
 bif (decide (a0 ≥ a1)) then
  some ((decide (a0 ≤ a2)))
 else
 some (false)
theorem impl_within.o0.run (N : Nat) (a0 : Int) (a1 : Int) (a2 : Int) : runC impl_within.C (impl_within.O N) N impl_within.c1 1 (st0 [.one (.int .i64 a0), .one (.int .i64 a1), .one (.int .i64 a2)] [] : St D0) impl_within.K0 = impl_within.o0 N a0 a1 a2 := by kernel_rfl
noncomputable def impl_within.g (N : Nat) (a0 : Int) (a1 : Int) (a2 : Int) : Option impl_within.R := impl_within.o0 N a0 a1 a2
theorem impl_within.g.run (N : Nat) (a0 : Int) (a1 : Int) (a2 : Int) : runC impl_within.C (impl_within.O N) N impl_within.c1 1 (st0 [.one (.int .i64 a0), .one (.int .i64 a1), .one (.int .i64 a2)] [] : St D0) impl_within.K0 = impl_within.g N a0 a1 a2 := by
  exact (impl_within.o0.run N a0 a1 a2).trans rfl
theorem impl_within.good (N : Nat) (a0 : Int) (a1 : Int) (a2 : Int) (r : impl_within.R) (h : impl_within.g N a0 a1 a2 = some r) : Go.PM.Good Go.Proofs.Try.prog T0 42 [.one (.int .i64 a0), .one (.int .i64 a1), .one (.int .i64 a2)] [] (impl_within.sig.ret r) (impl_within.sig.bs r) :=
  good_fn tabOk0 mixed0 impl_within.sig (impl_within.E N) Go.Proofs.Try.func42 (by kernel_rfl) (by kernel_rfl) 71 0 0 [] [(false, [.any])] (by kernel_rfl) rfl ((impl_within.g.run N a0 a1 a2).trans h)
noncomputable def impl_within.ent (N : Nat) : Ent Go.Proofs.Try.prog T0 := mkEnt 42 [(false, [.any]), (false, [.any]), (false, [.any])] impl_within.sig (fun t => impl_within.g N t.1 t.2.1 t.2.2) (fun t r h => impl_within.good N t.1 t.2.1 t.2.2 r h)
end Go.Proofs.Ytpeleommbipeaaa.M

namespace Go.Proofs.Ytpeleommbipeaaa.M
open Go Go.PM Go.Proofs.Ytpeleommbipeaaa.P
set_option linter.unusedVariables false
set_option maxRecDepth 100000
/-! ### impl_isDial -/
abbrev impl_isDial.R : Type := Bool
abbrev impl_isDial.sig : Sig := ⟨[(false, 1)], [], [.int .i64], [(false, 1)], [], [.bool]⟩
noncomputable def impl_isDial.C : Cfg D0 := ⟨Go.Proofs.Try.prog, T0, 5, 0, 5, 0, []⟩
noncomputable def impl_isDial.E (N : Nat) : List (Ent Go.Proofs.Try.prog T0) := [impl_within.ent N]
noncomputable def impl_isDial.O (N : Nat) : Orc D0 impl_isDial.R := orcOf (impl_isDial.E N)
noncomputable def impl_isDial.K0 : Ex → St D0 → Option impl_isDial.R := exitK impl_isDial.C Go.Proofs.Try.f54.results.toList [(false, [.any])] (decOut impl_isDial.sig)
noncomputable def impl_isDial.c1 : Code := codeAt (Go.Proofs.Try.f54.body.getD .skip) []
noncomputable def impl_isDial.o0 (N : Nat) (a0 : Int) : Option impl_isDial.R :=
 (impl_within.g N a0 2 24).bind fun r1 =>
 some (r1)
theorem impl_isDial.o0.run (N : Nat) (a0 : Int) : runC impl_isDial.C (impl_isDial.O N) N impl_isDial.c1 1 (st0 [.one (.int .i64 a0)] [] : St D0) impl_isDial.K0 = impl_isDial.o0 N a0 := by kernel_rfl
noncomputable def impl_isDial.g (N : Nat) (a0 : Int) : Option impl_isDial.R := impl_isDial.o0 N a0
theorem impl_isDial.g.run (N : Nat) (a0 : Int) : runC impl_isDial.C (impl_isDial.O N) N impl_isDial.c1 1 (st0 [.one (.int .i64 a0)] [] : St D0) impl_isDial.K0 = impl_isDial.g N a0 := by
  exact (impl_isDial.o0.run N a0).trans rfl
theorem impl_isDial.good (N : Nat) (a0 : Int) (r : impl_isDial.R) (h : impl_isDial.g N a0 = some r) : Go.PM.Good Go.Proofs.Try.prog T0 54 [.one (.int .i64 a0)] [] (impl_isDial.sig.ret r) (impl_isDial.sig.bs r) :=
  good_fn tabOk0 mixed0 impl_isDial.sig (impl_isDial.E N) Go.Proofs.Try.func54 (by kernel_rfl) (by kernel_rfl) 5 0 0 [] [(false, [.any])] (by kernel_rfl) rfl ((impl_isDial.g.run N a0).trans h)
noncomputable def impl_isDial.ent (N : Nat) : Ent Go.Proofs.Try.prog T0 := mkEnt 54 [(false, [.any])] impl_isDial.sig (fun t => impl_isDial.g N t) (fun t r h => impl_isDial.good N t r h)
end Go.Proofs.Ytpeleommbipeaaa.M

namespace Go.Proofs.Ytpeleommbipeaaa.M
open Go Go.PM Go.Proofs.Ytpeleommbipeaaa.P
set_option linter.unusedVariables false
set_option maxRecDepth 100000
/-! ### spec_l1In -/
abbrev spec_l1In.R : Type := Bool
abbrev spec_l1In.sig : Sig := ⟨[(false, 1), (false, 1), (false, 1)], [], [.int .i64, .int .i64, .int .i64], [(false, 1)], [], [.bool]⟩
noncomputable def spec_l1In.C : Cfg D0 := ⟨Go.Proofs.Try.prog, T0, 71, 0, 15, 0, []⟩
noncomputable def spec_l1In.E (N : Nat) : List (Ent Go.Proofs.Try.prog T0) := []
noncomputable def spec_l1In.O (N : Nat) : Orc D0 spec_l1In.R := orcOf (spec_l1In.E N)
noncomputable def spec_l1In.K0 : Ex → St D0 → Option spec_l1In.R := exitK spec_l1In.C Go.Proofs.Try.f39.results.toList [(false, [.any])] (decOut spec_l1In.sig)
noncomputable def spec_l1In.c1 : Code := codeAt (Go.Proofs.Try.f39.body.getD .skip) []
noncomputable def spec_l1In.o0 (N : Nat) (a0 : Int) (a1 : Int) (a2 : Int) : Option spec_l1In.R :=
 bif (decide (a0 ≥ a1)) then
  some ((decide (a0 ≤ a2)))
 else
 some (false)
theorem spec_l1In.o0.run (N : Nat) (a0 : Int) (a1 : Int) (a2 : Int) : runC spec_l1In.C (spec_l1In.O N) N spec_l1In.c1 1 (st0 [.one (.int .i64 a0), .one (.int .i64 a1), .one (.int .i64 a2)] [] : St D0) spec_l1In.K0 = spec_l1In.o0 N a0 a1 a2 := by kernel_rfl
noncomputable def spec_l1In.g (N : Nat) (a0 : Int) (a1 : Int) (a2 : Int) : Option spec_l1In.R := spec_l1In.o0 N a0 a1 a2
theorem spec_l1In.g.run (N : Nat) (a0 : Int) (a1 : Int) (a2 : Int) : runC spec_l1In.C (spec_l1In.O N) N spec_l1In.c1 1 (st0 [.one (.int .i64 a0), .one (.int .i64 a1), .one (.int .i64 a2)] [] : St D0) spec_l1In.K0 = spec_l1In.g N a0 a1 a2 := by
  exact (spec_l1In.o0.run N a0 a1 a2).trans rfl
theorem spec_l1In.good (N : Nat) (a0 : Int) (a1 : Int) (a2 : Int) (r : spec_l1In.R) (h : spec_l1In.g N a0 a1 a2 = some r) : Go.PM.Good Go.Proofs.Try.prog T0 39 [.one (.int .i64 a0), .one (.int .i64 a1), .one (.int .i64 a2)] [] (spec_l1In.sig.ret r) (spec_l1In.sig.bs r) :=
  good_fn tabOk0 mixed0 spec_l1In.sig (spec_l1In.E N) Go.Proofs.Try.func39 (by kernel_rfl) (by kernel_rfl) 71 0 0 [] [(false, [.any])] (by kernel_rfl) rfl ((spec_l1In.g.run N a0 a1 a2).trans h)
noncomputable def spec_l1In.ent (N : Nat) : Ent Go.Proofs.Try.prog T0 := mkEnt 39 [(false, [.any]), (false, [.any]), (false, [.any])] spec_l1In.sig (fun t => spec_l1In.g N t.1 t.2.1 t.2.2) (fun t r h => spec_l1In.good N t.1 t.2.1 t.2.2 r h)
end Go.Proofs.Ytpeleommbipeaaa.M

namespace Go.Proofs.Ytpeleommbipeaaa.M
open Go Go.PM Go.Proofs.Ytpeleommbipeaaa.P
set_option linter.unusedVariables false
set_option maxRecDepth 100000
/-! ### spec_diHours -/
abbrev spec_diHours.R : Type := Bool
abbrev spec_diHours.sig : Sig := ⟨[(false, 1)], [], [.int .i64], [(false, 1)], [], [.bool]⟩
noncomputable def spec_diHours.C : Cfg D0 := ⟨Go.Proofs.Try.prog, T0, 5, 0, 5, 0, []⟩
noncomputable def spec_diHours.E (N : Nat) : List (Ent Go.Proofs.Try.prog T0) := [spec_l1In.ent N]
noncomputable def spec_diHours.O (N : Nat) : Orc D0 spec_diHours.R := orcOf (spec_diHours.E N)
noncomputable def spec_diHours.K0 : Ex → St D0 → Option spec_diHours.R := exitK spec_diHours.C Go.Proofs.Try.f38.results.toList [(false, [.any])] (decOut spec_diHours.sig)
noncomputable def spec_diHours.c1 : Code := codeAt (Go.Proofs.Try.f38.body.getD .skip) []
noncomputable def spec_diHours.o0 (N : Nat) (a0 : Int) : Option spec_diHours.R :=
 (spec_l1In.g N a0 2 24).bind fun r1 =>
 some (r1)
theorem spec_diHours.o0.run (N : Nat) (a0 : Int) : runC spec_diHours.C (spec_diHours.O N) N spec_diHours.c1 1 (st0 [.one (.int .i64 a0)] [] : St D0) spec_diHours.K0 = spec_diHours.o0 N a0 := by kernel_rfl
noncomputable def spec_diHours.g (N : Nat) (a0 : Int) : Option spec_diHours.R := spec_diHours.o0 N a0
theorem spec_diHours.g.run (N : Nat) (a0 : Int) : runC spec_diHours.C (spec_diHours.O N) N spec_diHours.c1 1 (st0 [.one (.int .i64 a0)] [] : St D0) spec_diHours.K0 = spec_diHours.g N a0 := by
  exact (spec_diHours.o0.run N a0).trans rfl
theorem spec_diHours.good (N : Nat) (a0 : Int) (r : spec_diHours.R) (h : spec_diHours.g N a0 = some r) : Go.PM.Good Go.Proofs.Try.prog T0 38 [.one (.int .i64 a0)] [] (spec_diHours.sig.ret r) (spec_diHours.sig.bs r) :=
  good_fn tabOk0 mixed0 spec_diHours.sig (spec_diHours.E N) Go.Proofs.Try.func38 (by kernel_rfl) (by kernel_rfl) 5 0 0 [] [(false, [.any])] (by kernel_rfl) rfl ((spec_diHours.g.run N a0).trans h)
noncomputable def spec_diHours.ent (N : Nat) : Ent Go.Proofs.Try.prog T0 := mkEnt 38 [(false, [.any])] spec_diHours.sig (fun t => spec_diHours.g N t) (fun t r h => spec_diHours.good N t r h)
end Go.Proofs.Ytpeleommbipeaaa.M

namespace Go.Proofs.Ytpeleommbipeaaa.M
open Go Go.PM Go.Proofs.Ytpeleommbipeaaa.P
set_option linter.unusedVariables false
set_option maxRecDepth 100000
/-! ### laws_kSame -/
abbrev laws_kSame.R : Type := Bool
abbrev laws_kSame.sig : Sig := ⟨[(false, 1), (false, 1)], [], [.sl false 3, .sl false 3], [(false, 1)], [], [.bool]⟩
noncomputable def laws_kSame.C : Cfg D0 := ⟨Go.Proofs.Try.prog, T0, 16806963, 0, 26, 0, [(58, [0, 1, 12, 13], [])]⟩
noncomputable def laws_kSame.E (N : Nat) : List (Ent Go.Proofs.Try.prog T0) := []
noncomputable def laws_kSame.O (N : Nat) : Orc D0 laws_kSame.R := orcOf (laws_kSame.E N)
noncomputable def laws_kSame.K0 : Ex → St D0 → Option laws_kSame.R := exitK laws_kSame.C Go.Proofs.Try.f25.results.toList [(false, [.any])] (decOut laws_kSame.sig)
noncomputable def laws_kSame.c1 : Code := codeAt (Go.Proofs.Try.f25.body.getD .skip) []
noncomputable def laws_kSame.c2 : Code := codeAt (Go.Proofs.Try.f25.body.getD .skip) [false]
noncomputable def laws_kSame.c6 : Code := codeAt (Go.Proofs.Try.f25.body.getD .skip) [true, false]
noncomputable def laws_kSame.c15 : Code := codeAt (Go.Proofs.Try.f25.body.getD .skip) [true, true, true]
noncomputable def laws_kSame.c28 : Code := codeAt (Go.Proofs.Try.f25.body.getD .skip) [true, true, false, false]
noncomputable def laws_kSame.c116 : Code := codeAt (Go.Proofs.Try.f25.body.getD .skip) [true, true, false, true, false, false]
noncomputable def laws_kSame.K116 (N : Nat) (Kn58 : St D0 → Option laws_kSame.R) : Ex → St D0 → Option laws_kSame.R := (onN (fun s => laws_kSame.C.tidy 58 s ((onN Kn58 (blockK 0 (onN (fun s => laws_kSame.C.tidy 14 s (fun s' => runC laws_kSame.C (laws_kSame.O N) N laws_kSame.c15 15 s' laws_kSame.K0)) laws_kSame.K0))) .normal)) (onN Kn58 (blockK 0 (onN (fun s => laws_kSame.C.tidy 14 s (fun s' => runC laws_kSame.C (laws_kSame.O N) N laws_kSame.c15 15 s' laws_kSame.K0)) laws_kSame.K0))))
noncomputable def laws_kSame.o1 (N : Nat) (v0 : List Int) (v1 : List Int) (v2 : Int) (v3 : Int) (c1 : (List Int) → (List Int) → Int → Int → Option laws_kSame.R) : Option laws_kSame.R :=
 bif (decide (v3 < v2)) then
  bif (decide (0 ≤ v3)) then
   bif (decide (v3 < (v0.length : Int))) then
    (v0[(v3 : Int).toNat]?).bind fun x1 =>
    bif (decide (0 ≤ v3)) then
     bif (decide (v3 < (v1.length : Int))) then
      (v1[(v3 : Int).toNat]?).bind fun x2 =>
      bif (x1 != x2) then
       some (false)
      else
      c1 v0 v1 v2 (w64 (v3 + 1))
     else
     none
    else
    none
   else
   none
  else
  none
 else
 some (true)
theorem laws_kSame.o1.run (N : Nat) (Kn58 : St D0 → Option laws_kSame.R) (v0 : List Int) (v1 : List Int) (v2 : Int) (v3 : Int) : runC laws_kSame.C (laws_kSame.O N) N laws_kSame.c116 116 (mkSt [(0, .one (.sl false 3 v0)), (1, .one (.sl false 3 v1)), (12, .one (.int .i64 v2)), (13, .one (.int .i64 v3))] [] : St D0) (onN (fun s => laws_kSame.C.tidy 58 s ((onN Kn58 (blockK 0 (onN (fun s => laws_kSame.C.tidy 14 s (fun s' => runC laws_kSame.C (laws_kSame.O N) N laws_kSame.c15 15 s' laws_kSame.K0)) laws_kSame.K0))) .normal)) (onN Kn58 (blockK 0 (onN (fun s => laws_kSame.C.tidy 14 s (fun s' => runC laws_kSame.C (laws_kSame.O N) N laws_kSame.c15 15 s' laws_kSame.K0)) laws_kSame.K0)))) = laws_kSame.o1 N v0 v1 v2 v3 ((fun w0 w1 w2 w3 => Kn58 (mkSt [(0, .one (.sl false 3 w0)), (1, .one (.sl false 3 w1)), (12, .one (.int .i64 w2)), (13, .one (.int .i64 w3))] [] : St D0))) := by kernel_rfl
noncomputable def laws_kSame.d1 (N : Nat) (v0 : List Int) (v1 : List Int) (v2 : Int) (v3 : Int) (c1 : (List Int) → (List Int) → Int → Int → Option laws_kSame.R) : Option laws_kSame.R := laws_kSame.o1 N v0 v1 v2 v3 c1
theorem laws_kSame.d1.run (N : Nat) (Kn58 : St D0 → Option laws_kSame.R) (v0 : List Int) (v1 : List Int) (v2 : Int) (v3 : Int) : runC laws_kSame.C (laws_kSame.O N) N laws_kSame.c116 116 (mkSt [(0, .one (.sl false 3 v0)), (1, .one (.sl false 3 v1)), (12, .one (.int .i64 v2)), (13, .one (.int .i64 v3))] [] : St D0) (laws_kSame.K116 N Kn58) = laws_kSame.d1 N v0 v1 v2 v3 ((fun w0 w1 w2 w3 => Kn58 (mkSt [(0, .one (.sl false 3 w0)), (1, .one (.sl false 3 w1)), (12, .one (.int .i64 w2)), (13, .one (.int .i64 w3))] [] : St D0))) := by
  exact (laws_kSame.o1.run N Kn58 v0 v1 v2 v3).trans rfl
noncomputable def laws_kSame.K58 (N : Nat) : Ex → St D0 → Option laws_kSame.R := (blockK 0 (onN (fun s => laws_kSame.C.tidy 14 s (fun s' => runC laws_kSame.C (laws_kSame.O N) N laws_kSame.c15 15 s' laws_kSame.K0)) laws_kSame.K0))
noncomputable def laws_kSame.l1 (N : Nat) : Nat → (List Int) → (List Int) → Int → Int → Option laws_kSame.R
  | 0, _, _, _, _ => none
  | n + 1, v0, v1, v2, v3 => laws_kSame.d1 N v0 v1 v2 v3 ((fun w0 w1 w2 w3 => laws_kSame.l1 N n w0 w1 w2 w3))
theorem laws_kSame.loop58 (N : Nat) : ∀ n, (∀ (v0 : List Int) (v1 : List Int) (v2 : Int) (v3 : Int), iter (loopF laws_kSame.C (laws_kSame.O N) N laws_kSame.c116 58) n (mkSt [(0, .one (.sl false 3 v0)), (1, .one (.sl false 3 v1)), (12, .one (.int .i64 v2)), (13, .one (.int .i64 v3))] [] : St D0) (laws_kSame.K58 N) = laws_kSame.l1 N n v0 v1 v2 v3)
  | 0 => (fun v0 v1 v2 v3 => rfl)
  | n + 1 => (fun v0 v1 v2 v3 => (laws_kSame.d1.run N (fun s => iter (loopF laws_kSame.C (laws_kSame.O N) N laws_kSame.c116 58) n s (laws_kSame.K58 N)) v0 v1 v2 v3).trans (show _ = laws_kSame.d1 N v0 v1 v2 v3 ((fun w0 w1 w2 w3 => laws_kSame.l1 N n w0 w1 w2 w3)) from (congr rfl (funext fun w0 => funext fun w1 => funext fun w2 => funext fun w3 => (laws_kSame.loop58 N n) w0 w1 w2 w3))))
noncomputable def laws_kSame.o0 (N : Nat) (a0 : List Int) (a1 : List Int) (c1 : (List Int) → (List Int) → Int → Int → Option laws_kSame.R) : Option laws_kSame.R :=
 bif ((a0.length : Int) != (a1.length : Int)) then
  some (false)
 else
 c1 a0 a1 (a0.length : Int) 0
theorem laws_kSame.o0.run (N : Nat) (H116 : Code) (a0 : List Int) (a1 : List Int) : runC laws_kSame.C (laws_kSame.O N) N (.seq laws_kSame.c2 (.seq laws_kSame.c6 (.seq (.seq laws_kSame.c28 (.block 0 (.loop H116))) laws_kSame.c15))) 1 (st0 [.one (.sl false 3 a0), .one (.sl false 3 a1)] [] : St D0) laws_kSame.K0 = laws_kSame.o0 N a0 a1 ((fun w0 w1 w2 w3 => iter (loopF laws_kSame.C (laws_kSame.O N) N H116 58) N (mkSt [(0, .one (.sl false 3 w0)), (1, .one (.sl false 3 w1)), (12, .one (.int .i64 w2)), (13, .one (.int .i64 w3))] [] : St D0) (blockK 0 (onN (fun s => laws_kSame.C.tidy 14 s (fun s' => runC laws_kSame.C (laws_kSame.O N) N laws_kSame.c15 15 s' laws_kSame.K0)) laws_kSame.K0)))) := by kernel_rfl
noncomputable def laws_kSame.g (N : Nat) (a0 : List Int) (a1 : List Int) : Option laws_kSame.R := laws_kSame.o0 N a0 a1 ((fun w0 w1 w2 w3 => laws_kSame.l1 N N w0 w1 w2 w3))
theorem laws_kSame.c1_0 : laws_kSame.c1 = (.seq laws_kSame.c2 (.seq laws_kSame.c6 (.seq (.seq laws_kSame.c28 (.block 0 (.loop laws_kSame.c116))) laws_kSame.c15))) := by kernel_rfl
theorem laws_kSame.g.run (N : Nat) (a0 : List Int) (a1 : List Int) : runC laws_kSame.C (laws_kSame.O N) N laws_kSame.c1 1 (st0 [.one (.sl false 3 a0), .one (.sl false 3 a1)] [] : St D0) laws_kSame.K0 = laws_kSame.g N a0 a1 := by
  rw [laws_kSame.c1_0]; unfold laws_kSame.g; exact (laws_kSame.o0.run N laws_kSame.c116 a0 a1).trans (congr rfl (funext fun w0 => funext fun w1 => funext fun w2 => funext fun w3 => (laws_kSame.loop58 N N) w0 w1 w2 w3))
theorem laws_kSame.good (N : Nat) (a0 : List Int) (a1 : List Int) (r : laws_kSame.R) (h : laws_kSame.g N a0 a1 = some r) : Go.PM.Good Go.Proofs.Try.prog T0 25 [.one (.sl false 3 a0), .one (.sl false 3 a1)] [] (laws_kSame.sig.ret r) (laws_kSame.sig.bs r) :=
  good_fn tabOk0 mixed0 laws_kSame.sig (laws_kSame.E N) Go.Proofs.Try.func25 (by kernel_rfl) (by kernel_rfl) 16806963 0 0 [(58, [0, 1, 12, 13], [])] [(false, [.any])] (by kernel_rfl) rfl ((laws_kSame.g.run N a0 a1).trans h)
noncomputable def laws_kSame.ent (N : Nat) : Ent Go.Proofs.Try.prog T0 := mkEnt 25 [(false, [.ro 3]), (false, [.ro 3])] laws_kSame.sig (fun t => laws_kSame.g N t.1 t.2) (fun t r h => laws_kSame.good N t.1 t.2 r h)
end Go.Proofs.Ytpeleommbipeaaa.M

namespace Go.Proofs.Ytpeleommbipeaaa.M
open Go Go.PM Go.Proofs.Ytpeleommbipeaaa.P
set_option linter.unusedVariables false
set_option maxRecDepth 100000
/-! ### spec_pzAhead -/
abbrev spec_pzAhead.R : Type := Int
abbrev spec_pzAhead.sig : Sig := ⟨[(false, 1), (false, 1)], [], [.int .i64, .int .i64], [(false, 1)], [], [.int .i64]⟩
noncomputable def spec_pzAhead.C : Cfg D0 := ⟨Go.Proofs.Try.prog, T0, 19, 0, 18, 0, []⟩
noncomputable def spec_pzAhead.E (N : Nat) : List (Ent Go.Proofs.Try.prog T0) := []
noncomputable def spec_pzAhead.O (N : Nat) : Orc D0 spec_pzAhead.R := orcOf (spec_pzAhead.E N)
noncomputable def spec_pzAhead.K0 : Ex → St D0 → Option spec_pzAhead.R := exitK spec_pzAhead.C Go.Proofs.Try.f73.results.toList [(false, [.any])] (decOut spec_pzAhead.sig)
noncomputable def spec_pzAhead.c1 : Code := codeAt (Go.Proofs.Try.f73.body.getD .skip) []
noncomputable def spec_pzAhead.o0 (N : Nat) (a0 : Int) (a1 : Int) : Option spec_pzAhead.R :=
 bif ((w64 (60 * a0)) == 0) then
  none
 else
 bif ((w64 (60 * a0)) == 0) then
  none
 else
 some ((Int.tmod (w64 ((Int.tmod (w64 ((w64 (a0 - 1)) * a1)) (w64 (60 * a0))) + (w64 (60 * a0)))) (w64 (60 * a0))))
theorem spec_pzAhead.o0.run (N : Nat) (a0 : Int) (a1 : Int) : runC spec_pzAhead.C (spec_pzAhead.O N) N spec_pzAhead.c1 1 (st0 [.one (.int .i64 a0), .one (.int .i64 a1)] [] : St D0) spec_pzAhead.K0 = spec_pzAhead.o0 N a0 a1 := by kernel_rfl
noncomputable def spec_pzAhead.g (N : Nat) (a0 : Int) (a1 : Int) : Option spec_pzAhead.R := spec_pzAhead.o0 N a0 a1
theorem spec_pzAhead.g.run (N : Nat) (a0 : Int) (a1 : Int) : runC spec_pzAhead.C (spec_pzAhead.O N) N spec_pzAhead.c1 1 (st0 [.one (.int .i64 a0), .one (.int .i64 a1)] [] : St D0) spec_pzAhead.K0 = spec_pzAhead.g N a0 a1 := by
  exact (spec_pzAhead.o0.run N a0 a1).trans rfl
theorem spec_pzAhead.good (N : Nat) (a0 : Int) (a1 : Int) (r : spec_pzAhead.R) (h : spec_pzAhead.g N a0 a1 = some r) : Go.PM.Good Go.Proofs.Try.prog T0 73 [.one (.int .i64 a0), .one (.int .i64 a1)] [] (spec_pzAhead.sig.ret r) (spec_pzAhead.sig.bs r) :=
  good_fn tabOk0 mixed0 spec_pzAhead.sig (spec_pzAhead.E N) Go.Proofs.Try.func73 (by kernel_rfl) (by kernel_rfl) 19 0 0 [] [(false, [.any])] (by kernel_rfl) rfl ((spec_pzAhead.g.run N a0 a1).trans h)
noncomputable def spec_pzAhead.ent (N : Nat) : Ent Go.Proofs.Try.prog T0 := mkEnt 73 [(false, [.any]), (false, [.any])] spec_pzAhead.sig (fun t => spec_pzAhead.g N t.1 t.2) (fun t r h => spec_pzAhead.good N t.1 t.2 r h)
end Go.Proofs.Ytpeleommbipeaaa.M

namespace Go.Proofs.Ytpeleommbipeaaa.M
open Go Go.PM Go.Proofs.Ytpeleommbipeaaa.P
set_option linter.unusedVariables false
set_option maxRecDepth 100000
/-! ### spec_stAt -/
abbrev spec_stAt.R : Type := Int
abbrev spec_stAt.sig : Sig := ⟨[(false, 1), (false, 1)], [], [.int .i64, .int .i64], [(false, 1)], [], [.int .i64]⟩
noncomputable def spec_stAt.C : Cfg D0 := ⟨Go.Proofs.Try.prog, T0, 563, 0, 15, 0, []⟩
noncomputable def spec_stAt.E (N : Nat) : List (Ent Go.Proofs.Try.prog T0) := []
noncomputable def spec_stAt.O (N : Nat) : Orc D0 spec_stAt.R := orcOf (spec_stAt.E N)
noncomputable def spec_stAt.K0 : Ex → St D0 → Option spec_stAt.R := exitK spec_stAt.C Go.Proofs.Try.f81.results.toList [(false, [.any])] (decOut spec_stAt.sig)
noncomputable def spec_stAt.c1 : Code := codeAt (Go.Proofs.Try.f81.body.getD .skip) []
noncomputable def spec_stAt.o0 (N : Nat) (a0 : Int) (a1 : Int) : Option spec_stAt.R :=
 bif ((Int.tmod a1 2) == 1) then
  some (1)
 else
 bif (a1 == 0) then
  some (a0)
 else
 some ((w64 (Int.tdiv a1 2)))
theorem spec_stAt.o0.run (N : Nat) (a0 : Int) (a1 : Int) : runC spec_stAt.C (spec_stAt.O N) N spec_stAt.c1 1 (st0 [.one (.int .i64 a0), .one (.int .i64 a1)] [] : St D0) spec_stAt.K0 = spec_stAt.o0 N a0 a1 := by kernel_rfl
noncomputable def spec_stAt.g (N : Nat) (a0 : Int) (a1 : Int) : Option spec_stAt.R := spec_stAt.o0 N a0 a1
theorem spec_stAt.g.run (N : Nat) (a0 : Int) (a1 : Int) : runC spec_stAt.C (spec_stAt.O N) N spec_stAt.c1 1 (st0 [.one (.int .i64 a0), .one (.int .i64 a1)] [] : St D0) spec_stAt.K0 = spec_stAt.g N a0 a1 := by
  exact (spec_stAt.o0.run N a0 a1).trans rfl
theorem spec_stAt.good (N : Nat) (a0 : Int) (a1 : Int) (r : spec_stAt.R) (h : spec_stAt.g N a0 a1 = some r) : Go.PM.Good Go.Proofs.Try.prog T0 81 [.one (.int .i64 a0), .one (.int .i64 a1)] [] (spec_stAt.sig.ret r) (spec_stAt.sig.bs r) :=
  good_fn tabOk0 mixed0 spec_stAt.sig (spec_stAt.E N) Go.Proofs.Try.func81 (by kernel_rfl) (by kernel_rfl) 563 0 0 [] [(false, [.any])] (by kernel_rfl) rfl ((spec_stAt.g.run N a0 a1).trans h)
noncomputable def spec_stAt.ent (N : Nat) : Ent Go.Proofs.Try.prog T0 := mkEnt 81 [(false, [.any]), (false, [.any])] spec_stAt.sig (fun t => spec_stAt.g N t.1 t.2) (fun t r h => spec_stAt.good N t.1 t.2 r h)
end Go.Proofs.Ytpeleommbipeaaa.M

namespace Go.Proofs.Ytpeleommbipeaaa.M
open Go Go.PM Go.Proofs.Ytpeleommbipeaaa.P
set_option linter.unusedVariables false
set_option maxRecDepth 100000
/-! ### spec_pzNext -/
abbrev spec_pzNext.R : Type := Int
abbrev spec_pzNext.sig : Sig := ⟨[(false, 1), (false, 1)], [], [.int .i64, .int .i64], [(false, 1)], [], [.int .i64]⟩
noncomputable def spec_pzNext.C : Cfg D0 := ⟨Go.Proofs.Try.prog, T0, 19, 0, 13, 0, []⟩
noncomputable def spec_pzNext.E (N : Nat) : List (Ent Go.Proofs.Try.prog T0) := [spec_stAt.ent N]
noncomputable def spec_pzNext.O (N : Nat) : Orc D0 spec_pzNext.R := orcOf (spec_pzNext.E N)
noncomputable def spec_pzNext.K0 : Ex → St D0 → Option spec_pzNext.R := exitK spec_pzNext.C Go.Proofs.Try.f74.results.toList [(false, [.any])] (decOut spec_pzNext.sig)
noncomputable def spec_pzNext.c1 : Code := codeAt (Go.Proofs.Try.f74.body.getD .skip) []
noncomputable def spec_pzNext.o0 (N : Nat) (a0 : Int) (a1 : Int) : Option spec_pzNext.R :=
 bif (a0 == 0) then
  none
 else
 (spec_stAt.g N a0 (w64 (2 * (Int.tmod (w64 ((w64 (Int.tdiv a1 60)) + 1)) a0)))).bind fun r1 =>
 some (r1)
theorem spec_pzNext.o0.run (N : Nat) (a0 : Int) (a1 : Int) : runC spec_pzNext.C (spec_pzNext.O N) N spec_pzNext.c1 1 (st0 [.one (.int .i64 a0), .one (.int .i64 a1)] [] : St D0) spec_pzNext.K0 = spec_pzNext.o0 N a0 a1 := by kernel_rfl
noncomputable def spec_pzNext.g (N : Nat) (a0 : Int) (a1 : Int) : Option spec_pzNext.R := spec_pzNext.o0 N a0 a1
theorem spec_pzNext.g.run (N : Nat) (a0 : Int) (a1 : Int) : runC spec_pzNext.C (spec_pzNext.O N) N spec_pzNext.c1 1 (st0 [.one (.int .i64 a0), .one (.int .i64 a1)] [] : St D0) spec_pzNext.K0 = spec_pzNext.g N a0 a1 := by
  exact (spec_pzNext.o0.run N a0 a1).trans rfl
theorem spec_pzNext.good (N : Nat) (a0 : Int) (a1 : Int) (r : spec_pzNext.R) (h : spec_pzNext.g N a0 a1 = some r) : Go.PM.Good Go.Proofs.Try.prog T0 74 [.one (.int .i64 a0), .one (.int .i64 a1)] [] (spec_pzNext.sig.ret r) (spec_pzNext.sig.bs r) :=
  good_fn tabOk0 mixed0 spec_pzNext.sig (spec_pzNext.E N) Go.Proofs.Try.func74 (by kernel_rfl) (by kernel_rfl) 19 0 0 [] [(false, [.any])] (by kernel_rfl) rfl ((spec_pzNext.g.run N a0 a1).trans h)
noncomputable def spec_pzNext.ent (N : Nat) : Ent Go.Proofs.Try.prog T0 := mkEnt 74 [(false, [.any]), (false, [.any])] spec_pzNext.sig (fun t => spec_pzNext.g N t.1 t.2) (fun t r h => spec_pzNext.good N t.1 t.2 r h)
end Go.Proofs.Ytpeleommbipeaaa.M

namespace Go.Proofs.Ytpeleommbipeaaa.M
open Go Go.PM Go.Proofs.Ytpeleommbipeaaa.P
set_option linter.unusedVariables false
set_option maxRecDepth 100000
/-! ### spec_l1Most -/
abbrev spec_l1Most.R : Type := Int
abbrev spec_l1Most.sig : Sig := ⟨[(false, 1), (false, 1)], [], [.int .i64, .int .i64], [(false, 1)], [], [.int .i64]⟩
noncomputable def spec_l1Most.C : Cfg D0 := ⟨Go.Proofs.Try.prog, T0, 147, 0, 10, 0, []⟩
noncomputable def spec_l1Most.E (N : Nat) : List (Ent Go.Proofs.Try.prog T0) := []
noncomputable def spec_l1Most.O (N : Nat) : Orc D0 spec_l1Most.R := orcOf (spec_l1Most.E N)
noncomputable def spec_l1Most.K0 : Ex → St D0 → Option spec_l1Most.R := exitK spec_l1Most.C Go.Proofs.Try.f72.results.toList [(false, [.any])] (decOut spec_l1Most.sig)
noncomputable def spec_l1Most.c1 : Code := codeAt (Go.Proofs.Try.f72.body.getD .skip) []
noncomputable def spec_l1Most.o0 (N : Nat) (a0 : Int) (a1 : Int) : Option spec_l1Most.R :=
 bif (decide (a0 > a1)) then
  some (a0)
 else
 some (a1)
theorem spec_l1Most.o0.run (N : Nat) (a0 : Int) (a1 : Int) : runC spec_l1Most.C (spec_l1Most.O N) N spec_l1Most.c1 1 (st0 [.one (.int .i64 a0), .one (.int .i64 a1)] [] : St D0) spec_l1Most.K0 = spec_l1Most.o0 N a0 a1 := by kernel_rfl
noncomputable def spec_l1Most.g (N : Nat) (a0 : Int) (a1 : Int) : Option spec_l1Most.R := spec_l1Most.o0 N a0 a1
theorem spec_l1Most.g.run (N : Nat) (a0 : Int) (a1 : Int) : runC spec_l1Most.C (spec_l1Most.O N) N spec_l1Most.c1 1 (st0 [.one (.int .i64 a0), .one (.int .i64 a1)] [] : St D0) spec_l1Most.K0 = spec_l1Most.g N a0 a1 := by
  exact (spec_l1Most.o0.run N a0 a1).trans rfl
theorem spec_l1Most.good (N : Nat) (a0 : Int) (a1 : Int) (r : spec_l1Most.R) (h : spec_l1Most.g N a0 a1 = some r) : Go.PM.Good Go.Proofs.Try.prog T0 72 [.one (.int .i64 a0), .one (.int .i64 a1)] [] (spec_l1Most.sig.ret r) (spec_l1Most.sig.bs r) :=
  good_fn tabOk0 mixed0 spec_l1Most.sig (spec_l1Most.E N) Go.Proofs.Try.func72 (by kernel_rfl) (by kernel_rfl) 147 0 0 [] [(false, [.any])] (by kernel_rfl) rfl ((spec_l1Most.g.run N a0 a1).trans h)
noncomputable def spec_l1Most.ent (N : Nat) : Ent Go.Proofs.Try.prog T0 := mkEnt 72 [(false, [.any]), (false, [.any])] spec_l1Most.sig (fun t => spec_l1Most.g N t.1 t.2) (fun t r h => spec_l1Most.good N t.1 t.2 r h)
end Go.Proofs.Ytpeleommbipeaaa.M

namespace Go.Proofs.Ytpeleommbipeaaa.M
open Go Go.PM Go.Proofs.Ytpeleommbipeaaa.P
set_option linter.unusedVariables false
set_option maxRecDepth 100000
/-! ### spec_l1Abs -/
abbrev spec_l1Abs.R : Type := Int
abbrev spec_l1Abs.sig : Sig := ⟨[(false, 1)], [], [.int .i64], [(false, 1)], [], [.int .i64]⟩
noncomputable def spec_l1Abs.C : Cfg D0 := ⟨Go.Proofs.Try.prog, T0, 5, 0, 7, 0, []⟩
noncomputable def spec_l1Abs.E (N : Nat) : List (Ent Go.Proofs.Try.prog T0) := [spec_l1Most.ent N]
noncomputable def spec_l1Abs.O (N : Nat) : Orc D0 spec_l1Abs.R := orcOf (spec_l1Abs.E N)
noncomputable def spec_l1Abs.K0 : Ex → St D0 → Option spec_l1Abs.R := exitK spec_l1Abs.C Go.Proofs.Try.f75.results.toList [(false, [.any])] (decOut spec_l1Abs.sig)
noncomputable def spec_l1Abs.c1 : Code := codeAt (Go.Proofs.Try.f75.body.getD .skip) []
noncomputable def spec_l1Abs.o0 (N : Nat) (a0 : Int) : Option spec_l1Abs.R :=
 (spec_l1Most.g N a0 (w64 (0 - a0))).bind fun r1 =>
 some (r1)
theorem spec_l1Abs.o0.run (N : Nat) (a0 : Int) : runC spec_l1Abs.C (spec_l1Abs.O N) N spec_l1Abs.c1 1 (st0 [.one (.int .i64 a0)] [] : St D0) spec_l1Abs.K0 = spec_l1Abs.o0 N a0 := by kernel_rfl
noncomputable def spec_l1Abs.g (N : Nat) (a0 : Int) : Option spec_l1Abs.R := spec_l1Abs.o0 N a0
theorem spec_l1Abs.g.run (N : Nat) (a0 : Int) : runC spec_l1Abs.C (spec_l1Abs.O N) N spec_l1Abs.c1 1 (st0 [.one (.int .i64 a0)] [] : St D0) spec_l1Abs.K0 = spec_l1Abs.g N a0 := by
  exact (spec_l1Abs.o0.run N a0).trans rfl
theorem spec_l1Abs.good (N : Nat) (a0 : Int) (r : spec_l1Abs.R) (h : spec_l1Abs.g N a0 = some r) : Go.PM.Good Go.Proofs.Try.prog T0 75 [.one (.int .i64 a0)] [] (spec_l1Abs.sig.ret r) (spec_l1Abs.sig.bs r) :=
  good_fn tabOk0 mixed0 spec_l1Abs.sig (spec_l1Abs.E N) Go.Proofs.Try.func75 (by kernel_rfl) (by kernel_rfl) 5 0 0 [] [(false, [.any])] (by kernel_rfl) rfl ((spec_l1Abs.g.run N a0).trans h)
noncomputable def spec_l1Abs.ent (N : Nat) : Ent Go.Proofs.Try.prog T0 := mkEnt 75 [(false, [.any])] spec_l1Abs.sig (fun t => spec_l1Abs.g N t) (fun t r h => spec_l1Abs.good N t r h)
end Go.Proofs.Ytpeleommbipeaaa.M

namespace Go.Proofs.Ytpeleommbipeaaa.M
open Go Go.PM Go.Proofs.Ytpeleommbipeaaa.P
set_option linter.unusedVariables false
set_option maxRecDepth 100000
/-! ### spec_pzFits -/
abbrev spec_pzFits.R : Type := Bool
abbrev spec_pzFits.sig : Sig := ⟨[(false, 1), (true, 3), (false, 1)], [], [.int .i64, .int .i64, .int .i64, .int .i64, .int .i64], [(false, 1)], [], [.bool]⟩
noncomputable def spec_pzFits.C : Cfg D0 := ⟨Go.Proofs.Try.prog, T0, 288300745971778007, 0, 73, 0, []⟩
noncomputable def spec_pzFits.E (N : Nat) : List (Ent Go.Proofs.Try.prog T0) := [spec_pzAhead.ent N, spec_pzNext.ent N, spec_l1Abs.ent N]
noncomputable def spec_pzFits.O (N : Nat) : Orc D0 spec_pzFits.R := orcOf (spec_pzFits.E N)
noncomputable def spec_pzFits.K0 : Ex → St D0 → Option spec_pzFits.R := exitK spec_pzFits.C Go.Proofs.Try.f62.results.toList [(false, [.any])] (decOut spec_pzFits.sig)
noncomputable def spec_pzFits.c1 : Code := codeAt (Go.Proofs.Try.f62.body.getD .skip) []
noncomputable def spec_pzFits.o0 (N : Nat) (a0 : Int) (a1_0 : Int) (a1_1 : Int) (a1_2 : Int) (a2 : Int) : Option spec_pzFits.R :=
 bif (a1_0 == 0) then
  some (((w64 (Int.tdiv a2 60)) == a1_1))
 else
 bif (a1_0 == 1) then
  bif (a1_1 == 0) then
   none
  else
  some (((Int.tmod (Int.tmod a2 60) a1_1) == a1_2))
 else
 bif (a1_0 == 2) then
  some (((w64 ((w64 ((w64 ((w64 (Int.tdiv (w64 (Int.tdiv a2 60)) 10)) + (Int.tmod (w64 (Int.tdiv a2 60)) 10))) + (w64 (Int.tdiv (Int.tmod a2 60) 10)))) + (Int.tmod (Int.tmod a2 60) 10))) == a1_1))
 else
 bif (a1_0 == 3) then
  (spec_pzAhead.g N a0 a2).bind fun r1 =>
  some (((decide (r1 < (w64 (30 * a0)))) == (a1_1 == 1)))
 else
 bif (a1_0 == 4) then
  (spec_pzNext.g N a0 a2).bind fun r2 =>
  some ((r2 == a1_1))
 else
 (spec_l1Abs.g N (w64 ((w64 (Int.tdiv a2 60)) - (Int.tmod a2 60)))).bind fun r3 =>
 some ((r3 == a1_1))
theorem spec_pzFits.o0.run (N : Nat) (a0 : Int) (a1_0 : Int) (a1_1 : Int) (a1_2 : Int) (a2 : Int) : runC spec_pzFits.C (spec_pzFits.O N) N spec_pzFits.c1 1 (st0 [.one (.int .i64 a0), .agg [.int .i64 a1_0, .int .i64 a1_1, .int .i64 a1_2], .one (.int .i64 a2)] [] : St D0) spec_pzFits.K0 = spec_pzFits.o0 N a0 a1_0 a1_1 a1_2 a2 := by kernel_rfl
noncomputable def spec_pzFits.g (N : Nat) (a0 : Int) (a1_0 : Int) (a1_1 : Int) (a1_2 : Int) (a2 : Int) : Option spec_pzFits.R := spec_pzFits.o0 N a0 a1_0 a1_1 a1_2 a2
theorem spec_pzFits.g.run (N : Nat) (a0 : Int) (a1_0 : Int) (a1_1 : Int) (a1_2 : Int) (a2 : Int) : runC spec_pzFits.C (spec_pzFits.O N) N spec_pzFits.c1 1 (st0 [.one (.int .i64 a0), .agg [.int .i64 a1_0, .int .i64 a1_1, .int .i64 a1_2], .one (.int .i64 a2)] [] : St D0) spec_pzFits.K0 = spec_pzFits.g N a0 a1_0 a1_1 a1_2 a2 := by
  exact (spec_pzFits.o0.run N a0 a1_0 a1_1 a1_2 a2).trans rfl
theorem spec_pzFits.good (N : Nat) (a0 : Int) (a1_0 : Int) (a1_1 : Int) (a1_2 : Int) (a2 : Int) (r : spec_pzFits.R) (h : spec_pzFits.g N a0 a1_0 a1_1 a1_2 a2 = some r) : Go.PM.Good Go.Proofs.Try.prog T0 62 [.one (.int .i64 a0), .agg [.int .i64 a1_0, .int .i64 a1_1, .int .i64 a1_2], .one (.int .i64 a2)] [] (spec_pzFits.sig.ret r) (spec_pzFits.sig.bs r) :=
  good_fn tabOk0 mixed0 spec_pzFits.sig (spec_pzFits.E N) Go.Proofs.Try.func62 (by kernel_rfl) (by kernel_rfl) 288300745971778007 0 0 [] [(false, [.any])] (by kernel_rfl) rfl ((spec_pzFits.g.run N a0 a1_0 a1_1 a1_2 a2).trans h)
noncomputable def spec_pzFits.ent (N : Nat) : Ent Go.Proofs.Try.prog T0 := mkEnt 62 [(false, [.any]), (true, [.any, .any, .any]), (false, [.any])] spec_pzFits.sig (fun t => spec_pzFits.g N t.1 t.2.1 t.2.2.1 t.2.2.2.1 t.2.2.2.2) (fun t r h => spec_pzFits.good N t.1 t.2.1 t.2.2.1 t.2.2.2.1 t.2.2.2.2 r h)
end Go.Proofs.Ytpeleommbipeaaa.M

namespace Go.Proofs.Ytpeleommbipeaaa.M
open Go Go.PM Go.Proofs.Ytpeleommbipeaaa.P
set_option linter.unusedVariables false
set_option maxRecDepth 100000
/-! ### spec_pzClue -/
abbrev spec_pzClue.R : Type := Bool
abbrev spec_pzClue.sig : Sig := ⟨[(false, 1), (true, 3)], [], [.int .i64, .int .i64, .int .i64, .int .i64], [(false, 1)], [], [.bool]⟩
noncomputable def spec_pzClue.C : Cfg D0 := ⟨Go.Proofs.Try.prog, T0, 2288118061387803, 0, 56, 0, [(12, [0, 3, 12], [3])]⟩
noncomputable def spec_pzClue.E (N : Nat) : List (Ent Go.Proofs.Try.prog T0) := [spec_l1In.ent N]
noncomputable def spec_pzClue.O (N : Nat) : Orc D0 spec_pzClue.R := orcOf (spec_pzClue.E N)
noncomputable def spec_pzClue.K0 : Ex → St D0 → Option spec_pzClue.R := exitK spec_pzClue.C Go.Proofs.Try.f50.results.toList [(false, [.any])] (decOut spec_pzClue.sig)
noncomputable def spec_pzClue.c1 : Code := codeAt (Go.Proofs.Try.f50.body.getD .skip) []
noncomputable def spec_pzClue.c2 : Code := codeAt (Go.Proofs.Try.f50.body.getD .skip) [false]
noncomputable def spec_pzClue.c7 : Code := codeAt (Go.Proofs.Try.f50.body.getD .skip) [true, true]
noncomputable def spec_pzClue.c12 : Code := codeAt (Go.Proofs.Try.f50.body.getD .skip) [true, false, false]
noncomputable def spec_pzClue.c13 : Code := codeAt (Go.Proofs.Try.f50.body.getD .skip) [true, false, true]
noncomputable def spec_pzClue.K13 (N : Nat) : Ex → St D0 → Option spec_pzClue.R := (onN (fun s => spec_pzClue.C.tidy 6 s (fun s' => runC spec_pzClue.C (spec_pzClue.O N) N spec_pzClue.c7 7 s' spec_pzClue.K0)) spec_pzClue.K0)
noncomputable def spec_pzClue.o1 (N : Nat) (v0 : Int) (v1 : Bool) (v2 : Int) (v3 : Int) (v4 : Int) : Option spec_pzClue.R :=
 bif v1 then
  some (false)
 else
 bif (v2 == 0) then
  (spec_l1In.g N v3 0 (w64 (v0 - 1))).bind fun r1 =>
  some (r1)
 else
 bif (v2 == 1) then
  (spec_l1In.g N v3 2 60).bind fun r2 =>
  bif r2 then
   (spec_l1In.g N v4 0 (w64 (v3 - 1))).bind fun r3 =>
   some (r3)
  else
  some (false)
 else
 bif (v2 == 2) then
  (spec_l1In.g N v3 0 30).bind fun r4 =>
  some (r4)
 else
 bif (v2 == 3) then
  (spec_l1In.g N v3 0 1).bind fun r5 =>
  some (r5)
 else
 bif (v2 == 4) then
  (spec_l1In.g N v3 1 v0).bind fun r6 =>
  some (r6)
 else
 bif (v2 == 5) then
  (spec_l1In.g N v3 0 59).bind fun r7 =>
  some (r7)
 else
 some (false)
theorem spec_pzClue.o1.run (N : Nat) (v0 : Int) (v1 : Bool) (v2 : Int) (v3 : Int) (v4 : Int) : runC spec_pzClue.C (spec_pzClue.O N) N spec_pzClue.c13 13 (mkSt [(0, .one (.int .i64 v0)), (3, .one (.ptr 3 0)), (12, .one (.bool v1))] [(3, some (38, [.int .i64 v2, .int .i64 v3, .int .i64 v4]))] : St D0) (onN (fun s => spec_pzClue.C.tidy 6 s (fun s' => runC spec_pzClue.C (spec_pzClue.O N) N spec_pzClue.c7 7 s' spec_pzClue.K0)) spec_pzClue.K0) = spec_pzClue.o1 N v0 v1 v2 v3 v4 := by kernel_rfl
noncomputable def spec_pzClue.d1 (N : Nat) (v0 : Int) (v1 : Bool) (v2 : Int) (v3 : Int) (v4 : Int) : Option spec_pzClue.R := spec_pzClue.o1 N v0 v1 v2 v3 v4
theorem spec_pzClue.d1.run (N : Nat) (v0 : Int) (v1 : Bool) (v2 : Int) (v3 : Int) (v4 : Int) : runC spec_pzClue.C (spec_pzClue.O N) N spec_pzClue.c13 13 (mkSt [(0, .one (.int .i64 v0)), (3, .one (.ptr 3 0)), (12, .one (.bool v1))] [(3, some (38, [.int .i64 v2, .int .i64 v3, .int .i64 v4]))] : St D0) (spec_pzClue.K13 N) = spec_pzClue.d1 N v0 v1 v2 v3 v4 := by
  exact (spec_pzClue.o1.run N v0 v1 v2 v3 v4).trans rfl
noncomputable def spec_pzClue.o0 (N : Nat) (a0 : Int) (a1_0 : Int) (a1_1 : Int) (a1_2 : Int) (c1 : Int → Bool → Int → Int → Int → Option spec_pzClue.R) : Option spec_pzClue.R :=
 bif (a1_0 != 1) then
  c1 a0 (a1_2 != 0) a1_0 a1_1 a1_2
 else
 c1 a0 false a1_0 a1_1 a1_2
theorem spec_pzClue.o0.run (N : Nat) (H13 : Code) (a0 : Int) (a1_0 : Int) (a1_1 : Int) (a1_2 : Int) : runC spec_pzClue.C (spec_pzClue.O N) N (.seq spec_pzClue.c2 (.seq (.seq spec_pzClue.c12 H13) spec_pzClue.c7)) 1 (st0 [.one (.int .i64 a0), .agg [.int .i64 a1_0, .int .i64 a1_1, .int .i64 a1_2]] [] : St D0) spec_pzClue.K0 = spec_pzClue.o0 N a0 a1_0 a1_1 a1_2 ((fun w0 w1 w2 w3 w4 => runC spec_pzClue.C (spec_pzClue.O N) N H13 13 (mkSt [(0, .one (.int .i64 w0)), (3, .one (.ptr 3 0)), (12, .one (.bool w1))] [(3, some (38, [.int .i64 w2, .int .i64 w3, .int .i64 w4]))] : St D0) (onN (fun s => spec_pzClue.C.tidy 6 s (fun s' => runC spec_pzClue.C (spec_pzClue.O N) N spec_pzClue.c7 7 s' spec_pzClue.K0)) spec_pzClue.K0))) := by kernel_rfl
noncomputable def spec_pzClue.B6 (N : Nat) : St D0 → Option spec_pzClue.R := fun s' => runC spec_pzClue.C (spec_pzClue.O N) N spec_pzClue.c13 13 s' (spec_pzClue.K13 N)
noncomputable def spec_pzClue.g (N : Nat) (a0 : Int) (a1_0 : Int) (a1_1 : Int) (a1_2 : Int) : Option spec_pzClue.R := spec_pzClue.o0 N a0 a1_0 a1_1 a1_2 ((fun w0 w1 w2 w3 w4 => spec_pzClue.d1 N w0 w1 w2 w3 w4))
theorem spec_pzClue.c1_0 : spec_pzClue.c1 = (.seq spec_pzClue.c2 (.seq (.seq spec_pzClue.c12 spec_pzClue.c13) spec_pzClue.c7)) := by kernel_rfl
theorem spec_pzClue.g.run (N : Nat) (a0 : Int) (a1_0 : Int) (a1_1 : Int) (a1_2 : Int) : runC spec_pzClue.C (spec_pzClue.O N) N spec_pzClue.c1 1 (st0 [.one (.int .i64 a0), .agg [.int .i64 a1_0, .int .i64 a1_1, .int .i64 a1_2]] [] : St D0) spec_pzClue.K0 = spec_pzClue.g N a0 a1_0 a1_1 a1_2 := by
  rw [spec_pzClue.c1_0]; unfold spec_pzClue.g; exact (spec_pzClue.o0.run N spec_pzClue.c13 a0 a1_0 a1_1 a1_2).trans (congr rfl (funext fun w0 => funext fun w1 => funext fun w2 => funext fun w3 => funext fun w4 => spec_pzClue.d1.run N w0 w1 w2 w3 w4))
theorem spec_pzClue.good (N : Nat) (a0 : Int) (a1_0 : Int) (a1_1 : Int) (a1_2 : Int) (r : spec_pzClue.R) (h : spec_pzClue.g N a0 a1_0 a1_1 a1_2 = some r) : Go.PM.Good Go.Proofs.Try.prog T0 50 [.one (.int .i64 a0), .agg [.int .i64 a1_0, .int .i64 a1_1, .int .i64 a1_2]] [] (spec_pzClue.sig.ret r) (spec_pzClue.sig.bs r) :=
  good_fn tabOk0 mixed0 spec_pzClue.sig (spec_pzClue.E N) Go.Proofs.Try.func50 (by kernel_rfl) (by kernel_rfl) 2288118061387803 0 0 [(12, [0, 3, 12], [3])] [(false, [.any])] (by kernel_rfl) rfl ((spec_pzClue.g.run N a0 a1_0 a1_1 a1_2).trans h)
noncomputable def spec_pzClue.ent (N : Nat) : Ent Go.Proofs.Try.prog T0 := mkEnt 50 [(false, [.any]), (true, [.any, .any, .any])] spec_pzClue.sig (fun t => spec_pzClue.g N t.1 t.2.1 t.2.2.1 t.2.2.2) (fun t r h => spec_pzClue.good N t.1 t.2.1 t.2.2.1 t.2.2.2 r h)
end Go.Proofs.Ytpeleommbipeaaa.M

namespace Go.Proofs.Ytpeleommbipeaaa.M
open Go Go.PM Go.Proofs.Ytpeleommbipeaaa.P
set_option linter.unusedVariables false
set_option maxRecDepth 100000
/-! ### spec_pzGood -/
abbrev spec_pzGood.R : Type := Bool
abbrev spec_pzGood.sig : Sig := ⟨[(true, 2)], [], [.int .i64, .sl false 38], [(false, 1)], [], [.bool]⟩
noncomputable def spec_pzGood.C : Cfg D0 := ⟨Go.Proofs.Try.prog, T0, 68108311, 0, 28, 0, [(12, [1, 14], [1]), (58, [1, 16, 17, 18], [1])]⟩
noncomputable def spec_pzGood.E (N : Nat) : List (Ent Go.Proofs.Try.prog T0) := [spec_diHours.ent N, spec_pzClue.ent N]
noncomputable def spec_pzGood.O (N : Nat) : Orc D0 spec_pzGood.R := orcOf (spec_pzGood.E N)
noncomputable def spec_pzGood.K0 : Ex → St D0 → Option spec_pzGood.R := exitK spec_pzGood.C Go.Proofs.Try.f49.results.toList [(false, [.any])] (decOut spec_pzGood.sig)
noncomputable def spec_pzGood.c1 : Code := codeAt (Go.Proofs.Try.f49.body.getD .skip) []
noncomputable def spec_pzGood.c2 : Code := codeAt (Go.Proofs.Try.f49.body.getD .skip) [false]
noncomputable def spec_pzGood.c7 : Code := codeAt (Go.Proofs.Try.f49.body.getD .skip) [true, true]
noncomputable def spec_pzGood.c12 : Code := codeAt (Go.Proofs.Try.f49.body.getD .skip) [true, false, false]
noncomputable def spec_pzGood.c13 : Code := codeAt (Go.Proofs.Try.f49.body.getD .skip) [true, false, true]
noncomputable def spec_pzGood.c15 : Code := codeAt (Go.Proofs.Try.f49.body.getD .skip) [true, true, true]
noncomputable def spec_pzGood.c28 : Code := codeAt (Go.Proofs.Try.f49.body.getD .skip) [true, true, false, false]
noncomputable def spec_pzGood.c116 : Code := codeAt (Go.Proofs.Try.f49.body.getD .skip) [true, true, false, true, false, false]
noncomputable def spec_pzGood.K116 (N : Nat) (Kn58 : St D0 → Option spec_pzGood.R) : Ex → St D0 → Option spec_pzGood.R := (onN (fun s => spec_pzGood.C.tidy 58 s ((onN Kn58 (blockK 0 (onN (fun s => spec_pzGood.C.tidy 14 s (fun s' => runC spec_pzGood.C (spec_pzGood.O N) N spec_pzGood.c15 15 s' spec_pzGood.K0)) spec_pzGood.K0))) .normal)) (onN Kn58 (blockK 0 (onN (fun s => spec_pzGood.C.tidy 14 s (fun s' => runC spec_pzGood.C (spec_pzGood.O N) N spec_pzGood.c15 15 s' spec_pzGood.K0)) spec_pzGood.K0))))
noncomputable def spec_pzGood.o2 (N : Nat) (v0 : List S38) (v1 : Int) (v2 : Int) (v3 : Int) (v4 : List S38) (c2 : (List S38) → Int → Int → Int → (List S38) → Option spec_pzGood.R) : Option spec_pzGood.R :=
 bif (decide (v2 < v1)) then
  bif (decide (0 ≤ v2)) then
   bif (decide (v2 < (v0.length : Int))) then
    (v0[(v2 : Int).toNat]?).bind fun x1 =>
    (spec_pzClue.g N v3 x1.f0 x1.f1 x1.f2).bind fun r2 =>
    bif (!r2) then
     some (false)
    else
    c2 v0 v1 (w64 (v2 + 1)) v3 v4
   else
   none
  else
  none
 else
 some (true)
theorem spec_pzGood.o2.run (N : Nat) (Kn58 : St D0 → Option spec_pzGood.R) (v0 : List S38) (v1 : Int) (v2 : Int) (v3 : Int) (v4 : List S38) : runC spec_pzGood.C (spec_pzGood.O N) N spec_pzGood.c116 116 (mkSt [(1, .one (.ptr 1 0)), (16, .one (.sl false 38 v0)), (17, .one (.int .i64 v1)), (18, .one (.int .i64 v2))] [(1, some (24, [.int .i64 v3, .sl false 38 v4]))] : St D0) (onN (fun s => spec_pzGood.C.tidy 58 s ((onN Kn58 (blockK 0 (onN (fun s => spec_pzGood.C.tidy 14 s (fun s' => runC spec_pzGood.C (spec_pzGood.O N) N spec_pzGood.c15 15 s' spec_pzGood.K0)) spec_pzGood.K0))) .normal)) (onN Kn58 (blockK 0 (onN (fun s => spec_pzGood.C.tidy 14 s (fun s' => runC spec_pzGood.C (spec_pzGood.O N) N spec_pzGood.c15 15 s' spec_pzGood.K0)) spec_pzGood.K0)))) = spec_pzGood.o2 N v0 v1 v2 v3 v4 ((fun w0 w1 w2 w3 w4 => Kn58 (mkSt [(1, .one (.ptr 1 0)), (16, .one (.sl false 38 w0)), (17, .one (.int .i64 w1)), (18, .one (.int .i64 w2))] [(1, some (24, [.int .i64 w3, .sl false 38 w4]))] : St D0))) := by kernel_rfl
noncomputable def spec_pzGood.d2 (N : Nat) (v0 : List S38) (v1 : Int) (v2 : Int) (v3 : Int) (v4 : List S38) (c2 : (List S38) → Int → Int → Int → (List S38) → Option spec_pzGood.R) : Option spec_pzGood.R := spec_pzGood.o2 N v0 v1 v2 v3 v4 c2
theorem spec_pzGood.d2.run (N : Nat) (Kn58 : St D0 → Option spec_pzGood.R) (v0 : List S38) (v1 : Int) (v2 : Int) (v3 : Int) (v4 : List S38) : runC spec_pzGood.C (spec_pzGood.O N) N spec_pzGood.c116 116 (mkSt [(1, .one (.ptr 1 0)), (16, .one (.sl false 38 v0)), (17, .one (.int .i64 v1)), (18, .one (.int .i64 v2))] [(1, some (24, [.int .i64 v3, .sl false 38 v4]))] : St D0) (spec_pzGood.K116 N Kn58) = spec_pzGood.d2 N v0 v1 v2 v3 v4 ((fun w0 w1 w2 w3 w4 => Kn58 (mkSt [(1, .one (.ptr 1 0)), (16, .one (.sl false 38 w0)), (17, .one (.int .i64 w1)), (18, .one (.int .i64 w2))] [(1, some (24, [.int .i64 w3, .sl false 38 w4]))] : St D0))) := by
  exact (spec_pzGood.o2.run N Kn58 v0 v1 v2 v3 v4).trans rfl
noncomputable def spec_pzGood.K58 (N : Nat) : Ex → St D0 → Option spec_pzGood.R := (blockK 0 (onN (fun s => spec_pzGood.C.tidy 14 s (fun s' => runC spec_pzGood.C (spec_pzGood.O N) N spec_pzGood.c15 15 s' spec_pzGood.K0)) spec_pzGood.K0))
noncomputable def spec_pzGood.l2 (N : Nat) : Nat → (List S38) → Int → Int → Int → (List S38) → Option spec_pzGood.R
  | 0, _, _, _, _, _ => none
  | n + 1, v0, v1, v2, v3, v4 => spec_pzGood.d2 N v0 v1 v2 v3 v4 ((fun w0 w1 w2 w3 w4 => spec_pzGood.l2 N n w0 w1 w2 w3 w4))
theorem spec_pzGood.loop58 (N : Nat) : ∀ n, (∀ (v0 : List S38) (v1 : Int) (v2 : Int) (v3 : Int) (v4 : List S38), iter (loopF spec_pzGood.C (spec_pzGood.O N) N spec_pzGood.c116 58) n (mkSt [(1, .one (.ptr 1 0)), (16, .one (.sl false 38 v0)), (17, .one (.int .i64 v1)), (18, .one (.int .i64 v2))] [(1, some (24, [.int .i64 v3, .sl false 38 v4]))] : St D0) (spec_pzGood.K58 N) = spec_pzGood.l2 N n v0 v1 v2 v3 v4)
  | 0 => (fun v0 v1 v2 v3 v4 => rfl)
  | n + 1 => (fun v0 v1 v2 v3 v4 => (spec_pzGood.d2.run N (fun s => iter (loopF spec_pzGood.C (spec_pzGood.O N) N spec_pzGood.c116 58) n s (spec_pzGood.K58 N)) v0 v1 v2 v3 v4).trans (show _ = spec_pzGood.d2 N v0 v1 v2 v3 v4 ((fun w0 w1 w2 w3 w4 => spec_pzGood.l2 N n w0 w1 w2 w3 w4)) from (congr rfl (funext fun w0 => funext fun w1 => funext fun w2 => funext fun w3 => funext fun w4 => (spec_pzGood.loop58 N n) w0 w1 w2 w3 w4))))
noncomputable def spec_pzGood.K13 (N : Nat) : Ex → St D0 → Option spec_pzGood.R := (onN (fun s => spec_pzGood.C.tidy 6 s (fun s' => runC spec_pzGood.C (spec_pzGood.O N) N spec_pzGood.c7 7 s' spec_pzGood.K0)) spec_pzGood.K0)
noncomputable def spec_pzGood.o1 (N : Nat) (v0 : Bool) (v1 : Int) (v2 : List S38) (c2 : (List S38) → Int → Int → Int → (List S38) → Option spec_pzGood.R) : Option spec_pzGood.R :=
 bif v0 then
  some (false)
 else
 c2 v2 (v2.length : Int) 0 v1 v2
theorem spec_pzGood.o1.run (N : Nat) (H116 : Code) (v0 : Bool) (v1 : Int) (v2 : List S38) : runC spec_pzGood.C (spec_pzGood.O N) N spec_pzGood.c13 13 (mkSt [(1, .one (.ptr 1 0)), (14, .one (.bool v0))] [(1, some (24, [.int .i64 v1, .sl false 38 v2]))] : St D0) (onN (fun s => spec_pzGood.C.tidy 6 s (fun s' => runC spec_pzGood.C (spec_pzGood.O N) N (.seq (.seq spec_pzGood.c28 (.block 0 (.loop H116))) spec_pzGood.c15) 7 s' spec_pzGood.K0)) spec_pzGood.K0) = spec_pzGood.o1 N v0 v1 v2 ((fun w0 w1 w2 w3 w4 => iter (loopF spec_pzGood.C (spec_pzGood.O N) N H116 58) N (mkSt [(1, .one (.ptr 1 0)), (16, .one (.sl false 38 w0)), (17, .one (.int .i64 w1)), (18, .one (.int .i64 w2))] [(1, some (24, [.int .i64 w3, .sl false 38 w4]))] : St D0) (blockK 0 (onN (fun s => spec_pzGood.C.tidy 14 s (fun s' => runC spec_pzGood.C (spec_pzGood.O N) N spec_pzGood.c15 15 s' spec_pzGood.K0)) spec_pzGood.K0)))) := by kernel_rfl
noncomputable def spec_pzGood.d1 (N : Nat) (v0 : Bool) (v1 : Int) (v2 : List S38) : Option spec_pzGood.R := spec_pzGood.o1 N v0 v1 v2 ((fun w0 w1 w2 w3 w4 => spec_pzGood.l2 N N w0 w1 w2 w3 w4))
theorem spec_pzGood.d1.run (N : Nat) (v0 : Bool) (v1 : Int) (v2 : List S38) : runC spec_pzGood.C (spec_pzGood.O N) N spec_pzGood.c13 13 (mkSt [(1, .one (.ptr 1 0)), (14, .one (.bool v0))] [(1, some (24, [.int .i64 v1, .sl false 38 v2]))] : St D0) (spec_pzGood.K13 N) = spec_pzGood.d1 N v0 v1 v2 := by
  unfold spec_pzGood.d1; exact (spec_pzGood.o1.run N spec_pzGood.c116 v0 v1 v2).trans (congr rfl (funext fun w0 => funext fun w1 => funext fun w2 => funext fun w3 => funext fun w4 => (spec_pzGood.loop58 N N) w0 w1 w2 w3 w4))
noncomputable def spec_pzGood.o0 (N : Nat) (a0_0 : Int) (a0_1 : List S38) (c1 : Bool → Int → (List S38) → Option spec_pzGood.R) : Option spec_pzGood.R :=
 (spec_diHours.g N a0_0).bind fun r1 =>
 bif (!r1) then
  c1 true a0_0 a0_1
 else
 c1 (decide ((a0_1.length : Int) > 6)) a0_0 a0_1
theorem spec_pzGood.o0.run (N : Nat) (H13 : Code) (a0_0 : Int) (a0_1 : List S38) : runC spec_pzGood.C (spec_pzGood.O N) N (.seq spec_pzGood.c2 (.seq (.seq spec_pzGood.c12 H13) spec_pzGood.c7)) 1 (st0 [.agg [.int .i64 a0_0, .sl false 38 a0_1]] [] : St D0) spec_pzGood.K0 = spec_pzGood.o0 N a0_0 a0_1 ((fun w0 w1 w2 => runC spec_pzGood.C (spec_pzGood.O N) N H13 13 (mkSt [(1, .one (.ptr 1 0)), (14, .one (.bool w0))] [(1, some (24, [.int .i64 w1, .sl false 38 w2]))] : St D0) (onN (fun s => spec_pzGood.C.tidy 6 s (fun s' => runC spec_pzGood.C (spec_pzGood.O N) N spec_pzGood.c7 7 s' spec_pzGood.K0)) spec_pzGood.K0))) := by kernel_rfl
noncomputable def spec_pzGood.B6 (N : Nat) : St D0 → Option spec_pzGood.R := fun s' => runC spec_pzGood.C (spec_pzGood.O N) N spec_pzGood.c13 13 s' (spec_pzGood.K13 N)
noncomputable def spec_pzGood.g (N : Nat) (a0_0 : Int) (a0_1 : List S38) : Option spec_pzGood.R := spec_pzGood.o0 N a0_0 a0_1 ((fun w0 w1 w2 => spec_pzGood.d1 N w0 w1 w2))
theorem spec_pzGood.c1_0 : spec_pzGood.c1 = (.seq spec_pzGood.c2 (.seq (.seq spec_pzGood.c12 spec_pzGood.c13) spec_pzGood.c7)) := by kernel_rfl
theorem spec_pzGood.g.run (N : Nat) (a0_0 : Int) (a0_1 : List S38) : runC spec_pzGood.C (spec_pzGood.O N) N spec_pzGood.c1 1 (st0 [.agg [.int .i64 a0_0, .sl false 38 a0_1]] [] : St D0) spec_pzGood.K0 = spec_pzGood.g N a0_0 a0_1 := by
  rw [spec_pzGood.c1_0]; unfold spec_pzGood.g; exact (spec_pzGood.o0.run N spec_pzGood.c13 a0_0 a0_1).trans (congr rfl (funext fun w0 => funext fun w1 => funext fun w2 => spec_pzGood.d1.run N w0 w1 w2))
theorem spec_pzGood.good (N : Nat) (a0_0 : Int) (a0_1 : List S38) (r : spec_pzGood.R) (h : spec_pzGood.g N a0_0 a0_1 = some r) : Go.PM.Good Go.Proofs.Try.prog T0 49 [.agg [.int .i64 a0_0, .sl false 38 a0_1]] [] (spec_pzGood.sig.ret r) (spec_pzGood.sig.bs r) :=
  good_fn tabOk0 mixed0 spec_pzGood.sig (spec_pzGood.E N) Go.Proofs.Try.func49 (by kernel_rfl) (by kernel_rfl) 68108311 0 0 [(12, [1, 14], [1]), (58, [1, 16, 17, 18], [1])] [(false, [.any])] (by kernel_rfl) rfl ((spec_pzGood.g.run N a0_0 a0_1).trans h)
noncomputable def spec_pzGood.ent (N : Nat) : Ent Go.Proofs.Try.prog T0 := mkEnt 49 [(true, [.any, .ro 38])] spec_pzGood.sig (fun t => spec_pzGood.g N t.1 t.2) (fun t r h => spec_pzGood.good N t.1 t.2 r h)
end Go.Proofs.Ytpeleommbipeaaa.M

namespace Go.Proofs.Ytpeleommbipeaaa.M
open Go Go.PM Go.Proofs.Ytpeleommbipeaaa.P
set_option linter.unusedVariables false
set_option maxRecDepth 100000
/-! ### spec_IsClue -/
abbrev spec_IsClue.R : Type := Bool
abbrev spec_IsClue.sig : Sig := ⟨[(false, 1), (true, 3)], [], [.int .i64, .int .i64, .int .i64, .int .i64], [(false, 1)], [], [.bool]⟩
noncomputable def spec_IsClue.C : Cfg D0 := ⟨Go.Proofs.Try.prog, T0, 27, 0, 12, 0, []⟩
noncomputable def spec_IsClue.E (N : Nat) : List (Ent Go.Proofs.Try.prog T0) := [spec_diHours.ent N, spec_pzClue.ent N]
noncomputable def spec_IsClue.O (N : Nat) : Orc D0 spec_IsClue.R := orcOf (spec_IsClue.E N)
noncomputable def spec_IsClue.K0 : Ex → St D0 → Option spec_IsClue.R := exitK spec_IsClue.C Go.Proofs.Try.f31.results.toList [(false, [.any])] (decOut spec_IsClue.sig)
noncomputable def spec_IsClue.c1 : Code := codeAt (Go.Proofs.Try.f31.body.getD .skip) []
noncomputable def spec_IsClue.o0 (N : Nat) (a0 : Int) (a1_0 : Int) (a1_1 : Int) (a1_2 : Int) : Option spec_IsClue.R :=
 (spec_diHours.g N a0).bind fun r1 =>
 bif r1 then
  (spec_pzClue.g N a0 a1_0 a1_1 a1_2).bind fun r2 =>
  some (r2)
 else
 some (false)
theorem spec_IsClue.o0.run (N : Nat) (a0 : Int) (a1_0 : Int) (a1_1 : Int) (a1_2 : Int) : runC spec_IsClue.C (spec_IsClue.O N) N spec_IsClue.c1 1 (st0 [.one (.int .i64 a0), .agg [.int .i64 a1_0, .int .i64 a1_1, .int .i64 a1_2]] [] : St D0) spec_IsClue.K0 = spec_IsClue.o0 N a0 a1_0 a1_1 a1_2 := by kernel_rfl
noncomputable def spec_IsClue.g (N : Nat) (a0 : Int) (a1_0 : Int) (a1_1 : Int) (a1_2 : Int) : Option spec_IsClue.R := spec_IsClue.o0 N a0 a1_0 a1_1 a1_2
theorem spec_IsClue.g.run (N : Nat) (a0 : Int) (a1_0 : Int) (a1_1 : Int) (a1_2 : Int) : runC spec_IsClue.C (spec_IsClue.O N) N spec_IsClue.c1 1 (st0 [.one (.int .i64 a0), .agg [.int .i64 a1_0, .int .i64 a1_1, .int .i64 a1_2]] [] : St D0) spec_IsClue.K0 = spec_IsClue.g N a0 a1_0 a1_1 a1_2 := by
  exact (spec_IsClue.o0.run N a0 a1_0 a1_1 a1_2).trans rfl
theorem spec_IsClue.good (N : Nat) (a0 : Int) (a1_0 : Int) (a1_1 : Int) (a1_2 : Int) (r : spec_IsClue.R) (h : spec_IsClue.g N a0 a1_0 a1_1 a1_2 = some r) : Go.PM.Good Go.Proofs.Try.prog T0 31 [.one (.int .i64 a0), .agg [.int .i64 a1_0, .int .i64 a1_1, .int .i64 a1_2]] [] (spec_IsClue.sig.ret r) (spec_IsClue.sig.bs r) :=
  good_fn tabOk0 mixed0 spec_IsClue.sig (spec_IsClue.E N) Go.Proofs.Try.func31 (by kernel_rfl) (by kernel_rfl) 27 0 0 [] [(false, [.any])] (by kernel_rfl) rfl ((spec_IsClue.g.run N a0 a1_0 a1_1 a1_2).trans h)
noncomputable def spec_IsClue.ent (N : Nat) : Ent Go.Proofs.Try.prog T0 := mkEnt 31 [(false, [.any]), (true, [.any, .any, .any])] spec_IsClue.sig (fun t => spec_IsClue.g N t.1 t.2.1 t.2.2.1 t.2.2.2) (fun t r h => spec_IsClue.good N t.1 t.2.1 t.2.2.1 t.2.2.2 r h)
end Go.Proofs.Ytpeleommbipeaaa.M

namespace Go.Proofs.Ytpeleommbipeaaa.M
open Go Go.PM Go.Proofs.Ytpeleommbipeaaa.P
set_option linter.unusedVariables false
set_option maxRecDepth 100000
/-! ### spec_DoesFit -/
abbrev spec_DoesFit.R : Type := Bool × Bool
abbrev spec_DoesFit.sig : Sig := ⟨[(false, 1), (true, 3), (false, 1)], [], [.int .i64, .int .i64, .int .i64, .int .i64, .int .i64], [(false, 1), (false, 1)], [], [.bool, .bool]⟩
noncomputable def spec_DoesFit.C : Cfg D0 := ⟨Go.Proofs.Try.prog, T0, 16777431, 0, 29, 0, [(12, [0, 2, 4, 24], [4])]⟩
noncomputable def spec_DoesFit.E (N : Nat) : List (Ent Go.Proofs.Try.prog T0) := [spec_diHours.ent N, spec_pzClue.ent N, spec_l1In.ent N, spec_pzFits.ent N]
noncomputable def spec_DoesFit.O (N : Nat) : Orc D0 spec_DoesFit.R := orcOf (spec_DoesFit.E N)
noncomputable def spec_DoesFit.K0 : Ex → St D0 → Option spec_DoesFit.R := exitK spec_DoesFit.C Go.Proofs.Try.f29.results.toList [(false, [.any]), (false, [.any])] (decOut spec_DoesFit.sig)
noncomputable def spec_DoesFit.c1 : Code := codeAt (Go.Proofs.Try.f29.body.getD .skip) []
noncomputable def spec_DoesFit.c2 : Code := codeAt (Go.Proofs.Try.f29.body.getD .skip) [false]
noncomputable def spec_DoesFit.c7 : Code := codeAt (Go.Proofs.Try.f29.body.getD .skip) [true, true]
noncomputable def spec_DoesFit.c12 : Code := codeAt (Go.Proofs.Try.f29.body.getD .skip) [true, false, false]
noncomputable def spec_DoesFit.c13 : Code := codeAt (Go.Proofs.Try.f29.body.getD .skip) [true, false, true]
noncomputable def spec_DoesFit.K13 (N : Nat) : Ex → St D0 → Option spec_DoesFit.R := (onN (fun s => spec_DoesFit.C.tidy 6 s (fun s' => runC spec_DoesFit.C (spec_DoesFit.O N) N spec_DoesFit.c7 7 s' spec_DoesFit.K0)) spec_DoesFit.K0)
noncomputable def spec_DoesFit.o1 (N : Nat) (v0 : Int) (v1 : Int) (v2 : Bool) (v3 : Int) (v4 : Int) (v5 : Int) : Option spec_DoesFit.R :=
 bif v2 then
  some (false, false)
 else
 (spec_pzFits.g N v0 v3 v4 v5 v1).bind fun r1 =>
 some (r1, true)
theorem spec_DoesFit.o1.run (N : Nat) (v0 : Int) (v1 : Int) (v2 : Bool) (v3 : Int) (v4 : Int) (v5 : Int) : runC spec_DoesFit.C (spec_DoesFit.O N) N spec_DoesFit.c13 13 (mkSt [(0, .one (.int .i64 v0)), (2, .one (.int .i64 v1)), (4, .one (.ptr 4 0)), (24, .one (.bool v2))] [(4, some (38, [.int .i64 v3, .int .i64 v4, .int .i64 v5]))] : St D0) (onN (fun s => spec_DoesFit.C.tidy 6 s (fun s' => runC spec_DoesFit.C (spec_DoesFit.O N) N spec_DoesFit.c7 7 s' spec_DoesFit.K0)) spec_DoesFit.K0) = spec_DoesFit.o1 N v0 v1 v2 v3 v4 v5 := by kernel_rfl
noncomputable def spec_DoesFit.d1 (N : Nat) (v0 : Int) (v1 : Int) (v2 : Bool) (v3 : Int) (v4 : Int) (v5 : Int) : Option spec_DoesFit.R := spec_DoesFit.o1 N v0 v1 v2 v3 v4 v5
theorem spec_DoesFit.d1.run (N : Nat) (v0 : Int) (v1 : Int) (v2 : Bool) (v3 : Int) (v4 : Int) (v5 : Int) : runC spec_DoesFit.C (spec_DoesFit.O N) N spec_DoesFit.c13 13 (mkSt [(0, .one (.int .i64 v0)), (2, .one (.int .i64 v1)), (4, .one (.ptr 4 0)), (24, .one (.bool v2))] [(4, some (38, [.int .i64 v3, .int .i64 v4, .int .i64 v5]))] : St D0) (spec_DoesFit.K13 N) = spec_DoesFit.d1 N v0 v1 v2 v3 v4 v5 := by
  exact (spec_DoesFit.o1.run N v0 v1 v2 v3 v4 v5).trans rfl
noncomputable def spec_DoesFit.o0 (N : Nat) (a0 : Int) (a1_0 : Int) (a1_1 : Int) (a1_2 : Int) (a2 : Int) (c1 : Int → Int → Bool → Int → Int → Int → Option spec_DoesFit.R) : Option spec_DoesFit.R :=
 (spec_diHours.g N a0).bind fun r1 =>
 bif (!r1) then
  c1 a0 a2 true a1_0 a1_1 a1_2
 else
 (spec_pzClue.g N a0 a1_0 a1_1 a1_2).bind fun r2 =>
 bif (!r2) then
  c1 a0 a2 true a1_0 a1_1 a1_2
 else
 (spec_l1In.g N a2 0 (w64 ((w64 (60 * a0)) - 1))).bind fun r3 =>
 c1 a0 a2 (!r3) a1_0 a1_1 a1_2
theorem spec_DoesFit.o0.run (N : Nat) (H13 : Code) (a0 : Int) (a1_0 : Int) (a1_1 : Int) (a1_2 : Int) (a2 : Int) : runC spec_DoesFit.C (spec_DoesFit.O N) N (.seq spec_DoesFit.c2 (.seq (.seq spec_DoesFit.c12 H13) spec_DoesFit.c7)) 1 (st0 [.one (.int .i64 a0), .agg [.int .i64 a1_0, .int .i64 a1_1, .int .i64 a1_2], .one (.int .i64 a2)] [] : St D0) spec_DoesFit.K0 = spec_DoesFit.o0 N a0 a1_0 a1_1 a1_2 a2 ((fun w0 w1 w2 w3 w4 w5 => runC spec_DoesFit.C (spec_DoesFit.O N) N H13 13 (mkSt [(0, .one (.int .i64 w0)), (2, .one (.int .i64 w1)), (4, .one (.ptr 4 0)), (24, .one (.bool w2))] [(4, some (38, [.int .i64 w3, .int .i64 w4, .int .i64 w5]))] : St D0) (onN (fun s => spec_DoesFit.C.tidy 6 s (fun s' => runC spec_DoesFit.C (spec_DoesFit.O N) N spec_DoesFit.c7 7 s' spec_DoesFit.K0)) spec_DoesFit.K0))) := by kernel_rfl
noncomputable def spec_DoesFit.B6 (N : Nat) : St D0 → Option spec_DoesFit.R := fun s' => runC spec_DoesFit.C (spec_DoesFit.O N) N spec_DoesFit.c13 13 s' (spec_DoesFit.K13 N)
noncomputable def spec_DoesFit.g (N : Nat) (a0 : Int) (a1_0 : Int) (a1_1 : Int) (a1_2 : Int) (a2 : Int) : Option spec_DoesFit.R := spec_DoesFit.o0 N a0 a1_0 a1_1 a1_2 a2 ((fun w0 w1 w2 w3 w4 w5 => spec_DoesFit.d1 N w0 w1 w2 w3 w4 w5))
theorem spec_DoesFit.c1_0 : spec_DoesFit.c1 = (.seq spec_DoesFit.c2 (.seq (.seq spec_DoesFit.c12 spec_DoesFit.c13) spec_DoesFit.c7)) := by kernel_rfl
theorem spec_DoesFit.g.run (N : Nat) (a0 : Int) (a1_0 : Int) (a1_1 : Int) (a1_2 : Int) (a2 : Int) : runC spec_DoesFit.C (spec_DoesFit.O N) N spec_DoesFit.c1 1 (st0 [.one (.int .i64 a0), .agg [.int .i64 a1_0, .int .i64 a1_1, .int .i64 a1_2], .one (.int .i64 a2)] [] : St D0) spec_DoesFit.K0 = spec_DoesFit.g N a0 a1_0 a1_1 a1_2 a2 := by
  rw [spec_DoesFit.c1_0]; unfold spec_DoesFit.g; exact (spec_DoesFit.o0.run N spec_DoesFit.c13 a0 a1_0 a1_1 a1_2 a2).trans (congr rfl (funext fun w0 => funext fun w1 => funext fun w2 => funext fun w3 => funext fun w4 => funext fun w5 => spec_DoesFit.d1.run N w0 w1 w2 w3 w4 w5))
theorem spec_DoesFit.good (N : Nat) (a0 : Int) (a1_0 : Int) (a1_1 : Int) (a1_2 : Int) (a2 : Int) (r : spec_DoesFit.R) (h : spec_DoesFit.g N a0 a1_0 a1_1 a1_2 a2 = some r) : Go.PM.Good Go.Proofs.Try.prog T0 29 [.one (.int .i64 a0), .agg [.int .i64 a1_0, .int .i64 a1_1, .int .i64 a1_2], .one (.int .i64 a2)] [] (spec_DoesFit.sig.ret r) (spec_DoesFit.sig.bs r) :=
  good_fn tabOk0 mixed0 spec_DoesFit.sig (spec_DoesFit.E N) Go.Proofs.Try.func29 (by kernel_rfl) (by kernel_rfl) 16777431 0 0 [(12, [0, 2, 4, 24], [4])] [(false, [.any]), (false, [.any])] (by kernel_rfl) rfl ((spec_DoesFit.g.run N a0 a1_0 a1_1 a1_2 a2).trans h)
noncomputable def spec_DoesFit.ent (N : Nat) : Ent Go.Proofs.Try.prog T0 := mkEnt 29 [(false, [.any]), (true, [.any, .any, .any]), (false, [.any])] spec_DoesFit.sig (fun t => spec_DoesFit.g N t.1 t.2.1 t.2.2.1 t.2.2.2.1 t.2.2.2.2) (fun t r h => spec_DoesFit.good N t.1 t.2.1 t.2.2.1 t.2.2.2.1 t.2.2.2.2 r h)
end Go.Proofs.Ytpeleommbipeaaa.M

namespace Go.Proofs.Ytpeleommbipeaaa.M
open Go Go.PM Go.Proofs.Ytpeleommbipeaaa.P
set_option linter.unusedVariables false
set_option maxRecDepth 100000
/-! ### impl_told -/
abbrev impl_told.R : Type := Int × Int × Int
abbrev impl_told.sig : Sig := ⟨[(false, 1), (false, 1), (false, 1), (false, 1)], [], [.int .i64, .int .i64, .int .i64, .int .i64], [(true, 3)], [], [.int .i64, .int .i64, .int .i64]⟩
noncomputable def impl_told.C : Cfg D0 := ⟨Go.Proofs.Try.prog, T0, 19167355200617582351, 0, 75, 0, [(30, [8, 11], [8, 11])]⟩
noncomputable def impl_told.E (N : Nat) : List (Ent Go.Proofs.Try.prog T0) := []
noncomputable def impl_told.O (N : Nat) : Orc D0 impl_told.R := orcOf (impl_told.E N)
noncomputable def impl_told.K0 : Ex → St D0 → Option impl_told.R := exitK impl_told.C Go.Proofs.Try.f44.results.toList [(true, [.any, .any, .any])] (decOut impl_told.sig)
noncomputable def impl_told.c1 : Code := codeAt (Go.Proofs.Try.f44.body.getD .skip) []
noncomputable def impl_told.c2 : Code := codeAt (Go.Proofs.Try.f44.body.getD .skip) [false]
noncomputable def impl_told.c6 : Code := codeAt (Go.Proofs.Try.f44.body.getD .skip) [true, false]
noncomputable def impl_told.c14 : Code := codeAt (Go.Proofs.Try.f44.body.getD .skip) [true, true, false]
noncomputable def impl_told.c30 : Code := codeAt (Go.Proofs.Try.f44.body.getD .skip) [true, true, true, false]
noncomputable def impl_told.c31 : Code := codeAt (Go.Proofs.Try.f44.body.getD .skip) [true, true, true, true]
noncomputable def impl_told.K31 (N : Nat) : Ex → St D0 → Option impl_told.R := impl_told.K0
noncomputable def impl_told.o1 (N : Nat) (v0 : Int) (v1 : Int) (v2 : Int) (v3 : Int) (v4 : Int) (v5 : Int) : Option impl_told.R :=
 some (v3, v4, v5)
theorem impl_told.o1.run (N : Nat) (v0 : Int) (v1 : Int) (v2 : Int) (v3 : Int) (v4 : Int) (v5 : Int) : runC impl_told.C (impl_told.O N) N impl_told.c31 31 (mkSt [(8, .one (.ptr 8 0)), (11, .one (.ptr 11 0))] [(8, some (38, [.int .i64 v0, .int .i64 v1, .int .i64 v2])), (11, some (38, [.int .i64 v3, .int .i64 v4, .int .i64 v5]))] : St D0) impl_told.K0 = impl_told.o1 N v0 v1 v2 v3 v4 v5 := by kernel_rfl
noncomputable def impl_told.d1 (N : Nat) (v0 : Int) (v1 : Int) (v2 : Int) (v3 : Int) (v4 : Int) (v5 : Int) : Option impl_told.R := impl_told.o1 N v0 v1 v2 v3 v4 v5
theorem impl_told.d1.run (N : Nat) (v0 : Int) (v1 : Int) (v2 : Int) (v3 : Int) (v4 : Int) (v5 : Int) : runC impl_told.C (impl_told.O N) N impl_told.c31 31 (mkSt [(8, .one (.ptr 8 0)), (11, .one (.ptr 11 0))] [(8, some (38, [.int .i64 v0, .int .i64 v1, .int .i64 v2])), (11, some (38, [.int .i64 v3, .int .i64 v4, .int .i64 v5]))] : St D0) (impl_told.K31 N) = impl_told.d1 N v0 v1 v2 v3 v4 v5 := by
  exact (impl_told.o1.run N v0 v1 v2 v3 v4 v5).trans rfl
noncomputable def impl_told.o0 (N : Nat) (a0 : Int) (a1 : Int) (a2 : Int) (a3 : Int) (c1 : Int → Int → Int → Int → Int → Int → Option impl_told.R) : Option impl_told.R :=
 bif (a2 == 0) then
  c1 0 0 0 a2 (w64 (Int.tdiv a1 60)) 0
 else
 bif (a2 == 1) then
  bif (a3 == 0) then
   none
  else
  c1 0 0 0 a2 a3 (Int.tmod (Int.tmod a1 60) a3)
 else
 bif (a2 == 2) then
  c1 0 0 0 a2 (w64 ((w64 ((w64 ((w64 (Int.tdiv (w64 (Int.tdiv a1 60)) 10)) + (Int.tmod (w64 (Int.tdiv a1 60)) 10))) + (w64 (Int.tdiv (Int.tmod a1 60) 10)))) + (Int.tmod (Int.tmod a1 60) 10))) 0
 else
 bif (a2 == 3) then
  bif ((w64 (60 * a0)) == 0) then
   none
  else
  bif (decide ((w64 (2 * (Int.tmod (w64 (a1 * (w64 (a0 - 1)))) (w64 (60 * a0))))) < (w64 (60 * a0)))) then
   c1 0 0 0 a2 1 0
  else
  c1 0 0 0 a2 0 0
 else
 bif (a2 == 4) then
  c1 0 0 0 a2 (w64 ((w64 (Int.tdiv a1 60)) + 1)) 0
 else
 bif (a2 == 5) then
  c1 0 0 0 a2 (if (w64 ((Int.tmod a1 60) - (w64 (Int.tdiv a1 60)))) > (w64 ((w64 (Int.tdiv a1 60)) - (Int.tmod a1 60))) then (w64 ((Int.tmod a1 60) - (w64 (Int.tdiv a1 60)))) else (w64 ((w64 (Int.tdiv a1 60)) - (Int.tmod a1 60)))) 0
 else
 c1 0 0 0 a2 0 0
theorem impl_told.o0.run (N : Nat) (H31 : Code) (a0 : Int) (a1 : Int) (a2 : Int) (a3 : Int) : runC impl_told.C (impl_told.O N) N (.seq impl_told.c2 (.seq impl_told.c6 (.seq impl_told.c14 (.seq impl_told.c30 H31)))) 1 (st0 [.one (.int .i64 a0), .one (.int .i64 a1), .one (.int .i64 a2), .one (.int .i64 a3)] [] : St D0) impl_told.K0 = impl_told.o0 N a0 a1 a2 a3 ((fun w0 w1 w2 w3 w4 w5 => runC impl_told.C (impl_told.O N) N H31 31 (mkSt [(8, .one (.ptr 8 0)), (11, .one (.ptr 11 0))] [(8, some (38, [.int .i64 w0, .int .i64 w1, .int .i64 w2])), (11, some (38, [.int .i64 w3, .int .i64 w4, .int .i64 w5]))] : St D0) impl_told.K0)) := by kernel_rfl
noncomputable def impl_told.B15 (N : Nat) : St D0 → Option impl_told.R := fun s' => runC impl_told.C (impl_told.O N) N impl_told.c31 31 s' (impl_told.K31 N)
noncomputable def impl_told.g (N : Nat) (a0 : Int) (a1 : Int) (a2 : Int) (a3 : Int) : Option impl_told.R := impl_told.o0 N a0 a1 a2 a3 ((fun w0 w1 w2 w3 w4 w5 => impl_told.d1 N w0 w1 w2 w3 w4 w5))
theorem impl_told.c1_0 : impl_told.c1 = (.seq impl_told.c2 (.seq impl_told.c6 (.seq impl_told.c14 (.seq impl_told.c30 impl_told.c31)))) := by kernel_rfl
theorem impl_told.g.run (N : Nat) (a0 : Int) (a1 : Int) (a2 : Int) (a3 : Int) : runC impl_told.C (impl_told.O N) N impl_told.c1 1 (st0 [.one (.int .i64 a0), .one (.int .i64 a1), .one (.int .i64 a2), .one (.int .i64 a3)] [] : St D0) impl_told.K0 = impl_told.g N a0 a1 a2 a3 := by
  rw [impl_told.c1_0]; unfold impl_told.g; exact (impl_told.o0.run N impl_told.c31 a0 a1 a2 a3).trans (congr rfl (funext fun w0 => funext fun w1 => funext fun w2 => funext fun w3 => funext fun w4 => funext fun w5 => impl_told.d1.run N w0 w1 w2 w3 w4 w5))
theorem impl_told.good (N : Nat) (a0 : Int) (a1 : Int) (a2 : Int) (a3 : Int) (r : impl_told.R) (h : impl_told.g N a0 a1 a2 a3 = some r) : Go.PM.Good Go.Proofs.Try.prog T0 44 [.one (.int .i64 a0), .one (.int .i64 a1), .one (.int .i64 a2), .one (.int .i64 a3)] [] (impl_told.sig.ret r) (impl_told.sig.bs r) :=
  good_fn tabOk0 mixed0 impl_told.sig (impl_told.E N) Go.Proofs.Try.func44 (by kernel_rfl) (by kernel_rfl) 19167355200617582351 0 0 [(30, [8, 11], [8, 11])] [(true, [.any, .any, .any])] (by kernel_rfl) rfl ((impl_told.g.run N a0 a1 a2 a3).trans h)
noncomputable def impl_told.ent (N : Nat) : Ent Go.Proofs.Try.prog T0 := mkEnt 44 [(false, [.any]), (false, [.any]), (false, [.any]), (false, [.any])] impl_told.sig (fun t => impl_told.g N t.1 t.2.1 t.2.2.1 t.2.2.2) (fun t r h => impl_told.good N t.1 t.2.1 t.2.2.1 t.2.2.2 r h)
end Go.Proofs.Ytpeleommbipeaaa.M

namespace Go.Proofs.Ytpeleommbipeaaa.M
open Go Go.PM Go.Proofs.Ytpeleommbipeaaa.P
set_option linter.unusedVariables false
set_option maxRecDepth 100000
/-! ### impl_fits -/
abbrev impl_fits.R : Type := Bool
abbrev impl_fits.sig : Sig := ⟨[(false, 1), (false, 1), (true, 3)], [], [.int .i64, .int .i64, .int .i64, .int .i64, .int .i64], [(false, 1)], [], [.bool]⟩
noncomputable def impl_fits.C : Cfg D0 := ⟨Go.Proofs.Try.prog, T0, 103, 0, 16, 0, []⟩
noncomputable def impl_fits.E (N : Nat) : List (Ent Go.Proofs.Try.prog T0) := [impl_told.ent N]
noncomputable def impl_fits.O (N : Nat) : Orc D0 impl_fits.R := orcOf (impl_fits.E N)
noncomputable def impl_fits.K0 : Ex → St D0 → Option impl_fits.R := exitK impl_fits.C Go.Proofs.Try.f61.results.toList [(false, [.any])] (decOut impl_fits.sig)
noncomputable def impl_fits.c1 : Code := codeAt (Go.Proofs.Try.f61.body.getD .skip) []
noncomputable def impl_fits.o0 (N : Nat) (a0 : Int) (a1 : Int) (a2_0 : Int) (a2_1 : Int) (a2_2 : Int) : Option impl_fits.R :=
 (impl_told.g N a0 a1 a2_0 a2_1).bind fun r1 =>
 some (((r1.1 == a2_0) && ((r1.2.1 == a2_1) && ((r1.2.2 == a2_2) && true))))
theorem impl_fits.o0.run (N : Nat) (a0 : Int) (a1 : Int) (a2_0 : Int) (a2_1 : Int) (a2_2 : Int) : runC impl_fits.C (impl_fits.O N) N impl_fits.c1 1 (st0 [.one (.int .i64 a0), .one (.int .i64 a1), .agg [.int .i64 a2_0, .int .i64 a2_1, .int .i64 a2_2]] [] : St D0) impl_fits.K0 = impl_fits.o0 N a0 a1 a2_0 a2_1 a2_2 := by kernel_rfl
noncomputable def impl_fits.g (N : Nat) (a0 : Int) (a1 : Int) (a2_0 : Int) (a2_1 : Int) (a2_2 : Int) : Option impl_fits.R := impl_fits.o0 N a0 a1 a2_0 a2_1 a2_2
theorem impl_fits.g.run (N : Nat) (a0 : Int) (a1 : Int) (a2_0 : Int) (a2_1 : Int) (a2_2 : Int) : runC impl_fits.C (impl_fits.O N) N impl_fits.c1 1 (st0 [.one (.int .i64 a0), .one (.int .i64 a1), .agg [.int .i64 a2_0, .int .i64 a2_1, .int .i64 a2_2]] [] : St D0) impl_fits.K0 = impl_fits.g N a0 a1 a2_0 a2_1 a2_2 := by
  exact (impl_fits.o0.run N a0 a1 a2_0 a2_1 a2_2).trans rfl
theorem impl_fits.good (N : Nat) (a0 : Int) (a1 : Int) (a2_0 : Int) (a2_1 : Int) (a2_2 : Int) (r : impl_fits.R) (h : impl_fits.g N a0 a1 a2_0 a2_1 a2_2 = some r) : Go.PM.Good Go.Proofs.Try.prog T0 61 [.one (.int .i64 a0), .one (.int .i64 a1), .agg [.int .i64 a2_0, .int .i64 a2_1, .int .i64 a2_2]] [] (impl_fits.sig.ret r) (impl_fits.sig.bs r) :=
  good_fn tabOk0 mixed0 impl_fits.sig (impl_fits.E N) Go.Proofs.Try.func61 (by kernel_rfl) (by kernel_rfl) 103 0 0 [] [(false, [.any])] (by kernel_rfl) rfl ((impl_fits.g.run N a0 a1 a2_0 a2_1 a2_2).trans h)
noncomputable def impl_fits.ent (N : Nat) : Ent Go.Proofs.Try.prog T0 := mkEnt 61 [(false, [.any]), (false, [.any]), (true, [.any, .any, .any])] impl_fits.sig (fun t => impl_fits.g N t.1 t.2.1 t.2.2.1 t.2.2.2.1 t.2.2.2.2) (fun t r h => impl_fits.good N t.1 t.2.1 t.2.2.1 t.2.2.2.1 t.2.2.2.2 r h)
end Go.Proofs.Ytpeleommbipeaaa.M

namespace Go.Proofs.Ytpeleommbipeaaa.M
open Go Go.PM Go.Proofs.Ytpeleommbipeaaa.P
set_option linter.unusedVariables false
set_option maxRecDepth 100000
/-! ### impl_isMinute -/
abbrev impl_isMinute.R : Type := Bool
abbrev impl_isMinute.sig : Sig := ⟨[(false, 1), (false, 1)], [], [.int .i64, .int .i64], [(false, 1)], [], [.bool]⟩
noncomputable def impl_isMinute.C : Cfg D0 := ⟨Go.Proofs.Try.prog, T0, 19, 0, 14, 0, []⟩
noncomputable def impl_isMinute.E (N : Nat) : List (Ent Go.Proofs.Try.prog T0) := [impl_isDial.ent N, impl_within.ent N]
noncomputable def impl_isMinute.O (N : Nat) : Orc D0 impl_isMinute.R := orcOf (impl_isMinute.E N)
noncomputable def impl_isMinute.K0 : Ex → St D0 → Option impl_isMinute.R := exitK impl_isMinute.C Go.Proofs.Try.f41.results.toList [(false, [.any])] (decOut impl_isMinute.sig)
noncomputable def impl_isMinute.c1 : Code := codeAt (Go.Proofs.Try.f41.body.getD .skip) []
noncomputable def impl_isMinute.o0 (N : Nat) (a0 : Int) (a1 : Int) : Option impl_isMinute.R :=
 (impl_isDial.g N a0).bind fun r1 =>
 bif r1 then
  (impl_within.g N a1 0 (w64 ((w64 (60 * a0)) - 1))).bind fun r2 =>
  some (r2)
 else
 some (false)
theorem impl_isMinute.o0.run (N : Nat) (a0 : Int) (a1 : Int) : runC impl_isMinute.C (impl_isMinute.O N) N impl_isMinute.c1 1 (st0 [.one (.int .i64 a0), .one (.int .i64 a1)] [] : St D0) impl_isMinute.K0 = impl_isMinute.o0 N a0 a1 := by kernel_rfl
noncomputable def impl_isMinute.g (N : Nat) (a0 : Int) (a1 : Int) : Option impl_isMinute.R := impl_isMinute.o0 N a0 a1
theorem impl_isMinute.g.run (N : Nat) (a0 : Int) (a1 : Int) : runC impl_isMinute.C (impl_isMinute.O N) N impl_isMinute.c1 1 (st0 [.one (.int .i64 a0), .one (.int .i64 a1)] [] : St D0) impl_isMinute.K0 = impl_isMinute.g N a0 a1 := by
  exact (impl_isMinute.o0.run N a0 a1).trans rfl
theorem impl_isMinute.good (N : Nat) (a0 : Int) (a1 : Int) (r : impl_isMinute.R) (h : impl_isMinute.g N a0 a1 = some r) : Go.PM.Good Go.Proofs.Try.prog T0 41 [.one (.int .i64 a0), .one (.int .i64 a1)] [] (impl_isMinute.sig.ret r) (impl_isMinute.sig.bs r) :=
  good_fn tabOk0 mixed0 impl_isMinute.sig (impl_isMinute.E N) Go.Proofs.Try.func41 (by kernel_rfl) (by kernel_rfl) 19 0 0 [] [(false, [.any])] (by kernel_rfl) rfl ((impl_isMinute.g.run N a0 a1).trans h)
noncomputable def impl_isMinute.ent (N : Nat) : Ent Go.Proofs.Try.prog T0 := mkEnt 41 [(false, [.any]), (false, [.any])] impl_isMinute.sig (fun t => impl_isMinute.g N t.1 t.2) (fun t r h => impl_isMinute.good N t.1 t.2 r h)
end Go.Proofs.Ytpeleommbipeaaa.M

namespace Go.Proofs.Ytpeleommbipeaaa.M
open Go Go.PM Go.Proofs.Ytpeleommbipeaaa.P
set_option linter.unusedVariables false
set_option maxRecDepth 100000
/-! ### impl_IsClue -/
abbrev impl_IsClue.R : Type := Bool
abbrev impl_IsClue.sig : Sig := ⟨[(false, 1), (true, 3)], [], [.int .i64, .int .i64, .int .i64, .int .i64], [(false, 1)], [], [.bool]⟩
noncomputable def impl_IsClue.C : Cfg D0 := ⟨Go.Proofs.Try.prog, T0, 73219777964408859, 0, 61, 0, [(12, [0, 3, 17], [3])]⟩
noncomputable def impl_IsClue.E (N : Nat) : List (Ent Go.Proofs.Try.prog T0) := [impl_isDial.ent N, impl_within.ent N]
noncomputable def impl_IsClue.O (N : Nat) : Orc D0 impl_IsClue.R := orcOf (impl_IsClue.E N)
noncomputable def impl_IsClue.K0 : Ex → St D0 → Option impl_IsClue.R := exitK impl_IsClue.C Go.Proofs.Try.f30.results.toList [(false, [.any])] (decOut impl_IsClue.sig)
noncomputable def impl_IsClue.c1 : Code := codeAt (Go.Proofs.Try.f30.body.getD .skip) []
noncomputable def impl_IsClue.c2 : Code := codeAt (Go.Proofs.Try.f30.body.getD .skip) [false]
noncomputable def impl_IsClue.c7 : Code := codeAt (Go.Proofs.Try.f30.body.getD .skip) [true, true]
noncomputable def impl_IsClue.c12 : Code := codeAt (Go.Proofs.Try.f30.body.getD .skip) [true, false, false]
noncomputable def impl_IsClue.c13 : Code := codeAt (Go.Proofs.Try.f30.body.getD .skip) [true, false, true]
noncomputable def impl_IsClue.K13 (N : Nat) : Ex → St D0 → Option impl_IsClue.R := (onN (fun s => impl_IsClue.C.tidy 6 s (fun s' => runC impl_IsClue.C (impl_IsClue.O N) N impl_IsClue.c7 7 s' impl_IsClue.K0)) impl_IsClue.K0)
noncomputable def impl_IsClue.o1 (N : Nat) (v0 : Int) (v1 : Bool) (v2 : Int) (v3 : Int) (v4 : Int) : Option impl_IsClue.R :=
 bif v1 then
  some (false)
 else
 bif (v2 == 0) then
  (impl_within.g N v3 0 (w64 (v0 - 1))).bind fun r1 =>
  some (r1)
 else
 bif (v2 == 1) then
  (impl_within.g N v3 2 60).bind fun r2 =>
  bif r2 then
   (impl_within.g N v4 0 (w64 (v3 - 1))).bind fun r3 =>
   some (r3)
  else
  some (false)
 else
 bif (v2 == 2) then
  (impl_within.g N v3 0 30).bind fun r4 =>
  some (r4)
 else
 bif (v2 == 3) then
  (impl_within.g N v3 0 1).bind fun r5 =>
  some (r5)
 else
 bif (v2 == 4) then
  (impl_within.g N v3 1 v0).bind fun r6 =>
  some (r6)
 else
 bif (v2 == 5) then
  (impl_within.g N v3 0 59).bind fun r7 =>
  some (r7)
 else
 some (false)
theorem impl_IsClue.o1.run (N : Nat) (v0 : Int) (v1 : Bool) (v2 : Int) (v3 : Int) (v4 : Int) : runC impl_IsClue.C (impl_IsClue.O N) N impl_IsClue.c13 13 (mkSt [(0, .one (.int .i64 v0)), (3, .one (.ptr 3 0)), (17, .one (.bool v1))] [(3, some (38, [.int .i64 v2, .int .i64 v3, .int .i64 v4]))] : St D0) (onN (fun s => impl_IsClue.C.tidy 6 s (fun s' => runC impl_IsClue.C (impl_IsClue.O N) N impl_IsClue.c7 7 s' impl_IsClue.K0)) impl_IsClue.K0) = impl_IsClue.o1 N v0 v1 v2 v3 v4 := by kernel_rfl
noncomputable def impl_IsClue.d1 (N : Nat) (v0 : Int) (v1 : Bool) (v2 : Int) (v3 : Int) (v4 : Int) : Option impl_IsClue.R := impl_IsClue.o1 N v0 v1 v2 v3 v4
theorem impl_IsClue.d1.run (N : Nat) (v0 : Int) (v1 : Bool) (v2 : Int) (v3 : Int) (v4 : Int) : runC impl_IsClue.C (impl_IsClue.O N) N impl_IsClue.c13 13 (mkSt [(0, .one (.int .i64 v0)), (3, .one (.ptr 3 0)), (17, .one (.bool v1))] [(3, some (38, [.int .i64 v2, .int .i64 v3, .int .i64 v4]))] : St D0) (impl_IsClue.K13 N) = impl_IsClue.d1 N v0 v1 v2 v3 v4 := by
  exact (impl_IsClue.o1.run N v0 v1 v2 v3 v4).trans rfl
noncomputable def impl_IsClue.o0 (N : Nat) (a0 : Int) (a1_0 : Int) (a1_1 : Int) (a1_2 : Int) (c1 : Int → Bool → Int → Int → Int → Option impl_IsClue.R) : Option impl_IsClue.R :=
 (impl_isDial.g N a0).bind fun r1 =>
 bif (!r1) then
  c1 a0 true a1_0 a1_1 a1_2
 else
 bif (a1_0 != 1) then
  c1 a0 (a1_2 != 0) a1_0 a1_1 a1_2
 else
 c1 a0 false a1_0 a1_1 a1_2
theorem impl_IsClue.o0.run (N : Nat) (H13 : Code) (a0 : Int) (a1_0 : Int) (a1_1 : Int) (a1_2 : Int) : runC impl_IsClue.C (impl_IsClue.O N) N (.seq impl_IsClue.c2 (.seq (.seq impl_IsClue.c12 H13) impl_IsClue.c7)) 1 (st0 [.one (.int .i64 a0), .agg [.int .i64 a1_0, .int .i64 a1_1, .int .i64 a1_2]] [] : St D0) impl_IsClue.K0 = impl_IsClue.o0 N a0 a1_0 a1_1 a1_2 ((fun w0 w1 w2 w3 w4 => runC impl_IsClue.C (impl_IsClue.O N) N H13 13 (mkSt [(0, .one (.int .i64 w0)), (3, .one (.ptr 3 0)), (17, .one (.bool w1))] [(3, some (38, [.int .i64 w2, .int .i64 w3, .int .i64 w4]))] : St D0) (onN (fun s => impl_IsClue.C.tidy 6 s (fun s' => runC impl_IsClue.C (impl_IsClue.O N) N impl_IsClue.c7 7 s' impl_IsClue.K0)) impl_IsClue.K0))) := by kernel_rfl
noncomputable def impl_IsClue.B6 (N : Nat) : St D0 → Option impl_IsClue.R := fun s' => runC impl_IsClue.C (impl_IsClue.O N) N impl_IsClue.c13 13 s' (impl_IsClue.K13 N)
noncomputable def impl_IsClue.g (N : Nat) (a0 : Int) (a1_0 : Int) (a1_1 : Int) (a1_2 : Int) : Option impl_IsClue.R := impl_IsClue.o0 N a0 a1_0 a1_1 a1_2 ((fun w0 w1 w2 w3 w4 => impl_IsClue.d1 N w0 w1 w2 w3 w4))
theorem impl_IsClue.c1_0 : impl_IsClue.c1 = (.seq impl_IsClue.c2 (.seq (.seq impl_IsClue.c12 impl_IsClue.c13) impl_IsClue.c7)) := by kernel_rfl
theorem impl_IsClue.g.run (N : Nat) (a0 : Int) (a1_0 : Int) (a1_1 : Int) (a1_2 : Int) : runC impl_IsClue.C (impl_IsClue.O N) N impl_IsClue.c1 1 (st0 [.one (.int .i64 a0), .agg [.int .i64 a1_0, .int .i64 a1_1, .int .i64 a1_2]] [] : St D0) impl_IsClue.K0 = impl_IsClue.g N a0 a1_0 a1_1 a1_2 := by
  rw [impl_IsClue.c1_0]; unfold impl_IsClue.g; exact (impl_IsClue.o0.run N impl_IsClue.c13 a0 a1_0 a1_1 a1_2).trans (congr rfl (funext fun w0 => funext fun w1 => funext fun w2 => funext fun w3 => funext fun w4 => impl_IsClue.d1.run N w0 w1 w2 w3 w4))
theorem impl_IsClue.good (N : Nat) (a0 : Int) (a1_0 : Int) (a1_1 : Int) (a1_2 : Int) (r : impl_IsClue.R) (h : impl_IsClue.g N a0 a1_0 a1_1 a1_2 = some r) : Go.PM.Good Go.Proofs.Try.prog T0 30 [.one (.int .i64 a0), .agg [.int .i64 a1_0, .int .i64 a1_1, .int .i64 a1_2]] [] (impl_IsClue.sig.ret r) (impl_IsClue.sig.bs r) :=
  good_fn tabOk0 mixed0 impl_IsClue.sig (impl_IsClue.E N) Go.Proofs.Try.func30 (by kernel_rfl) (by kernel_rfl) 73219777964408859 0 0 [(12, [0, 3, 17], [3])] [(false, [.any])] (by kernel_rfl) rfl ((impl_IsClue.g.run N a0 a1_0 a1_1 a1_2).trans h)
noncomputable def impl_IsClue.ent (N : Nat) : Ent Go.Proofs.Try.prog T0 := mkEnt 30 [(false, [.any]), (true, [.any, .any, .any])] impl_IsClue.sig (fun t => impl_IsClue.g N t.1 t.2.1 t.2.2.1 t.2.2.2) (fun t r h => impl_IsClue.good N t.1 t.2.1 t.2.2.1 t.2.2.2 r h)
end Go.Proofs.Ytpeleommbipeaaa.M

namespace Go.Proofs.Ytpeleommbipeaaa.M
open Go Go.PM Go.Proofs.Ytpeleommbipeaaa.P
set_option linter.unusedVariables false
set_option maxRecDepth 100000
/-! ### impl_DoesFit -/
abbrev impl_DoesFit.R : Type := Bool × Bool
abbrev impl_DoesFit.sig : Sig := ⟨[(false, 1), (true, 3), (false, 1)], [], [.int .i64, .int .i64, .int .i64, .int .i64, .int .i64], [(false, 1), (false, 1)], [], [.bool, .bool]⟩
noncomputable def impl_DoesFit.C : Cfg D0 := ⟨Go.Proofs.Try.prog, T0, 131287, 0, 22, 0, [(12, [0, 2, 4, 17], [4])]⟩
noncomputable def impl_DoesFit.E (N : Nat) : List (Ent Go.Proofs.Try.prog T0) := [impl_IsClue.ent N, impl_isMinute.ent N, impl_fits.ent N]
noncomputable def impl_DoesFit.O (N : Nat) : Orc D0 impl_DoesFit.R := orcOf (impl_DoesFit.E N)
noncomputable def impl_DoesFit.K0 : Ex → St D0 → Option impl_DoesFit.R := exitK impl_DoesFit.C Go.Proofs.Try.f28.results.toList [(false, [.any]), (false, [.any])] (decOut impl_DoesFit.sig)
noncomputable def impl_DoesFit.c1 : Code := codeAt (Go.Proofs.Try.f28.body.getD .skip) []
noncomputable def impl_DoesFit.c2 : Code := codeAt (Go.Proofs.Try.f28.body.getD .skip) [false]
noncomputable def impl_DoesFit.c7 : Code := codeAt (Go.Proofs.Try.f28.body.getD .skip) [true, true]
noncomputable def impl_DoesFit.c12 : Code := codeAt (Go.Proofs.Try.f28.body.getD .skip) [true, false, false]
noncomputable def impl_DoesFit.c13 : Code := codeAt (Go.Proofs.Try.f28.body.getD .skip) [true, false, true]
noncomputable def impl_DoesFit.K13 (N : Nat) : Ex → St D0 → Option impl_DoesFit.R := (onN (fun s => impl_DoesFit.C.tidy 6 s (fun s' => runC impl_DoesFit.C (impl_DoesFit.O N) N impl_DoesFit.c7 7 s' impl_DoesFit.K0)) impl_DoesFit.K0)
noncomputable def impl_DoesFit.o1 (N : Nat) (v0 : Int) (v1 : Int) (v2 : Bool) (v3 : Int) (v4 : Int) (v5 : Int) : Option impl_DoesFit.R :=
 bif v2 then
  some (false, false)
 else
 (impl_fits.g N v0 v1 v3 v4 v5).bind fun r1 =>
 some (r1, true)
theorem impl_DoesFit.o1.run (N : Nat) (v0 : Int) (v1 : Int) (v2 : Bool) (v3 : Int) (v4 : Int) (v5 : Int) : runC impl_DoesFit.C (impl_DoesFit.O N) N impl_DoesFit.c13 13 (mkSt [(0, .one (.int .i64 v0)), (2, .one (.int .i64 v1)), (4, .one (.ptr 4 0)), (17, .one (.bool v2))] [(4, some (38, [.int .i64 v3, .int .i64 v4, .int .i64 v5]))] : St D0) (onN (fun s => impl_DoesFit.C.tidy 6 s (fun s' => runC impl_DoesFit.C (impl_DoesFit.O N) N impl_DoesFit.c7 7 s' impl_DoesFit.K0)) impl_DoesFit.K0) = impl_DoesFit.o1 N v0 v1 v2 v3 v4 v5 := by kernel_rfl
noncomputable def impl_DoesFit.d1 (N : Nat) (v0 : Int) (v1 : Int) (v2 : Bool) (v3 : Int) (v4 : Int) (v5 : Int) : Option impl_DoesFit.R := impl_DoesFit.o1 N v0 v1 v2 v3 v4 v5
theorem impl_DoesFit.d1.run (N : Nat) (v0 : Int) (v1 : Int) (v2 : Bool) (v3 : Int) (v4 : Int) (v5 : Int) : runC impl_DoesFit.C (impl_DoesFit.O N) N impl_DoesFit.c13 13 (mkSt [(0, .one (.int .i64 v0)), (2, .one (.int .i64 v1)), (4, .one (.ptr 4 0)), (17, .one (.bool v2))] [(4, some (38, [.int .i64 v3, .int .i64 v4, .int .i64 v5]))] : St D0) (impl_DoesFit.K13 N) = impl_DoesFit.d1 N v0 v1 v2 v3 v4 v5 := by
  exact (impl_DoesFit.o1.run N v0 v1 v2 v3 v4 v5).trans rfl
noncomputable def impl_DoesFit.o0 (N : Nat) (a0 : Int) (a1_0 : Int) (a1_1 : Int) (a1_2 : Int) (a2 : Int) (c1 : Int → Int → Bool → Int → Int → Int → Option impl_DoesFit.R) : Option impl_DoesFit.R :=
 (impl_IsClue.g N a0 a1_0 a1_1 a1_2).bind fun r1 =>
 bif (!r1) then
  c1 a0 a2 true a1_0 a1_1 a1_2
 else
 (impl_isMinute.g N a0 a2).bind fun r2 =>
 c1 a0 a2 (!r2) a1_0 a1_1 a1_2
theorem impl_DoesFit.o0.run (N : Nat) (H13 : Code) (a0 : Int) (a1_0 : Int) (a1_1 : Int) (a1_2 : Int) (a2 : Int) : runC impl_DoesFit.C (impl_DoesFit.O N) N (.seq impl_DoesFit.c2 (.seq (.seq impl_DoesFit.c12 H13) impl_DoesFit.c7)) 1 (st0 [.one (.int .i64 a0), .agg [.int .i64 a1_0, .int .i64 a1_1, .int .i64 a1_2], .one (.int .i64 a2)] [] : St D0) impl_DoesFit.K0 = impl_DoesFit.o0 N a0 a1_0 a1_1 a1_2 a2 ((fun w0 w1 w2 w3 w4 w5 => runC impl_DoesFit.C (impl_DoesFit.O N) N H13 13 (mkSt [(0, .one (.int .i64 w0)), (2, .one (.int .i64 w1)), (4, .one (.ptr 4 0)), (17, .one (.bool w2))] [(4, some (38, [.int .i64 w3, .int .i64 w4, .int .i64 w5]))] : St D0) (onN (fun s => impl_DoesFit.C.tidy 6 s (fun s' => runC impl_DoesFit.C (impl_DoesFit.O N) N impl_DoesFit.c7 7 s' impl_DoesFit.K0)) impl_DoesFit.K0))) := by kernel_rfl
noncomputable def impl_DoesFit.B6 (N : Nat) : St D0 → Option impl_DoesFit.R := fun s' => runC impl_DoesFit.C (impl_DoesFit.O N) N impl_DoesFit.c13 13 s' (impl_DoesFit.K13 N)
noncomputable def impl_DoesFit.g (N : Nat) (a0 : Int) (a1_0 : Int) (a1_1 : Int) (a1_2 : Int) (a2 : Int) : Option impl_DoesFit.R := impl_DoesFit.o0 N a0 a1_0 a1_1 a1_2 a2 ((fun w0 w1 w2 w3 w4 w5 => impl_DoesFit.d1 N w0 w1 w2 w3 w4 w5))
theorem impl_DoesFit.c1_0 : impl_DoesFit.c1 = (.seq impl_DoesFit.c2 (.seq (.seq impl_DoesFit.c12 impl_DoesFit.c13) impl_DoesFit.c7)) := by kernel_rfl
theorem impl_DoesFit.g.run (N : Nat) (a0 : Int) (a1_0 : Int) (a1_1 : Int) (a1_2 : Int) (a2 : Int) : runC impl_DoesFit.C (impl_DoesFit.O N) N impl_DoesFit.c1 1 (st0 [.one (.int .i64 a0), .agg [.int .i64 a1_0, .int .i64 a1_1, .int .i64 a1_2], .one (.int .i64 a2)] [] : St D0) impl_DoesFit.K0 = impl_DoesFit.g N a0 a1_0 a1_1 a1_2 a2 := by
  rw [impl_DoesFit.c1_0]; unfold impl_DoesFit.g; exact (impl_DoesFit.o0.run N impl_DoesFit.c13 a0 a1_0 a1_1 a1_2 a2).trans (congr rfl (funext fun w0 => funext fun w1 => funext fun w2 => funext fun w3 => funext fun w4 => funext fun w5 => impl_DoesFit.d1.run N w0 w1 w2 w3 w4 w5))
theorem impl_DoesFit.good (N : Nat) (a0 : Int) (a1_0 : Int) (a1_1 : Int) (a1_2 : Int) (a2 : Int) (r : impl_DoesFit.R) (h : impl_DoesFit.g N a0 a1_0 a1_1 a1_2 a2 = some r) : Go.PM.Good Go.Proofs.Try.prog T0 28 [.one (.int .i64 a0), .agg [.int .i64 a1_0, .int .i64 a1_1, .int .i64 a1_2], .one (.int .i64 a2)] [] (impl_DoesFit.sig.ret r) (impl_DoesFit.sig.bs r) :=
  good_fn tabOk0 mixed0 impl_DoesFit.sig (impl_DoesFit.E N) Go.Proofs.Try.func28 (by kernel_rfl) (by kernel_rfl) 131287 0 0 [(12, [0, 2, 4, 17], [4])] [(false, [.any]), (false, [.any])] (by kernel_rfl) rfl ((impl_DoesFit.g.run N a0 a1_0 a1_1 a1_2 a2).trans h)
noncomputable def impl_DoesFit.ent (N : Nat) : Ent Go.Proofs.Try.prog T0 := mkEnt 28 [(false, [.any]), (true, [.any, .any, .any]), (false, [.any])] impl_DoesFit.sig (fun t => impl_DoesFit.g N t.1 t.2.1 t.2.2.1 t.2.2.2.1 t.2.2.2.2) (fun t r h => impl_DoesFit.good N t.1 t.2.1 t.2.2.1 t.2.2.2.1 t.2.2.2.2 r h)
end Go.Proofs.Ytpeleommbipeaaa.M

namespace Go.Proofs.Ytpeleommbipeaaa.M
open Go Go.PM Go.Proofs.Ytpeleommbipeaaa.P
set_option linter.unusedVariables false
set_option maxRecDepth 100000
/-! ### impl_IsPuzzle_1 -/
abbrev impl_IsPuzzle_1.R : Type := Bool × Int × List S38
abbrev impl_IsPuzzle_1.sig : Sig := ⟨[(true, 3), (false, 1)], [(24, 2)], [.int .i64, .int .i64, .int .i64, .ptr 0 0, .int .i64, .sl false 38], [(false, 1)], [(24, 2)], [.bool, .int .i64, .sl false 38]⟩
noncomputable def impl_IsPuzzle_1.C : Cfg D0 := ⟨Go.Proofs.Try.prog, T0, 15, 0, 9, 1, []⟩
noncomputable def impl_IsPuzzle_1.E (N : Nat) : List (Ent Go.Proofs.Try.prog T0) := [impl_IsClue.ent N]
noncomputable def impl_IsPuzzle_1.O (N : Nat) : Orc D0 impl_IsPuzzle_1.R := orcOf (impl_IsPuzzle_1.E N)
noncomputable def impl_IsPuzzle_1.K0 : Ex → St D0 → Option impl_IsPuzzle_1.R := exitK impl_IsPuzzle_1.C Go.Proofs.Try.f56.results.toList [(false, [.any])] (decOut impl_IsPuzzle_1.sig)
noncomputable def impl_IsPuzzle_1.c1 : Code := codeAt (Go.Proofs.Try.f56.body.getD .skip) []
noncomputable def impl_IsPuzzle_1.o0 (N : Nat) (a0_0 : Int) (a0_1 : Int) (a0_2 : Int) (b0_0 : Int) (b0_1 : List S38) : Option impl_IsPuzzle_1.R :=
 (impl_IsClue.g N b0_0 a0_0 a0_1 a0_2).bind fun r1 =>
 some ((!r1), b0_0, b0_1)
theorem impl_IsPuzzle_1.o0.run (N : Nat) (a0_0 : Int) (a0_1 : Int) (a0_2 : Int) (b0_0 : Int) (b0_1 : List S38) : runC impl_IsPuzzle_1.C (impl_IsPuzzle_1.O N) N impl_IsPuzzle_1.c1 1 (st0 [.agg [.int .i64 a0_0, .int .i64 a0_1, .int .i64 a0_2], .one (.ptr 0 0)] [(24, [.int .i64 b0_0, .sl false 38 b0_1])] : St D0) impl_IsPuzzle_1.K0 = impl_IsPuzzle_1.o0 N a0_0 a0_1 a0_2 b0_0 b0_1 := by kernel_rfl
noncomputable def impl_IsPuzzle_1.g (N : Nat) (a0_0 : Int) (a0_1 : Int) (a0_2 : Int) (b0_0 : Int) (b0_1 : List S38) : Option impl_IsPuzzle_1.R := impl_IsPuzzle_1.o0 N a0_0 a0_1 a0_2 b0_0 b0_1
theorem impl_IsPuzzle_1.g.run (N : Nat) (a0_0 : Int) (a0_1 : Int) (a0_2 : Int) (b0_0 : Int) (b0_1 : List S38) : runC impl_IsPuzzle_1.C (impl_IsPuzzle_1.O N) N impl_IsPuzzle_1.c1 1 (st0 [.agg [.int .i64 a0_0, .int .i64 a0_1, .int .i64 a0_2], .one (.ptr 0 0)] [(24, [.int .i64 b0_0, .sl false 38 b0_1])] : St D0) impl_IsPuzzle_1.K0 = impl_IsPuzzle_1.g N a0_0 a0_1 a0_2 b0_0 b0_1 := by
  exact (impl_IsPuzzle_1.o0.run N a0_0 a0_1 a0_2 b0_0 b0_1).trans rfl
theorem impl_IsPuzzle_1.good (N : Nat) (a0_0 : Int) (a0_1 : Int) (a0_2 : Int) (b0_0 : Int) (b0_1 : List S38) (r : impl_IsPuzzle_1.R) (h : impl_IsPuzzle_1.g N a0_0 a0_1 a0_2 b0_0 b0_1 = some r) : Go.PM.Good Go.Proofs.Try.prog T0 56 [.agg [.int .i64 a0_0, .int .i64 a0_1, .int .i64 a0_2], .one (.ptr 0 0)] [(24, [.int .i64 b0_0, .sl false 38 b0_1])] (impl_IsPuzzle_1.sig.ret r) (impl_IsPuzzle_1.sig.bs r) :=
  good_fn tabOk0 mixed0 impl_IsPuzzle_1.sig (impl_IsPuzzle_1.E N) Go.Proofs.Try.func56 (by kernel_rfl) (by kernel_rfl) 15 0 1 [] [(false, [.any])] (by kernel_rfl) rfl ((impl_IsPuzzle_1.g.run N a0_0 a0_1 a0_2 b0_0 b0_1).trans h)
noncomputable def impl_IsPuzzle_1.ent (N : Nat) : Ent Go.Proofs.Try.prog T0 := mkEnt 56 [(true, [.any, .any, .any]), (false, [.any])] impl_IsPuzzle_1.sig (fun t => impl_IsPuzzle_1.g N t.1 t.2.1 t.2.2.1 t.2.2.2.2.1 t.2.2.2.2.2) (fun t r h => impl_IsPuzzle_1.good N t.1 t.2.1 t.2.2.1 t.2.2.2.2.1 t.2.2.2.2.2 r h)
end Go.Proofs.Ytpeleommbipeaaa.M

namespace Go.Proofs.Ytpeleommbipeaaa.M
open Go Go.PM Go.Proofs.Ytpeleommbipeaaa.P
set_option linter.unusedVariables false
set_option maxRecDepth 100000
/-! ### slices_IndexFunc_impl_Clue_impl_Clue -/
abbrev slices_IndexFunc_impl_Clue_impl_Clue.R : Type := Int × Int × List S38
abbrev slices_IndexFunc_impl_Clue_impl_Clue.sig : Sig := ⟨[(false, 1), (false, 1)], [(24, 2)], [.sl false 38, .fn 56 [0], .int .i64, .sl false 38], [(false, 1)], [(24, 2)], [.int .i64, .int .i64, .sl false 38]⟩
noncomputable def slices_IndexFunc_impl_Clue_impl_Clue.C : Cfg D0 := ⟨Go.Proofs.Try.prog, T0, 66483, 0, 19, 1, [(26, [0, 1, 7, 8], [0])]⟩
noncomputable def slices_IndexFunc_impl_Clue_impl_Clue.E (N : Nat) : List (Ent Go.Proofs.Try.prog T0) := [impl_IsPuzzle_1.ent N]
noncomputable def slices_IndexFunc_impl_Clue_impl_Clue.O (N : Nat) : Orc D0 slices_IndexFunc_impl_Clue_impl_Clue.R := orcOf (slices_IndexFunc_impl_Clue_impl_Clue.E N)
noncomputable def slices_IndexFunc_impl_Clue_impl_Clue.K0 : Ex → St D0 → Option slices_IndexFunc_impl_Clue_impl_Clue.R := exitK slices_IndexFunc_impl_Clue_impl_Clue.C Go.Proofs.Try.f78.results.toList [(false, [.any])] (decOut slices_IndexFunc_impl_Clue_impl_Clue.sig)
noncomputable def slices_IndexFunc_impl_Clue_impl_Clue.c1 : Code := codeAt (Go.Proofs.Try.f78.body.getD .skip) []
noncomputable def slices_IndexFunc_impl_Clue_impl_Clue.c2 : Code := codeAt (Go.Proofs.Try.f78.body.getD .skip) [false]
noncomputable def slices_IndexFunc_impl_Clue_impl_Clue.c7 : Code := codeAt (Go.Proofs.Try.f78.body.getD .skip) [true, true]
noncomputable def slices_IndexFunc_impl_Clue_impl_Clue.c12 : Code := codeAt (Go.Proofs.Try.f78.body.getD .skip) [true, false, false]
noncomputable def slices_IndexFunc_impl_Clue_impl_Clue.c52 : Code := codeAt (Go.Proofs.Try.f78.body.getD .skip) [true, false, true, false, false]
noncomputable def slices_IndexFunc_impl_Clue_impl_Clue.K52 (N : Nat) (Kn26 : St D0 → Option slices_IndexFunc_impl_Clue_impl_Clue.R) : Ex → St D0 → Option slices_IndexFunc_impl_Clue_impl_Clue.R := (onN (fun s => slices_IndexFunc_impl_Clue_impl_Clue.C.tidy 26 s ((onN Kn26 (blockK 0 (onN (fun s => slices_IndexFunc_impl_Clue_impl_Clue.C.tidy 6 s (fun s' => runC slices_IndexFunc_impl_Clue_impl_Clue.C (slices_IndexFunc_impl_Clue_impl_Clue.O N) N slices_IndexFunc_impl_Clue_impl_Clue.c7 7 s' slices_IndexFunc_impl_Clue_impl_Clue.K0)) slices_IndexFunc_impl_Clue_impl_Clue.K0))) .normal)) (onN Kn26 (blockK 0 (onN (fun s => slices_IndexFunc_impl_Clue_impl_Clue.C.tidy 6 s (fun s' => runC slices_IndexFunc_impl_Clue_impl_Clue.C (slices_IndexFunc_impl_Clue_impl_Clue.O N) N slices_IndexFunc_impl_Clue_impl_Clue.c7 7 s' slices_IndexFunc_impl_Clue_impl_Clue.K0)) slices_IndexFunc_impl_Clue_impl_Clue.K0))))
noncomputable def slices_IndexFunc_impl_Clue_impl_Clue.o1 (N : Nat) (v0 : List S38) (v1 : Int) (v2 : Int) (v3 : Int) (v4 : List S38) (c1 : (List S38) → Int → Int → Int → (List S38) → Option slices_IndexFunc_impl_Clue_impl_Clue.R) : Option slices_IndexFunc_impl_Clue_impl_Clue.R :=
 bif (decide (v2 < v1)) then
  bif (decide (0 ≤ v2)) then
   bif (decide (v2 < (v0.length : Int))) then
    (v0[(v2 : Int).toNat]?).bind fun x1 =>
    (impl_IsPuzzle_1.g N x1.f0 x1.f1 x1.f2 v3 v4).bind fun r2 =>
    bif r2.1 then
     some (v2, r2.2.1, r2.2.2)
    else
    c1 v0 v1 (w64 (v2 + 1)) r2.2.1 r2.2.2
   else
   none
  else
  none
 else
 some ((-1), v3, v4)
theorem slices_IndexFunc_impl_Clue_impl_Clue.o1.run (N : Nat) (Kn26 : St D0 → Option slices_IndexFunc_impl_Clue_impl_Clue.R) (v0 : List S38) (v1 : Int) (v2 : Int) (v3 : Int) (v4 : List S38) : runC slices_IndexFunc_impl_Clue_impl_Clue.C (slices_IndexFunc_impl_Clue_impl_Clue.O N) N slices_IndexFunc_impl_Clue_impl_Clue.c52 52 (mkSt [(0, .one (.sl false 38 v0)), (1, .one (.fn 56 [0])), (7, .one (.int .i64 v1)), (8, .one (.int .i64 v2))] [(0, some (24, [.int .i64 v3, .sl false 38 v4]))] : St D0) (onN (fun s => slices_IndexFunc_impl_Clue_impl_Clue.C.tidy 26 s ((onN Kn26 (blockK 0 (onN (fun s => slices_IndexFunc_impl_Clue_impl_Clue.C.tidy 6 s (fun s' => runC slices_IndexFunc_impl_Clue_impl_Clue.C (slices_IndexFunc_impl_Clue_impl_Clue.O N) N slices_IndexFunc_impl_Clue_impl_Clue.c7 7 s' slices_IndexFunc_impl_Clue_impl_Clue.K0)) slices_IndexFunc_impl_Clue_impl_Clue.K0))) .normal)) (onN Kn26 (blockK 0 (onN (fun s => slices_IndexFunc_impl_Clue_impl_Clue.C.tidy 6 s (fun s' => runC slices_IndexFunc_impl_Clue_impl_Clue.C (slices_IndexFunc_impl_Clue_impl_Clue.O N) N slices_IndexFunc_impl_Clue_impl_Clue.c7 7 s' slices_IndexFunc_impl_Clue_impl_Clue.K0)) slices_IndexFunc_impl_Clue_impl_Clue.K0)))) = slices_IndexFunc_impl_Clue_impl_Clue.o1 N v0 v1 v2 v3 v4 ((fun w0 w1 w2 w3 w4 => Kn26 (mkSt [(0, .one (.sl false 38 w0)), (1, .one (.fn 56 [0])), (7, .one (.int .i64 w1)), (8, .one (.int .i64 w2))] [(0, some (24, [.int .i64 w3, .sl false 38 w4]))] : St D0))) := by kernel_rfl
noncomputable def slices_IndexFunc_impl_Clue_impl_Clue.d1 (N : Nat) (v0 : List S38) (v1 : Int) (v2 : Int) (v3 : Int) (v4 : List S38) (c1 : (List S38) → Int → Int → Int → (List S38) → Option slices_IndexFunc_impl_Clue_impl_Clue.R) : Option slices_IndexFunc_impl_Clue_impl_Clue.R := slices_IndexFunc_impl_Clue_impl_Clue.o1 N v0 v1 v2 v3 v4 c1
theorem slices_IndexFunc_impl_Clue_impl_Clue.d1.run (N : Nat) (Kn26 : St D0 → Option slices_IndexFunc_impl_Clue_impl_Clue.R) (v0 : List S38) (v1 : Int) (v2 : Int) (v3 : Int) (v4 : List S38) : runC slices_IndexFunc_impl_Clue_impl_Clue.C (slices_IndexFunc_impl_Clue_impl_Clue.O N) N slices_IndexFunc_impl_Clue_impl_Clue.c52 52 (mkSt [(0, .one (.sl false 38 v0)), (1, .one (.fn 56 [0])), (7, .one (.int .i64 v1)), (8, .one (.int .i64 v2))] [(0, some (24, [.int .i64 v3, .sl false 38 v4]))] : St D0) (slices_IndexFunc_impl_Clue_impl_Clue.K52 N Kn26) = slices_IndexFunc_impl_Clue_impl_Clue.d1 N v0 v1 v2 v3 v4 ((fun w0 w1 w2 w3 w4 => Kn26 (mkSt [(0, .one (.sl false 38 w0)), (1, .one (.fn 56 [0])), (7, .one (.int .i64 w1)), (8, .one (.int .i64 w2))] [(0, some (24, [.int .i64 w3, .sl false 38 w4]))] : St D0))) := by
  exact (slices_IndexFunc_impl_Clue_impl_Clue.o1.run N Kn26 v0 v1 v2 v3 v4).trans rfl
noncomputable def slices_IndexFunc_impl_Clue_impl_Clue.K26 (N : Nat) : Ex → St D0 → Option slices_IndexFunc_impl_Clue_impl_Clue.R := (blockK 0 (onN (fun s => slices_IndexFunc_impl_Clue_impl_Clue.C.tidy 6 s (fun s' => runC slices_IndexFunc_impl_Clue_impl_Clue.C (slices_IndexFunc_impl_Clue_impl_Clue.O N) N slices_IndexFunc_impl_Clue_impl_Clue.c7 7 s' slices_IndexFunc_impl_Clue_impl_Clue.K0)) slices_IndexFunc_impl_Clue_impl_Clue.K0))
noncomputable def slices_IndexFunc_impl_Clue_impl_Clue.l1 (N : Nat) : Nat → (List S38) → Int → Int → Int → (List S38) → Option slices_IndexFunc_impl_Clue_impl_Clue.R
  | 0, _, _, _, _, _ => none
  | n + 1, v0, v1, v2, v3, v4 => slices_IndexFunc_impl_Clue_impl_Clue.d1 N v0 v1 v2 v3 v4 ((fun w0 w1 w2 w3 w4 => slices_IndexFunc_impl_Clue_impl_Clue.l1 N n w0 w1 w2 w3 w4))
theorem slices_IndexFunc_impl_Clue_impl_Clue.loop26 (N : Nat) : ∀ n, (∀ (v0 : List S38) (v1 : Int) (v2 : Int) (v3 : Int) (v4 : List S38), iter (loopF slices_IndexFunc_impl_Clue_impl_Clue.C (slices_IndexFunc_impl_Clue_impl_Clue.O N) N slices_IndexFunc_impl_Clue_impl_Clue.c52 26) n (mkSt [(0, .one (.sl false 38 v0)), (1, .one (.fn 56 [0])), (7, .one (.int .i64 v1)), (8, .one (.int .i64 v2))] [(0, some (24, [.int .i64 v3, .sl false 38 v4]))] : St D0) (slices_IndexFunc_impl_Clue_impl_Clue.K26 N) = slices_IndexFunc_impl_Clue_impl_Clue.l1 N n v0 v1 v2 v3 v4)
  | 0 => (fun v0 v1 v2 v3 v4 => rfl)
  | n + 1 => (fun v0 v1 v2 v3 v4 => (slices_IndexFunc_impl_Clue_impl_Clue.d1.run N (fun s => iter (loopF slices_IndexFunc_impl_Clue_impl_Clue.C (slices_IndexFunc_impl_Clue_impl_Clue.O N) N slices_IndexFunc_impl_Clue_impl_Clue.c52 26) n s (slices_IndexFunc_impl_Clue_impl_Clue.K26 N)) v0 v1 v2 v3 v4).trans (show _ = slices_IndexFunc_impl_Clue_impl_Clue.d1 N v0 v1 v2 v3 v4 ((fun w0 w1 w2 w3 w4 => slices_IndexFunc_impl_Clue_impl_Clue.l1 N n w0 w1 w2 w3 w4)) from (congr rfl (funext fun w0 => funext fun w1 => funext fun w2 => funext fun w3 => funext fun w4 => (slices_IndexFunc_impl_Clue_impl_Clue.loop26 N n) w0 w1 w2 w3 w4))))
noncomputable def slices_IndexFunc_impl_Clue_impl_Clue.o0 (N : Nat) (a0 : List S38) (b0_0 : Int) (b0_1 : List S38) (c1 : (List S38) → Int → Int → Int → (List S38) → Option slices_IndexFunc_impl_Clue_impl_Clue.R) : Option slices_IndexFunc_impl_Clue_impl_Clue.R :=
 c1 a0 (a0.length : Int) 0 b0_0 b0_1
theorem slices_IndexFunc_impl_Clue_impl_Clue.o0.run (N : Nat) (H52 : Code) (a0 : List S38) (b0_0 : Int) (b0_1 : List S38) : runC slices_IndexFunc_impl_Clue_impl_Clue.C (slices_IndexFunc_impl_Clue_impl_Clue.O N) N (.seq slices_IndexFunc_impl_Clue_impl_Clue.c2 (.seq (.seq slices_IndexFunc_impl_Clue_impl_Clue.c12 (.block 0 (.loop H52))) slices_IndexFunc_impl_Clue_impl_Clue.c7)) 1 (st0 [.one (.sl false 38 a0), .one (.fn 56 [0])] [(24, [.int .i64 b0_0, .sl false 38 b0_1])] : St D0) slices_IndexFunc_impl_Clue_impl_Clue.K0 = slices_IndexFunc_impl_Clue_impl_Clue.o0 N a0 b0_0 b0_1 ((fun w0 w1 w2 w3 w4 => iter (loopF slices_IndexFunc_impl_Clue_impl_Clue.C (slices_IndexFunc_impl_Clue_impl_Clue.O N) N H52 26) N (mkSt [(0, .one (.sl false 38 w0)), (1, .one (.fn 56 [0])), (7, .one (.int .i64 w1)), (8, .one (.int .i64 w2))] [(0, some (24, [.int .i64 w3, .sl false 38 w4]))] : St D0) (blockK 0 (onN (fun s => slices_IndexFunc_impl_Clue_impl_Clue.C.tidy 6 s (fun s' => runC slices_IndexFunc_impl_Clue_impl_Clue.C (slices_IndexFunc_impl_Clue_impl_Clue.O N) N slices_IndexFunc_impl_Clue_impl_Clue.c7 7 s' slices_IndexFunc_impl_Clue_impl_Clue.K0)) slices_IndexFunc_impl_Clue_impl_Clue.K0)))) := by kernel_rfl
noncomputable def slices_IndexFunc_impl_Clue_impl_Clue.g (N : Nat) (a0 : List S38) (b0_0 : Int) (b0_1 : List S38) : Option slices_IndexFunc_impl_Clue_impl_Clue.R := slices_IndexFunc_impl_Clue_impl_Clue.o0 N a0 b0_0 b0_1 ((fun w0 w1 w2 w3 w4 => slices_IndexFunc_impl_Clue_impl_Clue.l1 N N w0 w1 w2 w3 w4))
theorem slices_IndexFunc_impl_Clue_impl_Clue.c1_0 : slices_IndexFunc_impl_Clue_impl_Clue.c1 = (.seq slices_IndexFunc_impl_Clue_impl_Clue.c2 (.seq (.seq slices_IndexFunc_impl_Clue_impl_Clue.c12 (.block 0 (.loop slices_IndexFunc_impl_Clue_impl_Clue.c52))) slices_IndexFunc_impl_Clue_impl_Clue.c7)) := by kernel_rfl
theorem slices_IndexFunc_impl_Clue_impl_Clue.g.run (N : Nat) (a0 : List S38) (b0_0 : Int) (b0_1 : List S38) : runC slices_IndexFunc_impl_Clue_impl_Clue.C (slices_IndexFunc_impl_Clue_impl_Clue.O N) N slices_IndexFunc_impl_Clue_impl_Clue.c1 1 (st0 [.one (.sl false 38 a0), .one (.fn 56 [0])] [(24, [.int .i64 b0_0, .sl false 38 b0_1])] : St D0) slices_IndexFunc_impl_Clue_impl_Clue.K0 = slices_IndexFunc_impl_Clue_impl_Clue.g N a0 b0_0 b0_1 := by
  rw [slices_IndexFunc_impl_Clue_impl_Clue.c1_0]; unfold slices_IndexFunc_impl_Clue_impl_Clue.g; exact (slices_IndexFunc_impl_Clue_impl_Clue.o0.run N slices_IndexFunc_impl_Clue_impl_Clue.c52 a0 b0_0 b0_1).trans (congr rfl (funext fun w0 => funext fun w1 => funext fun w2 => funext fun w3 => funext fun w4 => (slices_IndexFunc_impl_Clue_impl_Clue.loop26 N N) w0 w1 w2 w3 w4))
theorem slices_IndexFunc_impl_Clue_impl_Clue.good (N : Nat) (a0 : List S38) (b0_0 : Int) (b0_1 : List S38) (r : slices_IndexFunc_impl_Clue_impl_Clue.R) (h : slices_IndexFunc_impl_Clue_impl_Clue.g N a0 b0_0 b0_1 = some r) : Go.PM.Good Go.Proofs.Try.prog T0 78 [.one (.sl false 38 a0), .one (.fn 56 [0])] [(24, [.int .i64 b0_0, .sl false 38 b0_1])] (slices_IndexFunc_impl_Clue_impl_Clue.sig.ret r) (slices_IndexFunc_impl_Clue_impl_Clue.sig.bs r) :=
  good_fn tabOk0 mixed0 slices_IndexFunc_impl_Clue_impl_Clue.sig (slices_IndexFunc_impl_Clue_impl_Clue.E N) Go.Proofs.Try.func78 (by kernel_rfl) (by kernel_rfl) 66483 0 1 [(26, [0, 1, 7, 8], [0])] [(false, [.any])] (by kernel_rfl) rfl ((slices_IndexFunc_impl_Clue_impl_Clue.g.run N a0 b0_0 b0_1).trans h)
noncomputable def slices_IndexFunc_impl_Clue_impl_Clue.ent (N : Nat) : Ent Go.Proofs.Try.prog T0 := mkEnt 78 [(false, [.ro 38]), (false, [.any])] slices_IndexFunc_impl_Clue_impl_Clue.sig (fun t => slices_IndexFunc_impl_Clue_impl_Clue.g N t.1 t.2.2.1 t.2.2.2) (fun t r h => slices_IndexFunc_impl_Clue_impl_Clue.good N t.1 t.2.2.1 t.2.2.2 r h)
end Go.Proofs.Ytpeleommbipeaaa.M

namespace Go.Proofs.Ytpeleommbipeaaa.M
open Go Go.PM Go.Proofs.Ytpeleommbipeaaa.P
set_option linter.unusedVariables false
set_option maxRecDepth 100000
/-! ### slices_ContainsFunc_impl_Clue_impl_Clue -/
abbrev slices_ContainsFunc_impl_Clue_impl_Clue.R : Type := Bool × Int × List S38
abbrev slices_ContainsFunc_impl_Clue_impl_Clue.sig : Sig := ⟨[(false, 1), (false, 1)], [(24, 2)], [.sl false 38, .fn 56 [0], .int .i64, .sl false 38], [(false, 1)], [(24, 2)], [.bool, .int .i64, .sl false 38]⟩
noncomputable def slices_ContainsFunc_impl_Clue_impl_Clue.C : Cfg D0 := ⟨Go.Proofs.Try.prog, T0, 19, 0, 9, 1, []⟩
noncomputable def slices_ContainsFunc_impl_Clue_impl_Clue.E (N : Nat) : List (Ent Go.Proofs.Try.prog T0) := [slices_IndexFunc_impl_Clue_impl_Clue.ent N]
noncomputable def slices_ContainsFunc_impl_Clue_impl_Clue.O (N : Nat) : Orc D0 slices_ContainsFunc_impl_Clue_impl_Clue.R := orcOf (slices_ContainsFunc_impl_Clue_impl_Clue.E N)
noncomputable def slices_ContainsFunc_impl_Clue_impl_Clue.K0 : Ex → St D0 → Option slices_ContainsFunc_impl_Clue_impl_Clue.R := exitK slices_ContainsFunc_impl_Clue_impl_Clue.C Go.Proofs.Try.f55.results.toList [(false, [.any])] (decOut slices_ContainsFunc_impl_Clue_impl_Clue.sig)
noncomputable def slices_ContainsFunc_impl_Clue_impl_Clue.c1 : Code := codeAt (Go.Proofs.Try.f55.body.getD .skip) []
noncomputable def slices_ContainsFunc_impl_Clue_impl_Clue.o0 (N : Nat) (a0 : List S38) (b0_0 : Int) (b0_1 : List S38) : Option slices_ContainsFunc_impl_Clue_impl_Clue.R :=
 (slices_IndexFunc_impl_Clue_impl_Clue.g N a0 b0_0 b0_1).bind fun r1 =>
 some ((decide (r1.1 ≥ 0)), r1.2.1, r1.2.2)
theorem slices_ContainsFunc_impl_Clue_impl_Clue.o0.run (N : Nat) (a0 : List S38) (b0_0 : Int) (b0_1 : List S38) : runC slices_ContainsFunc_impl_Clue_impl_Clue.C (slices_ContainsFunc_impl_Clue_impl_Clue.O N) N slices_ContainsFunc_impl_Clue_impl_Clue.c1 1 (st0 [.one (.sl false 38 a0), .one (.fn 56 [0])] [(24, [.int .i64 b0_0, .sl false 38 b0_1])] : St D0) slices_ContainsFunc_impl_Clue_impl_Clue.K0 = slices_ContainsFunc_impl_Clue_impl_Clue.o0 N a0 b0_0 b0_1 := by kernel_rfl
noncomputable def slices_ContainsFunc_impl_Clue_impl_Clue.g (N : Nat) (a0 : List S38) (b0_0 : Int) (b0_1 : List S38) : Option slices_ContainsFunc_impl_Clue_impl_Clue.R := slices_ContainsFunc_impl_Clue_impl_Clue.o0 N a0 b0_0 b0_1
theorem slices_ContainsFunc_impl_Clue_impl_Clue.g.run (N : Nat) (a0 : List S38) (b0_0 : Int) (b0_1 : List S38) : runC slices_ContainsFunc_impl_Clue_impl_Clue.C (slices_ContainsFunc_impl_Clue_impl_Clue.O N) N slices_ContainsFunc_impl_Clue_impl_Clue.c1 1 (st0 [.one (.sl false 38 a0), .one (.fn 56 [0])] [(24, [.int .i64 b0_0, .sl false 38 b0_1])] : St D0) slices_ContainsFunc_impl_Clue_impl_Clue.K0 = slices_ContainsFunc_impl_Clue_impl_Clue.g N a0 b0_0 b0_1 := by
  exact (slices_ContainsFunc_impl_Clue_impl_Clue.o0.run N a0 b0_0 b0_1).trans rfl
theorem slices_ContainsFunc_impl_Clue_impl_Clue.good (N : Nat) (a0 : List S38) (b0_0 : Int) (b0_1 : List S38) (r : slices_ContainsFunc_impl_Clue_impl_Clue.R) (h : slices_ContainsFunc_impl_Clue_impl_Clue.g N a0 b0_0 b0_1 = some r) : Go.PM.Good Go.Proofs.Try.prog T0 55 [.one (.sl false 38 a0), .one (.fn 56 [0])] [(24, [.int .i64 b0_0, .sl false 38 b0_1])] (slices_ContainsFunc_impl_Clue_impl_Clue.sig.ret r) (slices_ContainsFunc_impl_Clue_impl_Clue.sig.bs r) :=
  good_fn tabOk0 mixed0 slices_ContainsFunc_impl_Clue_impl_Clue.sig (slices_ContainsFunc_impl_Clue_impl_Clue.E N) Go.Proofs.Try.func55 (by kernel_rfl) (by kernel_rfl) 19 0 1 [] [(false, [.any])] (by kernel_rfl) rfl ((slices_ContainsFunc_impl_Clue_impl_Clue.g.run N a0 b0_0 b0_1).trans h)
noncomputable def slices_ContainsFunc_impl_Clue_impl_Clue.ent (N : Nat) : Ent Go.Proofs.Try.prog T0 := mkEnt 55 [(false, [.ro 38]), (false, [.any])] slices_ContainsFunc_impl_Clue_impl_Clue.sig (fun t => slices_ContainsFunc_impl_Clue_impl_Clue.g N t.1 t.2.2.1 t.2.2.2) (fun t r h => slices_ContainsFunc_impl_Clue_impl_Clue.good N t.1 t.2.2.1 t.2.2.2 r h)
end Go.Proofs.Ytpeleommbipeaaa.M

namespace Go.Proofs.Ytpeleommbipeaaa.M
open Go Go.PM Go.Proofs.Ytpeleommbipeaaa.P
set_option linter.unusedVariables false
set_option maxRecDepth 100000
/-! ### impl_IsPuzzle -/
abbrev impl_IsPuzzle.R : Type := Bool
abbrev impl_IsPuzzle.sig : Sig := ⟨[(true, 2)], [], [.int .i64, .sl false 38], [(false, 1)], [], [.bool]⟩
noncomputable def impl_IsPuzzle.C : Cfg D0 := ⟨Go.Proofs.Try.prog, T0, 7, 0, 19, 0, []⟩
noncomputable def impl_IsPuzzle.E (N : Nat) : List (Ent Go.Proofs.Try.prog T0) := [impl_isDial.ent N, slices_ContainsFunc_impl_Clue_impl_Clue.ent N]
noncomputable def impl_IsPuzzle.O (N : Nat) : Orc D0 impl_IsPuzzle.R := orcOf (impl_IsPuzzle.E N)
noncomputable def impl_IsPuzzle.K0 : Ex → St D0 → Option impl_IsPuzzle.R := exitK impl_IsPuzzle.C Go.Proofs.Try.f19.results.toList [(false, [.any])] (decOut impl_IsPuzzle.sig)
noncomputable def impl_IsPuzzle.c1 : Code := codeAt (Go.Proofs.Try.f19.body.getD .skip) []
noncomputable def impl_IsPuzzle.o0 (N : Nat) (a0_0 : Int) (a0_1 : List S38) : Option impl_IsPuzzle.R :=
 (impl_isDial.g N a0_0).bind fun r1 =>
 bif r1 then
  bif (decide ((a0_1.length : Int) ≤ 6)) then
   (slices_ContainsFunc_impl_Clue_impl_Clue.g N a0_1 a0_0 a0_1).bind fun r2 =>
   some ((!r2.1))
  else
  some (false)
 else
 some (false)
theorem impl_IsPuzzle.o0.run (N : Nat) (a0_0 : Int) (a0_1 : List S38) : runC impl_IsPuzzle.C (impl_IsPuzzle.O N) N impl_IsPuzzle.c1 1 (st0 [.agg [.int .i64 a0_0, .sl false 38 a0_1]] [] : St D0) impl_IsPuzzle.K0 = impl_IsPuzzle.o0 N a0_0 a0_1 := by kernel_rfl
noncomputable def impl_IsPuzzle.g (N : Nat) (a0_0 : Int) (a0_1 : List S38) : Option impl_IsPuzzle.R := impl_IsPuzzle.o0 N a0_0 a0_1
theorem impl_IsPuzzle.g.run (N : Nat) (a0_0 : Int) (a0_1 : List S38) : runC impl_IsPuzzle.C (impl_IsPuzzle.O N) N impl_IsPuzzle.c1 1 (st0 [.agg [.int .i64 a0_0, .sl false 38 a0_1]] [] : St D0) impl_IsPuzzle.K0 = impl_IsPuzzle.g N a0_0 a0_1 := by
  exact (impl_IsPuzzle.o0.run N a0_0 a0_1).trans rfl
theorem impl_IsPuzzle.good (N : Nat) (a0_0 : Int) (a0_1 : List S38) (r : impl_IsPuzzle.R) (h : impl_IsPuzzle.g N a0_0 a0_1 = some r) : Go.PM.Good Go.Proofs.Try.prog T0 19 [.agg [.int .i64 a0_0, .sl false 38 a0_1]] [] (impl_IsPuzzle.sig.ret r) (impl_IsPuzzle.sig.bs r) :=
  good_fn tabOk0 mixed0 impl_IsPuzzle.sig (impl_IsPuzzle.E N) Go.Proofs.Try.func19 (by kernel_rfl) (by kernel_rfl) 7 0 0 [] [(false, [.any])] (by kernel_rfl) rfl ((impl_IsPuzzle.g.run N a0_0 a0_1).trans h)
noncomputable def impl_IsPuzzle.ent (N : Nat) : Ent Go.Proofs.Try.prog T0 := mkEnt 19 [(true, [.any, .ro 38])] impl_IsPuzzle.sig (fun t => impl_IsPuzzle.g N t.1 t.2) (fun t r h => impl_IsPuzzle.good N t.1 t.2 r h)
end Go.Proofs.Ytpeleommbipeaaa.M

namespace Go.Proofs.Ytpeleommbipeaaa.M
open Go Go.PM Go.Proofs.Ytpeleommbipeaaa.P
set_option linter.unusedVariables false
set_option maxRecDepth 100000
/-! ### impl_solutions_1 -/
abbrev impl_solutions_1.R : Type := Bool × Int × Int
abbrev impl_solutions_1.sig : Sig := ⟨[(true, 3), (false, 1), (false, 1)], [(3, 1), (3, 1)], [.int .i64, .int .i64, .int .i64, .ptr 0 0, .ptr 1 0, .int .i64, .int .i64], [(false, 1)], [(3, 1), (3, 1)], [.bool, .int .i64, .int .i64]⟩
noncomputable def impl_solutions_1.C : Cfg D0 := ⟨Go.Proofs.Try.prog, T0, 31, 0, 10, 2, []⟩
noncomputable def impl_solutions_1.E (N : Nat) : List (Ent Go.Proofs.Try.prog T0) := [impl_fits.ent N]
noncomputable def impl_solutions_1.O (N : Nat) : Orc D0 impl_solutions_1.R := orcOf (impl_solutions_1.E N)
noncomputable def impl_solutions_1.K0 : Ex → St D0 → Option impl_solutions_1.R := exitK impl_solutions_1.C Go.Proofs.Try.f77.results.toList [(false, [.any])] (decOut impl_solutions_1.sig)
noncomputable def impl_solutions_1.c1 : Code := codeAt (Go.Proofs.Try.f77.body.getD .skip) []
noncomputable def impl_solutions_1.o0 (N : Nat) (a0_0 : Int) (a0_1 : Int) (a0_2 : Int) (b0_0 : Int) (b1_0 : Int) : Option impl_solutions_1.R :=
 (impl_fits.g N b0_0 b1_0 a0_0 a0_1 a0_2).bind fun r1 =>
 some ((!r1), b0_0, b1_0)
theorem impl_solutions_1.o0.run (N : Nat) (a0_0 : Int) (a0_1 : Int) (a0_2 : Int) (b0_0 : Int) (b1_0 : Int) : runC impl_solutions_1.C (impl_solutions_1.O N) N impl_solutions_1.c1 1 (st0 [.agg [.int .i64 a0_0, .int .i64 a0_1, .int .i64 a0_2], .one (.ptr 0 0), .one (.ptr 1 0)] [(3, [.int .i64 b0_0]), (3, [.int .i64 b1_0])] : St D0) impl_solutions_1.K0 = impl_solutions_1.o0 N a0_0 a0_1 a0_2 b0_0 b1_0 := by kernel_rfl
noncomputable def impl_solutions_1.g (N : Nat) (a0_0 : Int) (a0_1 : Int) (a0_2 : Int) (b0_0 : Int) (b1_0 : Int) : Option impl_solutions_1.R := impl_solutions_1.o0 N a0_0 a0_1 a0_2 b0_0 b1_0
theorem impl_solutions_1.g.run (N : Nat) (a0_0 : Int) (a0_1 : Int) (a0_2 : Int) (b0_0 : Int) (b1_0 : Int) : runC impl_solutions_1.C (impl_solutions_1.O N) N impl_solutions_1.c1 1 (st0 [.agg [.int .i64 a0_0, .int .i64 a0_1, .int .i64 a0_2], .one (.ptr 0 0), .one (.ptr 1 0)] [(3, [.int .i64 b0_0]), (3, [.int .i64 b1_0])] : St D0) impl_solutions_1.K0 = impl_solutions_1.g N a0_0 a0_1 a0_2 b0_0 b1_0 := by
  exact (impl_solutions_1.o0.run N a0_0 a0_1 a0_2 b0_0 b1_0).trans rfl
theorem impl_solutions_1.good (N : Nat) (a0_0 : Int) (a0_1 : Int) (a0_2 : Int) (b0_0 : Int) (b1_0 : Int) (r : impl_solutions_1.R) (h : impl_solutions_1.g N a0_0 a0_1 a0_2 b0_0 b1_0 = some r) : Go.PM.Good Go.Proofs.Try.prog T0 77 [.agg [.int .i64 a0_0, .int .i64 a0_1, .int .i64 a0_2], .one (.ptr 0 0), .one (.ptr 1 0)] [(3, [.int .i64 b0_0]), (3, [.int .i64 b1_0])] (impl_solutions_1.sig.ret r) (impl_solutions_1.sig.bs r) :=
  good_fn tabOk0 mixed0 impl_solutions_1.sig (impl_solutions_1.E N) Go.Proofs.Try.func77 (by kernel_rfl) (by kernel_rfl) 31 0 2 [] [(false, [.any])] (by kernel_rfl) rfl ((impl_solutions_1.g.run N a0_0 a0_1 a0_2 b0_0 b1_0).trans h)
noncomputable def impl_solutions_1.ent (N : Nat) : Ent Go.Proofs.Try.prog T0 := mkEnt 77 [(true, [.any, .any, .any]), (false, [.any]), (false, [.any])] impl_solutions_1.sig (fun t => impl_solutions_1.g N t.1 t.2.1 t.2.2.1 t.2.2.2.2.2.1 t.2.2.2.2.2.2) (fun t r h => impl_solutions_1.good N t.1 t.2.1 t.2.2.1 t.2.2.2.2.2.1 t.2.2.2.2.2.2 r h)
end Go.Proofs.Ytpeleommbipeaaa.M

namespace Go.Proofs.Ytpeleommbipeaaa.M
open Go Go.PM Go.Proofs.Ytpeleommbipeaaa.P
set_option linter.unusedVariables false
set_option maxRecDepth 100000
/-! ### slices_IndexFunc_impl_Clue_impl_Clue_1 -/
abbrev slices_IndexFunc_impl_Clue_impl_Clue_1.R : Type := Int × Int × Int
abbrev slices_IndexFunc_impl_Clue_impl_Clue_1.sig : Sig := ⟨[(false, 1), (false, 1)], [(3, 1), (3, 1)], [.sl false 38, .fn 77 [0, 1], .int .i64, .int .i64], [(false, 1)], [(3, 1), (3, 1)], [.int .i64, .int .i64, .int .i64]⟩
noncomputable def slices_IndexFunc_impl_Clue_impl_Clue_1.C : Cfg D0 := ⟨Go.Proofs.Try.prog, T0, 66483, 0, 19, 2, [(26, [0, 1, 7, 8], [0, 1])]⟩
noncomputable def slices_IndexFunc_impl_Clue_impl_Clue_1.E (N : Nat) : List (Ent Go.Proofs.Try.prog T0) := [impl_solutions_1.ent N]
noncomputable def slices_IndexFunc_impl_Clue_impl_Clue_1.O (N : Nat) : Orc D0 slices_IndexFunc_impl_Clue_impl_Clue_1.R := orcOf (slices_IndexFunc_impl_Clue_impl_Clue_1.E N)
noncomputable def slices_IndexFunc_impl_Clue_impl_Clue_1.K0 : Ex → St D0 → Option slices_IndexFunc_impl_Clue_impl_Clue_1.R := exitK slices_IndexFunc_impl_Clue_impl_Clue_1.C Go.Proofs.Try.f78.results.toList [(false, [.any])] (decOut slices_IndexFunc_impl_Clue_impl_Clue_1.sig)
noncomputable def slices_IndexFunc_impl_Clue_impl_Clue_1.c1 : Code := codeAt (Go.Proofs.Try.f78.body.getD .skip) []
noncomputable def slices_IndexFunc_impl_Clue_impl_Clue_1.c2 : Code := codeAt (Go.Proofs.Try.f78.body.getD .skip) [false]
noncomputable def slices_IndexFunc_impl_Clue_impl_Clue_1.c7 : Code := codeAt (Go.Proofs.Try.f78.body.getD .skip) [true, true]
noncomputable def slices_IndexFunc_impl_Clue_impl_Clue_1.c12 : Code := codeAt (Go.Proofs.Try.f78.body.getD .skip) [true, false, false]
noncomputable def slices_IndexFunc_impl_Clue_impl_Clue_1.c52 : Code := codeAt (Go.Proofs.Try.f78.body.getD .skip) [true, false, true, false, false]
noncomputable def slices_IndexFunc_impl_Clue_impl_Clue_1.K52 (N : Nat) (Kn26 : St D0 → Option slices_IndexFunc_impl_Clue_impl_Clue_1.R) : Ex → St D0 → Option slices_IndexFunc_impl_Clue_impl_Clue_1.R := (onN (fun s => slices_IndexFunc_impl_Clue_impl_Clue_1.C.tidy 26 s ((onN Kn26 (blockK 0 (onN (fun s => slices_IndexFunc_impl_Clue_impl_Clue_1.C.tidy 6 s (fun s' => runC slices_IndexFunc_impl_Clue_impl_Clue_1.C (slices_IndexFunc_impl_Clue_impl_Clue_1.O N) N slices_IndexFunc_impl_Clue_impl_Clue_1.c7 7 s' slices_IndexFunc_impl_Clue_impl_Clue_1.K0)) slices_IndexFunc_impl_Clue_impl_Clue_1.K0))) .normal)) (onN Kn26 (blockK 0 (onN (fun s => slices_IndexFunc_impl_Clue_impl_Clue_1.C.tidy 6 s (fun s' => runC slices_IndexFunc_impl_Clue_impl_Clue_1.C (slices_IndexFunc_impl_Clue_impl_Clue_1.O N) N slices_IndexFunc_impl_Clue_impl_Clue_1.c7 7 s' slices_IndexFunc_impl_Clue_impl_Clue_1.K0)) slices_IndexFunc_impl_Clue_impl_Clue_1.K0))))
noncomputable def slices_IndexFunc_impl_Clue_impl_Clue_1.o1 (N : Nat) (v0 : List S38) (v1 : Int) (v2 : Int) (v3 : Int) (v4 : Int) (c1 : (List S38) → Int → Int → Int → Int → Option slices_IndexFunc_impl_Clue_impl_Clue_1.R) : Option slices_IndexFunc_impl_Clue_impl_Clue_1.R :=
 bif (decide (v2 < v1)) then
  bif (decide (0 ≤ v2)) then
   bif (decide (v2 < (v0.length : Int))) then
    (v0[(v2 : Int).toNat]?).bind fun x1 =>
    (impl_solutions_1.g N x1.f0 x1.f1 x1.f2 v3 v4).bind fun r2 =>
    bif r2.1 then
     some (v2, r2.2.1, r2.2.2)
    else
    c1 v0 v1 (w64 (v2 + 1)) r2.2.1 r2.2.2
   else
   none
  else
  none
 else
 some ((-1), v3, v4)
theorem slices_IndexFunc_impl_Clue_impl_Clue_1.o1.run (N : Nat) (Kn26 : St D0 → Option slices_IndexFunc_impl_Clue_impl_Clue_1.R) (v0 : List S38) (v1 : Int) (v2 : Int) (v3 : Int) (v4 : Int) : runC slices_IndexFunc_impl_Clue_impl_Clue_1.C (slices_IndexFunc_impl_Clue_impl_Clue_1.O N) N slices_IndexFunc_impl_Clue_impl_Clue_1.c52 52 (mkSt [(0, .one (.sl false 38 v0)), (1, .one (.fn 77 [0, 1])), (7, .one (.int .i64 v1)), (8, .one (.int .i64 v2))] [(0, some (3, [.int .i64 v3])), (1, some (3, [.int .i64 v4]))] : St D0) (onN (fun s => slices_IndexFunc_impl_Clue_impl_Clue_1.C.tidy 26 s ((onN Kn26 (blockK 0 (onN (fun s => slices_IndexFunc_impl_Clue_impl_Clue_1.C.tidy 6 s (fun s' => runC slices_IndexFunc_impl_Clue_impl_Clue_1.C (slices_IndexFunc_impl_Clue_impl_Clue_1.O N) N slices_IndexFunc_impl_Clue_impl_Clue_1.c7 7 s' slices_IndexFunc_impl_Clue_impl_Clue_1.K0)) slices_IndexFunc_impl_Clue_impl_Clue_1.K0))) .normal)) (onN Kn26 (blockK 0 (onN (fun s => slices_IndexFunc_impl_Clue_impl_Clue_1.C.tidy 6 s (fun s' => runC slices_IndexFunc_impl_Clue_impl_Clue_1.C (slices_IndexFunc_impl_Clue_impl_Clue_1.O N) N slices_IndexFunc_impl_Clue_impl_Clue_1.c7 7 s' slices_IndexFunc_impl_Clue_impl_Clue_1.K0)) slices_IndexFunc_impl_Clue_impl_Clue_1.K0)))) = slices_IndexFunc_impl_Clue_impl_Clue_1.o1 N v0 v1 v2 v3 v4 ((fun w0 w1 w2 w3 w4 => Kn26 (mkSt [(0, .one (.sl false 38 w0)), (1, .one (.fn 77 [0, 1])), (7, .one (.int .i64 w1)), (8, .one (.int .i64 w2))] [(0, some (3, [.int .i64 w3])), (1, some (3, [.int .i64 w4]))] : St D0))) := by kernel_rfl
noncomputable def slices_IndexFunc_impl_Clue_impl_Clue_1.d1 (N : Nat) (v0 : List S38) (v1 : Int) (v2 : Int) (v3 : Int) (v4 : Int) (c1 : (List S38) → Int → Int → Int → Int → Option slices_IndexFunc_impl_Clue_impl_Clue_1.R) : Option slices_IndexFunc_impl_Clue_impl_Clue_1.R := slices_IndexFunc_impl_Clue_impl_Clue_1.o1 N v0 v1 v2 v3 v4 c1
theorem slices_IndexFunc_impl_Clue_impl_Clue_1.d1.run (N : Nat) (Kn26 : St D0 → Option slices_IndexFunc_impl_Clue_impl_Clue_1.R) (v0 : List S38) (v1 : Int) (v2 : Int) (v3 : Int) (v4 : Int) : runC slices_IndexFunc_impl_Clue_impl_Clue_1.C (slices_IndexFunc_impl_Clue_impl_Clue_1.O N) N slices_IndexFunc_impl_Clue_impl_Clue_1.c52 52 (mkSt [(0, .one (.sl false 38 v0)), (1, .one (.fn 77 [0, 1])), (7, .one (.int .i64 v1)), (8, .one (.int .i64 v2))] [(0, some (3, [.int .i64 v3])), (1, some (3, [.int .i64 v4]))] : St D0) (slices_IndexFunc_impl_Clue_impl_Clue_1.K52 N Kn26) = slices_IndexFunc_impl_Clue_impl_Clue_1.d1 N v0 v1 v2 v3 v4 ((fun w0 w1 w2 w3 w4 => Kn26 (mkSt [(0, .one (.sl false 38 w0)), (1, .one (.fn 77 [0, 1])), (7, .one (.int .i64 w1)), (8, .one (.int .i64 w2))] [(0, some (3, [.int .i64 w3])), (1, some (3, [.int .i64 w4]))] : St D0))) := by
  exact (slices_IndexFunc_impl_Clue_impl_Clue_1.o1.run N Kn26 v0 v1 v2 v3 v4).trans rfl
noncomputable def slices_IndexFunc_impl_Clue_impl_Clue_1.K26 (N : Nat) : Ex → St D0 → Option slices_IndexFunc_impl_Clue_impl_Clue_1.R := (blockK 0 (onN (fun s => slices_IndexFunc_impl_Clue_impl_Clue_1.C.tidy 6 s (fun s' => runC slices_IndexFunc_impl_Clue_impl_Clue_1.C (slices_IndexFunc_impl_Clue_impl_Clue_1.O N) N slices_IndexFunc_impl_Clue_impl_Clue_1.c7 7 s' slices_IndexFunc_impl_Clue_impl_Clue_1.K0)) slices_IndexFunc_impl_Clue_impl_Clue_1.K0))
noncomputable def slices_IndexFunc_impl_Clue_impl_Clue_1.l1 (N : Nat) : Nat → (List S38) → Int → Int → Int → Int → Option slices_IndexFunc_impl_Clue_impl_Clue_1.R
  | 0, _, _, _, _, _ => none
  | n + 1, v0, v1, v2, v3, v4 => slices_IndexFunc_impl_Clue_impl_Clue_1.d1 N v0 v1 v2 v3 v4 ((fun w0 w1 w2 w3 w4 => slices_IndexFunc_impl_Clue_impl_Clue_1.l1 N n w0 w1 w2 w3 w4))
theorem slices_IndexFunc_impl_Clue_impl_Clue_1.loop26 (N : Nat) : ∀ n, (∀ (v0 : List S38) (v1 : Int) (v2 : Int) (v3 : Int) (v4 : Int), iter (loopF slices_IndexFunc_impl_Clue_impl_Clue_1.C (slices_IndexFunc_impl_Clue_impl_Clue_1.O N) N slices_IndexFunc_impl_Clue_impl_Clue_1.c52 26) n (mkSt [(0, .one (.sl false 38 v0)), (1, .one (.fn 77 [0, 1])), (7, .one (.int .i64 v1)), (8, .one (.int .i64 v2))] [(0, some (3, [.int .i64 v3])), (1, some (3, [.int .i64 v4]))] : St D0) (slices_IndexFunc_impl_Clue_impl_Clue_1.K26 N) = slices_IndexFunc_impl_Clue_impl_Clue_1.l1 N n v0 v1 v2 v3 v4)
  | 0 => (fun v0 v1 v2 v3 v4 => rfl)
  | n + 1 => (fun v0 v1 v2 v3 v4 => (slices_IndexFunc_impl_Clue_impl_Clue_1.d1.run N (fun s => iter (loopF slices_IndexFunc_impl_Clue_impl_Clue_1.C (slices_IndexFunc_impl_Clue_impl_Clue_1.O N) N slices_IndexFunc_impl_Clue_impl_Clue_1.c52 26) n s (slices_IndexFunc_impl_Clue_impl_Clue_1.K26 N)) v0 v1 v2 v3 v4).trans (show _ = slices_IndexFunc_impl_Clue_impl_Clue_1.d1 N v0 v1 v2 v3 v4 ((fun w0 w1 w2 w3 w4 => slices_IndexFunc_impl_Clue_impl_Clue_1.l1 N n w0 w1 w2 w3 w4)) from (congr rfl (funext fun w0 => funext fun w1 => funext fun w2 => funext fun w3 => funext fun w4 => (slices_IndexFunc_impl_Clue_impl_Clue_1.loop26 N n) w0 w1 w2 w3 w4))))
noncomputable def slices_IndexFunc_impl_Clue_impl_Clue_1.o0 (N : Nat) (a0 : List S38) (b0_0 : Int) (b1_0 : Int) (c1 : (List S38) → Int → Int → Int → Int → Option slices_IndexFunc_impl_Clue_impl_Clue_1.R) : Option slices_IndexFunc_impl_Clue_impl_Clue_1.R :=
 c1 a0 (a0.length : Int) 0 b0_0 b1_0
theorem slices_IndexFunc_impl_Clue_impl_Clue_1.o0.run (N : Nat) (H52 : Code) (a0 : List S38) (b0_0 : Int) (b1_0 : Int) : runC slices_IndexFunc_impl_Clue_impl_Clue_1.C (slices_IndexFunc_impl_Clue_impl_Clue_1.O N) N (.seq slices_IndexFunc_impl_Clue_impl_Clue_1.c2 (.seq (.seq slices_IndexFunc_impl_Clue_impl_Clue_1.c12 (.block 0 (.loop H52))) slices_IndexFunc_impl_Clue_impl_Clue_1.c7)) 1 (st0 [.one (.sl false 38 a0), .one (.fn 77 [0, 1])] [(3, [.int .i64 b0_0]), (3, [.int .i64 b1_0])] : St D0) slices_IndexFunc_impl_Clue_impl_Clue_1.K0 = slices_IndexFunc_impl_Clue_impl_Clue_1.o0 N a0 b0_0 b1_0 ((fun w0 w1 w2 w3 w4 => iter (loopF slices_IndexFunc_impl_Clue_impl_Clue_1.C (slices_IndexFunc_impl_Clue_impl_Clue_1.O N) N H52 26) N (mkSt [(0, .one (.sl false 38 w0)), (1, .one (.fn 77 [0, 1])), (7, .one (.int .i64 w1)), (8, .one (.int .i64 w2))] [(0, some (3, [.int .i64 w3])), (1, some (3, [.int .i64 w4]))] : St D0) (blockK 0 (onN (fun s => slices_IndexFunc_impl_Clue_impl_Clue_1.C.tidy 6 s (fun s' => runC slices_IndexFunc_impl_Clue_impl_Clue_1.C (slices_IndexFunc_impl_Clue_impl_Clue_1.O N) N slices_IndexFunc_impl_Clue_impl_Clue_1.c7 7 s' slices_IndexFunc_impl_Clue_impl_Clue_1.K0)) slices_IndexFunc_impl_Clue_impl_Clue_1.K0)))) := by kernel_rfl
noncomputable def slices_IndexFunc_impl_Clue_impl_Clue_1.g (N : Nat) (a0 : List S38) (b0_0 : Int) (b1_0 : Int) : Option slices_IndexFunc_impl_Clue_impl_Clue_1.R := slices_IndexFunc_impl_Clue_impl_Clue_1.o0 N a0 b0_0 b1_0 ((fun w0 w1 w2 w3 w4 => slices_IndexFunc_impl_Clue_impl_Clue_1.l1 N N w0 w1 w2 w3 w4))
theorem slices_IndexFunc_impl_Clue_impl_Clue_1.c1_0 : slices_IndexFunc_impl_Clue_impl_Clue_1.c1 = (.seq slices_IndexFunc_impl_Clue_impl_Clue_1.c2 (.seq (.seq slices_IndexFunc_impl_Clue_impl_Clue_1.c12 (.block 0 (.loop slices_IndexFunc_impl_Clue_impl_Clue_1.c52))) slices_IndexFunc_impl_Clue_impl_Clue_1.c7)) := by kernel_rfl
theorem slices_IndexFunc_impl_Clue_impl_Clue_1.g.run (N : Nat) (a0 : List S38) (b0_0 : Int) (b1_0 : Int) : runC slices_IndexFunc_impl_Clue_impl_Clue_1.C (slices_IndexFunc_impl_Clue_impl_Clue_1.O N) N slices_IndexFunc_impl_Clue_impl_Clue_1.c1 1 (st0 [.one (.sl false 38 a0), .one (.fn 77 [0, 1])] [(3, [.int .i64 b0_0]), (3, [.int .i64 b1_0])] : St D0) slices_IndexFunc_impl_Clue_impl_Clue_1.K0 = slices_IndexFunc_impl_Clue_impl_Clue_1.g N a0 b0_0 b1_0 := by
  rw [slices_IndexFunc_impl_Clue_impl_Clue_1.c1_0]; unfold slices_IndexFunc_impl_Clue_impl_Clue_1.g; exact (slices_IndexFunc_impl_Clue_impl_Clue_1.o0.run N slices_IndexFunc_impl_Clue_impl_Clue_1.c52 a0 b0_0 b1_0).trans (congr rfl (funext fun w0 => funext fun w1 => funext fun w2 => funext fun w3 => funext fun w4 => (slices_IndexFunc_impl_Clue_impl_Clue_1.loop26 N N) w0 w1 w2 w3 w4))
theorem slices_IndexFunc_impl_Clue_impl_Clue_1.good (N : Nat) (a0 : List S38) (b0_0 : Int) (b1_0 : Int) (r : slices_IndexFunc_impl_Clue_impl_Clue_1.R) (h : slices_IndexFunc_impl_Clue_impl_Clue_1.g N a0 b0_0 b1_0 = some r) : Go.PM.Good Go.Proofs.Try.prog T0 78 [.one (.sl false 38 a0), .one (.fn 77 [0, 1])] [(3, [.int .i64 b0_0]), (3, [.int .i64 b1_0])] (slices_IndexFunc_impl_Clue_impl_Clue_1.sig.ret r) (slices_IndexFunc_impl_Clue_impl_Clue_1.sig.bs r) :=
  good_fn tabOk0 mixed0 slices_IndexFunc_impl_Clue_impl_Clue_1.sig (slices_IndexFunc_impl_Clue_impl_Clue_1.E N) Go.Proofs.Try.func78 (by kernel_rfl) (by kernel_rfl) 66483 0 2 [(26, [0, 1, 7, 8], [0, 1])] [(false, [.any])] (by kernel_rfl) rfl ((slices_IndexFunc_impl_Clue_impl_Clue_1.g.run N a0 b0_0 b1_0).trans h)
noncomputable def slices_IndexFunc_impl_Clue_impl_Clue_1.ent (N : Nat) : Ent Go.Proofs.Try.prog T0 := mkEnt 78 [(false, [.ro 38]), (false, [.any])] slices_IndexFunc_impl_Clue_impl_Clue_1.sig (fun t => slices_IndexFunc_impl_Clue_impl_Clue_1.g N t.1 t.2.2.1 t.2.2.2) (fun t r h => slices_IndexFunc_impl_Clue_impl_Clue_1.good N t.1 t.2.2.1 t.2.2.2 r h)
end Go.Proofs.Ytpeleommbipeaaa.M

namespace Go.Proofs.Ytpeleommbipeaaa.M
open Go Go.PM Go.Proofs.Ytpeleommbipeaaa.P
set_option linter.unusedVariables false
set_option maxRecDepth 100000
/-! ### slices_ContainsFunc_impl_Clue_impl_Clue_1 -/
abbrev slices_ContainsFunc_impl_Clue_impl_Clue_1.R : Type := Bool × Int × Int
abbrev slices_ContainsFunc_impl_Clue_impl_Clue_1.sig : Sig := ⟨[(false, 1), (false, 1)], [(3, 1), (3, 1)], [.sl false 38, .fn 77 [0, 1], .int .i64, .int .i64], [(false, 1)], [(3, 1), (3, 1)], [.bool, .int .i64, .int .i64]⟩
noncomputable def slices_ContainsFunc_impl_Clue_impl_Clue_1.C : Cfg D0 := ⟨Go.Proofs.Try.prog, T0, 19, 0, 9, 2, []⟩
noncomputable def slices_ContainsFunc_impl_Clue_impl_Clue_1.E (N : Nat) : List (Ent Go.Proofs.Try.prog T0) := [slices_IndexFunc_impl_Clue_impl_Clue_1.ent N]
noncomputable def slices_ContainsFunc_impl_Clue_impl_Clue_1.O (N : Nat) : Orc D0 slices_ContainsFunc_impl_Clue_impl_Clue_1.R := orcOf (slices_ContainsFunc_impl_Clue_impl_Clue_1.E N)
noncomputable def slices_ContainsFunc_impl_Clue_impl_Clue_1.K0 : Ex → St D0 → Option slices_ContainsFunc_impl_Clue_impl_Clue_1.R := exitK slices_ContainsFunc_impl_Clue_impl_Clue_1.C Go.Proofs.Try.f55.results.toList [(false, [.any])] (decOut slices_ContainsFunc_impl_Clue_impl_Clue_1.sig)
noncomputable def slices_ContainsFunc_impl_Clue_impl_Clue_1.c1 : Code := codeAt (Go.Proofs.Try.f55.body.getD .skip) []
noncomputable def slices_ContainsFunc_impl_Clue_impl_Clue_1.o0 (N : Nat) (a0 : List S38) (b0_0 : Int) (b1_0 : Int) : Option slices_ContainsFunc_impl_Clue_impl_Clue_1.R :=
 (slices_IndexFunc_impl_Clue_impl_Clue_1.g N a0 b0_0 b1_0).bind fun r1 =>
 some ((decide (r1.1 ≥ 0)), r1.2.1, r1.2.2)
theorem slices_ContainsFunc_impl_Clue_impl_Clue_1.o0.run (N : Nat) (a0 : List S38) (b0_0 : Int) (b1_0 : Int) : runC slices_ContainsFunc_impl_Clue_impl_Clue_1.C (slices_ContainsFunc_impl_Clue_impl_Clue_1.O N) N slices_ContainsFunc_impl_Clue_impl_Clue_1.c1 1 (st0 [.one (.sl false 38 a0), .one (.fn 77 [0, 1])] [(3, [.int .i64 b0_0]), (3, [.int .i64 b1_0])] : St D0) slices_ContainsFunc_impl_Clue_impl_Clue_1.K0 = slices_ContainsFunc_impl_Clue_impl_Clue_1.o0 N a0 b0_0 b1_0 := by kernel_rfl
noncomputable def slices_ContainsFunc_impl_Clue_impl_Clue_1.g (N : Nat) (a0 : List S38) (b0_0 : Int) (b1_0 : Int) : Option slices_ContainsFunc_impl_Clue_impl_Clue_1.R := slices_ContainsFunc_impl_Clue_impl_Clue_1.o0 N a0 b0_0 b1_0
theorem slices_ContainsFunc_impl_Clue_impl_Clue_1.g.run (N : Nat) (a0 : List S38) (b0_0 : Int) (b1_0 : Int) : runC slices_ContainsFunc_impl_Clue_impl_Clue_1.C (slices_ContainsFunc_impl_Clue_impl_Clue_1.O N) N slices_ContainsFunc_impl_Clue_impl_Clue_1.c1 1 (st0 [.one (.sl false 38 a0), .one (.fn 77 [0, 1])] [(3, [.int .i64 b0_0]), (3, [.int .i64 b1_0])] : St D0) slices_ContainsFunc_impl_Clue_impl_Clue_1.K0 = slices_ContainsFunc_impl_Clue_impl_Clue_1.g N a0 b0_0 b1_0 := by
  exact (slices_ContainsFunc_impl_Clue_impl_Clue_1.o0.run N a0 b0_0 b1_0).trans rfl
theorem slices_ContainsFunc_impl_Clue_impl_Clue_1.good (N : Nat) (a0 : List S38) (b0_0 : Int) (b1_0 : Int) (r : slices_ContainsFunc_impl_Clue_impl_Clue_1.R) (h : slices_ContainsFunc_impl_Clue_impl_Clue_1.g N a0 b0_0 b1_0 = some r) : Go.PM.Good Go.Proofs.Try.prog T0 55 [.one (.sl false 38 a0), .one (.fn 77 [0, 1])] [(3, [.int .i64 b0_0]), (3, [.int .i64 b1_0])] (slices_ContainsFunc_impl_Clue_impl_Clue_1.sig.ret r) (slices_ContainsFunc_impl_Clue_impl_Clue_1.sig.bs r) :=
  good_fn tabOk0 mixed0 slices_ContainsFunc_impl_Clue_impl_Clue_1.sig (slices_ContainsFunc_impl_Clue_impl_Clue_1.E N) Go.Proofs.Try.func55 (by kernel_rfl) (by kernel_rfl) 19 0 2 [] [(false, [.any])] (by kernel_rfl) rfl ((slices_ContainsFunc_impl_Clue_impl_Clue_1.g.run N a0 b0_0 b1_0).trans h)
noncomputable def slices_ContainsFunc_impl_Clue_impl_Clue_1.ent (N : Nat) : Ent Go.Proofs.Try.prog T0 := mkEnt 55 [(false, [.ro 38]), (false, [.any])] slices_ContainsFunc_impl_Clue_impl_Clue_1.sig (fun t => slices_ContainsFunc_impl_Clue_impl_Clue_1.g N t.1 t.2.2.1 t.2.2.2) (fun t r h => slices_ContainsFunc_impl_Clue_impl_Clue_1.good N t.1 t.2.2.1 t.2.2.2 r h)
end Go.Proofs.Ytpeleommbipeaaa.M

namespace Go.Proofs.Ytpeleommbipeaaa.M
open Go Go.PM Go.Proofs.Ytpeleommbipeaaa.P
set_option linter.unusedVariables false
set_option maxRecDepth 100000
/-! ### impl_solutions -/
abbrev impl_solutions.R : Type := List Int
abbrev impl_solutions.sig : Sig := ⟨[(false, 1), (false, 1)], [], [.int .i64, .sl false 38], [(false, 1)], [], [.sl true 3]⟩
noncomputable def impl_solutions.C : Cfg D0 := ⟨Go.Proofs.Try.prog, T0, 69239, 0, 23, 0, [(58, [1, 2, 5, 9, 10], [2])]⟩
noncomputable def impl_solutions.E (N : Nat) : List (Ent Go.Proofs.Try.prog T0) := [slices_ContainsFunc_impl_Clue_impl_Clue_1.ent N]
noncomputable def impl_solutions.O (N : Nat) : Orc D0 impl_solutions.R := orcOf (impl_solutions.E N)
noncomputable def impl_solutions.K0 : Ex → St D0 → Option impl_solutions.R := exitK impl_solutions.C Go.Proofs.Try.f53.results.toList [(false, [.own 3])] (decOut impl_solutions.sig)
noncomputable def impl_solutions.c1 : Code := codeAt (Go.Proofs.Try.f53.body.getD .skip) []
noncomputable def impl_solutions.c2 : Code := codeAt (Go.Proofs.Try.f53.body.getD .skip) [false]
noncomputable def impl_solutions.c6 : Code := codeAt (Go.Proofs.Try.f53.body.getD .skip) [true, false]
noncomputable def impl_solutions.c15 : Code := codeAt (Go.Proofs.Try.f53.body.getD .skip) [true, true, true]
noncomputable def impl_solutions.c28 : Code := codeAt (Go.Proofs.Try.f53.body.getD .skip) [true, true, false, false]
noncomputable def impl_solutions.c116 : Code := codeAt (Go.Proofs.Try.f53.body.getD .skip) [true, true, false, true, false, false]
noncomputable def impl_solutions.K116 (N : Nat) (Kn58 : St D0 → Option impl_solutions.R) : Ex → St D0 → Option impl_solutions.R := (onN (fun s => impl_solutions.C.tidy 58 s ((onN Kn58 (blockK 0 (onN (fun s => impl_solutions.C.tidy 14 s (fun s' => runC impl_solutions.C (impl_solutions.O N) N impl_solutions.c15 15 s' impl_solutions.K0)) impl_solutions.K0))) .normal)) (onN Kn58 (blockK 0 (onN (fun s => impl_solutions.C.tidy 14 s (fun s' => runC impl_solutions.C (impl_solutions.O N) N impl_solutions.c15 15 s' impl_solutions.K0)) impl_solutions.K0))))
noncomputable def impl_solutions.o1 (N : Nat) (v0 : List S38) (v1 : List Int) (v2 : Int) (v3 : Int) (v4 : Int) (c1 : (List S38) → (List Int) → Int → Int → Int → Option impl_solutions.R) : Option impl_solutions.R :=
 bif (decide (v3 < v2)) then
  (slices_ContainsFunc_impl_Clue_impl_Clue_1.g N v0 v4 v3).bind fun r1 =>
  bif (!r1.1) then
   bif (Nat.blt (v1.length + ([r1.2.2] : List Int).length) 17592186044416) then
    c1 v0 (v1 ++ ([r1.2.2] : List Int)) v2 (w64 (v3 + 1)) r1.2.1
   else
   none
  else
  c1 v0 v1 v2 (w64 (v3 + 1)) r1.2.1
 else
 some (v1)
theorem impl_solutions.o1.run (N : Nat) (Kn58 : St D0 → Option impl_solutions.R) (v0 : List S38) (v1 : List Int) (v2 : Int) (v3 : Int) (v4 : Int) : runC impl_solutions.C (impl_solutions.O N) N impl_solutions.c116 116 (mkSt [(1, .one (.sl false 38 v0)), (2, .one (.ptr 2 0)), (5, .one (.sl true 3 v1)), (9, .one (.int .i64 v2)), (10, .one (.int .i64 v3))] [(2, some (3, [.int .i64 v4]))] : St D0) (onN (fun s => impl_solutions.C.tidy 58 s ((onN Kn58 (blockK 0 (onN (fun s => impl_solutions.C.tidy 14 s (fun s' => runC impl_solutions.C (impl_solutions.O N) N impl_solutions.c15 15 s' impl_solutions.K0)) impl_solutions.K0))) .normal)) (onN Kn58 (blockK 0 (onN (fun s => impl_solutions.C.tidy 14 s (fun s' => runC impl_solutions.C (impl_solutions.O N) N impl_solutions.c15 15 s' impl_solutions.K0)) impl_solutions.K0)))) = impl_solutions.o1 N v0 v1 v2 v3 v4 ((fun w0 w1 w2 w3 w4 => Kn58 (mkSt [(1, .one (.sl false 38 w0)), (2, .one (.ptr 2 0)), (5, .one (.sl true 3 w1)), (9, .one (.int .i64 w2)), (10, .one (.int .i64 w3))] [(2, some (3, [.int .i64 w4]))] : St D0))) := by kernel_rfl
noncomputable def impl_solutions.d1 (N : Nat) (v0 : List S38) (v1 : List Int) (v2 : Int) (v3 : Int) (v4 : Int) (c1 : (List S38) → (List Int) → Int → Int → Int → Option impl_solutions.R) : Option impl_solutions.R := impl_solutions.o1 N v0 v1 v2 v3 v4 c1
theorem impl_solutions.d1.run (N : Nat) (Kn58 : St D0 → Option impl_solutions.R) (v0 : List S38) (v1 : List Int) (v2 : Int) (v3 : Int) (v4 : Int) : runC impl_solutions.C (impl_solutions.O N) N impl_solutions.c116 116 (mkSt [(1, .one (.sl false 38 v0)), (2, .one (.ptr 2 0)), (5, .one (.sl true 3 v1)), (9, .one (.int .i64 v2)), (10, .one (.int .i64 v3))] [(2, some (3, [.int .i64 v4]))] : St D0) (impl_solutions.K116 N Kn58) = impl_solutions.d1 N v0 v1 v2 v3 v4 ((fun w0 w1 w2 w3 w4 => Kn58 (mkSt [(1, .one (.sl false 38 w0)), (2, .one (.ptr 2 0)), (5, .one (.sl true 3 w1)), (9, .one (.int .i64 w2)), (10, .one (.int .i64 w3))] [(2, some (3, [.int .i64 w4]))] : St D0))) := by
  exact (impl_solutions.o1.run N Kn58 v0 v1 v2 v3 v4).trans rfl
noncomputable def impl_solutions.K58 (N : Nat) : Ex → St D0 → Option impl_solutions.R := (blockK 0 (onN (fun s => impl_solutions.C.tidy 14 s (fun s' => runC impl_solutions.C (impl_solutions.O N) N impl_solutions.c15 15 s' impl_solutions.K0)) impl_solutions.K0))
noncomputable def impl_solutions.l1 (N : Nat) : Nat → (List S38) → (List Int) → Int → Int → Int → Option impl_solutions.R
  | 0, _, _, _, _, _ => none
  | n + 1, v0, v1, v2, v3, v4 => impl_solutions.d1 N v0 v1 v2 v3 v4 ((fun w0 w1 w2 w3 w4 => impl_solutions.l1 N n w0 w1 w2 w3 w4))
theorem impl_solutions.loop58 (N : Nat) : ∀ n, (∀ (v0 : List S38) (v1 : List Int) (v2 : Int) (v3 : Int) (v4 : Int), iter (loopF impl_solutions.C (impl_solutions.O N) N impl_solutions.c116 58) n (mkSt [(1, .one (.sl false 38 v0)), (2, .one (.ptr 2 0)), (5, .one (.sl true 3 v1)), (9, .one (.int .i64 v2)), (10, .one (.int .i64 v3))] [(2, some (3, [.int .i64 v4]))] : St D0) (impl_solutions.K58 N) = impl_solutions.l1 N n v0 v1 v2 v3 v4)
  | 0 => (fun v0 v1 v2 v3 v4 => rfl)
  | n + 1 => (fun v0 v1 v2 v3 v4 => (impl_solutions.d1.run N (fun s => iter (loopF impl_solutions.C (impl_solutions.O N) N impl_solutions.c116 58) n s (impl_solutions.K58 N)) v0 v1 v2 v3 v4).trans (show _ = impl_solutions.d1 N v0 v1 v2 v3 v4 ((fun w0 w1 w2 w3 w4 => impl_solutions.l1 N n w0 w1 w2 w3 w4)) from (congr rfl (funext fun w0 => funext fun w1 => funext fun w2 => funext fun w3 => funext fun w4 => (impl_solutions.loop58 N n) w0 w1 w2 w3 w4))))
noncomputable def impl_solutions.o0 (N : Nat) (a0 : Int) (a1 : List S38) (c1 : (List S38) → (List Int) → Int → Int → Int → Option impl_solutions.R) : Option impl_solutions.R :=
 c1 a1 ([] : List Int) (w64 (60 * a0)) 0 a0
theorem impl_solutions.o0.run (N : Nat) (H116 : Code) (a0 : Int) (a1 : List S38) : runC impl_solutions.C (impl_solutions.O N) N (.seq impl_solutions.c2 (.seq impl_solutions.c6 (.seq (.seq impl_solutions.c28 (.block 0 (.loop H116))) impl_solutions.c15))) 1 (st0 [.one (.int .i64 a0), .one (.sl false 38 a1)] [] : St D0) impl_solutions.K0 = impl_solutions.o0 N a0 a1 ((fun w0 w1 w2 w3 w4 => iter (loopF impl_solutions.C (impl_solutions.O N) N H116 58) N (mkSt [(1, .one (.sl false 38 w0)), (2, .one (.ptr 2 0)), (5, .one (.sl true 3 w1)), (9, .one (.int .i64 w2)), (10, .one (.int .i64 w3))] [(2, some (3, [.int .i64 w4]))] : St D0) (blockK 0 (onN (fun s => impl_solutions.C.tidy 14 s (fun s' => runC impl_solutions.C (impl_solutions.O N) N impl_solutions.c15 15 s' impl_solutions.K0)) impl_solutions.K0)))) := by kernel_rfl
noncomputable def impl_solutions.g (N : Nat) (a0 : Int) (a1 : List S38) : Option impl_solutions.R := impl_solutions.o0 N a0 a1 ((fun w0 w1 w2 w3 w4 => impl_solutions.l1 N N w0 w1 w2 w3 w4))
theorem impl_solutions.c1_0 : impl_solutions.c1 = (.seq impl_solutions.c2 (.seq impl_solutions.c6 (.seq (.seq impl_solutions.c28 (.block 0 (.loop impl_solutions.c116))) impl_solutions.c15))) := by kernel_rfl
theorem impl_solutions.g.run (N : Nat) (a0 : Int) (a1 : List S38) : runC impl_solutions.C (impl_solutions.O N) N impl_solutions.c1 1 (st0 [.one (.int .i64 a0), .one (.sl false 38 a1)] [] : St D0) impl_solutions.K0 = impl_solutions.g N a0 a1 := by
  rw [impl_solutions.c1_0]; unfold impl_solutions.g; exact (impl_solutions.o0.run N impl_solutions.c116 a0 a1).trans (congr rfl (funext fun w0 => funext fun w1 => funext fun w2 => funext fun w3 => funext fun w4 => (impl_solutions.loop58 N N) w0 w1 w2 w3 w4))
theorem impl_solutions.good (N : Nat) (a0 : Int) (a1 : List S38) (r : impl_solutions.R) (h : impl_solutions.g N a0 a1 = some r) : Go.PM.Good Go.Proofs.Try.prog T0 53 [.one (.int .i64 a0), .one (.sl false 38 a1)] [] (impl_solutions.sig.ret r) (impl_solutions.sig.bs r) :=
  good_fn tabOk0 mixed0 impl_solutions.sig (impl_solutions.E N) Go.Proofs.Try.func53 (by kernel_rfl) (by kernel_rfl) 69239 0 0 [(58, [1, 2, 5, 9, 10], [2])] [(false, [.own 3])] (by kernel_rfl) rfl ((impl_solutions.g.run N a0 a1).trans h)
noncomputable def impl_solutions.ent (N : Nat) : Ent Go.Proofs.Try.prog T0 := mkEnt 53 [(false, [.any]), (false, [.ro 38])] impl_solutions.sig (fun t => impl_solutions.g N t.1 t.2) (fun t r h => impl_solutions.good N t.1 t.2 r h)
end Go.Proofs.Ytpeleommbipeaaa.M

namespace Go.Proofs.Ytpeleommbipeaaa.M
open Go Go.PM Go.Proofs.Ytpeleommbipeaaa.P
set_option linter.unusedVariables false
set_option maxRecDepth 100000
/-! ### impl_Solutions -/
abbrev impl_Solutions.R : Type := List Int × Bool
abbrev impl_Solutions.sig : Sig := ⟨[(true, 2)], [], [.int .i64, .sl false 38], [(false, 1), (false, 1)], [], [.sl true 3, .bool]⟩
noncomputable def impl_Solutions.C : Cfg D0 := ⟨Go.Proofs.Try.prog, T0, 79, 0, 12, 0, []⟩
noncomputable def impl_Solutions.E (N : Nat) : List (Ent Go.Proofs.Try.prog T0) := [impl_IsPuzzle.ent N, impl_solutions.ent N]
noncomputable def impl_Solutions.O (N : Nat) : Orc D0 impl_Solutions.R := orcOf (impl_Solutions.E N)
noncomputable def impl_Solutions.K0 : Ex → St D0 → Option impl_Solutions.R := exitK impl_Solutions.C Go.Proofs.Try.f18.results.toList [(false, [.own 3]), (false, [.any])] (decOut impl_Solutions.sig)
noncomputable def impl_Solutions.c1 : Code := codeAt (Go.Proofs.Try.f18.body.getD .skip) []
noncomputable def impl_Solutions.o0 (N : Nat) (a0_0 : Int) (a0_1 : List S38) : Option impl_Solutions.R :=
 (impl_IsPuzzle.g N a0_0 a0_1).bind fun r1 =>
 bif (!r1) then
  some (([] : List Int), false)
 else
 (impl_solutions.g N a0_0 a0_1).bind fun r2 =>
 some (r2, true)
theorem impl_Solutions.o0.run (N : Nat) (a0_0 : Int) (a0_1 : List S38) : runC impl_Solutions.C (impl_Solutions.O N) N impl_Solutions.c1 1 (st0 [.agg [.int .i64 a0_0, .sl false 38 a0_1]] [] : St D0) impl_Solutions.K0 = impl_Solutions.o0 N a0_0 a0_1 := by kernel_rfl
noncomputable def impl_Solutions.g (N : Nat) (a0_0 : Int) (a0_1 : List S38) : Option impl_Solutions.R := impl_Solutions.o0 N a0_0 a0_1
theorem impl_Solutions.g.run (N : Nat) (a0_0 : Int) (a0_1 : List S38) : runC impl_Solutions.C (impl_Solutions.O N) N impl_Solutions.c1 1 (st0 [.agg [.int .i64 a0_0, .sl false 38 a0_1]] [] : St D0) impl_Solutions.K0 = impl_Solutions.g N a0_0 a0_1 := by
  exact (impl_Solutions.o0.run N a0_0 a0_1).trans rfl
theorem impl_Solutions.good (N : Nat) (a0_0 : Int) (a0_1 : List S38) (r : impl_Solutions.R) (h : impl_Solutions.g N a0_0 a0_1 = some r) : Go.PM.Good Go.Proofs.Try.prog T0 18 [.agg [.int .i64 a0_0, .sl false 38 a0_1]] [] (impl_Solutions.sig.ret r) (impl_Solutions.sig.bs r) :=
  good_fn tabOk0 mixed0 impl_Solutions.sig (impl_Solutions.E N) Go.Proofs.Try.func18 (by kernel_rfl) (by kernel_rfl) 79 0 0 [] [(false, [.own 3]), (false, [.any])] (by kernel_rfl) rfl ((impl_Solutions.g.run N a0_0 a0_1).trans h)
noncomputable def impl_Solutions.ent (N : Nat) : Ent Go.Proofs.Try.prog T0 := mkEnt 18 [(true, [.any, .ro 38])] impl_Solutions.sig (fun t => impl_Solutions.g N t.1 t.2) (fun t r h => impl_Solutions.good N t.1 t.2 r h)
end Go.Proofs.Ytpeleommbipeaaa.M

namespace Go.Proofs.Ytpeleommbipeaaa.M
open Go Go.PM Go.Proofs.Ytpeleommbipeaaa.P
set_option linter.unusedVariables false
set_option maxRecDepth 100000
/-! ### spec_pzAll -/
abbrev spec_pzAll.R : Type := List Int
abbrev spec_pzAll.sig : Sig := ⟨[(false, 1), (false, 1)], [], [.int .i64, .sl false 38], [(false, 1)], [], [.sl true 3]⟩
noncomputable def spec_pzAll.C : Cfg D0 := ⟨Go.Proofs.Try.prog, T0, 1074733811, 0, 36, 0, [(58, [0, 1, 5, 6], []), (466, [0, 1, 5, 6], []), (14922, [0, 1, 5, 6, 7, 16, 17, 18], [])]⟩
noncomputable def spec_pzAll.E (N : Nat) : List (Ent Go.Proofs.Try.prog T0) := [spec_pzFits.ent N]
noncomputable def spec_pzAll.O (N : Nat) : Orc D0 spec_pzAll.R := orcOf (spec_pzAll.E N)
noncomputable def spec_pzAll.K0 : Ex → St D0 → Option spec_pzAll.R := exitK spec_pzAll.C Go.Proofs.Try.f68.results.toList [(false, [.own 3])] (decOut spec_pzAll.sig)
noncomputable def spec_pzAll.c1 : Code := codeAt (Go.Proofs.Try.f68.body.getD .skip) []
noncomputable def spec_pzAll.c2 : Code := codeAt (Go.Proofs.Try.f68.body.getD .skip) [false]
noncomputable def spec_pzAll.c6 : Code := codeAt (Go.Proofs.Try.f68.body.getD .skip) [true, false]
noncomputable def spec_pzAll.c15 : Code := codeAt (Go.Proofs.Try.f68.body.getD .skip) [true, true, true]
noncomputable def spec_pzAll.c28 : Code := codeAt (Go.Proofs.Try.f68.body.getD .skip) [true, true, false, false]
noncomputable def spec_pzAll.c116 : Code := codeAt (Go.Proofs.Try.f68.body.getD .skip) [true, true, false, true, false, false]
noncomputable def spec_pzAll.c232 : Code := codeAt (Go.Proofs.Try.f68.body.getD .skip) [true, true, false, true, false, false, false]
noncomputable def spec_pzAll.c467 : Code := codeAt (Go.Proofs.Try.f68.body.getD .skip) [true, true, false, true, false, false, true, true]
noncomputable def spec_pzAll.c1864 : Code := codeAt (Go.Proofs.Try.f68.body.getD .skip) [true, true, false, true, false, false, true, false, false, false]
noncomputable def spec_pzAll.c3731 : Code := codeAt (Go.Proofs.Try.f68.body.getD .skip) [true, true, false, true, false, false, true, false, false, true, true]
noncomputable def spec_pzAll.c7460 : Code := codeAt (Go.Proofs.Try.f68.body.getD .skip) [true, true, false, true, false, false, true, false, false, true, false, false]
noncomputable def spec_pzAll.c29844 : Code := codeAt (Go.Proofs.Try.f68.body.getD .skip) [true, true, false, true, false, false, true, false, false, true, false, true, false, false]
noncomputable def spec_pzAll.K467 (N : Nat) (Kn58 : St D0 → Option spec_pzAll.R) : Ex → St D0 → Option spec_pzAll.R := (onN (fun s => spec_pzAll.C.tidy 58 s ((onN Kn58 (blockK 0 (onN (fun s => spec_pzAll.C.tidy 14 s (fun s' => runC spec_pzAll.C (spec_pzAll.O N) N spec_pzAll.c15 15 s' spec_pzAll.K0)) spec_pzAll.K0))) .normal)) (onN Kn58 (blockK 0 (onN (fun s => spec_pzAll.C.tidy 14 s (fun s' => runC spec_pzAll.C (spec_pzAll.O N) N spec_pzAll.c15 15 s' spec_pzAll.K0)) spec_pzAll.K0))))
noncomputable def spec_pzAll.o3 (N : Nat) (v0 : Int) (v1 : List S38) (v2 : List Int) (v3 : Int) (c5 : Int → (List S38) → (List Int) → Int → Option spec_pzAll.R) : Option spec_pzAll.R :=
 c5 v0 v1 v2 (w64 (v3 + 1))
theorem spec_pzAll.o3.run (N : Nat) (Kn58 : St D0 → Option spec_pzAll.R) (v0 : Int) (v1 : List S38) (v2 : List Int) (v3 : Int) : runC spec_pzAll.C (spec_pzAll.O N) N spec_pzAll.c467 467 (mkSt [(0, .one (.int .i64 v0)), (1, .one (.sl false 38 v1)), (5, .one (.sl true 3 v2)), (6, .one (.int .i64 v3))] [] : St D0) (onN (fun s => spec_pzAll.C.tidy 58 s ((onN Kn58 (blockK 0 (onN (fun s => spec_pzAll.C.tidy 14 s (fun s' => runC spec_pzAll.C (spec_pzAll.O N) N spec_pzAll.c15 15 s' spec_pzAll.K0)) spec_pzAll.K0))) .normal)) (onN Kn58 (blockK 0 (onN (fun s => spec_pzAll.C.tidy 14 s (fun s' => runC spec_pzAll.C (spec_pzAll.O N) N spec_pzAll.c15 15 s' spec_pzAll.K0)) spec_pzAll.K0)))) = spec_pzAll.o3 N v0 v1 v2 v3 ((fun w0 w1 w2 w3 => Kn58 (mkSt [(0, .one (.int .i64 w0)), (1, .one (.sl false 38 w1)), (5, .one (.sl true 3 w2)), (6, .one (.int .i64 w3))] [] : St D0))) := by kernel_rfl
noncomputable def spec_pzAll.d3 (N : Nat) (v0 : Int) (v1 : List S38) (v2 : List Int) (v3 : Int) (c5 : Int → (List S38) → (List Int) → Int → Option spec_pzAll.R) : Option spec_pzAll.R := spec_pzAll.o3 N v0 v1 v2 v3 c5
theorem spec_pzAll.d3.run (N : Nat) (Kn58 : St D0 → Option spec_pzAll.R) (v0 : Int) (v1 : List S38) (v2 : List Int) (v3 : Int) : runC spec_pzAll.C (spec_pzAll.O N) N spec_pzAll.c467 467 (mkSt [(0, .one (.int .i64 v0)), (1, .one (.sl false 38 v1)), (5, .one (.sl true 3 v2)), (6, .one (.int .i64 v3))] [] : St D0) (spec_pzAll.K467 N Kn58) = spec_pzAll.d3 N v0 v1 v2 v3 ((fun w0 w1 w2 w3 => Kn58 (mkSt [(0, .one (.int .i64 w0)), (1, .one (.sl false 38 w1)), (5, .one (.sl true 3 w2)), (6, .one (.int .i64 w3))] [] : St D0))) := by
  exact (spec_pzAll.o3.run N Kn58 v0 v1 v2 v3).trans rfl
noncomputable def spec_pzAll.o4 (N : Nat) (v0 : Int) (v1 : List S38) (v2 : Int) (c1 : Int → (List S38) → Int → Option spec_pzAll.R) : Option spec_pzAll.R :=
 c1 v0 v1 (w64 (v2 + 1))
theorem spec_pzAll.o4.run (N : Nat) (Kn58 : St D0 → Option spec_pzAll.R) (v0 : Int) (v1 : List S38) (v2 : Int) : runC spec_pzAll.C (spec_pzAll.O N) N spec_pzAll.c467 467 (mkSt [(0, .one (.int .i64 v0)), (1, .one (.sl false 38 v1)), (5, .one (.nl)), (6, .one (.int .i64 v2))] [] : St D0) (onN (fun s => spec_pzAll.C.tidy 58 s ((onN Kn58 (blockK 0 (onN (fun s => spec_pzAll.C.tidy 14 s (fun s' => runC spec_pzAll.C (spec_pzAll.O N) N spec_pzAll.c15 15 s' spec_pzAll.K0)) spec_pzAll.K0))) .normal)) (onN Kn58 (blockK 0 (onN (fun s => spec_pzAll.C.tidy 14 s (fun s' => runC spec_pzAll.C (spec_pzAll.O N) N spec_pzAll.c15 15 s' spec_pzAll.K0)) spec_pzAll.K0)))) = spec_pzAll.o4 N v0 v1 v2 ((fun w0 w1 w2 => Kn58 (mkSt [(0, .one (.int .i64 w0)), (1, .one (.sl false 38 w1)), (5, .one (.nl)), (6, .one (.int .i64 w2))] [] : St D0))) := by kernel_rfl
noncomputable def spec_pzAll.d4 (N : Nat) (v0 : Int) (v1 : List S38) (v2 : Int) (c1 : Int → (List S38) → Int → Option spec_pzAll.R) : Option spec_pzAll.R := spec_pzAll.o4 N v0 v1 v2 c1
theorem spec_pzAll.d4.run (N : Nat) (Kn58 : St D0 → Option spec_pzAll.R) (v0 : Int) (v1 : List S38) (v2 : Int) : runC spec_pzAll.C (spec_pzAll.O N) N spec_pzAll.c467 467 (mkSt [(0, .one (.int .i64 v0)), (1, .one (.sl false 38 v1)), (5, .one (.nl)), (6, .one (.int .i64 v2))] [] : St D0) (spec_pzAll.K467 N Kn58) = spec_pzAll.d4 N v0 v1 v2 ((fun w0 w1 w2 => Kn58 (mkSt [(0, .one (.int .i64 w0)), (1, .one (.sl false 38 w1)), (5, .one (.nl)), (6, .one (.int .i64 w2))] [] : St D0))) := by
  exact (spec_pzAll.o4.run N Kn58 v0 v1 v2).trans rfl
noncomputable def spec_pzAll.B233 (N : Nat) (Kn58 : St D0 → Option spec_pzAll.R) : St D0 → Option spec_pzAll.R := fun s' => runC spec_pzAll.C (spec_pzAll.O N) N spec_pzAll.c467 467 s' (spec_pzAll.K467 N Kn58)
noncomputable def spec_pzAll.K29844 (N : Nat) (Kn58 : St D0 → Option spec_pzAll.R) (Kn14922 : St D0 → Option spec_pzAll.R) : Ex → St D0 → Option spec_pzAll.R := (onN (fun s => spec_pzAll.C.tidy 14922 s ((onN Kn14922 (blockK 2 (onN (fun s => spec_pzAll.C.tidy 3730 s (fun s' => runC spec_pzAll.C (spec_pzAll.O N) N spec_pzAll.c3731 3731 s' (blockK 1 (onN (fun s => spec_pzAll.C.tidy 466 s (spec_pzAll.B233 N Kn58)) (onN (fun s => spec_pzAll.C.tidy 58 s ((onN Kn58 (blockK 0 (onN (fun s => spec_pzAll.C.tidy 14 s (fun s' => runC spec_pzAll.C (spec_pzAll.O N) N spec_pzAll.c15 15 s' spec_pzAll.K0)) spec_pzAll.K0))) .normal)) (onN Kn58 (blockK 0 (onN (fun s => spec_pzAll.C.tidy 14 s (fun s' => runC spec_pzAll.C (spec_pzAll.O N) N spec_pzAll.c15 15 s' spec_pzAll.K0)) spec_pzAll.K0)))))))) (blockK 1 (onN (fun s => spec_pzAll.C.tidy 466 s (spec_pzAll.B233 N Kn58)) (onN (fun s => spec_pzAll.C.tidy 58 s ((onN Kn58 (blockK 0 (onN (fun s => spec_pzAll.C.tidy 14 s (fun s' => runC spec_pzAll.C (spec_pzAll.O N) N spec_pzAll.c15 15 s' spec_pzAll.K0)) spec_pzAll.K0))) .normal)) (onN Kn58 (blockK 0 (onN (fun s => spec_pzAll.C.tidy 14 s (fun s' => runC spec_pzAll.C (spec_pzAll.O N) N spec_pzAll.c15 15 s' spec_pzAll.K0)) spec_pzAll.K0))))))))) .normal)) (onN Kn14922 (blockK 2 (onN (fun s => spec_pzAll.C.tidy 3730 s (fun s' => runC spec_pzAll.C (spec_pzAll.O N) N spec_pzAll.c3731 3731 s' (blockK 1 (onN (fun s => spec_pzAll.C.tidy 466 s (spec_pzAll.B233 N Kn58)) (onN (fun s => spec_pzAll.C.tidy 58 s ((onN Kn58 (blockK 0 (onN (fun s => spec_pzAll.C.tidy 14 s (fun s' => runC spec_pzAll.C (spec_pzAll.O N) N spec_pzAll.c15 15 s' spec_pzAll.K0)) spec_pzAll.K0))) .normal)) (onN Kn58 (blockK 0 (onN (fun s => spec_pzAll.C.tidy 14 s (fun s' => runC spec_pzAll.C (spec_pzAll.O N) N spec_pzAll.c15 15 s' spec_pzAll.K0)) spec_pzAll.K0)))))))) (blockK 1 (onN (fun s => spec_pzAll.C.tidy 466 s (spec_pzAll.B233 N Kn58)) (onN (fun s => spec_pzAll.C.tidy 58 s ((onN Kn58 (blockK 0 (onN (fun s => spec_pzAll.C.tidy 14 s (fun s' => runC spec_pzAll.C (spec_pzAll.O N) N spec_pzAll.c15 15 s' spec_pzAll.K0)) spec_pzAll.K0))) .normal)) (onN Kn58 (blockK 0 (onN (fun s => spec_pzAll.C.tidy 14 s (fun s' => runC spec_pzAll.C (spec_pzAll.O N) N spec_pzAll.c15 15 s' spec_pzAll.K0)) spec_pzAll.K0))))))))))
noncomputable def spec_pzAll.o2 (N : Nat) (v0 : Int) (v1 : List S38) (v2 : Int) (v3 : Bool) (v4 : List S38) (v5 : Int) (v6 : Int) (c2 : Int → (List S38) → Int → Bool → (List S38) → Int → Int → Option spec_pzAll.R) (c3 : Int → (List S38) → (List Int) → Int → Option spec_pzAll.R) (c4 : Int → (List S38) → Int → Option spec_pzAll.R) : Option spec_pzAll.R :=
 bif (decide (v6 < v5)) then
  bif (decide (0 ≤ v6)) then
   bif (decide (v6 < (v4.length : Int))) then
    (v4[(v6 : Int).toNat]?).bind fun x1 =>
    bif v3 then
     (spec_pzFits.g N v0 x1.f0 x1.f1 x1.f2 v2).bind fun r2 =>
     c2 v0 v1 v2 r2 v4 v5 (w64 (v6 + 1))
    else
    c2 v0 v1 v2 false v4 v5 (w64 (v6 + 1))
   else
   none
  else
  none
 else
 bif v3 then
  bif (Nat.blt (([] : List Int).length + ([v2] : List Int).length) 17592186044416) then
   c3 v0 v1 (([] : List Int) ++ ([v2] : List Int)) v2
  else
  none
 else
 c4 v0 v1 v2
theorem spec_pzAll.o2.run (N : Nat) (Kb233 : St D0 → Option spec_pzAll.R) (Kn58 : St D0 → Option spec_pzAll.R) (Kn14922 : St D0 → Option spec_pzAll.R) (v0 : Int) (v1 : List S38) (v2 : Int) (v3 : Bool) (v4 : List S38) (v5 : Int) (v6 : Int) : runC spec_pzAll.C (spec_pzAll.O N) N spec_pzAll.c29844 29844 (mkSt [(0, .one (.int .i64 v0)), (1, .one (.sl false 38 v1)), (5, .one (.nl)), (6, .one (.int .i64 v2)), (7, .one (.bool v3)), (16, .one (.sl false 38 v4)), (17, .one (.int .i64 v5)), (18, .one (.int .i64 v6))] [] : St D0) (onN (fun s => spec_pzAll.C.tidy 14922 s ((onN Kn14922 (blockK 2 (onN (fun s => spec_pzAll.C.tidy 3730 s (fun s' => runC spec_pzAll.C (spec_pzAll.O N) N spec_pzAll.c3731 3731 s' (blockK 1 (onN (fun s => spec_pzAll.C.tidy 466 s Kb233) (onN (fun s => spec_pzAll.C.tidy 58 s ((onN Kn58 (blockK 0 (onN (fun s => spec_pzAll.C.tidy 14 s (fun s' => runC spec_pzAll.C (spec_pzAll.O N) N spec_pzAll.c15 15 s' spec_pzAll.K0)) spec_pzAll.K0))) .normal)) (onN Kn58 (blockK 0 (onN (fun s => spec_pzAll.C.tidy 14 s (fun s' => runC spec_pzAll.C (spec_pzAll.O N) N spec_pzAll.c15 15 s' spec_pzAll.K0)) spec_pzAll.K0)))))))) (blockK 1 (onN (fun s => spec_pzAll.C.tidy 466 s Kb233) (onN (fun s => spec_pzAll.C.tidy 58 s ((onN Kn58 (blockK 0 (onN (fun s => spec_pzAll.C.tidy 14 s (fun s' => runC spec_pzAll.C (spec_pzAll.O N) N spec_pzAll.c15 15 s' spec_pzAll.K0)) spec_pzAll.K0))) .normal)) (onN Kn58 (blockK 0 (onN (fun s => spec_pzAll.C.tidy 14 s (fun s' => runC spec_pzAll.C (spec_pzAll.O N) N spec_pzAll.c15 15 s' spec_pzAll.K0)) spec_pzAll.K0))))))))) .normal)) (onN Kn14922 (blockK 2 (onN (fun s => spec_pzAll.C.tidy 3730 s (fun s' => runC spec_pzAll.C (spec_pzAll.O N) N spec_pzAll.c3731 3731 s' (blockK 1 (onN (fun s => spec_pzAll.C.tidy 466 s Kb233) (onN (fun s => spec_pzAll.C.tidy 58 s ((onN Kn58 (blockK 0 (onN (fun s => spec_pzAll.C.tidy 14 s (fun s' => runC spec_pzAll.C (spec_pzAll.O N) N spec_pzAll.c15 15 s' spec_pzAll.K0)) spec_pzAll.K0))) .normal)) (onN Kn58 (blockK 0 (onN (fun s => spec_pzAll.C.tidy 14 s (fun s' => runC spec_pzAll.C (spec_pzAll.O N) N spec_pzAll.c15 15 s' spec_pzAll.K0)) spec_pzAll.K0)))))))) (blockK 1 (onN (fun s => spec_pzAll.C.tidy 466 s Kb233) (onN (fun s => spec_pzAll.C.tidy 58 s ((onN Kn58 (blockK 0 (onN (fun s => spec_pzAll.C.tidy 14 s (fun s' => runC spec_pzAll.C (spec_pzAll.O N) N spec_pzAll.c15 15 s' spec_pzAll.K0)) spec_pzAll.K0))) .normal)) (onN Kn58 (blockK 0 (onN (fun s => spec_pzAll.C.tidy 14 s (fun s' => runC spec_pzAll.C (spec_pzAll.O N) N spec_pzAll.c15 15 s' spec_pzAll.K0)) spec_pzAll.K0)))))))))) = spec_pzAll.o2 N v0 v1 v2 v3 v4 v5 v6 ((fun w0 w1 w2 w3 w4 w5 w6 => Kn14922 (mkSt [(0, .one (.int .i64 w0)), (1, .one (.sl false 38 w1)), (5, .one (.nl)), (6, .one (.int .i64 w2)), (7, .one (.bool w3)), (16, .one (.sl false 38 w4)), (17, .one (.int .i64 w5)), (18, .one (.int .i64 w6))] [] : St D0))) ((fun w0 w1 w2 w3 => Kb233 (mkSt [(0, .one (.int .i64 w0)), (1, .one (.sl false 38 w1)), (5, .one (.sl true 3 w2)), (6, .one (.int .i64 w3))] [] : St D0))) ((fun w0 w1 w2 => Kb233 (mkSt [(0, .one (.int .i64 w0)), (1, .one (.sl false 38 w1)), (5, .one (.nl)), (6, .one (.int .i64 w2))] [] : St D0))) := by kernel_rfl
noncomputable def spec_pzAll.d2 (N : Nat) (v0 : Int) (v1 : List S38) (v2 : Int) (v3 : Bool) (v4 : List S38) (v5 : Int) (v6 : Int) (c1 : Int → (List S38) → Int → Option spec_pzAll.R) (c2 : Int → (List S38) → Int → Bool → (List S38) → Int → Int → Option spec_pzAll.R) (c5 : Int → (List S38) → (List Int) → Int → Option spec_pzAll.R) : Option spec_pzAll.R := spec_pzAll.o2 N v0 v1 v2 v3 v4 v5 v6 c2 ((fun w0 w1 w2 w3 => spec_pzAll.d3 N w0 w1 w2 w3 c5)) ((fun w0 w1 w2 => spec_pzAll.d4 N w0 w1 w2 c1))
theorem spec_pzAll.d2.run (N : Nat) (Kn58 : St D0 → Option spec_pzAll.R) (Kn14922 : St D0 → Option spec_pzAll.R) (v0 : Int) (v1 : List S38) (v2 : Int) (v3 : Bool) (v4 : List S38) (v5 : Int) (v6 : Int) : runC spec_pzAll.C (spec_pzAll.O N) N spec_pzAll.c29844 29844 (mkSt [(0, .one (.int .i64 v0)), (1, .one (.sl false 38 v1)), (5, .one (.nl)), (6, .one (.int .i64 v2)), (7, .one (.bool v3)), (16, .one (.sl false 38 v4)), (17, .one (.int .i64 v5)), (18, .one (.int .i64 v6))] [] : St D0) (spec_pzAll.K29844 N Kn58 Kn14922) = spec_pzAll.d2 N v0 v1 v2 v3 v4 v5 v6 ((fun w0 w1 w2 => Kn58 (mkSt [(0, .one (.int .i64 w0)), (1, .one (.sl false 38 w1)), (5, .one (.nl)), (6, .one (.int .i64 w2))] [] : St D0))) ((fun w0 w1 w2 w3 w4 w5 w6 => Kn14922 (mkSt [(0, .one (.int .i64 w0)), (1, .one (.sl false 38 w1)), (5, .one (.nl)), (6, .one (.int .i64 w2)), (7, .one (.bool w3)), (16, .one (.sl false 38 w4)), (17, .one (.int .i64 w5)), (18, .one (.int .i64 w6))] [] : St D0))) ((fun w0 w1 w2 w3 => Kn58 (mkSt [(0, .one (.int .i64 w0)), (1, .one (.sl false 38 w1)), (5, .one (.sl true 3 w2)), (6, .one (.int .i64 w3))] [] : St D0))) := by
  unfold spec_pzAll.d2; exact (spec_pzAll.o2.run N (spec_pzAll.B233 N Kn58) Kn58 Kn14922 v0 v1 v2 v3 v4 v5 v6).trans (congr (congr (congr rfl rfl) (funext fun w0 => funext fun w1 => funext fun w2 => funext fun w3 => spec_pzAll.d3.run N Kn58 w0 w1 w2 w3)) (funext fun w0 => funext fun w1 => funext fun w2 => spec_pzAll.d4.run N Kn58 w0 w1 w2))
noncomputable def spec_pzAll.o6 (N : Nat) (v0 : Int) (v1 : List S38) (v2 : List Int) (v3 : Int) (v4 : Bool) (v5 : List S38) (v6 : Int) (v7 : Int) (c6 : Int → (List S38) → (List Int) → Int → Bool → (List S38) → Int → Int → Option spec_pzAll.R) (c3 : Int → (List S38) → (List Int) → Int → Option spec_pzAll.R) : Option spec_pzAll.R :=
 bif (decide (v7 < v6)) then
  bif (decide (0 ≤ v7)) then
   bif (decide (v7 < (v5.length : Int))) then
    (v5[(v7 : Int).toNat]?).bind fun x1 =>
    bif v4 then
     (spec_pzFits.g N v0 x1.f0 x1.f1 x1.f2 v3).bind fun r2 =>
     c6 v0 v1 v2 v3 r2 v5 v6 (w64 (v7 + 1))
    else
    c6 v0 v1 v2 v3 false v5 v6 (w64 (v7 + 1))
   else
   none
  else
  none
 else
 bif v4 then
  bif (Nat.blt (v2.length + ([v3] : List Int).length) 17592186044416) then
   c3 v0 v1 (v2 ++ ([v3] : List Int)) v3
  else
  none
 else
 c3 v0 v1 v2 v3
theorem spec_pzAll.o6.run (N : Nat) (Kb233 : St D0 → Option spec_pzAll.R) (Kn58 : St D0 → Option spec_pzAll.R) (Kn14922 : St D0 → Option spec_pzAll.R) (v0 : Int) (v1 : List S38) (v2 : List Int) (v3 : Int) (v4 : Bool) (v5 : List S38) (v6 : Int) (v7 : Int) : runC spec_pzAll.C (spec_pzAll.O N) N spec_pzAll.c29844 29844 (mkSt [(0, .one (.int .i64 v0)), (1, .one (.sl false 38 v1)), (5, .one (.sl true 3 v2)), (6, .one (.int .i64 v3)), (7, .one (.bool v4)), (16, .one (.sl false 38 v5)), (17, .one (.int .i64 v6)), (18, .one (.int .i64 v7))] [] : St D0) (onN (fun s => spec_pzAll.C.tidy 14922 s ((onN Kn14922 (blockK 2 (onN (fun s => spec_pzAll.C.tidy 3730 s (fun s' => runC spec_pzAll.C (spec_pzAll.O N) N spec_pzAll.c3731 3731 s' (blockK 1 (onN (fun s => spec_pzAll.C.tidy 466 s Kb233) (onN (fun s => spec_pzAll.C.tidy 58 s ((onN Kn58 (blockK 0 (onN (fun s => spec_pzAll.C.tidy 14 s (fun s' => runC spec_pzAll.C (spec_pzAll.O N) N spec_pzAll.c15 15 s' spec_pzAll.K0)) spec_pzAll.K0))) .normal)) (onN Kn58 (blockK 0 (onN (fun s => spec_pzAll.C.tidy 14 s (fun s' => runC spec_pzAll.C (spec_pzAll.O N) N spec_pzAll.c15 15 s' spec_pzAll.K0)) spec_pzAll.K0)))))))) (blockK 1 (onN (fun s => spec_pzAll.C.tidy 466 s Kb233) (onN (fun s => spec_pzAll.C.tidy 58 s ((onN Kn58 (blockK 0 (onN (fun s => spec_pzAll.C.tidy 14 s (fun s' => runC spec_pzAll.C (spec_pzAll.O N) N spec_pzAll.c15 15 s' spec_pzAll.K0)) spec_pzAll.K0))) .normal)) (onN Kn58 (blockK 0 (onN (fun s => spec_pzAll.C.tidy 14 s (fun s' => runC spec_pzAll.C (spec_pzAll.O N) N spec_pzAll.c15 15 s' spec_pzAll.K0)) spec_pzAll.K0))))))))) .normal)) (onN Kn14922 (blockK 2 (onN (fun s => spec_pzAll.C.tidy 3730 s (fun s' => runC spec_pzAll.C (spec_pzAll.O N) N spec_pzAll.c3731 3731 s' (blockK 1 (onN (fun s => spec_pzAll.C.tidy 466 s Kb233) (onN (fun s => spec_pzAll.C.tidy 58 s ((onN Kn58 (blockK 0 (onN (fun s => spec_pzAll.C.tidy 14 s (fun s' => runC spec_pzAll.C (spec_pzAll.O N) N spec_pzAll.c15 15 s' spec_pzAll.K0)) spec_pzAll.K0))) .normal)) (onN Kn58 (blockK 0 (onN (fun s => spec_pzAll.C.tidy 14 s (fun s' => runC spec_pzAll.C (spec_pzAll.O N) N spec_pzAll.c15 15 s' spec_pzAll.K0)) spec_pzAll.K0)))))))) (blockK 1 (onN (fun s => spec_pzAll.C.tidy 466 s Kb233) (onN (fun s => spec_pzAll.C.tidy 58 s ((onN Kn58 (blockK 0 (onN (fun s => spec_pzAll.C.tidy 14 s (fun s' => runC spec_pzAll.C (spec_pzAll.O N) N spec_pzAll.c15 15 s' spec_pzAll.K0)) spec_pzAll.K0))) .normal)) (onN Kn58 (blockK 0 (onN (fun s => spec_pzAll.C.tidy 14 s (fun s' => runC spec_pzAll.C (spec_pzAll.O N) N spec_pzAll.c15 15 s' spec_pzAll.K0)) spec_pzAll.K0)))))))))) = spec_pzAll.o6 N v0 v1 v2 v3 v4 v5 v6 v7 ((fun w0 w1 w2 w3 w4 w5 w6 w7 => Kn14922 (mkSt [(0, .one (.int .i64 w0)), (1, .one (.sl false 38 w1)), (5, .one (.sl true 3 w2)), (6, .one (.int .i64 w3)), (7, .one (.bool w4)), (16, .one (.sl false 38 w5)), (17, .one (.int .i64 w6)), (18, .one (.int .i64 w7))] [] : St D0))) ((fun w0 w1 w2 w3 => Kb233 (mkSt [(0, .one (.int .i64 w0)), (1, .one (.sl false 38 w1)), (5, .one (.sl true 3 w2)), (6, .one (.int .i64 w3))] [] : St D0))) := by kernel_rfl
noncomputable def spec_pzAll.d6 (N : Nat) (v0 : Int) (v1 : List S38) (v2 : List Int) (v3 : Int) (v4 : Bool) (v5 : List S38) (v6 : Int) (v7 : Int) (c5 : Int → (List S38) → (List Int) → Int → Option spec_pzAll.R) (c6 : Int → (List S38) → (List Int) → Int → Bool → (List S38) → Int → Int → Option spec_pzAll.R) : Option spec_pzAll.R := spec_pzAll.o6 N v0 v1 v2 v3 v4 v5 v6 v7 c6 ((fun w0 w1 w2 w3 => spec_pzAll.d3 N w0 w1 w2 w3 c5))
theorem spec_pzAll.d6.run (N : Nat) (Kn58 : St D0 → Option spec_pzAll.R) (Kn14922 : St D0 → Option spec_pzAll.R) (v0 : Int) (v1 : List S38) (v2 : List Int) (v3 : Int) (v4 : Bool) (v5 : List S38) (v6 : Int) (v7 : Int) : runC spec_pzAll.C (spec_pzAll.O N) N spec_pzAll.c29844 29844 (mkSt [(0, .one (.int .i64 v0)), (1, .one (.sl false 38 v1)), (5, .one (.sl true 3 v2)), (6, .one (.int .i64 v3)), (7, .one (.bool v4)), (16, .one (.sl false 38 v5)), (17, .one (.int .i64 v6)), (18, .one (.int .i64 v7))] [] : St D0) (spec_pzAll.K29844 N Kn58 Kn14922) = spec_pzAll.d6 N v0 v1 v2 v3 v4 v5 v6 v7 ((fun w0 w1 w2 w3 => Kn58 (mkSt [(0, .one (.int .i64 w0)), (1, .one (.sl false 38 w1)), (5, .one (.sl true 3 w2)), (6, .one (.int .i64 w3))] [] : St D0))) ((fun w0 w1 w2 w3 w4 w5 w6 w7 => Kn14922 (mkSt [(0, .one (.int .i64 w0)), (1, .one (.sl false 38 w1)), (5, .one (.sl true 3 w2)), (6, .one (.int .i64 w3)), (7, .one (.bool w4)), (16, .one (.sl false 38 w5)), (17, .one (.int .i64 w6)), (18, .one (.int .i64 w7))] [] : St D0))) := by
  unfold spec_pzAll.d6; exact (spec_pzAll.o6.run N (spec_pzAll.B233 N Kn58) Kn58 Kn14922 v0 v1 v2 v3 v4 v5 v6 v7).trans (congr (congr rfl rfl) (funext fun w0 => funext fun w1 => funext fun w2 => funext fun w3 => spec_pzAll.d3.run N Kn58 w0 w1 w2 w3))
noncomputable def spec_pzAll.K14922 (N : Nat) (Kn58 : St D0 → Option spec_pzAll.R) : Ex → St D0 → Option spec_pzAll.R := (blockK 2 (onN (fun s => spec_pzAll.C.tidy 3730 s (fun s' => runC spec_pzAll.C (spec_pzAll.O N) N spec_pzAll.c3731 3731 s' (blockK 1 (onN (fun s => spec_pzAll.C.tidy 466 s (spec_pzAll.B233 N Kn58)) (onN (fun s => spec_pzAll.C.tidy 58 s ((onN Kn58 (blockK 0 (onN (fun s => spec_pzAll.C.tidy 14 s (fun s' => runC spec_pzAll.C (spec_pzAll.O N) N spec_pzAll.c15 15 s' spec_pzAll.K0)) spec_pzAll.K0))) .normal)) (onN Kn58 (blockK 0 (onN (fun s => spec_pzAll.C.tidy 14 s (fun s' => runC spec_pzAll.C (spec_pzAll.O N) N spec_pzAll.c15 15 s' spec_pzAll.K0)) spec_pzAll.K0)))))))) (blockK 1 (onN (fun s => spec_pzAll.C.tidy 466 s (spec_pzAll.B233 N Kn58)) (onN (fun s => spec_pzAll.C.tidy 58 s ((onN Kn58 (blockK 0 (onN (fun s => spec_pzAll.C.tidy 14 s (fun s' => runC spec_pzAll.C (spec_pzAll.O N) N spec_pzAll.c15 15 s' spec_pzAll.K0)) spec_pzAll.K0))) .normal)) (onN Kn58 (blockK 0 (onN (fun s => spec_pzAll.C.tidy 14 s (fun s' => runC spec_pzAll.C (spec_pzAll.O N) N spec_pzAll.c15 15 s' spec_pzAll.K0)) spec_pzAll.K0))))))))
mutual
noncomputable def spec_pzAll.l2 (N : Nat) : Nat → Int → (List S38) → Int → Bool → (List S38) → Int → Int → (Int → (List S38) → Int → Option spec_pzAll.R) → (Int → (List S38) → (List Int) → Int → Option spec_pzAll.R) → Option spec_pzAll.R
  | 0, _, _, _, _, _, _, _, _, _ => none
  | n + 1, v0, v1, v2, v3, v4, v5, v6, c1, c5 => spec_pzAll.d2 N v0 v1 v2 v3 v4 v5 v6 c1 ((fun w0 w1 w2 w3 w4 w5 w6 => spec_pzAll.l2 N n w0 w1 w2 w3 w4 w5 w6 c1 c5)) c5
noncomputable def spec_pzAll.l6 (N : Nat) : Nat → Int → (List S38) → (List Int) → Int → Bool → (List S38) → Int → Int → (Int → (List S38) → Int → Option spec_pzAll.R) → (Int → (List S38) → (List Int) → Int → Option spec_pzAll.R) → Option spec_pzAll.R
  | 0, _, _, _, _, _, _, _, _, _, _ => none
  | n + 1, v0, v1, v2, v3, v4, v5, v6, v7, c1, c5 => spec_pzAll.d6 N v0 v1 v2 v3 v4 v5 v6 v7 c5 ((fun w0 w1 w2 w3 w4 w5 w6 w7 => spec_pzAll.l6 N n w0 w1 w2 w3 w4 w5 w6 w7 c1 c5))
end
theorem spec_pzAll.loop14922 (N : Nat) (Kn58 : St D0 → Option spec_pzAll.R) : ∀ n, (∀ (v0 : Int) (v1 : List S38) (v2 : Int) (v3 : Bool) (v4 : List S38) (v5 : Int) (v6 : Int), iter (loopF spec_pzAll.C (spec_pzAll.O N) N spec_pzAll.c29844 14922) n (mkSt [(0, .one (.int .i64 v0)), (1, .one (.sl false 38 v1)), (5, .one (.nl)), (6, .one (.int .i64 v2)), (7, .one (.bool v3)), (16, .one (.sl false 38 v4)), (17, .one (.int .i64 v5)), (18, .one (.int .i64 v6))] [] : St D0) (spec_pzAll.K14922 N Kn58) = spec_pzAll.l2 N n v0 v1 v2 v3 v4 v5 v6 ((fun w0 w1 w2 => Kn58 (mkSt [(0, .one (.int .i64 w0)), (1, .one (.sl false 38 w1)), (5, .one (.nl)), (6, .one (.int .i64 w2))] [] : St D0))) ((fun w0 w1 w2 w3 => Kn58 (mkSt [(0, .one (.int .i64 w0)), (1, .one (.sl false 38 w1)), (5, .one (.sl true 3 w2)), (6, .one (.int .i64 w3))] [] : St D0)))) ∧ (∀ (v0 : Int) (v1 : List S38) (v2 : List Int) (v3 : Int) (v4 : Bool) (v5 : List S38) (v6 : Int) (v7 : Int), iter (loopF spec_pzAll.C (spec_pzAll.O N) N spec_pzAll.c29844 14922) n (mkSt [(0, .one (.int .i64 v0)), (1, .one (.sl false 38 v1)), (5, .one (.sl true 3 v2)), (6, .one (.int .i64 v3)), (7, .one (.bool v4)), (16, .one (.sl false 38 v5)), (17, .one (.int .i64 v6)), (18, .one (.int .i64 v7))] [] : St D0) (spec_pzAll.K14922 N Kn58) = spec_pzAll.l6 N n v0 v1 v2 v3 v4 v5 v6 v7 ((fun w0 w1 w2 => Kn58 (mkSt [(0, .one (.int .i64 w0)), (1, .one (.sl false 38 w1)), (5, .one (.nl)), (6, .one (.int .i64 w2))] [] : St D0))) ((fun w0 w1 w2 w3 => Kn58 (mkSt [(0, .one (.int .i64 w0)), (1, .one (.sl false 38 w1)), (5, .one (.sl true 3 w2)), (6, .one (.int .i64 w3))] [] : St D0))))
  | 0 => ⟨(fun v0 v1 v2 v3 v4 v5 v6 => rfl), (fun v0 v1 v2 v3 v4 v5 v6 v7 => rfl)⟩
  | n + 1 => ⟨(fun v0 v1 v2 v3 v4 v5 v6 => (spec_pzAll.d2.run N Kn58 (fun s => iter (loopF spec_pzAll.C (spec_pzAll.O N) N spec_pzAll.c29844 14922) n s (spec_pzAll.K14922 N Kn58)) v0 v1 v2 v3 v4 v5 v6).trans (show _ = spec_pzAll.d2 N v0 v1 v2 v3 v4 v5 v6 ((fun w0 w1 w2 => Kn58 (mkSt [(0, .one (.int .i64 w0)), (1, .one (.sl false 38 w1)), (5, .one (.nl)), (6, .one (.int .i64 w2))] [] : St D0))) ((fun w0 w1 w2 w3 w4 w5 w6 => spec_pzAll.l2 N n w0 w1 w2 w3 w4 w5 w6 ((fun w0 w1 w2 => Kn58 (mkSt [(0, .one (.int .i64 w0)), (1, .one (.sl false 38 w1)), (5, .one (.nl)), (6, .one (.int .i64 w2))] [] : St D0))) ((fun w0 w1 w2 w3 => Kn58 (mkSt [(0, .one (.int .i64 w0)), (1, .one (.sl false 38 w1)), (5, .one (.sl true 3 w2)), (6, .one (.int .i64 w3))] [] : St D0))))) ((fun w0 w1 w2 w3 => Kn58 (mkSt [(0, .one (.int .i64 w0)), (1, .one (.sl false 38 w1)), (5, .one (.sl true 3 w2)), (6, .one (.int .i64 w3))] [] : St D0))) from (congr (congr (congr rfl rfl) (funext fun w0 => funext fun w1 => funext fun w2 => funext fun w3 => funext fun w4 => funext fun w5 => funext fun w6 => (spec_pzAll.loop14922 N Kn58 n).1 w0 w1 w2 w3 w4 w5 w6)) rfl))), (fun v0 v1 v2 v3 v4 v5 v6 v7 => (spec_pzAll.d6.run N Kn58 (fun s => iter (loopF spec_pzAll.C (spec_pzAll.O N) N spec_pzAll.c29844 14922) n s (spec_pzAll.K14922 N Kn58)) v0 v1 v2 v3 v4 v5 v6 v7).trans (show _ = spec_pzAll.d6 N v0 v1 v2 v3 v4 v5 v6 v7 ((fun w0 w1 w2 w3 => Kn58 (mkSt [(0, .one (.int .i64 w0)), (1, .one (.sl false 38 w1)), (5, .one (.sl true 3 w2)), (6, .one (.int .i64 w3))] [] : St D0))) ((fun w0 w1 w2 w3 w4 w5 w6 w7 => spec_pzAll.l6 N n w0 w1 w2 w3 w4 w5 w6 w7 ((fun w0 w1 w2 => Kn58 (mkSt [(0, .one (.int .i64 w0)), (1, .one (.sl false 38 w1)), (5, .one (.nl)), (6, .one (.int .i64 w2))] [] : St D0))) ((fun w0 w1 w2 w3 => Kn58 (mkSt [(0, .one (.int .i64 w0)), (1, .one (.sl false 38 w1)), (5, .one (.sl true 3 w2)), (6, .one (.int .i64 w3))] [] : St D0))))) from (congr (congr rfl rfl) (funext fun w0 => funext fun w1 => funext fun w2 => funext fun w3 => funext fun w4 => funext fun w5 => funext fun w6 => funext fun w7 => (spec_pzAll.loop14922 N Kn58 n).2 w0 w1 w2 w3 w4 w5 w6 w7))))⟩
noncomputable def spec_pzAll.K116 (N : Nat) (Kn58 : St D0 → Option spec_pzAll.R) : Ex → St D0 → Option spec_pzAll.R := (onN (fun s => spec_pzAll.C.tidy 58 s ((onN Kn58 (blockK 0 (onN (fun s => spec_pzAll.C.tidy 14 s (fun s' => runC spec_pzAll.C (spec_pzAll.O N) N spec_pzAll.c15 15 s' spec_pzAll.K0)) spec_pzAll.K0))) .normal)) (onN Kn58 (blockK 0 (onN (fun s => spec_pzAll.C.tidy 14 s (fun s' => runC spec_pzAll.C (spec_pzAll.O N) N spec_pzAll.c15 15 s' spec_pzAll.K0)) spec_pzAll.K0))))
noncomputable def spec_pzAll.o1 (N : Nat) (v0 : Int) (v1 : List S38) (v2 : Int) (c2 : Int → (List S38) → Int → Bool → (List S38) → Int → Int → Option spec_pzAll.R) : Option spec_pzAll.R :=
 bif (decide (v2 < (w64 (60 * v0)))) then
  c2 v0 v1 v2 true v1 (v1.length : Int) 0
 else
 some (([] : List Int))
theorem spec_pzAll.o1.run (N : Nat) (Kn58 : St D0 → Option spec_pzAll.R) (H29844 : Code) (v0 : Int) (v1 : List S38) (v2 : Int) : runC spec_pzAll.C (spec_pzAll.O N) N (.seq spec_pzAll.c232 (.seq (.block 1 (.seq spec_pzAll.c1864 (.seq (.seq spec_pzAll.c7460 (.block 2 (.loop H29844))) spec_pzAll.c3731))) spec_pzAll.c467)) 116 (mkSt [(0, .one (.int .i64 v0)), (1, .one (.sl false 38 v1)), (5, .one (.nl)), (6, .one (.int .i64 v2))] [] : St D0) (onN (fun s => spec_pzAll.C.tidy 58 s ((onN Kn58 (blockK 0 (onN (fun s => spec_pzAll.C.tidy 14 s (fun s' => runC spec_pzAll.C (spec_pzAll.O N) N spec_pzAll.c15 15 s' spec_pzAll.K0)) spec_pzAll.K0))) .normal)) (onN Kn58 (blockK 0 (onN (fun s => spec_pzAll.C.tidy 14 s (fun s' => runC spec_pzAll.C (spec_pzAll.O N) N spec_pzAll.c15 15 s' spec_pzAll.K0)) spec_pzAll.K0)))) = spec_pzAll.o1 N v0 v1 v2 ((fun w0 w1 w2 w3 w4 w5 w6 => iter (loopF spec_pzAll.C (spec_pzAll.O N) N H29844 14922) N (mkSt [(0, .one (.int .i64 w0)), (1, .one (.sl false 38 w1)), (5, .one (.nl)), (6, .one (.int .i64 w2)), (7, .one (.bool w3)), (16, .one (.sl false 38 w4)), (17, .one (.int .i64 w5)), (18, .one (.int .i64 w6))] [] : St D0) (blockK 2 (onN (fun s => spec_pzAll.C.tidy 3730 s (fun s' => runC spec_pzAll.C (spec_pzAll.O N) N spec_pzAll.c3731 3731 s' (blockK 1 (onN (fun s => spec_pzAll.C.tidy 466 s (fun s' => runC spec_pzAll.C (spec_pzAll.O N) N spec_pzAll.c467 467 s' (onN (fun s => spec_pzAll.C.tidy 58 s ((onN Kn58 (blockK 0 (onN (fun s => spec_pzAll.C.tidy 14 s (fun s' => runC spec_pzAll.C (spec_pzAll.O N) N spec_pzAll.c15 15 s' spec_pzAll.K0)) spec_pzAll.K0))) .normal)) (onN Kn58 (blockK 0 (onN (fun s => spec_pzAll.C.tidy 14 s (fun s' => runC spec_pzAll.C (spec_pzAll.O N) N spec_pzAll.c15 15 s' spec_pzAll.K0)) spec_pzAll.K0)))))) (onN (fun s => spec_pzAll.C.tidy 58 s ((onN Kn58 (blockK 0 (onN (fun s => spec_pzAll.C.tidy 14 s (fun s' => runC spec_pzAll.C (spec_pzAll.O N) N spec_pzAll.c15 15 s' spec_pzAll.K0)) spec_pzAll.K0))) .normal)) (onN Kn58 (blockK 0 (onN (fun s => spec_pzAll.C.tidy 14 s (fun s' => runC spec_pzAll.C (spec_pzAll.O N) N spec_pzAll.c15 15 s' spec_pzAll.K0)) spec_pzAll.K0)))))))) (blockK 1 (onN (fun s => spec_pzAll.C.tidy 466 s (fun s' => runC spec_pzAll.C (spec_pzAll.O N) N spec_pzAll.c467 467 s' (onN (fun s => spec_pzAll.C.tidy 58 s ((onN Kn58 (blockK 0 (onN (fun s => spec_pzAll.C.tidy 14 s (fun s' => runC spec_pzAll.C (spec_pzAll.O N) N spec_pzAll.c15 15 s' spec_pzAll.K0)) spec_pzAll.K0))) .normal)) (onN Kn58 (blockK 0 (onN (fun s => spec_pzAll.C.tidy 14 s (fun s' => runC spec_pzAll.C (spec_pzAll.O N) N spec_pzAll.c15 15 s' spec_pzAll.K0)) spec_pzAll.K0)))))) (onN (fun s => spec_pzAll.C.tidy 58 s ((onN Kn58 (blockK 0 (onN (fun s => spec_pzAll.C.tidy 14 s (fun s' => runC spec_pzAll.C (spec_pzAll.O N) N spec_pzAll.c15 15 s' spec_pzAll.K0)) spec_pzAll.K0))) .normal)) (onN Kn58 (blockK 0 (onN (fun s => spec_pzAll.C.tidy 14 s (fun s' => runC spec_pzAll.C (spec_pzAll.O N) N spec_pzAll.c15 15 s' spec_pzAll.K0)) spec_pzAll.K0)))))))))) := by kernel_rfl
noncomputable def spec_pzAll.d1 (N : Nat) (v0 : Int) (v1 : List S38) (v2 : Int) (c1 : Int → (List S38) → Int → Option spec_pzAll.R) (c5 : Int → (List S38) → (List Int) → Int → Option spec_pzAll.R) : Option spec_pzAll.R := spec_pzAll.o1 N v0 v1 v2 ((fun w0 w1 w2 w3 w4 w5 w6 => spec_pzAll.l2 N N w0 w1 w2 w3 w4 w5 w6 c1 c5))
theorem spec_pzAll.c116_1 : spec_pzAll.c116 = (.seq spec_pzAll.c232 (.seq (.block 1 (.seq spec_pzAll.c1864 (.seq (.seq spec_pzAll.c7460 (.block 2 (.loop spec_pzAll.c29844))) spec_pzAll.c3731))) spec_pzAll.c467)) := by kernel_rfl
theorem spec_pzAll.d1.run (N : Nat) (Kn58 : St D0 → Option spec_pzAll.R) (v0 : Int) (v1 : List S38) (v2 : Int) : runC spec_pzAll.C (spec_pzAll.O N) N spec_pzAll.c116 116 (mkSt [(0, .one (.int .i64 v0)), (1, .one (.sl false 38 v1)), (5, .one (.nl)), (6, .one (.int .i64 v2))] [] : St D0) (spec_pzAll.K116 N Kn58) = spec_pzAll.d1 N v0 v1 v2 ((fun w0 w1 w2 => Kn58 (mkSt [(0, .one (.int .i64 w0)), (1, .one (.sl false 38 w1)), (5, .one (.nl)), (6, .one (.int .i64 w2))] [] : St D0))) ((fun w0 w1 w2 w3 => Kn58 (mkSt [(0, .one (.int .i64 w0)), (1, .one (.sl false 38 w1)), (5, .one (.sl true 3 w2)), (6, .one (.int .i64 w3))] [] : St D0))) := by
  rw [spec_pzAll.c116_1]; unfold spec_pzAll.d1; exact (spec_pzAll.o1.run N Kn58 spec_pzAll.c29844 v0 v1 v2).trans (congr rfl (funext fun w0 => funext fun w1 => funext fun w2 => funext fun w3 => funext fun w4 => funext fun w5 => funext fun w6 => (spec_pzAll.loop14922 N Kn58 N).1 w0 w1 w2 w3 w4 w5 w6))
noncomputable def spec_pzAll.o5 (N : Nat) (v0 : Int) (v1 : List S38) (v2 : List Int) (v3 : Int) (c6 : Int → (List S38) → (List Int) → Int → Bool → (List S38) → Int → Int → Option spec_pzAll.R) : Option spec_pzAll.R :=
 bif (decide (v3 < (w64 (60 * v0)))) then
  c6 v0 v1 v2 v3 true v1 (v1.length : Int) 0
 else
 some (v2)
theorem spec_pzAll.o5.run (N : Nat) (Kn58 : St D0 → Option spec_pzAll.R) (H29844 : Code) (v0 : Int) (v1 : List S38) (v2 : List Int) (v3 : Int) : runC spec_pzAll.C (spec_pzAll.O N) N (.seq spec_pzAll.c232 (.seq (.block 1 (.seq spec_pzAll.c1864 (.seq (.seq spec_pzAll.c7460 (.block 2 (.loop H29844))) spec_pzAll.c3731))) spec_pzAll.c467)) 116 (mkSt [(0, .one (.int .i64 v0)), (1, .one (.sl false 38 v1)), (5, .one (.sl true 3 v2)), (6, .one (.int .i64 v3))] [] : St D0) (onN (fun s => spec_pzAll.C.tidy 58 s ((onN Kn58 (blockK 0 (onN (fun s => spec_pzAll.C.tidy 14 s (fun s' => runC spec_pzAll.C (spec_pzAll.O N) N spec_pzAll.c15 15 s' spec_pzAll.K0)) spec_pzAll.K0))) .normal)) (onN Kn58 (blockK 0 (onN (fun s => spec_pzAll.C.tidy 14 s (fun s' => runC spec_pzAll.C (spec_pzAll.O N) N spec_pzAll.c15 15 s' spec_pzAll.K0)) spec_pzAll.K0)))) = spec_pzAll.o5 N v0 v1 v2 v3 ((fun w0 w1 w2 w3 w4 w5 w6 w7 => iter (loopF spec_pzAll.C (spec_pzAll.O N) N H29844 14922) N (mkSt [(0, .one (.int .i64 w0)), (1, .one (.sl false 38 w1)), (5, .one (.sl true 3 w2)), (6, .one (.int .i64 w3)), (7, .one (.bool w4)), (16, .one (.sl false 38 w5)), (17, .one (.int .i64 w6)), (18, .one (.int .i64 w7))] [] : St D0) (blockK 2 (onN (fun s => spec_pzAll.C.tidy 3730 s (fun s' => runC spec_pzAll.C (spec_pzAll.O N) N spec_pzAll.c3731 3731 s' (blockK 1 (onN (fun s => spec_pzAll.C.tidy 466 s (fun s' => runC spec_pzAll.C (spec_pzAll.O N) N spec_pzAll.c467 467 s' (onN (fun s => spec_pzAll.C.tidy 58 s ((onN Kn58 (blockK 0 (onN (fun s => spec_pzAll.C.tidy 14 s (fun s' => runC spec_pzAll.C (spec_pzAll.O N) N spec_pzAll.c15 15 s' spec_pzAll.K0)) spec_pzAll.K0))) .normal)) (onN Kn58 (blockK 0 (onN (fun s => spec_pzAll.C.tidy 14 s (fun s' => runC spec_pzAll.C (spec_pzAll.O N) N spec_pzAll.c15 15 s' spec_pzAll.K0)) spec_pzAll.K0)))))) (onN (fun s => spec_pzAll.C.tidy 58 s ((onN Kn58 (blockK 0 (onN (fun s => spec_pzAll.C.tidy 14 s (fun s' => runC spec_pzAll.C (spec_pzAll.O N) N spec_pzAll.c15 15 s' spec_pzAll.K0)) spec_pzAll.K0))) .normal)) (onN Kn58 (blockK 0 (onN (fun s => spec_pzAll.C.tidy 14 s (fun s' => runC spec_pzAll.C (spec_pzAll.O N) N spec_pzAll.c15 15 s' spec_pzAll.K0)) spec_pzAll.K0)))))))) (blockK 1 (onN (fun s => spec_pzAll.C.tidy 466 s (fun s' => runC spec_pzAll.C (spec_pzAll.O N) N spec_pzAll.c467 467 s' (onN (fun s => spec_pzAll.C.tidy 58 s ((onN Kn58 (blockK 0 (onN (fun s => spec_pzAll.C.tidy 14 s (fun s' => runC spec_pzAll.C (spec_pzAll.O N) N spec_pzAll.c15 15 s' spec_pzAll.K0)) spec_pzAll.K0))) .normal)) (onN Kn58 (blockK 0 (onN (fun s => spec_pzAll.C.tidy 14 s (fun s' => runC spec_pzAll.C (spec_pzAll.O N) N spec_pzAll.c15 15 s' spec_pzAll.K0)) spec_pzAll.K0)))))) (onN (fun s => spec_pzAll.C.tidy 58 s ((onN Kn58 (blockK 0 (onN (fun s => spec_pzAll.C.tidy 14 s (fun s' => runC spec_pzAll.C (spec_pzAll.O N) N spec_pzAll.c15 15 s' spec_pzAll.K0)) spec_pzAll.K0))) .normal)) (onN Kn58 (blockK 0 (onN (fun s => spec_pzAll.C.tidy 14 s (fun s' => runC spec_pzAll.C (spec_pzAll.O N) N spec_pzAll.c15 15 s' spec_pzAll.K0)) spec_pzAll.K0)))))))))) := by kernel_rfl
noncomputable def spec_pzAll.d5 (N : Nat) (v0 : Int) (v1 : List S38) (v2 : List Int) (v3 : Int) (c1 : Int → (List S38) → Int → Option spec_pzAll.R) (c5 : Int → (List S38) → (List Int) → Int → Option spec_pzAll.R) : Option spec_pzAll.R := spec_pzAll.o5 N v0 v1 v2 v3 ((fun w0 w1 w2 w3 w4 w5 w6 w7 => spec_pzAll.l6 N N w0 w1 w2 w3 w4 w5 w6 w7 c1 c5))
theorem spec_pzAll.c116_5 : spec_pzAll.c116 = (.seq spec_pzAll.c232 (.seq (.block 1 (.seq spec_pzAll.c1864 (.seq (.seq spec_pzAll.c7460 (.block 2 (.loop spec_pzAll.c29844))) spec_pzAll.c3731))) spec_pzAll.c467)) := by kernel_rfl
theorem spec_pzAll.d5.run (N : Nat) (Kn58 : St D0 → Option spec_pzAll.R) (v0 : Int) (v1 : List S38) (v2 : List Int) (v3 : Int) : runC spec_pzAll.C (spec_pzAll.O N) N spec_pzAll.c116 116 (mkSt [(0, .one (.int .i64 v0)), (1, .one (.sl false 38 v1)), (5, .one (.sl true 3 v2)), (6, .one (.int .i64 v3))] [] : St D0) (spec_pzAll.K116 N Kn58) = spec_pzAll.d5 N v0 v1 v2 v3 ((fun w0 w1 w2 => Kn58 (mkSt [(0, .one (.int .i64 w0)), (1, .one (.sl false 38 w1)), (5, .one (.nl)), (6, .one (.int .i64 w2))] [] : St D0))) ((fun w0 w1 w2 w3 => Kn58 (mkSt [(0, .one (.int .i64 w0)), (1, .one (.sl false 38 w1)), (5, .one (.sl true 3 w2)), (6, .one (.int .i64 w3))] [] : St D0))) := by
  rw [spec_pzAll.c116_5]; unfold spec_pzAll.d5; exact (spec_pzAll.o5.run N Kn58 spec_pzAll.c29844 v0 v1 v2 v3).trans (congr rfl (funext fun w0 => funext fun w1 => funext fun w2 => funext fun w3 => funext fun w4 => funext fun w5 => funext fun w6 => funext fun w7 => (spec_pzAll.loop14922 N Kn58 N).2 w0 w1 w2 w3 w4 w5 w6 w7))
noncomputable def spec_pzAll.K58 (N : Nat) : Ex → St D0 → Option spec_pzAll.R := (blockK 0 (onN (fun s => spec_pzAll.C.tidy 14 s (fun s' => runC spec_pzAll.C (spec_pzAll.O N) N spec_pzAll.c15 15 s' spec_pzAll.K0)) spec_pzAll.K0))
mutual
noncomputable def spec_pzAll.l1 (N : Nat) : Nat → Int → (List S38) → Int → Option spec_pzAll.R
  | 0, _, _, _ => none
  | n + 1, v0, v1, v2 => spec_pzAll.d1 N v0 v1 v2 ((fun w0 w1 w2 => spec_pzAll.l1 N n w0 w1 w2)) ((fun w0 w1 w2 w3 => spec_pzAll.l5 N n w0 w1 w2 w3))
noncomputable def spec_pzAll.l5 (N : Nat) : Nat → Int → (List S38) → (List Int) → Int → Option spec_pzAll.R
  | 0, _, _, _, _ => none
  | n + 1, v0, v1, v2, v3 => spec_pzAll.d5 N v0 v1 v2 v3 ((fun w0 w1 w2 => spec_pzAll.l1 N n w0 w1 w2)) ((fun w0 w1 w2 w3 => spec_pzAll.l5 N n w0 w1 w2 w3))
end
theorem spec_pzAll.loop58 (N : Nat) : ∀ n, (∀ (v0 : Int) (v1 : List S38) (v2 : Int), iter (loopF spec_pzAll.C (spec_pzAll.O N) N spec_pzAll.c116 58) n (mkSt [(0, .one (.int .i64 v0)), (1, .one (.sl false 38 v1)), (5, .one (.nl)), (6, .one (.int .i64 v2))] [] : St D0) (spec_pzAll.K58 N) = spec_pzAll.l1 N n v0 v1 v2) ∧ (∀ (v0 : Int) (v1 : List S38) (v2 : List Int) (v3 : Int), iter (loopF spec_pzAll.C (spec_pzAll.O N) N spec_pzAll.c116 58) n (mkSt [(0, .one (.int .i64 v0)), (1, .one (.sl false 38 v1)), (5, .one (.sl true 3 v2)), (6, .one (.int .i64 v3))] [] : St D0) (spec_pzAll.K58 N) = spec_pzAll.l5 N n v0 v1 v2 v3)
  | 0 => ⟨(fun v0 v1 v2 => rfl), (fun v0 v1 v2 v3 => rfl)⟩
  | n + 1 => ⟨(fun v0 v1 v2 => (spec_pzAll.d1.run N (fun s => iter (loopF spec_pzAll.C (spec_pzAll.O N) N spec_pzAll.c116 58) n s (spec_pzAll.K58 N)) v0 v1 v2).trans (show _ = spec_pzAll.d1 N v0 v1 v2 ((fun w0 w1 w2 => spec_pzAll.l1 N n w0 w1 w2)) ((fun w0 w1 w2 w3 => spec_pzAll.l5 N n w0 w1 w2 w3)) from (congr (congr rfl (funext fun w0 => funext fun w1 => funext fun w2 => (spec_pzAll.loop58 N n).1 w0 w1 w2)) (funext fun w0 => funext fun w1 => funext fun w2 => funext fun w3 => (spec_pzAll.loop58 N n).2 w0 w1 w2 w3)))), (fun v0 v1 v2 v3 => (spec_pzAll.d5.run N (fun s => iter (loopF spec_pzAll.C (spec_pzAll.O N) N spec_pzAll.c116 58) n s (spec_pzAll.K58 N)) v0 v1 v2 v3).trans (show _ = spec_pzAll.d5 N v0 v1 v2 v3 ((fun w0 w1 w2 => spec_pzAll.l1 N n w0 w1 w2)) ((fun w0 w1 w2 w3 => spec_pzAll.l5 N n w0 w1 w2 w3)) from (congr (congr rfl (funext fun w0 => funext fun w1 => funext fun w2 => (spec_pzAll.loop58 N n).1 w0 w1 w2)) (funext fun w0 => funext fun w1 => funext fun w2 => funext fun w3 => (spec_pzAll.loop58 N n).2 w0 w1 w2 w3))))⟩
noncomputable def spec_pzAll.o0 (N : Nat) (a0 : Int) (a1 : List S38) (c1 : Int → (List S38) → Int → Option spec_pzAll.R) : Option spec_pzAll.R :=
 c1 a0 a1 0
theorem spec_pzAll.o0.run (N : Nat) (H116 : Code) (a0 : Int) (a1 : List S38) : runC spec_pzAll.C (spec_pzAll.O N) N (.seq spec_pzAll.c2 (.seq spec_pzAll.c6 (.seq (.seq spec_pzAll.c28 (.block 0 (.loop H116))) spec_pzAll.c15))) 1 (st0 [.one (.int .i64 a0), .one (.sl false 38 a1)] [] : St D0) spec_pzAll.K0 = spec_pzAll.o0 N a0 a1 ((fun w0 w1 w2 => iter (loopF spec_pzAll.C (spec_pzAll.O N) N H116 58) N (mkSt [(0, .one (.int .i64 w0)), (1, .one (.sl false 38 w1)), (5, .one (.nl)), (6, .one (.int .i64 w2))] [] : St D0) (blockK 0 (onN (fun s => spec_pzAll.C.tidy 14 s (fun s' => runC spec_pzAll.C (spec_pzAll.O N) N spec_pzAll.c15 15 s' spec_pzAll.K0)) spec_pzAll.K0)))) := by kernel_rfl
noncomputable def spec_pzAll.g (N : Nat) (a0 : Int) (a1 : List S38) : Option spec_pzAll.R := spec_pzAll.o0 N a0 a1 ((fun w0 w1 w2 => spec_pzAll.l1 N N w0 w1 w2))
theorem spec_pzAll.c1_0 : spec_pzAll.c1 = (.seq spec_pzAll.c2 (.seq spec_pzAll.c6 (.seq (.seq spec_pzAll.c28 (.block 0 (.loop spec_pzAll.c116))) spec_pzAll.c15))) := by kernel_rfl
theorem spec_pzAll.g.run (N : Nat) (a0 : Int) (a1 : List S38) : runC spec_pzAll.C (spec_pzAll.O N) N spec_pzAll.c1 1 (st0 [.one (.int .i64 a0), .one (.sl false 38 a1)] [] : St D0) spec_pzAll.K0 = spec_pzAll.g N a0 a1 := by
  rw [spec_pzAll.c1_0]; unfold spec_pzAll.g; exact (spec_pzAll.o0.run N spec_pzAll.c116 a0 a1).trans (congr rfl (funext fun w0 => funext fun w1 => funext fun w2 => (spec_pzAll.loop58 N N).1 w0 w1 w2))
theorem spec_pzAll.good (N : Nat) (a0 : Int) (a1 : List S38) (r : spec_pzAll.R) (h : spec_pzAll.g N a0 a1 = some r) : Go.PM.Good Go.Proofs.Try.prog T0 68 [.one (.int .i64 a0), .one (.sl false 38 a1)] [] (spec_pzAll.sig.ret r) (spec_pzAll.sig.bs r) :=
  good_fn tabOk0 mixed0 spec_pzAll.sig (spec_pzAll.E N) Go.Proofs.Try.func68 (by kernel_rfl) (by kernel_rfl) 1074733811 0 0 [(58, [0, 1, 5, 6], []), (466, [0, 1, 5, 6], []), (14922, [0, 1, 5, 6, 7, 16, 17, 18], [])] [(false, [.own 3])] (by kernel_rfl) rfl ((spec_pzAll.g.run N a0 a1).trans h)
noncomputable def spec_pzAll.ent (N : Nat) : Ent Go.Proofs.Try.prog T0 := mkEnt 68 [(false, [.any]), (false, [.ro 38])] spec_pzAll.sig (fun t => spec_pzAll.g N t.1 t.2) (fun t r h => spec_pzAll.good N t.1 t.2 r h)
end Go.Proofs.Ytpeleommbipeaaa.M

namespace Go.Proofs.Ytpeleommbipeaaa.M
open Go Go.PM Go.Proofs.Ytpeleommbipeaaa.P
set_option linter.unusedVariables false
set_option maxRecDepth 100000
/-! ### spec_pzSolved -/
abbrev spec_pzSolved.R : Type := Bool
abbrev spec_pzSolved.sig : Sig := ⟨[(false, 1), (false, 1)], [], [.int .i64, .sl false 38], [(false, 1)], [], [.bool]⟩
noncomputable def spec_pzSolved.C : Cfg D0 := ⟨Go.Proofs.Try.prog, T0, 19, 0, 10, 0, []⟩
noncomputable def spec_pzSolved.E (N : Nat) : List (Ent Go.Proofs.Try.prog T0) := [spec_pzAll.ent N]
noncomputable def spec_pzSolved.O (N : Nat) : Orc D0 spec_pzSolved.R := orcOf (spec_pzSolved.E N)
noncomputable def spec_pzSolved.K0 : Ex → St D0 → Option spec_pzSolved.R := exitK spec_pzSolved.C Go.Proofs.Try.f58.results.toList [(false, [.any])] (decOut spec_pzSolved.sig)
noncomputable def spec_pzSolved.c1 : Code := codeAt (Go.Proofs.Try.f58.body.getD .skip) []
noncomputable def spec_pzSolved.o0 (N : Nat) (a0 : Int) (a1 : List S38) : Option spec_pzSolved.R :=
 (spec_pzAll.g N a0 a1).bind fun r1 =>
 some (((r1.length : Int) == 1))
theorem spec_pzSolved.o0.run (N : Nat) (a0 : Int) (a1 : List S38) : runC spec_pzSolved.C (spec_pzSolved.O N) N spec_pzSolved.c1 1 (st0 [.one (.int .i64 a0), .one (.sl false 38 a1)] [] : St D0) spec_pzSolved.K0 = spec_pzSolved.o0 N a0 a1 := by kernel_rfl
noncomputable def spec_pzSolved.g (N : Nat) (a0 : Int) (a1 : List S38) : Option spec_pzSolved.R := spec_pzSolved.o0 N a0 a1
theorem spec_pzSolved.g.run (N : Nat) (a0 : Int) (a1 : List S38) : runC spec_pzSolved.C (spec_pzSolved.O N) N spec_pzSolved.c1 1 (st0 [.one (.int .i64 a0), .one (.sl false 38 a1)] [] : St D0) spec_pzSolved.K0 = spec_pzSolved.g N a0 a1 := by
  exact (spec_pzSolved.o0.run N a0 a1).trans rfl
theorem spec_pzSolved.good (N : Nat) (a0 : Int) (a1 : List S38) (r : spec_pzSolved.R) (h : spec_pzSolved.g N a0 a1 = some r) : Go.PM.Good Go.Proofs.Try.prog T0 58 [.one (.int .i64 a0), .one (.sl false 38 a1)] [] (spec_pzSolved.sig.ret r) (spec_pzSolved.sig.bs r) :=
  good_fn tabOk0 mixed0 spec_pzSolved.sig (spec_pzSolved.E N) Go.Proofs.Try.func58 (by kernel_rfl) (by kernel_rfl) 19 0 0 [] [(false, [.any])] (by kernel_rfl) rfl ((spec_pzSolved.g.run N a0 a1).trans h)
noncomputable def spec_pzSolved.ent (N : Nat) : Ent Go.Proofs.Try.prog T0 := mkEnt 58 [(false, [.any]), (false, [.ro 38])] spec_pzSolved.sig (fun t => spec_pzSolved.g N t.1 t.2) (fun t r h => spec_pzSolved.good N t.1 t.2 r h)
end Go.Proofs.Ytpeleommbipeaaa.M

namespace Go.Proofs.Ytpeleommbipeaaa.M
open Go Go.PM Go.Proofs.Ytpeleommbipeaaa.P
set_option linter.unusedVariables false
set_option maxRecDepth 100000
/-! ### impl_CountSolutions -/
abbrev impl_CountSolutions.R : Type := Int × Bool
abbrev impl_CountSolutions.sig : Sig := ⟨[(true, 2)], [], [.int .i64, .sl false 38], [(false, 1), (false, 1)], [], [.int .i64, .bool]⟩
noncomputable def impl_CountSolutions.C : Cfg D0 := ⟨Go.Proofs.Try.prog, T0, 63, 0, 14, 0, []⟩
noncomputable def impl_CountSolutions.E (N : Nat) : List (Ent Go.Proofs.Try.prog T0) := [impl_Solutions.ent N]
noncomputable def impl_CountSolutions.O (N : Nat) : Orc D0 impl_CountSolutions.R := orcOf (impl_CountSolutions.E N)
noncomputable def impl_CountSolutions.K0 : Ex → St D0 → Option impl_CountSolutions.R := exitK impl_CountSolutions.C Go.Proofs.Try.f60.results.toList [(false, [.any]), (false, [.any])] (decOut impl_CountSolutions.sig)
noncomputable def impl_CountSolutions.c1 : Code := codeAt (Go.Proofs.Try.f60.body.getD .skip) []
noncomputable def impl_CountSolutions.o0 (N : Nat) (a0_0 : Int) (a0_1 : List S38) : Option impl_CountSolutions.R :=
 (impl_Solutions.g N a0_0 a0_1).bind fun r1 =>
 some ((r1.1.length : Int), r1.2)
theorem impl_CountSolutions.o0.run (N : Nat) (a0_0 : Int) (a0_1 : List S38) : runC impl_CountSolutions.C (impl_CountSolutions.O N) N impl_CountSolutions.c1 1 (st0 [.agg [.int .i64 a0_0, .sl false 38 a0_1]] [] : St D0) impl_CountSolutions.K0 = impl_CountSolutions.o0 N a0_0 a0_1 := by kernel_rfl
noncomputable def impl_CountSolutions.g (N : Nat) (a0_0 : Int) (a0_1 : List S38) : Option impl_CountSolutions.R := impl_CountSolutions.o0 N a0_0 a0_1
theorem impl_CountSolutions.g.run (N : Nat) (a0_0 : Int) (a0_1 : List S38) : runC impl_CountSolutions.C (impl_CountSolutions.O N) N impl_CountSolutions.c1 1 (st0 [.agg [.int .i64 a0_0, .sl false 38 a0_1]] [] : St D0) impl_CountSolutions.K0 = impl_CountSolutions.g N a0_0 a0_1 := by
  exact (impl_CountSolutions.o0.run N a0_0 a0_1).trans rfl
theorem impl_CountSolutions.good (N : Nat) (a0_0 : Int) (a0_1 : List S38) (r : impl_CountSolutions.R) (h : impl_CountSolutions.g N a0_0 a0_1 = some r) : Go.PM.Good Go.Proofs.Try.prog T0 60 [.agg [.int .i64 a0_0, .sl false 38 a0_1]] [] (impl_CountSolutions.sig.ret r) (impl_CountSolutions.sig.bs r) :=
  good_fn tabOk0 mixed0 impl_CountSolutions.sig (impl_CountSolutions.E N) Go.Proofs.Try.func60 (by kernel_rfl) (by kernel_rfl) 63 0 0 [] [(false, [.any]), (false, [.any])] (by kernel_rfl) rfl ((impl_CountSolutions.g.run N a0_0 a0_1).trans h)
noncomputable def impl_CountSolutions.ent (N : Nat) : Ent Go.Proofs.Try.prog T0 := mkEnt 60 [(true, [.any, .ro 38])] impl_CountSolutions.sig (fun t => impl_CountSolutions.g N t.1 t.2) (fun t r h => impl_CountSolutions.good N t.1 t.2 r h)
end Go.Proofs.Ytpeleommbipeaaa.M

namespace Go.Proofs.Ytpeleommbipeaaa.M
open Go Go.PM Go.Proofs.Ytpeleommbipeaaa.P
set_option linter.unusedVariables false
set_option maxRecDepth 100000
/-! ### impl_IsSolved -/
abbrev impl_IsSolved.R : Type := Bool × Bool
abbrev impl_IsSolved.sig : Sig := ⟨[(true, 2)], [], [.int .i64, .sl false 38], [(false, 1), (false, 1)], [], [.bool, .bool]⟩
noncomputable def impl_IsSolved.C : Cfg D0 := ⟨Go.Proofs.Try.prog, T0, 63, 0, 14, 0, []⟩
noncomputable def impl_IsSolved.E (N : Nat) : List (Ent Go.Proofs.Try.prog T0) := [impl_CountSolutions.ent N]
noncomputable def impl_IsSolved.O (N : Nat) : Orc D0 impl_IsSolved.R := orcOf (impl_IsSolved.E N)
noncomputable def impl_IsSolved.K0 : Ex → St D0 → Option impl_IsSolved.R := exitK impl_IsSolved.C Go.Proofs.Try.f23.results.toList [(false, [.any]), (false, [.any])] (decOut impl_IsSolved.sig)
noncomputable def impl_IsSolved.c1 : Code := codeAt (Go.Proofs.Try.f23.body.getD .skip) []
noncomputable def impl_IsSolved.o0 (N : Nat) (a0_0 : Int) (a0_1 : List S38) : Option impl_IsSolved.R :=
 (impl_CountSolutions.g N a0_0 a0_1).bind fun r1 =>
 some ((r1.1 == 1), r1.2)
theorem impl_IsSolved.o0.run (N : Nat) (a0_0 : Int) (a0_1 : List S38) : runC impl_IsSolved.C (impl_IsSolved.O N) N impl_IsSolved.c1 1 (st0 [.agg [.int .i64 a0_0, .sl false 38 a0_1]] [] : St D0) impl_IsSolved.K0 = impl_IsSolved.o0 N a0_0 a0_1 := by kernel_rfl
noncomputable def impl_IsSolved.g (N : Nat) (a0_0 : Int) (a0_1 : List S38) : Option impl_IsSolved.R := impl_IsSolved.o0 N a0_0 a0_1
theorem impl_IsSolved.g.run (N : Nat) (a0_0 : Int) (a0_1 : List S38) : runC impl_IsSolved.C (impl_IsSolved.O N) N impl_IsSolved.c1 1 (st0 [.agg [.int .i64 a0_0, .sl false 38 a0_1]] [] : St D0) impl_IsSolved.K0 = impl_IsSolved.g N a0_0 a0_1 := by
  exact (impl_IsSolved.o0.run N a0_0 a0_1).trans rfl
theorem impl_IsSolved.good (N : Nat) (a0_0 : Int) (a0_1 : List S38) (r : impl_IsSolved.R) (h : impl_IsSolved.g N a0_0 a0_1 = some r) : Go.PM.Good Go.Proofs.Try.prog T0 23 [.agg [.int .i64 a0_0, .sl false 38 a0_1]] [] (impl_IsSolved.sig.ret r) (impl_IsSolved.sig.bs r) :=
  good_fn tabOk0 mixed0 impl_IsSolved.sig (impl_IsSolved.E N) Go.Proofs.Try.func23 (by kernel_rfl) (by kernel_rfl) 63 0 0 [] [(false, [.any]), (false, [.any])] (by kernel_rfl) rfl ((impl_IsSolved.g.run N a0_0 a0_1).trans h)
noncomputable def impl_IsSolved.ent (N : Nat) : Ent Go.Proofs.Try.prog T0 := mkEnt 23 [(true, [.any, .ro 38])] impl_IsSolved.sig (fun t => impl_IsSolved.g N t.1 t.2) (fun t r h => impl_IsSolved.good N t.1 t.2 r h)
end Go.Proofs.Ytpeleommbipeaaa.M

namespace Go.Proofs.Ytpeleommbipeaaa.M
open Go Go.PM Go.Proofs.Ytpeleommbipeaaa.P
set_option linter.unusedVariables false
set_option maxRecDepth 100000
open Go.RowKit Go.Lib
/-! ### slices_Clone_impl_Clue_impl_Clue -/
abbrev slices_Clone_impl_Clue_impl_Clue.R : Type := List S38
abbrev slices_Clone_impl_Clue_impl_Clue.sig : Sig := ⟨[(false, 1)], [], [.sl false 38], [(false, 1)], [], [.sl true 38]⟩
set_option maxHeartbeats 2000000 in
set_option maxRecDepth 100000 in
theorem slices_Clone_impl_Clue_impl_Clue.walk (ad : Addr) (n c : Nat) (news : List Value) (w : World) (hl : news.length = n * 3) (hn : n ≤ maxLen) (hbig : n * 24 ≤ 140737488355328) (hc : ∀ j u, news[j]? = some u → w.cell? (ad.add j) = some u) (h1 : ∀ u ∈ news, u.oneCell' = true) :
    Calls Go.Proofs.Try.prog 52 #[.slice (some ad) n c] w fun e w' => ∃ v', e = .returned v' ∧ w'.ownsRow w.heap.size 38 3 v' n news ∧ Go.RowKit.Below w.heap.size w w' := by
  have q22 : ∀ (w : World) (a : Option Addr) (n c n' c' : Nat), (binOp .eql 22 (.slice a n c) (.slice none n' c')).run Go.Proofs.Try.prog w = .ok (.bool a.isNone) w := fun w a n c n' c' => Lib.run_eql_slice_nil w _ _ a n c n' c' Go.Proofs.Try.underlying22
  have u22 : ∀ w, Sem.run Go.Proofs.Try.prog (underlying 22) w = .ok (TypeDesc.slice 38) w := run_underlying Go.Proofs.Try.underlying22
  have A : Aside (∀ j u, news[j]? = some u → w.cell? (ad.add j) = some u) := hc
  clear hc
  have HI : (Go.Proofs.Try.prog.info? 38).map (fun i => (i.zero, i.size, i.bytes)) = some (some (.agg #[(.int .i64 0), (.int .i64 0), (.int .i64 0)]), 3, 24) := by kernel_rfl
  obtain ⟨i0, hi, hz0, hz1, hz2⟩ := info_parts HI
  go_enter Go.Proofs.Try.func52, Go.Proofs.Try.ntmps52
  go_wp2_with (at_builtin; refine wpList_append_own _ rfl _ _ 22 rfl w.heap.size 38 i0 _ 3 24 Go.Proofs.Try.underlying22 hi hz0 hz1 hz2 rfl (by decide) _ _ _ rfl (World.ownsRow_made w #[] 0 (Nat.le_refl _) (Nat.zero_le _) (by simp)) ad n c news rfl ?qc1 ?qc2 ?qc3 ?qc4 ?qc5 ?qc6 ?_)
  case qc1 => exact hl
  case qc2 =>
    intro j u hj
    exact Lib.cell?_alloc_some _ (A.out j u hj)
  case qc3 => exact h1
  case qc4 => rw [Nat.zero_add]; exact hn
  case qc5 => rw [Nat.zero_add]; exact hbig
  case qc6 => simp
  intro v' w1 hown hgrow hnil
  go_wp2
  go_ret
  exact ⟨v', rfl, by simpa using hown, ((Below.refl _ w).alloc (Nat.le_refl _) _).grown hgrow (by simp) (by intro k hk; simp [Value.ownBlock] at hk; omega)⟩
set_option maxHeartbeats 1000000 in
theorem slices_Clone_impl_Clue_impl_Clue.walk0 (n c : Nat) (w : World) : Calls Go.Proofs.Try.prog 52 #[.slice none n c] w fun e w' => e = .returned (.slice none 0 0) ∧ w' = w := by
  have q22 : ∀ (w : World) (a : Option Addr) (n c n' c' : Nat), (binOp .eql 22 (.slice a n c) (.slice none n' c')).run Go.Proofs.Try.prog w = .ok (.bool a.isNone) w := fun w a n c n' c' => Lib.run_eql_slice_nil w _ _ a n c n' c' Go.Proofs.Try.underlying22
  go_enter Go.Proofs.Try.func52, Go.Proofs.Try.ntmps52
  go_wp2
  go_ret
  exact ⟨rfl, rfl⟩

noncomputable def slices_Clone_impl_Clue_impl_Clue.g (N : Nat) (a0 : List S38) : Option slices_Clone_impl_Clue_impl_Clue.R := bif Nat.ble (a0.length * 24) 140737488355328 then some a0 else none
theorem slices_Clone_impl_Clue_impl_Clue.good (N : Nat) (a0 : List S38) (r : slices_Clone_impl_Clue_impl_Clue.R) (h : slices_Clone_impl_Clue_impl_Clue.g N a0 = some r) : Go.PM.Good Go.Proofs.Try.prog T0 52 [.one (.sl false 38 a0)] [] (slices_Clone_impl_Clue_impl_Clue.sig.ret r) (slices_Clone_impl_Clue_impl_Clue.sig.bs r) := by
  unfold slices_Clone_impl_Clue_impl_Clue.g at h
  obtain ⟨h1, h2⟩ := bif_some h
  cases Option.some.inj h2
  exact good_clone tabOk0 38 24 ⟨_, Go.Proofs.Try.func52, by kernel_rfl, rfl⟩ (by show 0 < 3; omega) (by omega) (fun ad n c news w h1 h2 h3 h4 h5 => slices_Clone_impl_Clue_impl_Clue.walk ad n c news w h1 h2 h3 h4 h5) slices_Clone_impl_Clue_impl_Clue.walk0 a0 (Nat.le_of_ble_eq_true h1)
noncomputable def slices_Clone_impl_Clue_impl_Clue.ent (N : Nat) : Ent Go.Proofs.Try.prog T0 := mkEnt 52 [(false, [.ro 38])] slices_Clone_impl_Clue_impl_Clue.sig (fun t => slices_Clone_impl_Clue_impl_Clue.g N t) (fun t r h => slices_Clone_impl_Clue_impl_Clue.good N t r h)
end Go.Proofs.Ytpeleommbipeaaa.M

namespace Go.Proofs.Ytpeleommbipeaaa.M
open Go Go.PM Go.Proofs.Ytpeleommbipeaaa.P
set_option linter.unusedVariables false
set_option maxRecDepth 100000
open Go.RowKit Go.Lib
/-! ### impl_without -/
abbrev impl_without.R : Type := List S38
abbrev impl_without.sig : Sig := ⟨[(false, 1), (false, 1)], [], [.sl false 38, .int .i64], [(false, 1)], [], [.sl true 38]⟩
set_option maxHeartbeats 4000000 in
set_option maxRecDepth 100000 in
theorem impl_without.del.walk (base g m c : Nat) (L : List Value) (i : Nat) (w : World) (H : w.ownsRow base 38 3 (.slice (some ⟨g, 0, none⟩) (m + 1) c) (m + 1) L) (hL : ∀ u ∈ L, u.oneCell' = true) (hi : i < m + 1) :
    Calls Go.Proofs.Try.prog 79 #[.slice (some ⟨g, 0, none⟩) (m + 1) c, .int .i64 i, .int .i64 ((i : Int) + 1)] w fun e w' =>
      e = .returned (.slice (some ⟨g, 0, none⟩) m c) ∧ w'.ownsRow base 38 3 (.slice (some ⟨g, 0, none⟩) m c) m (L.take (i * 3) ++ L.drop ((i + 1) * 3)) ∧ Below base w w' := by
  obtain ⟨hl, hown⟩ := H
  rcases hown with ⟨h, _⟩ | ⟨g', cap, cur, hv, hbg, hg, h3, h4, h5, h6⟩
  · cases h
  obtain ⟨rfl, rfl⟩ : g' = g ∧ cap = c := by simp at hv; exact ⟨hv.1.symm, hv.2.symm⟩
  clear hv
  have hcm : cap ≤ 9223372036854775807 := h4
  have HI : (Go.Proofs.Try.prog.info? 38).map (fun i => (i.zero, i.size, i.bytes)) = some (some (.agg #[(.int .i64 0), (.int .i64 0), (.int .i64 0)]), 3, 24) := by kernel_rfl
  obtain ⟨i0, hi0, hz0, hz1, hz2⟩ := info_parts HI
  have hu := Go.Proofs.Try.underlying22
  have hel : Go.Proofs.Try.prog.elem 22 = 38 := by simp [Program.elem, hu]
  have hii : ((i : Int) + 1).toNat = i + 1 := by omega
  have hto := cut1 (P := Go.Proofs.Try.prog) 22 38 .i64 hu hi0 (some ⟨g', 0, none⟩) (m + 1) cap i (by omega) (by omega) h3
  have hfrom := cut2 (P := Go.Proofs.Try.prog) 22 38 .i64 hu hi0 3 hz1 (some ⟨g', 0, none⟩) (m + 1) cap ((i : Int) + 1) (by omega) (by omega)
  simp only [Int.toNat_natCast] at hto
  simp only [hii] at hfrom
  have hne : ((i : Int) == (i : Int) + 1) = false := beq_eq_false_iff_ne.mpr (by omega)
  have hlen : (L.drop ((i + 1) * 3)).length = (m - i) * 3 := by rw [List.length_drop, hl]; omega
  have hcell : ∀ j u, L[j]? = some u → w.cell? ⟨g', j, none⟩ = some u := by
    intro j u hj
    rw [blkc hg, ← hj, ← h6, List.getElem?_take]
    have : j < L.length := (List.getElem?_eq_some_iff.1 hj).1
    rw [if_pos (by omega)]
    simp
  obtain ⟨A, hA, hsrc⟩ : ∃ A : Addr, (if cap = i + 1 then some (⟨g', 0, none⟩ : Addr) else Option.map (fun x => x.add ((i + 1) * 3)) (some (⟨g', 0, none⟩ : Addr))) = some A ∧ Aside (∀ t u, (L.drop ((i + 1) * 3))[t]? = some u → w.drew.cell? (A.add t) = some u) := by
    by_cases h : cap = i + 1
    · refine ⟨⟨g', 0, none⟩, by simp [h], fun t u hu => ?_⟩
      have h0 : (L.drop ((i + 1) * 3)).length = 0 := by rw [hlen]; omega
      rw [List.length_eq_zero_iff.1 h0] at hu
      simp at hu
    · refine ⟨⟨g', (i + 1) * 3, none⟩, by simp [h, Addr.add_lit], fun t u hu => ?_⟩
      rw [List.getElem?_drop] at hu
      rw [Addr.add_lit]
      exact hcell _ _ hu
  rw [hA] at hfrom
  have s1 : Aside ((L.drop ((i + 1) * 3)).length = (m - i) * 3) := hlen
  have s2 : Aside (∀ u ∈ L.drop ((i + 1) * 3), u.oneCell' = true) := fun u hu => hL u (List.mem_of_mem_drop hu)
  have s3 : Aside (∀ t, t < (L.drop ((i + 1) * 3)).length → (w.drew.cell? ⟨g', 0 + i * 3 + t, none⟩).isSome = true ∧ w.drew.frozen? ⟨g', 0 + i * 3 + t, none⟩ = false) := by
    intro t ht
    rw [hlen] at ht
    refine ⟨?_, ?_⟩
    · show (w.cell? ⟨g', 0 + i * 3 + t, none⟩).isSome = true
      rw [blkc hg, Array.getElem?_eq_getElem (by omega)]; rfl
    · show w.frozen? ⟨g', 0 + i * 3 + t, none⟩ = false
      exact blkf hg _
  obtain ⟨news, hnews⟩ : ∃ news, news = L.drop ((i + 1) * 3) := ⟨_, rfl⟩
  rw [← hnews] at s1 s2 s3 hsrc hlen
  obtain ⟨W1, hW1⟩ : ∃ W1, W1 = w.drew.setCells g' (0 + i * 3) news := ⟨_, rfl⟩
  obtain ⟨cur1, k1, k2, k3⟩ := setCells_list news (0 + i * 3) w.drew cur hg (by omega)
  rw [← hW1] at k1
  have hcl : ∀ ty, (Builtin.clear_ #[22] ty #[.slice (some ⟨g', m * 3, none⟩) 1 (cap - m)]).run Go.Proofs.Try.prog W1 = .ok (.tuple #[]) (W1.setCells g' (m * 3) [.int .i64 0, .int .i64 0, .int .i64 0]) := fun ty =>
    clear1 W1 22 38 ty (.agg #[(.int .i64 0), (.int .i64 0), (.int .i64 0)]) hu (fun W => by simp [zeroValue, typeInfo, hi0, hz0, Result.andThen]) (by simp [Value.cells, Value.oneCell']) g' (m * 3) _
      (fun j hj => by rw [blkc k1]; simp [Value.cells] at hj; rw [Array.getElem?_eq_getElem (by omega)]; rfl) (fun j _ => blkf k1 _)
  have hW : Aside (W1 = w.drew.setCells g' (0 + i * 3) news) := hW1
  have hB1 : Aside (Below base w W1) := by
    subst hW1
    exact belowc hbg news _ _ (Below.refl base w).drew
  obtain ⟨cur2, q1, q2, q3⟩ := setCells_list [.int .i64 0, .int .i64 0, .int .i64 0] (m * 3) W1 cur1 k1 (by simp; omega)
  have hfin : Aside ((W1.setCells g' (m * 3) [.int .i64 0, .int .i64 0, .int .i64 0]).ownsRow base 38 3 (.slice (some ⟨g', 0, none⟩) m cap) m (L.take (i * 3) ++ L.drop ((i + 1) * 3))) := by
    refine ⟨by rw [← hnews, List.length_append, List.length_take, hlen, hl]; omega, .inr ⟨g', cap, cur2, rfl, hbg, q1, by omega, h4, by rw [q2, k2, h5], ?_⟩⟩
    rw [q3, List.append_assoc, List.take_append_of_le_length (by simp; omega), List.take_take, Nat.min_self, k3, ← hnews]
    rw [List.append_assoc, Nat.zero_add]
    have e1 : cur.toList.take (i * 3) = L.take (i * 3) := by rw [← h6, List.take_take, Nat.min_eq_left (by omega)]
    rw [e1, ← List.append_assoc]
    rw [List.take_append_of_le_length (by rw [List.length_append, List.length_take, hlen, hl]; omega)]
    exact List.take_of_length_le (by rw [List.length_append, List.length_take, hlen, hl]; omega)
  have hB2 : Aside (Below base w (W1.setCells g' (m * 3) [.int .i64 0, .int .i64 0, .int .i64 0])) := belowc hbg _ _ _ hB1.out
  have hic : i ≤ cap := by omega
  have hms : m + 1 - (i + 1) = m - i := by omega
  rw [hms] at hfrom
  have hmi : i + (m - i) = m := by omega
  have mixed : Go.Proofs.Try.prog.follows .mixedOrders = true := mixed0
  clear hW1 hnews hlen hcell hl h6 hL hg k1 k2 k3 q1 q2 q3 hA h5 hel
  go_enter Go.Proofs.Try.func79, Go.Proofs.Try.ntmps79
  go_wp2_with fail
  go_region_law_o (refine step_append_room rfl (.tmp 22) (.tmp 25) 22 rfl 38 i0 3 hu hi0 hz1 g' 0 i cap (by simp [Act.eval, Act.put]) A (m - i) (cap - (i + 1)) news (by simp [Act.eval, Act.put]) s1.out hsrc.out s2.out (by omega) s3.out ?_; rw [← hW.out, hmi])
  go_wp2
  all_goals go_ret
  all_goals exact ⟨rfl, hfin.out, hB2.out⟩

set_option maxHeartbeats 4000000 in
set_option maxRecDepth 100000 in
theorem impl_without.walk (ad : Addr) (m c : Nat) (L : List Value) (w : World) (i : Nat) (hi : i < m + 1) (hl : L.length = (m + 1) * 3) (hbig : (m + 1) * 24 ≤ 140737488355328) (hc : ∀ j u, L[j]? = some u → w.cell? (ad.add j) = some u) (h1 : ∀ u ∈ L, u.oneCell' = true) :
    Calls Go.Proofs.Try.prog 57 #[.slice (some ad) (m + 1) c, .int .i64 i] w fun e w' => ∃ v', e = .returned v' ∧ w'.ownsRow w.heap.size 38 3 v' m (L.take (i * 3) ++ L.drop ((i + 1) * 3)) ∧ Below w.heap.size w w' := by
  have hn : m + 1 ≤ maxLen := by unfold maxLen; omega
  have hi2 : (i : Int) + 1 ≤ 9223372036854775807 := by omega
  have HC : Aside (∀ j u, L[j]? = some u → w.cell? (ad.add j) = some u) := hc
  have H1 : Aside (∀ u ∈ L, u.oneCell' = true) := h1
  have HI : Aside (i < m + 1) := hi
  clear hc h1
  go_enter Go.Proofs.Try.func57, Go.Proofs.Try.ntmps57
  go_wp2_with (first | (go_at_call 52; refine (slices_Clone_impl_Clue_impl_Clue.walk ad (m + 1) c L _ hl hn hbig HC.out H1.out).mono ?_; rintro e w1 ⟨v0, rfl, hR, hB⟩; obtain ⟨g, cp, rfl⟩ : ∃ g cp, v0 = .slice (some ⟨g, 0, none⟩) (m + 1) cp := (own_form hR); have HR : Aside (w1.ownsRow w.heap.size 38 3 (.slice (some ⟨g, 0, none⟩) (m + 1) cp) (m + 1) L) := hR; have HB : Aside (Below w.heap.size w w1) := hB; clear hR hB) | (go_at_call 79; refine (impl_without.del.walk w.heap.size g m cp L i _ HR.out H1.out HI.out).mono ?_; rintro e w2 ⟨rfl, hR2, hB2⟩))
  go_ret
  exact ⟨_, rfl, hR2, HB.out.trans hB2⟩

theorem impl_without.good0 (N : Nat) (a0 : List S38) (i : Nat) (hi : i < a0.length) (hb : Nat.ble (a0.length * 24) 140737488355328 = true) : Go.PM.Good Go.Proofs.Try.prog T0 57 [.one (.sl false 38 a0), .one (.int .i64 i)] [] (.one (.sl true 38 (a0.eraseIdx i))) [] := by
  have hlen : (a0.eraseIdx i).length = a0.length - 1 := by rw [List.length_eraseIdx, if_pos hi]
  refine Go.PM.good_row tabOk0 38 ⟨_, Go.Proofs.Try.func57, by kernel_rfl, rfl⟩ (by show 0 < 3; omega) [(i : Int)] a0 (a0.eraseIdx i) (fun L => L.take (i * 3) ++ L.drop ((i + 1) * 3)) (fun C L h => RowOf.erase (T := T0) (HT := tabOk0) h i hi) ?_
  intro A c L w hl hc hA hcell h1
  obtain ⟨m, hm⟩ : ∃ m, a0.length = m + 1 := ⟨a0.length - 1, by omega⟩
  cases A with
  | none => rw [hA rfl] at hi; simp at hi
  | some ad =>
    rw [hlen, hm]
    rw [hm] at hl hb hi
    exact impl_without.walk ad m c L w i hi hl (Nat.le_of_ble_eq_true hb) (hcell ad rfl) h1
noncomputable def impl_without.g (N : Nat) (a0 : List S38) (a1 : Int) : Option impl_without.R := bif decide (0 ≤ a1) then bif decide (a1 < (a0.length : Int)) then bif Nat.ble (a0.length * 24) 140737488355328 then some (a0.eraseIdx a1.toNat) else none else none else none
theorem impl_without.good (N : Nat) (a0 : List S38) (a1 : Int) (r : impl_without.R) (h : impl_without.g N a0 a1 = some r) : Go.PM.Good Go.Proofs.Try.prog T0 57 [.one (.sl false 38 a0), .one (.int .i64 a1)] [] (impl_without.sig.ret r) (impl_without.sig.bs r) := by
  unfold impl_without.g at h
  obtain ⟨h1, h⟩ := bif_some h
  obtain ⟨h2, h⟩ := bif_some h
  obtain ⟨h3, h⟩ := bif_some h
  cases Option.some.inj h
  have h1 := of_decide_eq_true h1
  have h2 := of_decide_eq_true h2
  have := impl_without.good0 N a0 a1.toNat (by omega) h3
  rw [Int.toNat_of_nonneg h1] at this
  exact this
noncomputable def impl_without.ent (N : Nat) : Ent Go.Proofs.Try.prog T0 := mkEnt 57 [(false, [.ro 38]), (false, [.any])] impl_without.sig (fun t => impl_without.g N t.1 t.2) (fun t r h => impl_without.good N t.1 t.2 r h)
end Go.Proofs.Ytpeleommbipeaaa.M

namespace Go.Proofs.Ytpeleommbipeaaa.M
open Go Go.PM Go.Proofs.Ytpeleommbipeaaa.P
set_option linter.unusedVariables false
set_option maxRecDepth 100000
/-! ### spec_pzWithout -/
abbrev spec_pzWithout.R : Type := List S38
abbrev spec_pzWithout.sig : Sig := ⟨[(false, 1), (false, 1)], [], [.sl false 38, .int .i64], [(false, 1)], [], [.sl true 38]⟩
noncomputable def spec_pzWithout.C : Cfg D0 := ⟨Go.Proofs.Try.prog, T0, 19, 0, 15, 0, []⟩
noncomputable def spec_pzWithout.E (N : Nat) : List (Ent Go.Proofs.Try.prog T0) := []
noncomputable def spec_pzWithout.O (N : Nat) : Orc D0 spec_pzWithout.R := orcOf (spec_pzWithout.E N)
noncomputable def spec_pzWithout.K0 : Ex → St D0 → Option spec_pzWithout.R := exitK spec_pzWithout.C Go.Proofs.Try.f59.results.toList [(false, [.own 38])] (decOut spec_pzWithout.sig)
noncomputable def spec_pzWithout.c1 : Code := codeAt (Go.Proofs.Try.f59.body.getD .skip) []
noncomputable def spec_pzWithout.o0 (N : Nat) (a0 : List S38) (a1 : Int) : Option spec_pzWithout.R :=
 bif (decide (0 ≤ a1)) then
  bif (decide (a1 ≤ (a0.length : Int))) then
   bif (decide (0 ≤ a1)) then
    bif (Nat.blt (([] : List S38).length + ((a0.take (a1 : Int).toNat).drop (0 : Int).toNat).length) 5864062014805) then
     bif (decide (0 ≤ (a0.length : Int))) then
      bif (decide ((a0.length : Int) ≤ (a0.length : Int))) then
       bif (decide (0 ≤ (w64 (a1 + 1)))) then
        bif (decide ((w64 (a1 + 1)) ≤ (a0.length : Int))) then
         bif (Nat.blt ((([] : List S38) ++ ((a0.take (a1 : Int).toNat).drop (0 : Int).toNat)).length + ((a0.take ((a0.length : Int) : Int).toNat).drop ((w64 (a1 + 1)) : Int).toNat).length) 5864062014805) then
          some (((([] : List S38) ++ ((a0.take (a1 : Int).toNat).drop (0 : Int).toNat)) ++ ((a0.take ((a0.length : Int) : Int).toNat).drop ((w64 (a1 + 1)) : Int).toNat)))
         else
         none
        else
        none
       else
       none
      else
      none
     else
     none
    else
    none
   else
   none
  else
  none
 else
 none
theorem spec_pzWithout.o0.run (N : Nat) (a0 : List S38) (a1 : Int) : runC spec_pzWithout.C (spec_pzWithout.O N) N spec_pzWithout.c1 1 (st0 [.one (.sl false 38 a0), .one (.int .i64 a1)] [] : St D0) spec_pzWithout.K0 = spec_pzWithout.o0 N a0 a1 := by kernel_rfl
noncomputable def spec_pzWithout.g (N : Nat) (a0 : List S38) (a1 : Int) : Option spec_pzWithout.R := spec_pzWithout.o0 N a0 a1
theorem spec_pzWithout.g.run (N : Nat) (a0 : List S38) (a1 : Int) : runC spec_pzWithout.C (spec_pzWithout.O N) N spec_pzWithout.c1 1 (st0 [.one (.sl false 38 a0), .one (.int .i64 a1)] [] : St D0) spec_pzWithout.K0 = spec_pzWithout.g N a0 a1 := by
  exact (spec_pzWithout.o0.run N a0 a1).trans rfl
theorem spec_pzWithout.good (N : Nat) (a0 : List S38) (a1 : Int) (r : spec_pzWithout.R) (h : spec_pzWithout.g N a0 a1 = some r) : Go.PM.Good Go.Proofs.Try.prog T0 59 [.one (.sl false 38 a0), .one (.int .i64 a1)] [] (spec_pzWithout.sig.ret r) (spec_pzWithout.sig.bs r) :=
  good_fn tabOk0 mixed0 spec_pzWithout.sig (spec_pzWithout.E N) Go.Proofs.Try.func59 (by kernel_rfl) (by kernel_rfl) 19 0 0 [] [(false, [.own 38])] (by kernel_rfl) rfl ((spec_pzWithout.g.run N a0 a1).trans h)
noncomputable def spec_pzWithout.ent (N : Nat) : Ent Go.Proofs.Try.prog T0 := mkEnt 59 [(false, [.ro 38]), (false, [.any])] spec_pzWithout.sig (fun t => spec_pzWithout.g N t.1 t.2) (fun t r h => spec_pzWithout.good N t.1 t.2 r h)
end Go.Proofs.Ytpeleommbipeaaa.M

namespace Go.Proofs.Ytpeleommbipeaaa.M
open Go Go.PM Go.Proofs.Ytpeleommbipeaaa.P
set_option linter.unusedVariables false
set_option maxRecDepth 100000
/-! ### impl_HarderPuzzle -/
abbrev impl_HarderPuzzle.R : Type := Int × List S38 × Bool
abbrev impl_HarderPuzzle.sig : Sig := ⟨[(true, 2)], [], [.int .i64, .sl false 38], [(true, 2), (false, 1)], [], [.int .i64, .sl false 38, .bool]⟩
noncomputable def impl_HarderPuzzle.C : Cfg D0 := ⟨Go.Proofs.Try.prog, T0, 4303389151, 0, 40, 0, [(122, [1, 2, 6, 7], [1, 2])]⟩
noncomputable def impl_HarderPuzzle.E (N : Nat) : List (Ent Go.Proofs.Try.prog T0) := [impl_IsSolved.ent N, slices_Clone_impl_Clue_impl_Clue.ent N, impl_without.ent N, impl_solutions.ent N]
noncomputable def impl_HarderPuzzle.O (N : Nat) : Orc D0 impl_HarderPuzzle.R := orcOf (impl_HarderPuzzle.E N)
noncomputable def impl_HarderPuzzle.K0 : Ex → St D0 → Option impl_HarderPuzzle.R := exitK impl_HarderPuzzle.C Go.Proofs.Try.f21.results.toList [(true, [.any, .ro 38]), (false, [.any])] (decOut impl_HarderPuzzle.sig)
noncomputable def impl_HarderPuzzle.c1 : Code := codeAt (Go.Proofs.Try.f21.body.getD .skip) []
noncomputable def impl_HarderPuzzle.c2 : Code := codeAt (Go.Proofs.Try.f21.body.getD .skip) [false]
noncomputable def impl_HarderPuzzle.c6 : Code := codeAt (Go.Proofs.Try.f21.body.getD .skip) [true, false]
noncomputable def impl_HarderPuzzle.c14 : Code := codeAt (Go.Proofs.Try.f21.body.getD .skip) [true, true, false]
noncomputable def impl_HarderPuzzle.c31 : Code := codeAt (Go.Proofs.Try.f21.body.getD .skip) [true, true, true, true]
noncomputable def impl_HarderPuzzle.c60 : Code := codeAt (Go.Proofs.Try.f21.body.getD .skip) [true, true, true, false, false]
noncomputable def impl_HarderPuzzle.c244 : Code := codeAt (Go.Proofs.Try.f21.body.getD .skip) [true, true, true, false, true, false, false]
noncomputable def impl_HarderPuzzle.K244 (N : Nat) (Kn122 : St D0 → Option impl_HarderPuzzle.R) : Ex → St D0 → Option impl_HarderPuzzle.R := (onN (fun s => impl_HarderPuzzle.C.tidy 122 s ((onN Kn122 (blockK 0 (onN (fun s => impl_HarderPuzzle.C.tidy 30 s (fun s' => runC impl_HarderPuzzle.C (impl_HarderPuzzle.O N) N impl_HarderPuzzle.c31 31 s' impl_HarderPuzzle.K0)) impl_HarderPuzzle.K0))) .normal)) (onN Kn122 (blockK 0 (onN (fun s => impl_HarderPuzzle.C.tidy 30 s (fun s' => runC impl_HarderPuzzle.C (impl_HarderPuzzle.O N) N impl_HarderPuzzle.c31 31 s' impl_HarderPuzzle.K0)) impl_HarderPuzzle.K0))))
noncomputable def impl_HarderPuzzle.o1 (N : Nat) (v0 : List S38) (v1 : Int) (v2 : Int) (v3 : List S38) (v4 : Int) (c2 : (List S38) → Int → Int → (List S38) → Int → Option impl_HarderPuzzle.R) : Option impl_HarderPuzzle.R :=
 bif (decide (v1 < (v0.length : Int))) then
  (impl_without.g N v0 v1).bind fun r1 =>
  (impl_solutions.g N v2 r1).bind fun r2 =>
  bif ((r2.length : Int) == 1) then
   c2 r1 v1 v2 v3 v4
  else
  c2 v0 (w64 (v1 + 1)) v2 v3 v4
 else
 some (v2, v0, true)
theorem impl_HarderPuzzle.o1.run (N : Nat) (Kn122 : St D0 → Option impl_HarderPuzzle.R) (v0 : List S38) (v1 : Int) (v2 : Int) (v3 : List S38) (v4 : Int) : runC impl_HarderPuzzle.C (impl_HarderPuzzle.O N) N impl_HarderPuzzle.c244 244 (mkSt [(1, .one (.ptr 1 0)), (2, .one (.ptr 2 0)), (6, .one (.sl true 38 v0)), (7, .one (.int .i64 v1))] [(1, some (24, [.int .i64 v2, .sl false 38 v3])), (2, some (24, [.int .i64 v4, .nl]))] : St D0) (onN (fun s => impl_HarderPuzzle.C.tidy 122 s ((onN Kn122 (blockK 0 (onN (fun s => impl_HarderPuzzle.C.tidy 30 s (fun s' => runC impl_HarderPuzzle.C (impl_HarderPuzzle.O N) N impl_HarderPuzzle.c31 31 s' impl_HarderPuzzle.K0)) impl_HarderPuzzle.K0))) .normal)) (onN Kn122 (blockK 0 (onN (fun s => impl_HarderPuzzle.C.tidy 30 s (fun s' => runC impl_HarderPuzzle.C (impl_HarderPuzzle.O N) N impl_HarderPuzzle.c31 31 s' impl_HarderPuzzle.K0)) impl_HarderPuzzle.K0)))) = impl_HarderPuzzle.o1 N v0 v1 v2 v3 v4 ((fun w0 w1 w2 w3 w4 => Kn122 (mkSt [(1, .one (.ptr 1 0)), (2, .one (.ptr 2 0)), (6, .one (.sl false 38 w0)), (7, .one (.int .i64 w1))] [(1, some (24, [.int .i64 w2, .sl false 38 w3])), (2, some (24, [.int .i64 w4, .nl]))] : St D0))) := by kernel_rfl
noncomputable def impl_HarderPuzzle.d1 (N : Nat) (v0 : List S38) (v1 : Int) (v2 : Int) (v3 : List S38) (v4 : Int) (c2 : (List S38) → Int → Int → (List S38) → Int → Option impl_HarderPuzzle.R) : Option impl_HarderPuzzle.R := impl_HarderPuzzle.o1 N v0 v1 v2 v3 v4 c2
theorem impl_HarderPuzzle.d1.run (N : Nat) (Kn122 : St D0 → Option impl_HarderPuzzle.R) (v0 : List S38) (v1 : Int) (v2 : Int) (v3 : List S38) (v4 : Int) : runC impl_HarderPuzzle.C (impl_HarderPuzzle.O N) N impl_HarderPuzzle.c244 244 (mkSt [(1, .one (.ptr 1 0)), (2, .one (.ptr 2 0)), (6, .one (.sl true 38 v0)), (7, .one (.int .i64 v1))] [(1, some (24, [.int .i64 v2, .sl false 38 v3])), (2, some (24, [.int .i64 v4, .nl]))] : St D0) (impl_HarderPuzzle.K244 N Kn122) = impl_HarderPuzzle.d1 N v0 v1 v2 v3 v4 ((fun w0 w1 w2 w3 w4 => Kn122 (mkSt [(1, .one (.ptr 1 0)), (2, .one (.ptr 2 0)), (6, .one (.sl false 38 w0)), (7, .one (.int .i64 w1))] [(1, some (24, [.int .i64 w2, .sl false 38 w3])), (2, some (24, [.int .i64 w4, .nl]))] : St D0))) := by
  exact (impl_HarderPuzzle.o1.run N Kn122 v0 v1 v2 v3 v4).trans rfl
noncomputable def impl_HarderPuzzle.o2 (N : Nat) (v0 : List S38) (v1 : Int) (v2 : Int) (v3 : List S38) (v4 : Int) (c2 : (List S38) → Int → Int → (List S38) → Int → Option impl_HarderPuzzle.R) : Option impl_HarderPuzzle.R :=
 bif (decide (v1 < (v0.length : Int))) then
  (impl_without.g N v0 v1).bind fun r1 =>
  (impl_solutions.g N v2 r1).bind fun r2 =>
  bif ((r2.length : Int) == 1) then
   c2 r1 v1 v2 v3 v4
  else
  c2 v0 (w64 (v1 + 1)) v2 v3 v4
 else
 some (v2, v0, true)
theorem impl_HarderPuzzle.o2.run (N : Nat) (Kn122 : St D0 → Option impl_HarderPuzzle.R) (v0 : List S38) (v1 : Int) (v2 : Int) (v3 : List S38) (v4 : Int) : runC impl_HarderPuzzle.C (impl_HarderPuzzle.O N) N impl_HarderPuzzle.c244 244 (mkSt [(1, .one (.ptr 1 0)), (2, .one (.ptr 2 0)), (6, .one (.sl false 38 v0)), (7, .one (.int .i64 v1))] [(1, some (24, [.int .i64 v2, .sl false 38 v3])), (2, some (24, [.int .i64 v4, .nl]))] : St D0) (onN (fun s => impl_HarderPuzzle.C.tidy 122 s ((onN Kn122 (blockK 0 (onN (fun s => impl_HarderPuzzle.C.tidy 30 s (fun s' => runC impl_HarderPuzzle.C (impl_HarderPuzzle.O N) N impl_HarderPuzzle.c31 31 s' impl_HarderPuzzle.K0)) impl_HarderPuzzle.K0))) .normal)) (onN Kn122 (blockK 0 (onN (fun s => impl_HarderPuzzle.C.tidy 30 s (fun s' => runC impl_HarderPuzzle.C (impl_HarderPuzzle.O N) N impl_HarderPuzzle.c31 31 s' impl_HarderPuzzle.K0)) impl_HarderPuzzle.K0)))) = impl_HarderPuzzle.o2 N v0 v1 v2 v3 v4 ((fun w0 w1 w2 w3 w4 => Kn122 (mkSt [(1, .one (.ptr 1 0)), (2, .one (.ptr 2 0)), (6, .one (.sl false 38 w0)), (7, .one (.int .i64 w1))] [(1, some (24, [.int .i64 w2, .sl false 38 w3])), (2, some (24, [.int .i64 w4, .nl]))] : St D0))) := by kernel_rfl
noncomputable def impl_HarderPuzzle.d2 (N : Nat) (v0 : List S38) (v1 : Int) (v2 : Int) (v3 : List S38) (v4 : Int) (c2 : (List S38) → Int → Int → (List S38) → Int → Option impl_HarderPuzzle.R) : Option impl_HarderPuzzle.R := impl_HarderPuzzle.o2 N v0 v1 v2 v3 v4 c2
theorem impl_HarderPuzzle.d2.run (N : Nat) (Kn122 : St D0 → Option impl_HarderPuzzle.R) (v0 : List S38) (v1 : Int) (v2 : Int) (v3 : List S38) (v4 : Int) : runC impl_HarderPuzzle.C (impl_HarderPuzzle.O N) N impl_HarderPuzzle.c244 244 (mkSt [(1, .one (.ptr 1 0)), (2, .one (.ptr 2 0)), (6, .one (.sl false 38 v0)), (7, .one (.int .i64 v1))] [(1, some (24, [.int .i64 v2, .sl false 38 v3])), (2, some (24, [.int .i64 v4, .nl]))] : St D0) (impl_HarderPuzzle.K244 N Kn122) = impl_HarderPuzzle.d2 N v0 v1 v2 v3 v4 ((fun w0 w1 w2 w3 w4 => Kn122 (mkSt [(1, .one (.ptr 1 0)), (2, .one (.ptr 2 0)), (6, .one (.sl false 38 w0)), (7, .one (.int .i64 w1))] [(1, some (24, [.int .i64 w2, .sl false 38 w3])), (2, some (24, [.int .i64 w4, .nl]))] : St D0))) := by
  exact (impl_HarderPuzzle.o2.run N Kn122 v0 v1 v2 v3 v4).trans rfl
noncomputable def impl_HarderPuzzle.K122 (N : Nat) : Ex → St D0 → Option impl_HarderPuzzle.R := (blockK 0 (onN (fun s => impl_HarderPuzzle.C.tidy 30 s (fun s' => runC impl_HarderPuzzle.C (impl_HarderPuzzle.O N) N impl_HarderPuzzle.c31 31 s' impl_HarderPuzzle.K0)) impl_HarderPuzzle.K0))
mutual
noncomputable def impl_HarderPuzzle.l1 (N : Nat) : Nat → (List S38) → Int → Int → (List S38) → Int → Option impl_HarderPuzzle.R
  | 0, _, _, _, _, _ => none
  | n + 1, v0, v1, v2, v3, v4 => impl_HarderPuzzle.d1 N v0 v1 v2 v3 v4 ((fun w0 w1 w2 w3 w4 => impl_HarderPuzzle.l2 N n w0 w1 w2 w3 w4))
noncomputable def impl_HarderPuzzle.l2 (N : Nat) : Nat → (List S38) → Int → Int → (List S38) → Int → Option impl_HarderPuzzle.R
  | 0, _, _, _, _, _ => none
  | n + 1, v0, v1, v2, v3, v4 => impl_HarderPuzzle.d2 N v0 v1 v2 v3 v4 ((fun w0 w1 w2 w3 w4 => impl_HarderPuzzle.l2 N n w0 w1 w2 w3 w4))
end
theorem impl_HarderPuzzle.loop122 (N : Nat) : ∀ n, (∀ (v0 : List S38) (v1 : Int) (v2 : Int) (v3 : List S38) (v4 : Int), iter (loopF impl_HarderPuzzle.C (impl_HarderPuzzle.O N) N impl_HarderPuzzle.c244 122) n (mkSt [(1, .one (.ptr 1 0)), (2, .one (.ptr 2 0)), (6, .one (.sl true 38 v0)), (7, .one (.int .i64 v1))] [(1, some (24, [.int .i64 v2, .sl false 38 v3])), (2, some (24, [.int .i64 v4, .nl]))] : St D0) (impl_HarderPuzzle.K122 N) = impl_HarderPuzzle.l1 N n v0 v1 v2 v3 v4) ∧ (∀ (v0 : List S38) (v1 : Int) (v2 : Int) (v3 : List S38) (v4 : Int), iter (loopF impl_HarderPuzzle.C (impl_HarderPuzzle.O N) N impl_HarderPuzzle.c244 122) n (mkSt [(1, .one (.ptr 1 0)), (2, .one (.ptr 2 0)), (6, .one (.sl false 38 v0)), (7, .one (.int .i64 v1))] [(1, some (24, [.int .i64 v2, .sl false 38 v3])), (2, some (24, [.int .i64 v4, .nl]))] : St D0) (impl_HarderPuzzle.K122 N) = impl_HarderPuzzle.l2 N n v0 v1 v2 v3 v4)
  | 0 => ⟨(fun v0 v1 v2 v3 v4 => rfl), (fun v0 v1 v2 v3 v4 => rfl)⟩
  | n + 1 => ⟨(fun v0 v1 v2 v3 v4 => (impl_HarderPuzzle.d1.run N (fun s => iter (loopF impl_HarderPuzzle.C (impl_HarderPuzzle.O N) N impl_HarderPuzzle.c244 122) n s (impl_HarderPuzzle.K122 N)) v0 v1 v2 v3 v4).trans (show _ = impl_HarderPuzzle.d1 N v0 v1 v2 v3 v4 ((fun w0 w1 w2 w3 w4 => impl_HarderPuzzle.l2 N n w0 w1 w2 w3 w4)) from (congr rfl (funext fun w0 => funext fun w1 => funext fun w2 => funext fun w3 => funext fun w4 => (impl_HarderPuzzle.loop122 N n).2 w0 w1 w2 w3 w4)))), (fun v0 v1 v2 v3 v4 => (impl_HarderPuzzle.d2.run N (fun s => iter (loopF impl_HarderPuzzle.C (impl_HarderPuzzle.O N) N impl_HarderPuzzle.c244 122) n s (impl_HarderPuzzle.K122 N)) v0 v1 v2 v3 v4).trans (show _ = impl_HarderPuzzle.d2 N v0 v1 v2 v3 v4 ((fun w0 w1 w2 w3 w4 => impl_HarderPuzzle.l2 N n w0 w1 w2 w3 w4)) from (congr rfl (funext fun w0 => funext fun w1 => funext fun w2 => funext fun w3 => funext fun w4 => (impl_HarderPuzzle.loop122 N n).2 w0 w1 w2 w3 w4))))⟩
noncomputable def impl_HarderPuzzle.o0 (N : Nat) (a0_0 : Int) (a0_1 : List S38) (c1 : (List S38) → Int → Int → (List S38) → Int → Option impl_HarderPuzzle.R) : Option impl_HarderPuzzle.R :=
 (impl_IsSolved.g N a0_0 a0_1).bind fun r1 =>
 bif (!r1.1) then
  some (0, ([] : List S38), false)
 else
 (slices_Clone_impl_Clue_impl_Clue.g N a0_1).bind fun r2 =>
 c1 r2 0 a0_0 a0_1 0
theorem impl_HarderPuzzle.o0.run (N : Nat) (H244 : Code) (a0_0 : Int) (a0_1 : List S38) : runC impl_HarderPuzzle.C (impl_HarderPuzzle.O N) N (.seq impl_HarderPuzzle.c2 (.seq impl_HarderPuzzle.c6 (.seq impl_HarderPuzzle.c14 (.seq (.seq impl_HarderPuzzle.c60 (.block 0 (.loop H244))) impl_HarderPuzzle.c31)))) 1 (st0 [.agg [.int .i64 a0_0, .sl false 38 a0_1]] [] : St D0) impl_HarderPuzzle.K0 = impl_HarderPuzzle.o0 N a0_0 a0_1 ((fun w0 w1 w2 w3 w4 => iter (loopF impl_HarderPuzzle.C (impl_HarderPuzzle.O N) N H244 122) N (mkSt [(1, .one (.ptr 1 0)), (2, .one (.ptr 2 0)), (6, .one (.sl true 38 w0)), (7, .one (.int .i64 w1))] [(1, some (24, [.int .i64 w2, .sl false 38 w3])), (2, some (24, [.int .i64 w4, .nl]))] : St D0) (blockK 0 (onN (fun s => impl_HarderPuzzle.C.tidy 30 s (fun s' => runC impl_HarderPuzzle.C (impl_HarderPuzzle.O N) N impl_HarderPuzzle.c31 31 s' impl_HarderPuzzle.K0)) impl_HarderPuzzle.K0)))) := by kernel_rfl
noncomputable def impl_HarderPuzzle.g (N : Nat) (a0_0 : Int) (a0_1 : List S38) : Option impl_HarderPuzzle.R := impl_HarderPuzzle.o0 N a0_0 a0_1 ((fun w0 w1 w2 w3 w4 => impl_HarderPuzzle.l1 N N w0 w1 w2 w3 w4))
theorem impl_HarderPuzzle.c1_0 : impl_HarderPuzzle.c1 = (.seq impl_HarderPuzzle.c2 (.seq impl_HarderPuzzle.c6 (.seq impl_HarderPuzzle.c14 (.seq (.seq impl_HarderPuzzle.c60 (.block 0 (.loop impl_HarderPuzzle.c244))) impl_HarderPuzzle.c31)))) := by kernel_rfl
theorem impl_HarderPuzzle.g.run (N : Nat) (a0_0 : Int) (a0_1 : List S38) : runC impl_HarderPuzzle.C (impl_HarderPuzzle.O N) N impl_HarderPuzzle.c1 1 (st0 [.agg [.int .i64 a0_0, .sl false 38 a0_1]] [] : St D0) impl_HarderPuzzle.K0 = impl_HarderPuzzle.g N a0_0 a0_1 := by
  rw [impl_HarderPuzzle.c1_0]; unfold impl_HarderPuzzle.g; exact (impl_HarderPuzzle.o0.run N impl_HarderPuzzle.c244 a0_0 a0_1).trans (congr rfl (funext fun w0 => funext fun w1 => funext fun w2 => funext fun w3 => funext fun w4 => (impl_HarderPuzzle.loop122 N N).1 w0 w1 w2 w3 w4))
theorem impl_HarderPuzzle.good (N : Nat) (a0_0 : Int) (a0_1 : List S38) (r : impl_HarderPuzzle.R) (h : impl_HarderPuzzle.g N a0_0 a0_1 = some r) : Go.PM.Good Go.Proofs.Try.prog T0 21 [.agg [.int .i64 a0_0, .sl false 38 a0_1]] [] (impl_HarderPuzzle.sig.ret r) (impl_HarderPuzzle.sig.bs r) :=
  good_fn tabOk0 mixed0 impl_HarderPuzzle.sig (impl_HarderPuzzle.E N) Go.Proofs.Try.func21 (by kernel_rfl) (by kernel_rfl) 4303389151 0 0 [(122, [1, 2, 6, 7], [1, 2])] [(true, [.any, .ro 38]), (false, [.any])] (by kernel_rfl) rfl ((impl_HarderPuzzle.g.run N a0_0 a0_1).trans h)
noncomputable def impl_HarderPuzzle.ent (N : Nat) : Ent Go.Proofs.Try.prog T0 := mkEnt 21 [(true, [.any, .ro 38])] impl_HarderPuzzle.sig (fun t => impl_HarderPuzzle.g N t.1 t.2) (fun t r h => impl_HarderPuzzle.good N t.1 t.2 r h)
end Go.Proofs.Ytpeleommbipeaaa.M

namespace Go.Proofs.Ytpeleommbipeaaa.M
open Go Go.PM Go.Proofs.Ytpeleommbipeaaa.P
set_option linter.unusedVariables false
set_option maxRecDepth 100000
/-! ### spec_HarderPuzzle -/
abbrev spec_HarderPuzzle.R : Type := Int × List S38 × Bool
abbrev spec_HarderPuzzle.sig : Sig := ⟨[(true, 2)], [], [.int .i64, .sl false 38], [(true, 2), (false, 1)], [], [.int .i64, .sl false 38, .bool]⟩
noncomputable def spec_HarderPuzzle.C : Cfg D0 := ⟨Go.Proofs.Try.prog, T0, 8657174655, 0, 41, 0, [(12, [1, 2, 17], [1, 2]), (122, [1, 2, 4, 5], [1, 2])]⟩
noncomputable def spec_HarderPuzzle.E (N : Nat) : List (Ent Go.Proofs.Try.prog T0) := [spec_pzGood.ent N, spec_pzSolved.ent N, spec_pzWithout.ent N]
noncomputable def spec_HarderPuzzle.O (N : Nat) : Orc D0 spec_HarderPuzzle.R := orcOf (spec_HarderPuzzle.E N)
noncomputable def spec_HarderPuzzle.K0 : Ex → St D0 → Option spec_HarderPuzzle.R := exitK spec_HarderPuzzle.C Go.Proofs.Try.f22.results.toList [(true, [.any, .ro 38]), (false, [.any])] (decOut spec_HarderPuzzle.sig)
noncomputable def spec_HarderPuzzle.c1 : Code := codeAt (Go.Proofs.Try.f22.body.getD .skip) []
noncomputable def spec_HarderPuzzle.c2 : Code := codeAt (Go.Proofs.Try.f22.body.getD .skip) [false]
noncomputable def spec_HarderPuzzle.c7 : Code := codeAt (Go.Proofs.Try.f22.body.getD .skip) [true, true]
noncomputable def spec_HarderPuzzle.c12 : Code := codeAt (Go.Proofs.Try.f22.body.getD .skip) [true, false, false]
noncomputable def spec_HarderPuzzle.c13 : Code := codeAt (Go.Proofs.Try.f22.body.getD .skip) [true, false, true]
noncomputable def spec_HarderPuzzle.c14 : Code := codeAt (Go.Proofs.Try.f22.body.getD .skip) [true, true, false]
noncomputable def spec_HarderPuzzle.c31 : Code := codeAt (Go.Proofs.Try.f22.body.getD .skip) [true, true, true, true]
noncomputable def spec_HarderPuzzle.c60 : Code := codeAt (Go.Proofs.Try.f22.body.getD .skip) [true, true, true, false, false]
noncomputable def spec_HarderPuzzle.c244 : Code := codeAt (Go.Proofs.Try.f22.body.getD .skip) [true, true, true, false, true, false, false]
noncomputable def spec_HarderPuzzle.K244 (N : Nat) (Kn122 : St D0 → Option spec_HarderPuzzle.R) : Ex → St D0 → Option spec_HarderPuzzle.R := (onN (fun s => spec_HarderPuzzle.C.tidy 122 s ((onN Kn122 (blockK 0 (onN (fun s => spec_HarderPuzzle.C.tidy 30 s (fun s' => runC spec_HarderPuzzle.C (spec_HarderPuzzle.O N) N spec_HarderPuzzle.c31 31 s' spec_HarderPuzzle.K0)) spec_HarderPuzzle.K0))) .normal)) (onN Kn122 (blockK 0 (onN (fun s => spec_HarderPuzzle.C.tidy 30 s (fun s' => runC spec_HarderPuzzle.C (spec_HarderPuzzle.O N) N spec_HarderPuzzle.c31 31 s' spec_HarderPuzzle.K0)) spec_HarderPuzzle.K0))))
noncomputable def spec_HarderPuzzle.o2 (N : Nat) (v0 : List S38) (v1 : Int) (v2 : Int) (v3 : List S38) (v4 : Int) (c3 : (List S38) → Int → Int → (List S38) → Int → Option spec_HarderPuzzle.R) : Option spec_HarderPuzzle.R :=
 bif (decide (v1 < (v0.length : Int))) then
  (spec_pzWithout.g N v0 v1).bind fun r1 =>
  (spec_pzSolved.g N v2 r1).bind fun r2 =>
  bif r2 then
   c3 r1 v1 v2 v3 v4
  else
  c3 v0 (w64 (v1 + 1)) v2 v3 v4
 else
 some (v2, v0, true)
theorem spec_HarderPuzzle.o2.run (N : Nat) (Kn122 : St D0 → Option spec_HarderPuzzle.R) (v0 : List S38) (v1 : Int) (v2 : Int) (v3 : List S38) (v4 : Int) : runC spec_HarderPuzzle.C (spec_HarderPuzzle.O N) N spec_HarderPuzzle.c244 244 (mkSt [(1, .one (.ptr 1 0)), (2, .one (.ptr 2 0)), (4, .one (.sl true 38 v0)), (5, .one (.int .i64 v1))] [(1, some (24, [.int .i64 v2, .sl false 38 v3])), (2, some (24, [.int .i64 v4, .nl]))] : St D0) (onN (fun s => spec_HarderPuzzle.C.tidy 122 s ((onN Kn122 (blockK 0 (onN (fun s => spec_HarderPuzzle.C.tidy 30 s (fun s' => runC spec_HarderPuzzle.C (spec_HarderPuzzle.O N) N spec_HarderPuzzle.c31 31 s' spec_HarderPuzzle.K0)) spec_HarderPuzzle.K0))) .normal)) (onN Kn122 (blockK 0 (onN (fun s => spec_HarderPuzzle.C.tidy 30 s (fun s' => runC spec_HarderPuzzle.C (spec_HarderPuzzle.O N) N spec_HarderPuzzle.c31 31 s' spec_HarderPuzzle.K0)) spec_HarderPuzzle.K0)))) = spec_HarderPuzzle.o2 N v0 v1 v2 v3 v4 ((fun w0 w1 w2 w3 w4 => Kn122 (mkSt [(1, .one (.ptr 1 0)), (2, .one (.ptr 2 0)), (4, .one (.sl false 38 w0)), (5, .one (.int .i64 w1))] [(1, some (24, [.int .i64 w2, .sl false 38 w3])), (2, some (24, [.int .i64 w4, .nl]))] : St D0))) := by kernel_rfl
noncomputable def spec_HarderPuzzle.d2 (N : Nat) (v0 : List S38) (v1 : Int) (v2 : Int) (v3 : List S38) (v4 : Int) (c3 : (List S38) → Int → Int → (List S38) → Int → Option spec_HarderPuzzle.R) : Option spec_HarderPuzzle.R := spec_HarderPuzzle.o2 N v0 v1 v2 v3 v4 c3
theorem spec_HarderPuzzle.d2.run (N : Nat) (Kn122 : St D0 → Option spec_HarderPuzzle.R) (v0 : List S38) (v1 : Int) (v2 : Int) (v3 : List S38) (v4 : Int) : runC spec_HarderPuzzle.C (spec_HarderPuzzle.O N) N spec_HarderPuzzle.c244 244 (mkSt [(1, .one (.ptr 1 0)), (2, .one (.ptr 2 0)), (4, .one (.sl true 38 v0)), (5, .one (.int .i64 v1))] [(1, some (24, [.int .i64 v2, .sl false 38 v3])), (2, some (24, [.int .i64 v4, .nl]))] : St D0) (spec_HarderPuzzle.K244 N Kn122) = spec_HarderPuzzle.d2 N v0 v1 v2 v3 v4 ((fun w0 w1 w2 w3 w4 => Kn122 (mkSt [(1, .one (.ptr 1 0)), (2, .one (.ptr 2 0)), (4, .one (.sl false 38 w0)), (5, .one (.int .i64 w1))] [(1, some (24, [.int .i64 w2, .sl false 38 w3])), (2, some (24, [.int .i64 w4, .nl]))] : St D0))) := by
  exact (spec_HarderPuzzle.o2.run N Kn122 v0 v1 v2 v3 v4).trans rfl
noncomputable def spec_HarderPuzzle.o3 (N : Nat) (v0 : List S38) (v1 : Int) (v2 : Int) (v3 : List S38) (v4 : Int) (c3 : (List S38) → Int → Int → (List S38) → Int → Option spec_HarderPuzzle.R) : Option spec_HarderPuzzle.R :=
 bif (decide (v1 < (v0.length : Int))) then
  (spec_pzWithout.g N v0 v1).bind fun r1 =>
  (spec_pzSolved.g N v2 r1).bind fun r2 =>
  bif r2 then
   c3 r1 v1 v2 v3 v4
  else
  c3 v0 (w64 (v1 + 1)) v2 v3 v4
 else
 some (v2, v0, true)
theorem spec_HarderPuzzle.o3.run (N : Nat) (Kn122 : St D0 → Option spec_HarderPuzzle.R) (v0 : List S38) (v1 : Int) (v2 : Int) (v3 : List S38) (v4 : Int) : runC spec_HarderPuzzle.C (spec_HarderPuzzle.O N) N spec_HarderPuzzle.c244 244 (mkSt [(1, .one (.ptr 1 0)), (2, .one (.ptr 2 0)), (4, .one (.sl false 38 v0)), (5, .one (.int .i64 v1))] [(1, some (24, [.int .i64 v2, .sl false 38 v3])), (2, some (24, [.int .i64 v4, .nl]))] : St D0) (onN (fun s => spec_HarderPuzzle.C.tidy 122 s ((onN Kn122 (blockK 0 (onN (fun s => spec_HarderPuzzle.C.tidy 30 s (fun s' => runC spec_HarderPuzzle.C (spec_HarderPuzzle.O N) N spec_HarderPuzzle.c31 31 s' spec_HarderPuzzle.K0)) spec_HarderPuzzle.K0))) .normal)) (onN Kn122 (blockK 0 (onN (fun s => spec_HarderPuzzle.C.tidy 30 s (fun s' => runC spec_HarderPuzzle.C (spec_HarderPuzzle.O N) N spec_HarderPuzzle.c31 31 s' spec_HarderPuzzle.K0)) spec_HarderPuzzle.K0)))) = spec_HarderPuzzle.o3 N v0 v1 v2 v3 v4 ((fun w0 w1 w2 w3 w4 => Kn122 (mkSt [(1, .one (.ptr 1 0)), (2, .one (.ptr 2 0)), (4, .one (.sl false 38 w0)), (5, .one (.int .i64 w1))] [(1, some (24, [.int .i64 w2, .sl false 38 w3])), (2, some (24, [.int .i64 w4, .nl]))] : St D0))) := by kernel_rfl
noncomputable def spec_HarderPuzzle.d3 (N : Nat) (v0 : List S38) (v1 : Int) (v2 : Int) (v3 : List S38) (v4 : Int) (c3 : (List S38) → Int → Int → (List S38) → Int → Option spec_HarderPuzzle.R) : Option spec_HarderPuzzle.R := spec_HarderPuzzle.o3 N v0 v1 v2 v3 v4 c3
theorem spec_HarderPuzzle.d3.run (N : Nat) (Kn122 : St D0 → Option spec_HarderPuzzle.R) (v0 : List S38) (v1 : Int) (v2 : Int) (v3 : List S38) (v4 : Int) : runC spec_HarderPuzzle.C (spec_HarderPuzzle.O N) N spec_HarderPuzzle.c244 244 (mkSt [(1, .one (.ptr 1 0)), (2, .one (.ptr 2 0)), (4, .one (.sl false 38 v0)), (5, .one (.int .i64 v1))] [(1, some (24, [.int .i64 v2, .sl false 38 v3])), (2, some (24, [.int .i64 v4, .nl]))] : St D0) (spec_HarderPuzzle.K244 N Kn122) = spec_HarderPuzzle.d3 N v0 v1 v2 v3 v4 ((fun w0 w1 w2 w3 w4 => Kn122 (mkSt [(1, .one (.ptr 1 0)), (2, .one (.ptr 2 0)), (4, .one (.sl false 38 w0)), (5, .one (.int .i64 w1))] [(1, some (24, [.int .i64 w2, .sl false 38 w3])), (2, some (24, [.int .i64 w4, .nl]))] : St D0))) := by
  exact (spec_HarderPuzzle.o3.run N Kn122 v0 v1 v2 v3 v4).trans rfl
noncomputable def spec_HarderPuzzle.K122 (N : Nat) : Ex → St D0 → Option spec_HarderPuzzle.R := (blockK 0 (onN (fun s => spec_HarderPuzzle.C.tidy 30 s (fun s' => runC spec_HarderPuzzle.C (spec_HarderPuzzle.O N) N spec_HarderPuzzle.c31 31 s' spec_HarderPuzzle.K0)) spec_HarderPuzzle.K0))
mutual
noncomputable def spec_HarderPuzzle.l2 (N : Nat) : Nat → (List S38) → Int → Int → (List S38) → Int → Option spec_HarderPuzzle.R
  | 0, _, _, _, _, _ => none
  | n + 1, v0, v1, v2, v3, v4 => spec_HarderPuzzle.d2 N v0 v1 v2 v3 v4 ((fun w0 w1 w2 w3 w4 => spec_HarderPuzzle.l3 N n w0 w1 w2 w3 w4))
noncomputable def spec_HarderPuzzle.l3 (N : Nat) : Nat → (List S38) → Int → Int → (List S38) → Int → Option spec_HarderPuzzle.R
  | 0, _, _, _, _, _ => none
  | n + 1, v0, v1, v2, v3, v4 => spec_HarderPuzzle.d3 N v0 v1 v2 v3 v4 ((fun w0 w1 w2 w3 w4 => spec_HarderPuzzle.l3 N n w0 w1 w2 w3 w4))
end
theorem spec_HarderPuzzle.loop122 (N : Nat) : ∀ n, (∀ (v0 : List S38) (v1 : Int) (v2 : Int) (v3 : List S38) (v4 : Int), iter (loopF spec_HarderPuzzle.C (spec_HarderPuzzle.O N) N spec_HarderPuzzle.c244 122) n (mkSt [(1, .one (.ptr 1 0)), (2, .one (.ptr 2 0)), (4, .one (.sl true 38 v0)), (5, .one (.int .i64 v1))] [(1, some (24, [.int .i64 v2, .sl false 38 v3])), (2, some (24, [.int .i64 v4, .nl]))] : St D0) (spec_HarderPuzzle.K122 N) = spec_HarderPuzzle.l2 N n v0 v1 v2 v3 v4) ∧ (∀ (v0 : List S38) (v1 : Int) (v2 : Int) (v3 : List S38) (v4 : Int), iter (loopF spec_HarderPuzzle.C (spec_HarderPuzzle.O N) N spec_HarderPuzzle.c244 122) n (mkSt [(1, .one (.ptr 1 0)), (2, .one (.ptr 2 0)), (4, .one (.sl false 38 v0)), (5, .one (.int .i64 v1))] [(1, some (24, [.int .i64 v2, .sl false 38 v3])), (2, some (24, [.int .i64 v4, .nl]))] : St D0) (spec_HarderPuzzle.K122 N) = spec_HarderPuzzle.l3 N n v0 v1 v2 v3 v4)
  | 0 => ⟨(fun v0 v1 v2 v3 v4 => rfl), (fun v0 v1 v2 v3 v4 => rfl)⟩
  | n + 1 => ⟨(fun v0 v1 v2 v3 v4 => (spec_HarderPuzzle.d2.run N (fun s => iter (loopF spec_HarderPuzzle.C (spec_HarderPuzzle.O N) N spec_HarderPuzzle.c244 122) n s (spec_HarderPuzzle.K122 N)) v0 v1 v2 v3 v4).trans (show _ = spec_HarderPuzzle.d2 N v0 v1 v2 v3 v4 ((fun w0 w1 w2 w3 w4 => spec_HarderPuzzle.l3 N n w0 w1 w2 w3 w4)) from (congr rfl (funext fun w0 => funext fun w1 => funext fun w2 => funext fun w3 => funext fun w4 => (spec_HarderPuzzle.loop122 N n).2 w0 w1 w2 w3 w4)))), (fun v0 v1 v2 v3 v4 => (spec_HarderPuzzle.d3.run N (fun s => iter (loopF spec_HarderPuzzle.C (spec_HarderPuzzle.O N) N spec_HarderPuzzle.c244 122) n s (spec_HarderPuzzle.K122 N)) v0 v1 v2 v3 v4).trans (show _ = spec_HarderPuzzle.d3 N v0 v1 v2 v3 v4 ((fun w0 w1 w2 w3 w4 => spec_HarderPuzzle.l3 N n w0 w1 w2 w3 w4)) from (congr rfl (funext fun w0 => funext fun w1 => funext fun w2 => funext fun w3 => funext fun w4 => (spec_HarderPuzzle.loop122 N n).2 w0 w1 w2 w3 w4))))⟩
noncomputable def spec_HarderPuzzle.K13 (N : Nat) : Ex → St D0 → Option spec_HarderPuzzle.R := (onN (fun s => spec_HarderPuzzle.C.tidy 6 s (fun s' => runC spec_HarderPuzzle.C (spec_HarderPuzzle.O N) N spec_HarderPuzzle.c7 7 s' spec_HarderPuzzle.K0)) spec_HarderPuzzle.K0)
noncomputable def spec_HarderPuzzle.o1 (N : Nat) (v0 : Bool) (v1 : Int) (v2 : List S38) (v3 : Int) (c2 : (List S38) → Int → Int → (List S38) → Int → Option spec_HarderPuzzle.R) : Option spec_HarderPuzzle.R :=
 bif v0 then
  some (0, ([] : List S38), false)
 else
 bif (Nat.blt (([] : List S38).length + v2.length) 5864062014805) then
  c2 (([] : List S38) ++ v2) 0 v1 v2 v3
 else
 none
theorem spec_HarderPuzzle.o1.run (N : Nat) (H244 : Code) (v0 : Bool) (v1 : Int) (v2 : List S38) (v3 : Int) : runC spec_HarderPuzzle.C (spec_HarderPuzzle.O N) N spec_HarderPuzzle.c13 13 (mkSt [(1, .one (.ptr 1 0)), (2, .one (.ptr 2 0)), (17, .one (.bool v0))] [(1, some (24, [.int .i64 v1, .sl false 38 v2])), (2, some (24, [.int .i64 v3, .nl]))] : St D0) (onN (fun s => spec_HarderPuzzle.C.tidy 6 s (fun s' => runC spec_HarderPuzzle.C (spec_HarderPuzzle.O N) N (.seq spec_HarderPuzzle.c14 (.seq (.seq spec_HarderPuzzle.c60 (.block 0 (.loop H244))) spec_HarderPuzzle.c31)) 7 s' spec_HarderPuzzle.K0)) spec_HarderPuzzle.K0) = spec_HarderPuzzle.o1 N v0 v1 v2 v3 ((fun w0 w1 w2 w3 w4 => iter (loopF spec_HarderPuzzle.C (spec_HarderPuzzle.O N) N H244 122) N (mkSt [(1, .one (.ptr 1 0)), (2, .one (.ptr 2 0)), (4, .one (.sl true 38 w0)), (5, .one (.int .i64 w1))] [(1, some (24, [.int .i64 w2, .sl false 38 w3])), (2, some (24, [.int .i64 w4, .nl]))] : St D0) (blockK 0 (onN (fun s => spec_HarderPuzzle.C.tidy 30 s (fun s' => runC spec_HarderPuzzle.C (spec_HarderPuzzle.O N) N spec_HarderPuzzle.c31 31 s' spec_HarderPuzzle.K0)) spec_HarderPuzzle.K0)))) := by kernel_rfl
noncomputable def spec_HarderPuzzle.d1 (N : Nat) (v0 : Bool) (v1 : Int) (v2 : List S38) (v3 : Int) : Option spec_HarderPuzzle.R := spec_HarderPuzzle.o1 N v0 v1 v2 v3 ((fun w0 w1 w2 w3 w4 => spec_HarderPuzzle.l2 N N w0 w1 w2 w3 w4))
theorem spec_HarderPuzzle.d1.run (N : Nat) (v0 : Bool) (v1 : Int) (v2 : List S38) (v3 : Int) : runC spec_HarderPuzzle.C (spec_HarderPuzzle.O N) N spec_HarderPuzzle.c13 13 (mkSt [(1, .one (.ptr 1 0)), (2, .one (.ptr 2 0)), (17, .one (.bool v0))] [(1, some (24, [.int .i64 v1, .sl false 38 v2])), (2, some (24, [.int .i64 v3, .nl]))] : St D0) (spec_HarderPuzzle.K13 N) = spec_HarderPuzzle.d1 N v0 v1 v2 v3 := by
  unfold spec_HarderPuzzle.d1; exact (spec_HarderPuzzle.o1.run N spec_HarderPuzzle.c244 v0 v1 v2 v3).trans (congr rfl (funext fun w0 => funext fun w1 => funext fun w2 => funext fun w3 => funext fun w4 => (spec_HarderPuzzle.loop122 N N).1 w0 w1 w2 w3 w4))
noncomputable def spec_HarderPuzzle.o0 (N : Nat) (a0_0 : Int) (a0_1 : List S38) (c1 : Bool → Int → (List S38) → Int → Option spec_HarderPuzzle.R) : Option spec_HarderPuzzle.R :=
 (spec_pzGood.g N a0_0 a0_1).bind fun r1 =>
 bif (!r1) then
  c1 true a0_0 a0_1 0
 else
 (spec_pzSolved.g N a0_0 a0_1).bind fun r2 =>
 c1 (!r2) a0_0 a0_1 0
theorem spec_HarderPuzzle.o0.run (N : Nat) (H13 : Code) (a0_0 : Int) (a0_1 : List S38) : runC spec_HarderPuzzle.C (spec_HarderPuzzle.O N) N (.seq spec_HarderPuzzle.c2 (.seq (.seq spec_HarderPuzzle.c12 H13) spec_HarderPuzzle.c7)) 1 (st0 [.agg [.int .i64 a0_0, .sl false 38 a0_1]] [] : St D0) spec_HarderPuzzle.K0 = spec_HarderPuzzle.o0 N a0_0 a0_1 ((fun w0 w1 w2 w3 => runC spec_HarderPuzzle.C (spec_HarderPuzzle.O N) N H13 13 (mkSt [(1, .one (.ptr 1 0)), (2, .one (.ptr 2 0)), (17, .one (.bool w0))] [(1, some (24, [.int .i64 w1, .sl false 38 w2])), (2, some (24, [.int .i64 w3, .nl]))] : St D0) (onN (fun s => spec_HarderPuzzle.C.tidy 6 s (fun s' => runC spec_HarderPuzzle.C (spec_HarderPuzzle.O N) N spec_HarderPuzzle.c7 7 s' spec_HarderPuzzle.K0)) spec_HarderPuzzle.K0))) := by kernel_rfl
noncomputable def spec_HarderPuzzle.B6 (N : Nat) : St D0 → Option spec_HarderPuzzle.R := fun s' => runC spec_HarderPuzzle.C (spec_HarderPuzzle.O N) N spec_HarderPuzzle.c13 13 s' (spec_HarderPuzzle.K13 N)
noncomputable def spec_HarderPuzzle.g (N : Nat) (a0_0 : Int) (a0_1 : List S38) : Option spec_HarderPuzzle.R := spec_HarderPuzzle.o0 N a0_0 a0_1 ((fun w0 w1 w2 w3 => spec_HarderPuzzle.d1 N w0 w1 w2 w3))
theorem spec_HarderPuzzle.c1_0 : spec_HarderPuzzle.c1 = (.seq spec_HarderPuzzle.c2 (.seq (.seq spec_HarderPuzzle.c12 spec_HarderPuzzle.c13) spec_HarderPuzzle.c7)) := by kernel_rfl
theorem spec_HarderPuzzle.g.run (N : Nat) (a0_0 : Int) (a0_1 : List S38) : runC spec_HarderPuzzle.C (spec_HarderPuzzle.O N) N spec_HarderPuzzle.c1 1 (st0 [.agg [.int .i64 a0_0, .sl false 38 a0_1]] [] : St D0) spec_HarderPuzzle.K0 = spec_HarderPuzzle.g N a0_0 a0_1 := by
  rw [spec_HarderPuzzle.c1_0]; unfold spec_HarderPuzzle.g; exact (spec_HarderPuzzle.o0.run N spec_HarderPuzzle.c13 a0_0 a0_1).trans (congr rfl (funext fun w0 => funext fun w1 => funext fun w2 => funext fun w3 => spec_HarderPuzzle.d1.run N w0 w1 w2 w3))
theorem spec_HarderPuzzle.good (N : Nat) (a0_0 : Int) (a0_1 : List S38) (r : spec_HarderPuzzle.R) (h : spec_HarderPuzzle.g N a0_0 a0_1 = some r) : Go.PM.Good Go.Proofs.Try.prog T0 22 [.agg [.int .i64 a0_0, .sl false 38 a0_1]] [] (spec_HarderPuzzle.sig.ret r) (spec_HarderPuzzle.sig.bs r) :=
  good_fn tabOk0 mixed0 spec_HarderPuzzle.sig (spec_HarderPuzzle.E N) Go.Proofs.Try.func22 (by kernel_rfl) (by kernel_rfl) 8657174655 0 0 [(12, [1, 2, 17], [1, 2]), (122, [1, 2, 4, 5], [1, 2])] [(true, [.any, .ro 38]), (false, [.any])] (by kernel_rfl) rfl ((spec_HarderPuzzle.g.run N a0_0 a0_1).trans h)
noncomputable def spec_HarderPuzzle.ent (N : Nat) : Ent Go.Proofs.Try.prog T0 := mkEnt 22 [(true, [.any, .ro 38])] spec_HarderPuzzle.sig (fun t => spec_HarderPuzzle.g N t.1 t.2) (fun t r h => spec_HarderPuzzle.good N t.1 t.2 r h)
end Go.Proofs.Ytpeleommbipeaaa.M
